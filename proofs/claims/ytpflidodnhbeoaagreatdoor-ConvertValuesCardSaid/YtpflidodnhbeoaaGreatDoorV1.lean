/-
  Part 1: the run and laws.
-/
import Derived.Test.YtpflidodnhbeoaaGreatDoorVAb1
import Derived.Test.YtpflidodnhbeoaaGreatDoorVAb2
import Derived.Test.YtpflidodnhbeoaaGreatDoorVAb3
import Derived.Test.YtpflidodnhbeoaaGreatDoorVAb4
import Derived.Test.YtpflidodnhbeoaaGreatDoorVAb5
import Derived.Test.YtpflidodnhbeoaaGreatDoorVAb6
import Derived.Test.YtpflidodnhbeoaaGreatDoorVAb7
import Derived.Test.YtpflidodnhbeoaaGreatDoorVAbE
import Derived.Test.YtpflidodnhbeoaaGreatDoorVAb8
import Derived.Test.YtpflidodnhbeoaaGreatDoorVAb9
import Derived.Test.YtpflidodnhbeoaaGreatDoorVAb10
import Derived.Test.YtpflidodnhbeoaaGreatDoorVAb11
import Derived.Test.YtpflidodnhbeoaaGreatDoorVAb12
import Derived.Test.YtpflidodnhbeoaaGreatDoorVAb13
import Derived.Test.YtpflidodnhbeoaaGreatDoorVAb14
import Derived.Test.YtpflidodnhbeoaaGreatDoorVAb15
import Derived.Test.YtpflidodnhbeoaaGreatDoorVAb16
import Derived.Test.YtpflidodnhbeoaaGreatDoorVAb17
import Derived.Test.YtpflidodnhbeoaaGreatDoorVAb18
import Derived.Test.YtpflidodnhbeoaaGreatDoorVAb19
import Derived.WalkKit
import Derived.ProofKit
import Derived.Test.YtpflidodnhbeoaaGreatDoorLays
import Derived.Laws.RangeAny
import Derived.Shelf.Strings.LastIndex
import Derived.Shelf.Strconv.Itoa3
import Derived.Shelf.Strconv.AppendUint10
import Derived.Lib.ItoaLen
import Derived.Shelf.Strconv.Atoi
import Derived.Lib.AtoiErrMem
import Derived.Laws.BitsLemmas
import Derived.Lib.Strings
import Derived.Test.YtpflidodnhbeoaaGreatDoorProg
import Derived.LaidEql
import Derived.Stop.Asserts
import Derived.RowKitTokens
import Derived.Shelf.Small.Strs
import Derived.JoinedOf
import Derived.SevenTiedAt
import Derived.Test.YtpflidodnhbeoaaGreatDoorRows
import Derived.Lay
import Derived.LaidHandle
import Derived.LaidSub
import Derived.Lib.LaidTab
import Derived.Lib.LaidU8
import Derived.LaidMore
set_option linter.unusedVariables false
set_option linter.unusedSimpArgs false
section
namespace Go.Px
open Go Go.Ab
def bz(s:Y):J:=s.data.toList.map fun b=>(b.toNat:Int)
def sz(l:J):Y:=⟨(l.map fun n=>UInt8.ofNat n.toNat).toArray⟩
def IsB(l:J):Prop:=∀c∈l,0≤c∧c<256
@[simp] theorem jal (s:Y):(bz s).length=s.size:=by
 unfold bz;rw[List.length_map,Array.length_toList];rfl
theorem jep(s:Y)(i:Nat):jaj s i=(bz s).getD i 0:=by
 simp only[jaj,bz,List.getD_eq_getElem?_getD,List.getElem?_map]
theorem jdq(s:Y):IsB (bz s):=by
 intro c hc;simp only[bz,List.mem_map]at hc;obtain⟨b,_,rfl⟩:=hc;have:=b.toNat_lt;omega
theorem jf6(s:Y):sz (bz s)=s:=by
 simp only[sz,bz,List.map_map]
 have:((fun n:Int=>UInt8.ofNat n.toNat) ∘fun b:UInt8=>(b.toNat:Int))=id:=by
  funext b;simp
 rw[this];simp
theorem jcy{l:J}(h:IsB l):bz (sz l)=l:=by
 simp only[sz,bz,List.map_map]
 have:∀n∈l,((fun b:UInt8=>(b.toNat:Int)) ∘fun n:Int=>UInt8.ofNat n.toNat) n=n:=by
  intro n hn;have:=h n hn;simp only[Function.comp,UInt8.toNat_ofNat'];omega
 rw[List.map_congr_left this];simp
theorem jlh{a b:Y}(h:bz a=bz b):a=b:=by rw[←jf6 a,←jf6 b,h]
theorem jbr(a b:Y):bz (a++b)=bz a++bz b:=by
 simp[bz,ByteArray.data_append]
theorem jb7(s:Y)(i j:Nat):bz (s.extract i j)=((bz s).take j).drop i:=by
 simp[bz,ByteArray.data_extract,List.map_drop,List.map_take,Array.toList_extract,List.extract_eq_take_drop,List.drop_take]
theorem sz_append(a b:J):sz (a++b)=sz a++sz b:=by
 apply ByteArray.ext;simp[sz,ByteArray.data_append]
theorem jcf(l:J):(sz l).size=l.length:=by simp[sz,ByteArray.size]
theorem jcv(a b:Y):(a.toList==b.toList)=decide (bz a=bz b):=by
 rw[ByteArray.toList_eq,ByteArray.toList_eq,Bool.eq_iff_iff,beq_iff_eq,jae];constructor
 ·intro h;simp[bz,h]
 ·intro h;have:=jlh h;rw[this]
theorem IsB.append{a b:J}(ha:IsB a)(hb:IsB b):IsB (a++b):=fun c hc=>by
 rcases List.mem_append.1 hc with h | h
 ·exact ha c h
 ·exact hb c h
theorem IsB.take{a:J}(ha:IsB a)(n:Nat):IsB (a.take n):=fun c hc=>ha c (List.mem_of_mem_take hc)
theorem IsB.drop{a:J}(ha:IsB a)(n:Nat):IsB (a.drop n):=fun c hc=>ha c (List.mem_of_mem_drop hc)
theorem IsB.nil:IsB []:=fun c hc=>by cases hc
theorem IsB.cons{c:Int}{a:J}(h:0≤c∧c<256)(ha:IsB a):IsB (c::a):=fun d hd=>by
 rcases List.mem_cons.1 hd with rfl | hd
 ·exact h
 ·exact ha d hd
def cz(l:J):E:=l.map fun n=> .int .u8 n
@[simp] theorem cz_length (l:J):(cz l).length=l.length:=by simp[cz]
theorem cz_append(a b:J):cz (a++b)=cz a++cz b:=by simp[cz]
theorem cz_cell:∀l:J,(cz l).all jf4=true
 | []=>rfl
 | c::r=>by
  have:=cz_cell r;simp only[cz]at this;simp[cz,jf4,this]
theorem jjo:∀l:J,ja8 (cz l)=true
 | []=>rfl
 | c::r=>by simpa[cz,ja8,plain]using jjo r
theorem jen:∀l:J,jcg (cz l)=true
 | []=>rfl
 | c::r=>by simpa[cz,jcg]using jen r
theorem cz_bytesL:∀l:J,jg8 (cz l)=l.map fun n=>UInt8.ofNat n.toNat
 | []=>rfl
 | c::r=>by
  have:=cz_bytesL r;simp only[cz]at this;simp only[cz,List.map_cons,jg8,this]
theorem bytesOf_cz(l:J)(tail:E):jbb (cz l++tail) 0 l.length=sz l:=by
 simp only[jbb,List.drop_zero];rw[List.take_append_of_le_length (by simp),List.take_of_length_le (by simp),cz_bytesL];rfl
theorem bytesOK_cz(l:J)(tail:E):jbf (cz l++tail) 0 l.length=true:=by
 simp only[jbf,List.drop_zero,jaf,Nat.ble_eq,List.length_append,cz_length];rw[List.take_append_of_le_length (by simp),List.take_of_length_le (by simp)];exact⟨jen l,by omega⟩
theorem strCells_eq(s:Y):Lib.strCells s=cz (bz s):=by
 simp[Lib.strCells,cz,bz]
theorem jel(l:J)(i:Nat)(h:i<l.length):l.drop i=l.getD i 0::l.drop (i+1):=by
 rw[List.drop_eq_getElem_cons h];simp[List.getD_eq_getElem?_getD,h]
end Go.Px
end
section
namespace Go.Px
open Go Go.Ab Go.Proofs Go.Shelf
def punchedZ:J:=[123,65,66,67,68,69,70,71,72,73,125,74,75,76,77,78,79,80,81,82]
def pow10Z:J:=[1,10,100,1000,10000,100000,1000000,10000000,100000000,1000000000,10000000000,100000000000,1000000000000,10000000000000,100000000000000,1000000000000000,10000000000000000,100000000000000000,1000000000000000000,10000000000000000000]
def rowsT:Nat→Option E
 | 5=>some (punchedZ.map fun n=> .int .u8 n)
 | 1=>some (pow10Z.map fun n=> .int .u64 n)
 | 0=>some [.iface 229 (.agg ⟨[.pointer (some ⟨10,105,none⟩)]⟩)]
 | _=>none
instance tabs:Tabs where
 row:=rowsT
 plain:=fun b r h=>by
  match b,h with
  | 5,h=>cases h;rfl
  | 1,h=>cases h;rfl
  | 0,h=>cases h;rfl
theorem hmix:Tryz.prog.follows .mixedOrders=true:=by kernel_rfl
structure U8 where n:Int
structure R32 where n:Int
structure U64 where n:Int
instance:Enc U8 where
 enc a:= .int .u8 a.n
 dec | .int .u8 n=>some ⟨n⟩ | _=>none
 dec_some:=by
  intro v a h;split at h
  ·cases h;rfl
  ·cases h
 plain_enc _:=rfl
instance:Enc R32 where
 enc a:= .int .i32 a.n
 dec | .int .i32 n=>some ⟨n⟩ | _=>none
 dec_some:=by
  intro v a h;split at h
  ·cases h;rfl
  ·cases h
 plain_enc _:=rfl
instance:Enc U64 where
 enc a:= .int .u64 a.n
 dec | .int .u64 n=>some ⟨n⟩ | _=>none
 dec_some:=by
  intro v a h;split at h
  ·cases h;rfl
  ·cases h
 plain_enc _:=rfl
theorem pure_shelf{P:Program}{f:FuncId}{s:Ab.Spec}(hc:jbz P f)
  (h:∀args bs v,s args bs=some (true,v)→ja8 args=true∧ ∀w,TabsIn w.heap.size w→Calls P f args.toArray w fun e w'=>e= .returned v∧RowKit.Below w.heap.size w w'):jam P f s:=by
 refine⟨hc,fun args v N w0 lk ι w hrel hs hp=> ?_⟩;obtain⟨h1,h2⟩:=h _ _ _ hs;have hren:args.map (ren ι)=args:=by rw[←jb3,jb5 _ h1]
 rw[hren];exact h2 w hrel.tabs
theorem jct{w w':World}(h:w'=w):RowKit.Below w.heap.size w w':=h▸RowKit.Below.refl _ _
section
variable {α β : Type} [Enc α] [Enc β] {P : Program} {f : FuncId}
theorem shelf1(hc:jbz P f){g:α→Bool×Value}(h:∀a,(g a).1=true→ ∀w,TabsIn w.heap.size w→Calls P f #[Enc.enc a] w fun e w'=>e= .returned (g a).2∧RowKit.Below w.heap.size w w'):jam P f (sp1 g):=by
 refine pure_shelf hc fun args bs v hs=> ?_
 simp only[sp1]at hs;split at hs
 ·split at hs
  ·rename_i ha;simp only[Option.some.injEq]at hs;obtain rfl:=Enc.dec_some ha;exact⟨by simp[ja8,Enc.plain_enc],by have q:=h _ (by rw[hs]);rw[hs]at q;exact q⟩
  ·cases hs
 ·cases hs
theorem jd8(hc:jbz P f){g:α→β→Bool×Value}(h:∀a b,(g a b).1=true→ ∀w,TabsIn w.heap.size w→Calls P f #[Enc.enc a,Enc.enc b] w fun e w'=>e= .returned (g a b).2∧RowKit.Below w.heap.size w w'):jam P f (sp2 g):=by
 refine pure_shelf hc fun args bs v hs=> ?_
 simp only[sp2]at hs;split at hs
 ·split at hs
  ·rename_i ha hb;simp only[Option.some.injEq]at hs;obtain rfl:=Enc.dec_some ha;obtain rfl:=Enc.dec_some hb;exact⟨by simp[ja8,Enc.plain_enc],by have q:=h _ _ (by rw[hs]);rw[hs]at q;exact q⟩
  ·cases hs
 ·cases hs
end
def idxZ:J→Int→Int
 | [],_=> -1
 | b::l,c=>if b=c then 0 else if idxZ l c= -1 then -1 else idxZ l c+1
def cntZ(l:J)(c:Int):Nat:=(l.filter (· ==c)).length
def sufZ(l p:J):Bool:=decide (p.length≤l.length∧l.drop (l.length-p.length)=p)
def hasZ(l:J)(c:Int):Bool:=l.any (· ==c)
def anyZ(l cs:J):Bool:=l.any (hasZ cs)
def jch(l cs:J):J:=((l.reverse.dropWhile (hasZ cs)).reverse).dropWhile (hasZ cs)
def repZ(l:J):Nat→J
 | 0=> []
 | n+1=>l++repZ l n
def numZ:J→Int→Int
 | [],a=>a
 | c::r,a=>numZ r (a*10+(c-48))
def je3(c:Int):Bool:=decide (48≤c∧c≤57)
abbrev zl(l:Yb):J:=l.map fun b=>(b.toNat:Int)
theorem jlk{a b:UInt8}:((a.toNat:Int)=b.toNat)↔a=b:=by
 rw[Int.natCast_inj,UInt8.toNat_inj]
theorem idx_zl(c:UInt8):∀l:Yb,Lib.indexByte l c=idxZ (zl l) c.toNat
 | []=>rfl
 | b::l=>by
  simp only[Lib.indexByte,zl,List.map_cons,idxZ,idx_zl c l,jlk,beq_iff_eq]
theorem has_zl(c:UInt8):∀l:Yb,l.contains c=hasZ (zl l) c.toNat
 | []=>rfl
 | b::l=>by
  have:=has_zl c l;simp only[hasZ,zl]at this;rw[List.contains_cons,this];simp only[hasZ,zl,List.map_cons,List.any_cons];congr 1;rw[Bool.eq_iff_iff,beq_iff_eq,beq_iff_eq,jlk];exact eq_comm
theorem jbm{l:J}{c:Int}:hasZ l c=true↔c∈l:=by simp[hasZ]
theorem jgt(c:Int):∀l:J,-1≤idxZ l c∧(0≤idxZ l c↔c∈l)
 | []=>by simp[idxZ]
 | b::l=>by
  obtain⟨h1,h2⟩:=jgt c l;simp only[idxZ,List.mem_cons];by_cases hb:b=c
  ·simp[hb]
  ·rw[if_neg hb];have hb':¬c=b:=fun h=>hb h.symm
   split
   ·rename_i h;rw[h]at h2;simp only[hb',false_or];exact⟨by omega,by rw[←h2]⟩
   ·exact⟨by omega,by simp only[hb',false_or];rw[←h2];omega⟩
theorem cnt_zl(c:UInt8):∀l:Yb,Lib.countByte l c=cntZ (zl l) c.toNat
 | []=>rfl
 | b::l=>by
  have ih:=cnt_zl c l;simp only[Lib.countByte,cntZ,zl]at ih;simp only[Lib.countByte,cntZ,zl,List.map_cons,List.count_cons,List.filter_cons,ih];by_cases hb:b=c
  ·simp[hb]
  ·have:((b.toNat:Int)==(c.toNat:Int))=false:=by simpa[jlk]using hb
   simp[hb,this]
theorem zl_inj{a b:Yb}(h:zl a=zl b):a=b:=by
 have:=jlh (a:=⟨a.toArray⟩) (b:=⟨b.toArray⟩) (by simpa[bz]using h);simpa using congrArg (fun s:Y=>s.data.toList) this
theorem suf_zl(s p:Yb):Lib.hasSuffix s p=sufZ (zl s) (zl p):=by
 rw[Bool.eq_iff_iff];simp only[Lib.hasSuffix,sufZ,List.isSuffixOf_iff_suffix,jae,List.length_map];constructor
 ·rintro ⟨t,rfl⟩;exact⟨by simp,by simp⟩
 ·rintro ⟨h1,h2⟩;rw[←List.map_drop]at h2;have e:=zl_inj h2;exact⟨s.take (s.length-p.length),(congrArg (s.take (s.length-p.length)++ ·) e.symm).trans (List.take_append_drop ..)⟩
theorem jft{p:UInt8→Bool}{q:Int→Bool}(h:∀b:UInt8,p b=q b.toNat):∀l:Yb,zl (l.dropWhile p)=(zl l).dropWhile q
 | []=>rfl
 | b::l=>by
  simp only[List.dropWhile_cons,zl,List.map_cons,h b];split
  ·exact jft h l
  ·rfl
theorem trim_zl(l cs:Yb):zl (Lib.trimS l cs)=jch (zl l) (zl cs):=by
 have h:∀b:UInt8,cs.contains b=hasZ (zl cs) b.toNat:=fun b=>has_zl b cs
 simp only[Lib.trimS,Lib.trimLeftS,Lib.trimRightS,jch];rw[jft (q:=hasZ (zl cs)) h];congr 1;rw[zl,List.map_reverse,←List.map_reverse];have:=jft (p:=(cs.contains ·)) (q:=hasZ (zl cs)) h l.reverse;rw[List.map_reverse];simp only[zl,List.map_reverse]at this ⊢;rw[this]
theorem rep_zl(l:Yb):∀n,zl (Lib.repeatL l n)=repZ (zl l) n
 | 0=>rfl
 | n+1=>by
  have:=rep_zl l n;simp only[zl]at this;simp[Lib.repeatL,repZ,zl,this]
theorem jhq(l:Yb):(⟨l.toArray⟩:Y)=sz (zl l):=by
 rw[←jf6 ⟨l.toArray⟩];simp[bz]
theorem bz_zl(s:Y):zl s.data.toList=bz s:=rfl
theorem cal {P : Program} {f : FuncId} {fn : Func} (h : P.funcs[f]? = some fn) (hn : (fn.name == "runtime.NumGoroutine") = false) (hb : fn.body.isSome = true) : jbz P f := ⟨fn, h, hn, by cases hf : fn.body with | none => rw [hf] at hb; cases hb | some c => rfl⟩
theorem c141:jbz Tryz.prog 272:=cal Tryz.func272 (by kernel_rfl) (by kernel_rfl)
theorem c157:jbz Tryz.prog 279:=cal Tryz.func279 (by kernel_rfl) (by kernel_rfl)
theorem c130:jbz Tryz.prog 130:=cal Tryz.func130 (by kernel_rfl) (by kernel_rfl)
theorem c132:jbz Tryz.prog 129:=cal Tryz.func129 (by kernel_rfl) (by kernel_rfl)
theorem c102:jbz Tryz.prog 203:=cal Tryz.func203 (by kernel_rfl) (by kernel_rfl)
theorem c89:jbz Tryz.prog 55:=cal Tryz.func55 (by kernel_rfl) (by kernel_rfl)
theorem c88:jbz Tryz.prog 154:=cal Tryz.func154 (by kernel_rfl) (by kernel_rfl)
theorem c78:jbz Tryz.prog 30:=cal Tryz.func30 (by kernel_rfl) (by kernel_rfl)
theorem c68:jbz Tryz.prog 206:=cal Tryz.func206 (by kernel_rfl) (by kernel_rfl)
def s141(s:Y)(c:U8):Bool×Value:=(decide (0≤c.n∧c.n<256),.int .i64 (idxZ (bz s) c.n))
theorem ok141:jam Tryz.prog 272 (sp2 s141):=jd8 c141 fun s c hc w _=>by
 have hc:0≤c.n∧c.n<256:=jab hc;refine(Any.strings_IndexByte Tryz.lays137 s c.n w).mono fun e w' ⟨h1,h2⟩=>⟨?_,jct h2⟩
 rw[h1,idx_zl];simp only[s141]
 have:((c.n.toNat.toUInt8.toNat:Nat):Int)=c.n:=by
  simp only[Nat.toUInt8,UInt8.toNat_ofNat'];omega
 rw[this,bz_zl]
def oneB(s:Y):Bool:=Nat.beq s.size 1
theorem jei{s:Y}(h:oneB s=true):∃c:UInt8,s=⟨#[c]⟩∧(c.toNat:Int)=(bz s).getD 0 0:=by
 have h:=jah h;have hl:s.data.toList.length=1:=by simpa using h
 match hm:s.data.toList,hl with
 | [c],_=>
  refine⟨c,?_,by simp[bz,hm]⟩;apply ByteArray.ext;apply Array.ext';simpa using hm
def s157(s t:Y):Bool×Value:=(oneB t,.int .i64 (cntZ (bz s) ((bz t).getD 0 0)))
theorem ok157:jam Tryz.prog 279 (sp2 s157):=jd8 c157 fun s t hc w _=>by
 obtain⟨c,h1,h2⟩:=jei hc;have e:Enc.enc t=Value.string ⟨#[c]⟩:=congrArg Value.string h1;rw[e];refine(Any.strings_Count_one Tryz.lays138 s c w).mono fun e w' ⟨h3,h4⟩=>⟨?_,jct h4⟩
 rw[h3,cnt_zl,h2];rfl
def s132(s t:Y):Bool×Value:=(oneB t,.bool (hasZ (bz s) ((bz t).getD 0 0)))
theorem ok132:jam Tryz.prog 129 (sp2 s132):=jd8 c132 fun s t hc w _=>by
 obtain⟨c,h1,h2⟩:=jei hc;have e:Enc.enc t=Value.string ⟨#[c]⟩:=congrArg Value.string h1;rw[e];refine(Any.strings_Contains_one Tryz.lays144 s c w).mono fun e w' ⟨h3,h4⟩=>⟨?_,jct h4⟩
 rw[h3];simp only[s132];rw[←h2];congr 2;rw[Bool.eq_iff_iff,jae,idx_zl,(jgt _ _).2,jbm,bz_zl]
def s130(s t:Y):Bool×Value:=(decide (s.size≤9223372036854775807),.bool (sufZ (bz s) (bz t)))
theorem ok130:jam Tryz.prog 130 (sp2 s130):=jd8 c130 fun s t hc w _=>by
 refine(Any.strings_HasSuffix Tryz.lays100 s t w (jab hc)).mono fun e w' ⟨h3,h4⟩=>⟨?_,jct h4⟩
 rw[h3,suf_zl];rfl
def asc(l:J):Bool:=l.all fun c=>decide (c<128)
theorem je0{s:Y}(h:asc (bz s)=true):∀(j:Nat) b,s.data.toList[j]?=some b→b.toNat<128:=fun j b hb=>by
 simp only[asc,bz,List.all_map,List.all_eq_true]at h;have:=h b (List.mem_of_getElem? hb);simp at this;omega
theorem info128:(Tryz.prog.info? (Tryz.lays150_ren.t 116)).map (fun i=>(i.zero,i.size))=some (some (.agg (Array.replicate 256 (.bool false))),256):=by kernel_rfl
theorem info128':(Tryz.prog.info? (Tryz.lays160_ren.t 116)).map (fun i=>(i.zero,i.size))=some (some (.agg (Array.replicate 256 (.bool false))),256):=by kernel_rfl
theorem indexAny_zl(cs:Yb):∀l:Yb,(0≤Lib.indexAny l cs)↔anyZ (zl l) (zl cs)=true
 | []=>by simp[Lib.indexAny,anyZ]
 | b::l=>by
  have ih:=indexAny_zl cs l;have g:=Lib.indexAny_ge cs l;have hb:hasZ (zl cs) b.toNat=cs.contains b:=(has_zl b cs).symm;simp only[anyZ,zl,List.map_cons,List.any_cons]at ih hb ⊢;rw[hb];unfold Lib.indexAny;split
  ·simp_all
  ·rename_i hn;have hn:cs.contains b=false:=by simpa using hn
   rw[hn,Bool.false_or,←ih];split
   ·rename_i h;have h:=eq_of_beq h;constructor<;>intro<;>omega
   ·rename_i h;have h:Lib.indexAny l cs≠ -1:=by simpa using h
    constructor<;>intro<;>omega
def s102(s t:Y):Bool×Value:=(decide (s.size≤1000) && (decide (t.size≤1000) && (asc (bz s) &&asc (bz t))),.bool (anyZ (bz s) (bz t)))
theorem ok102:jam Tryz.prog 203 (sp2 s102):=jd8 c102 fun s t hc w _=>by
 simp only[s102,jaf,jae]at hc;obtain⟨h1,h2,h3,h4⟩:=hc;refine(Any.strings_ContainsAny_laid Tryz.lays150 info128 s t w (by omega) (by omega) (je0 h3) (je0 h4)).mono fun e w' ⟨h5,h6⟩=>⟨?_,h6⟩
 rw[h5];simp only[s102];congr 2;rw[Bool.eq_iff_iff,Lib.containsAny,jae,indexAny_zl];rfl
theorem szO_ex:∃f:J→Y,f=sz:=⟨_,rfl⟩
noncomputable def szO : J → Y := Classical.choose szO_ex
theorem jcw(l:J):szO l=sz l:=by rw[szO,Classical.choose_spec szO_ex]
noncomputable def s89 (s t : Y) : Bool × Value := (decide (s.size ≤ 1000) && (decide (t.size ≤ 1000) && asc (bz t)), .string (szO (jch (bz s) (bz t))))
theorem ok89:jam Tryz.prog 55 (sp2 s89):=jd8 c89 fun s t hc w _=>by
 simp only[s89,jaf,jae]at hc;obtain⟨h1,h2,h3⟩:=hc;refine(Any.strings_Trim_laid Tryz.lays160 info128' s t w (by omega) (by omega) (je0 h3)).mono fun e w' ⟨h5,h6⟩=>⟨?_,h6⟩
 rw[h5,jhq,trim_zl];simp only[s89,jcw];rfl
def s88(s t:Y):Bool×Value:=(oneB t&&asc (bz t),.string (sz ((bz s).dropWhile (· ==(bz t).getD 0 0))))
theorem ok88:jam Tryz.prog 154 (sp2 s88):=jd8 c88 fun s t hc w _=>by
 simp only[s88,jaf]at hc;obtain⟨c,h1,h2⟩:=jei hc.1;have hlt:c.toNat<128:=je0 hc.2 0 c (by rw[h1];rfl);have e:Enc.enc t=Value.string ⟨#[c]⟩:=congrArg Value.string h1;rw[e];refine(Any.strings_TrimLeft_one Tryz.lays161 s c hlt w).mono fun e w' ⟨h3,h4⟩=>⟨?_,jct h4⟩
 rw[h3,jhq];simp only[s88,Lib.trimLeftB];rw[jft (q:=(· ==(bz t).getD 0 0)) (fun b=>by rw[←h2,Bool.eq_iff_iff,beq_iff_eq,beq_iff_eq,jlk]),bz_zl]
def s78(s:Y)(n:Int):Bool×Value:=(decide (0≤n∧n≤1000∧s.size≤1000),.string (sz (repZ (bz s) n.toNat)))
theorem ok78:jam Tryz.prog 30 (sp2 s78):=jd8 c78 fun s n hc w _=>by
 obtain⟨h1,h2,h3⟩:=jab hc
 have e:Enc.enc n=Value.int .i64 (n.toNat:Int):=by
  show Value.int .i64 n=_;rw[Int.toNat_of_nonneg h1]
 rw[e];have hm:s.size*n.toNat≤1000*1000:=Nat.mul_le_mul h3 (by omega);refine(Any.strings_Repeat Tryz.lays105 Tryz.Builder_Extra_105 s n.toNat w (by omega) (by omega)).mono fun e w' ⟨h4,h5⟩=>⟨?_,h5⟩
 rw[h4,jhq,rep_zl];rfl
end Go.Px
end
section
namespace Go.Px
open Go Go.Ab Go.Proofs
abbrev I(n:Int):Value:= .int .i64 n
abbrev B(b:Bool):Value:= .bool b
abbrev C8(n:Int):Value:= .int .u8 n
abbrev C64(n:Int):Value:= .int .u64 n
abbrev S(s:Y):Value:= .string s
def e0:Y:=⟨#[]⟩
theorem c_t{b:Bool}{P Q:Prop}(h:b=true)(hp:P):bif b then P else Q:=by rw[h];exact hp
theorem c_f{b:Bool}{P Q:Prop}(h:b=false)(hq:Q):bif b then P else Q:=by rw[h];exact hq
theorem w64{n:Int}(h: -9223372036854775808≤n∧n≤9223372036854775807):IntKind.wrap .i64 n=n:=by rw[IntKind.wrap_i64];omega
theorem w3{a b c d:Int}(ha:0≤a∧a≤1000)(hb:0≤b∧b≤1000)(hc:0≤c∧c≤1000)(hd:0≤d∧d≤1000):
  IntKind.wrap .i64 (IntKind.wrap .i64 (IntKind.wrap .i64 (a+b)+c)+d)=a+b+c+d:=by
 rw[w64 (n:=a+b) (by omega),w64 (n:=a+b+c) (by omega),w64 (by omega)]
theorem w8e(n:Int):IntKind.wrap .u8 n=n%256:=by
 simp[IntKind.wrap,IntKind.bits,IntKind.signed]
theorem w8{n:Int}(h:0≤n∧n<256):IntKind.wrap .u8 n=n:=by rw[w8e];omega
theorem wu64e(n:Int):IntKind.wrap .u64 n=n%18446744073709551616:=by
 simp[IntKind.wrap,IntKind.bits,IntKind.signed]
theorem wu64{n:Int}(h:0≤n∧n<18446744073709551616):IntKind.wrap .u64 n=n:=by rw[wu64e];omega
theorem jfw(s:Y)(i:Nat):0≤jaj s i∧jaj s i<256:=by
 rw[jep,List.getD_eq_getElem?_getD];cases h:(bz s)[i]? with
 | none=>simp
 | some c=>exact jdq s c (List.mem_of_getElem? h)
theorem jb4{s:Y}{i:Int}(h0:0≤i)(h:i<s.size):(bz s).drop i.toNat=jaj s i.toNat::(bz s).drop (i+1).toNat:=by
 have:=jel (bz s) i.toNat (by rw[jal];omega);rw[this,jep];congr 2;omega
theorem jce{s:Y}{i:Int}(h:s.size≤i):(bz s).drop i.toNat=[]:=List.drop_eq_nil_of_le (by rw[jal];omega)
def upZ(c:Int):Int:=if 97≤c∧c≤122 then c-32 else c
def twoL(i:Nat)(h:jb9)(j:Nat)(h':jb9):Nat→Option jb9:=fun k=>match Nat.beq k i with | true=>some h | false=>match Nat.beq k j with | true=>some h' | false=>none
theorem jeu{P:Program}{fn:Func}{i j:Nat}{h h':jb9}(hij:Nat.beq j i=false)(hb:(match fn.body with | some c=>blks (twoL i h j h') c | none=> [])=[(i,.loop (ja6 fn i)),(j,.loop (ja6 fn j))])
  (hs:∀t m n K,h t m n K→Ab.Sem P fn.ntmps (.loop (ja6 fn i)) t m n K) (hs':∀t m n K,h' t m n K→Ab.Sem P fn.ntmps (.loop (ja6 fn j)) t m n K):LOKf P (twoL i h j h') fn:=by
 unfold LOKf;split
 ·rename_i c hc;simp only[hc]at hb;refine jg4 c fun p hp k hk=> ?_
  rw[hb]at hp;simp only[List.mem_cons,List.not_mem_nil,or_false]at hp;have e:Nat.beq i i=true:=by simp
  have e':Nat.beq j j=true:=by simp
  rcases hp with rfl | rfl
  ·simp only[twoL,e,Option.some.injEq]at hk;subst hk;exact hs
  ·simp only[twoL,hij,e',Option.some.injEq]at hk;subst hk;exact hs'
 ·trivial
theorem lok_one{P:Program}{nt:Nat}{c b:Code}{id:Nat}{h:jb9}(hb:blks (oneL id h) c=[(id,b)])(hs:∀t m n K,h t m n K→Ab.Sem P nt b t m n K):LOK P (oneL id h) nt c:=by
 refine jg4 c fun p hp h' hh=> ?_
 rw[hb]at hp;simp only[List.mem_singleton]at hp;subst hp
 have:h'=h:=by
  simp only[oneL]at hh;have e:Nat.beq id id=true:=by simp
  rw[e]at hh;simpa using hh.symm
 subst this;exact hs
theorem bz_take_at{s:Y}{i l:Int}(h0:0≤i)(h:i<l)(hl:l≤s.size):((bz s).take l.toNat).drop i.toNat=jaj s i.toNat::((bz s).take l.toNat).drop (i+1).toNat:=by
 have hlen:((bz s).take l.toNat).length=l.toNat:=by rw[List.length_take,jal];omega
 have:=jel ((bz s).take l.toNat) i.toNat (by omega);rw[this,jep]
 have e:((bz s).take l.toNat).getD i.toNat 0=(bz s).getD i.toNat 0:=by
  simp only[List.getD_eq_getElem?_getD];rw[List.getElem?_take,if_pos (by omega)]
 rw[e];congr 2;omega
theorem jit(l:J)(c:Int):cntZ l c≤l.length:=List.length_filter_le ..
def iv:Value→Int
 | .int _ n=>n
 | _=>0
def zc(c:E)(n:Nat):J:=(c.take n).map iv
def jcm(c:E)(n cap:Nat):Bool:=jcg (c.take n) && (ja8 c&& (Nat.beq c.length cap&& (Nat.ble n cap&&Nat.ble cap 9223372036854775807)))
theorem cz_of:∀{l:E},jcg l=true→cz (l.map iv)=l
 | [],_=>rfl
 | .int .u8 n::r,h=>by
  have:=cz_of (l:=r) (by simpa[jcg]using h);simp only[cz]at this;simp only[List.map_cons,cz,iv,this]
structure RowP (c:E)(n cap:Nat):Prop where
 bytes:jcg (c.take n)=true
 plain:ja8 c=true
 len:c.length=cap
 le:n≤cap
 cap:cap≤9223372036854775807
theorem jat{c:E}{n cap:Nat}:jcm c n cap=true↔RowP c n cap:=by
 simp only[jcm,jaf,Nat.ble_eq,Nat.beq_eq];exact⟨fun⟨h1,h2,h3,h4,h5⟩=>⟨h1,h2,h3,h4,h5⟩,fun⟨h1,h2,h3,h4,h5⟩=>⟨h1,h2,h3,h4,h5⟩⟩
theorem jba{c:E}{n cap:Nat}(h:RowP c n cap):(zc c n).length=n:=by
 have h1:=h.len;have h2:=h.le;simp only[zc,List.length_map,List.length_take];omega
theorem RowP.eq{c:E}{n cap:Nat}(h:RowP c n cap):c=cz (zc c n)++c.drop n:=by
 rw[zc,cz_of h.bytes,List.take_append_drop]
theorem RowP.take{c:E}{n cap:Nat}(h:RowP c n cap):c.take n=cz (zc c n):=(cz_of h.bytes).symm
theorem RowP.str{c:E}{n cap:Nat}(h:RowP c n cap):jbf c 0 n=true∧jbb c 0 n=sz (zc c n):=by
 have hz:=jba h;have e:=h.eq;have h1:=bytesOK_cz (zc c n) (c.drop n);have h2:=bytesOf_cz (zc c n) (c.drop n);rw[←e,hz]at h1 h2;exact⟨h1,h2⟩
theorem plainL_append{a b:E}:ja8 (a++b)=true↔ja8 a=true∧ja8 b=true:=by
 simp only[jbd,List.mem_append];exact⟨fun h=>⟨fun v hv=>h v (.inl hv),fun v hv=>h v (.inr hv)⟩,fun⟨h1,h2⟩ v hv=>hv.elim (h1 v) (h2 v)⟩
theorem jjx(L:J){tail:E}{cap:Nat}(ht:ja8 tail=true)(hl:L.length+tail.length=cap)(hc:cap≤9223372036854775807):RowP (cz L++tail) L.length cap∧zc (cz L++tail) L.length=L:=by
 have e:(cz L++tail).take L.length=cz L:=by rw[List.take_append_of_le_length (by simp),List.take_of_length_le (by simp)]
 refine⟨⟨by rw[e];exact jen L,plainL_append.2 ⟨jjo L,ht⟩,by simp[hl],by omega,hc⟩,?_⟩;show List.map iv ((cz L++tail).take L.length)=L;rw[e];simp only[cz,List.map_map];have:(iv∘fun n:Int=>Value.int .u8 n)=id:=by funext n;rfl
 rw[this,List.map_id]
theorem je8{tail:E}{cap need size:Nat}(h:jay tail cap need size=true):ja8 tail=true∧tail.length+need*size=cap*size∧need≤cap∧cap≤9223372036854775807:=by
 simp only[jay,jaf,Nat.ble_eq,Nat.beq_eq]at h;exact⟨h.1.1.1,h.1.1.2,h.1.2,h.2⟩
theorem RowP.app{c:E}{n cap:Nat}(h:RowP c n cap)(M:J){tail:E}{cap':Nat}(ht:jay tail cap' (n+M.length) 1=true):
  RowP (c.take n++cz M++tail) (n+M.length) cap'∧zc (c.take n++cz M++tail) (n+M.length)=zc c n++M:=by
 obtain⟨t1,t2,t3,t4⟩:=je8 ht;have hz:=jba h;have:=jjx (zc c n++M) (tail:=tail) (cap:=cap') t1 (by simp only[List.length_append,hz];omega) t4;simp only[List.length_append,hz,cz_append]at this;rw[h.take];exact this
theorem RowP.app1{c:E}{n cap:Nat}(h:RowP c n cap)(x:Int){tail:E}{cap':Nat}(ht:jay tail cap' (n+1) 1=true):
  RowP (c.take (n*1)++ [.int .u8 x]++tail) (n+1) cap'∧zc (c.take (n*1)++ [.int .u8 x]++tail) (n+1)=zc c n++ [x]:=by
 rw[Nat.mul_one];exact h.app [x] ht
theorem RowP.ask{c:E}{n cap:Nat}(h:RowP c n cap){k:Nat}(hk:n+k≤1000000):
  (Nat.beq c.length (cap*1) &&Nat.ble n cap&&Nat.ble cap 9223372036854775807&&true&&jb0 (n+k) 1)=true:=by
 have h1:=h.len;have h2:=h.le;have h3:=h.cap;simp only[jb0,jaf,Nat.ble_eq,Nat.beq_eq,Nat.mul_one];exact⟨⟨⟨⟨h1,h2⟩,h3⟩,trivial⟩,by omega,by omega⟩
theorem jgo(M:J){tail:E}{cap':Nat}(ht:jay tail cap' M.length 1=true):RowP (cz M++tail) M.length cap'∧zc (cz M++tail) M.length=M:=by
 obtain⟨t1,t2,t3,t4⟩:=je8 ht;exact jjx M t1 (by omega) t4
theorem RowP.good{c:E}{n cap:Nat}(h:RowP c n cap)(ps:List (Nat×Nat)):jav ps c=true:=goodL_plain h.plain
theorem RowP.rlb{c:E}{n cap:Nat}(h:RowP c n cap)(ps:List (Nat×Nat)):rlbL ps c=c:=rlbL_plain ps h.plain
theorem jfx{d:E}{m cap:Nat}(hr:RowP d m cap)(hm:m≤100000)(x:Int)(ps:List (Nat×Nat))(K:Nat→E→Prop)
  (h:∀(cap':Nat)(d':E),RowP d' (m+1) cap'→zc d' (m+1)=zc d m++ [x]→K cap' d'):
  bif Nat.beq d.length (cap*1) &&Nat.ble m cap&&Nat.ble cap 9223372036854775807&&true&&jb0 (m+1) 1 then
   ∀(cap1:Nat)(tail:E),jay tail cap1 (m+1) 1=true→
    bif jav ps (List.take (m*1) d++ [.int .u8 x]++tail) &&true&&true then K cap1 (rlbL ps (List.take (m*1) d++ [.int .u8 x]++tail))else False
  else False:=by
 rw[hr.ask (k:=1) (by omega)];intro cap1 tail ht;obtain⟨h1,h2⟩:=hr.app1 x ht;rw[h1.good,h1.rlb];exact h cap1 _ h1 h2
theorem jbj{c:E}(h:ja8 c=true)(n:Nat):ja3 n c=true:=by
 simp[ja3,jaq h]
def G0:Env:=Env.nil
theorem ok_G0:jaw Tryz.prog G0:=jap
def s82(c:U8):Bool×Value:=(decide (0≤c.n∧c.n<256),.int .u8 (upZ c.n))
theorem fn82:Fn1 Tryz.prog 211 Tryz.f211:= .m Tryz.func211
def dx(a:Bool)(c d:Value)(b:Value→Prop):Prop:=bif a then b c else b d
def fq(a b:Bool)(d e:Value)(c:Value→Prop):Prop:=bif a then dx b d e c else False
def aw(b:Int)(a:IntKind):Int:=a.wrap b
def e9(a b:Int):Bool:=decide (a≥b)
def ft(a b c:Int):Bool:=e9 a b&&decide (a≤c)
def gx(a b:Int):Bool:=e9 a b || true
theorem v82(c:U8)(R:Value→Prop):jaz Tryz.prog G0 noL Tryz.f211 [Enc.enc c] (fun _=>none) 0 (fun v _ _=>R v)=(fq (gx (U8.n c) 97) (ft (U8.n c) 97 122) (.int .u8 (aw (IntKind.u8.wrap (U8.n c-97)+65) .u8)) (.int .u8 (U8.n c)) R):=by kernel_rfl
theorem ok82:jam Tryz.prog 211 (sp1 s82):=by
 refine jby ok_G0 hmix fn82 jak jag fun c hc=> ?_
 rw[ja0,v82];delta dx fq aw e9 ft gx;have hc:(0≤c.n∧c.n<256):=jab hc;dsimp only[s82];unfold upZ;refine c_t (by simp) ?_;apply cond_intro<;>intro h
 ·have h:97≤c.n∧c.n≤122:=by simpa using h
  rw[if_pos h,w8 (n:=c.n-97) (by omega),w8 (by omega),show c.n-97+65=c.n-32 by omega]
 ·have h:¬(97≤c.n∧c.n≤122):=by simpa using h
  rw[if_neg h]
def V40_0:Y×Int×Bool×Int→E:=fun(s,c,b,i)=> [S s,C8 c,B b,I i]
def B40_0:Y×Int×Bool×Int→O:=fun _=> []
def S40_0:LSpec (Y×Int×Bool×Int) where
 live:=[0,1,4,5]
 mid:=[]
 n:=60
 dec vs bs:=match vs,bs with | [.string s,.int .u8 c,.bool b,.int .i64 i],[]=>some (s,c,b,i) | _,_=>none
 pre:=fun(s,c,b,i)=>decide (0≤i∧i≤s.size∧s.size≤9223372036854775807)
 fin:=fun(s,c,b,i) Z=>(bif hasZ ((bz s).drop i.toNat) c then(∀i',Z .ret [S s,C8 c,B true,I i'] [])else Z (.exit 0) [S s,C8 c,B b,I s.size] [])
def kj(a:Bool)(b:Exit→E→O→Prop)(d:O)(c e:E):Prop:=bif a then b .ret c d else b .normal e d
def am(a:Y):Int:=(a.size:Int)
def dw(b:Y)(a:Int):Bool:=decide (a<am b)
def lc(c d:Bool)(b f:Y)(e:Exit→E→O→Prop)(a:Int)(i k l:E)(g h j:Value):Prop:=bif dw b a then bif c then kj d e [] (.string f::g::h::i) (.string f::j::k)else False else e (.exit 0) (.string f::j::l) []
def al(a:Int):Value:= .int .u8 a
def ak(a:Int):Value:= .int .i64 a
def au(a:Int):Int:=IntKind.i64.wrap (a+1)
def bu(a:Int):Value:= .int .i64 (au a)
def bp(a:Int):E:=[bu a]
def ax(a:Y)(b:Int):Int:=jaj a b.toNat
def ar(a:Y)(b c:Int):Bool:=ax a b==c
def bq(b:Y)(a:Int):Bool:=decide (0≤a∧a<am b)
theorem r40_0(s:Y)(c:Int)(b:Bool)(i:Int)(jk:Tmps)(R:Exit→E→O→Prop):(jbp Tryz.prog G0 noL Tryz.f202.ntmps (ja6 Tryz.f202 0) (tl S40_0.live (V40_0 (s,c,b,i)) jk) (ml S40_0.mid (B40_0 (s,c,b,i))) S40_0.n fun e t' m' _=>R e (List.map t' S40_0.live) (List.map m' S40_0.mid))=(lc (bq s i) (ar s i c) s s R i [ak i] (B b::bp i) [B b,ak i] (al c) (B true) (al c)):=by kernel_rfl
theorem l40_0:LOKf Tryz.prog (oneL 0 S40_0.h) Tryz.f202:=by
 refine jbe (h:=S40_0.h) (by kernel_rfl) (ja7 ok_G0 hmix (by kernel_rfl) (ja1 _) S40_0 V40_0 B40_0 (fun(s,c,b,i)=>(s.size-i).toNat) ?_ ?_ ?_)
 ·intro vs bs s h;simp only[S40_0]at h;split at h
  all_goals first | (cases h;exact⟨rfl,rfl⟩) | cases h
 ·exact fun _ _ _ h=>h
 ·intro⟨s,c,b,i⟩ jk Z hp hf;rw[r40_0];delta kj am dw lc al ak au bu bp ax ar bq;simp only[S40_0]at hp hf;simp only[jae]at hp;apply cond_intro<;>intro h
  ·have h:=jab h;rw[jb4 hp.1 h]at hf;refine c_t (jaa (by omega)) ?_;simp only[hasZ,List.any_cons]at hf;apply cond_intro<;>intro hb
   ·rw[hb]at hf;exact hf i
   ·rw[hb,Bool.false_or]at hf;rw[w64 (by omega)];exact⟨(s,c,b,i+1),rfl,rfl,by simp only[S40_0,jae];omega,by simp only;omega,hf⟩
  ·have h:=jac h;rw[jce (by omega)]at hf;obtain rfl:i=s.size:=by omega
   exact hf
def s40(s:Y)(c:U8):Bool×Value:=(decide (s.size≤9223372036854775807),.bool (hasZ (bz s) c.n))
theorem fn40:Fn1 Tryz.prog 202 Tryz.f202:= .m Tryz.func202
def av(a:Bool)(b c:Prop):Prop:=bif a then b else c
def ip(a b:Bool)(c d:Prop):Prop:=bif a then av b c d else False
def ji(b:Bool)(a:Value→Prop):Prop:=Tmps→a (.bool b)
def dq(b:Y)(a:Int):J:=(bz b).drop a.toNat
theorem v40(s:Y)(c:U8)(R:Value→Prop):jaz Tryz.prog G0 (oneL 0 S40_0.h) Tryz.f202 [Enc.enc s,Enc.enc c] (fun _=>none) 0 (fun v _ _=>R v)=(ip (S40_0.pre (s,(U8.n c,(false,(0:Int))))) (hasZ (dq s 0) (U8.n c)) (Int→ji true R) (ji false R)):=by kernel_rfl
theorem ok40:jam Tryz.prog 202 (sp2 s40):=by
 refine jcj ok_G0 hmix fn40 l40_0 jag fun s c hc=> ?_
 rw[ja0,v40];delta av ip ji dq;have hc:(s.size≤9223372036854775807):=jab hc;dsimp only[s40];refine c_t (by simp only[S40_0,jae];omega) ?_;rw[show List.drop (Int.toNat 0) (bz s)=bz s from rfl];exact cond_intro (fun h _ _=>by rw[h]) (fun h _=>by rw[h])
def V75_0:Y×Int×Int×Int→E:=fun(s,c,n,i)=> [S s,C8 c,I n,I i]
def B75_0:Y×Int×Int×Int→O:=fun _=> []
def S75_0:LSpec (Y×Int×Int×Int) where
 live:=[0,1,5,6]
 mid:=[]
 n:=60
 dec vs bs:=match vs,bs with | [.string s,.int .u8 c,.int .i64 n,.int .i64 i],[]=>some (s,c,n,i) | _,_=>none
 pre:=fun(s,c,n,i)=>decide (0≤i∧i≤s.size∧s.size≤9223372036854775807∧0≤n∧n≤i)
 fin:=fun(s,c,n,i) Z=>Z (.exit 0) [S s,C8 c,I (n+cntZ ((bz s).drop i.toNat) c),I s.size] []
def bk(a:Y)(c:E)(b:Value):E:= .string a::b::c
def az(a b:Int):E:=[ak a,ak b]
def fu(c:Bool)(a:Y)(b:Int)(d e:Prop):Prop:=bif bq a b then av c d e else False
def cq(a b:Int):E:=ak a::bp b
theorem r75_0(s:Y)(c:Int)(n:Int)(i:Int)(jk:Tmps)(R:Exit→E→O→Prop):(jbp Tryz.prog G0 noL Tryz.f199.ntmps (ja6 Tryz.f199 0) (tl S75_0.live (V75_0 (s,c,n,i)) jk) (ml S75_0.mid (B75_0 (s,c,n,i))) S75_0.n fun e t' m' _=>R e (List.map t' S75_0.live) (List.map m' S75_0.mid))=(bif dw s i then fu (ar s i c) s i (R .normal (bk s (bu n::bp i) (al c)) []) (R .normal (bk s (cq n i) (al c)) [])else R (.exit 0) (bk s (az n i) (al c)) []):=by kernel_rfl
theorem l75_0:LOKf Tryz.prog (oneL 0 S75_0.h) Tryz.f199:=by
 refine jbe (h:=S75_0.h) (by kernel_rfl) (ja7 ok_G0 hmix (by kernel_rfl) (ja1 _) S75_0 V75_0 B75_0 (fun(s,c,n,i)=>(s.size-i).toNat) ?_ ?_ ?_)
 ·intro vs bs s h;simp only[S75_0]at h;split at h
  all_goals first | (cases h;exact⟨rfl,rfl⟩) | cases h
 ·exact fun _ _ _ h=>h
 ·intro⟨s,c,n,i⟩ jk Z hp hf;rw[r75_0];delta bk al ak az av am bq fu au bu bp cq ax ar dw;simp only[S75_0]at hp hf;simp only[jae]at hp;apply cond_intro<;>intro h
  ·have h:=jab h;rw[jb4 hp.1 h]at hf;refine c_t (jaa (by omega)) ?_;simp only[cntZ,List.filter_cons]at hf;apply cond_intro<;>intro hb
   ·rw[hb]at hf;rw[w64 (n:=n+1) (by omega),w64 (by omega)];refine⟨(s,c,n+1,i+1),rfl,rfl,by simp only[S75_0,jae];omega,by simp only;omega,?_⟩;simp only[S75_0,cntZ];simp only[if_true,List.length_cons]at hf;rw[show n+1+((List.filter (fun x=>x==c) (List.drop (Int.toNat (i+1)) (bz s))).length:Int)=n+((List.filter (fun x=>x==c) (List.drop (Int.toNat (i+1)) (bz s))).length+1:Nat)by omega];exact hf
   ·rw[hb]at hf;rw[w64 (by omega)];exact⟨(s,c,n,i+1),rfl,rfl,by simp only[S75_0,jae];omega,by simp only;omega,hf⟩
  ·have h:=jac h;rw[jce (by omega)]at hf;obtain rfl:i=s.size:=by omega
   simp only[cntZ,List.filter_nil,List.length_nil]at hf;rw[show n+((0:Nat):Int)=n by omega]at hf;exact hf
def s75(s:Y)(c:U8):Bool×Value:=(decide (s.size≤9223372036854775807),.int .i64 (cntZ (bz s) c.n))
theorem fn75:Fn1 Tryz.prog 199 Tryz.f199:= .m Tryz.func199
def go(a:Bool)(c:Prop)(b:Type):Prop:=bif a then b→c else False
theorem v75(s:Y)(c:U8)(R:Value→Prop):jaz Tryz.prog G0 (oneL 0 S75_0.h) Tryz.f199 [Enc.enc s,Enc.enc c] (fun _=>none) 0 (fun v _ _=>R v)=(go (S75_0.pre (s,(U8.n c,((0:Int),(0:Int))))) (R (I (0+(cntZ (dq s 0) (U8.n c):Int)))) Tmps):=by kernel_rfl
theorem ok75:jam Tryz.prog 199 (sp2 s75):=by
 refine jcj ok_G0 hmix fn75 l75_0 jag fun s c hc=> ?_
 rw[ja0,v75];delta go dq;have hc:(s.size≤9223372036854775807):=jab hc;dsimp only[s75];refine c_t (by simp only[S75_0,jae];omega) ?_;rw[show List.drop (Int.toNat 0) (bz s)=bz s from rfl,Int.zero_add];exact fun _=>rfl
def rep1(c:Int)(n:Nat):J:=List.replicate n c
theorem jhw(c:Int)(n:Nat):[c]++rep1 c n=rep1 c (n+1):=rfl
def V57_0:Int×Int×E×Nat×Nat×Int→E:=fun(c,n,d,m,cap,i)=> [C8 c,I n,.slice (some ⟨200,0,some 1⟩) m cap,I i]
def B57_0:Int×Int×E×Nat×Nat×Int→O:=fun(c,n,d,m,cap,i)=> [some ⟨d,5,true⟩]
def S57_0:LSpecA (Int×Int×E×Nat×Nat×Int) where
 live:=[0,1,5,6]
 mid:=[200]
 n:=210
 ap:=[(.tmp 5,200)]
 dec vs bs:=match vs,bs with | [.int .u8 c,.int .i64 n,.slice (some ⟨200,0,some 1⟩) m cap,.int .i64 i],[some ⟨d,5,true⟩]=>some (c,n,d,m,cap,i) | _,_=>none
 pre:=fun(c,n,d,m,cap,i)=>jcm d m cap&&decide (0≤i∧i≤n∧n≤1000∧i=m)
 fin:=fun(c,n,d,m,cap,i) Z=>∀d' cap',jcm d' n.toNat cap'=true→zc d' n.toNat=zc d m++rep1 c (n-i).toNat→Z (.exit 0) [C8 c,I n,.slice (some ⟨200,0,some 1⟩) n.toNat cap',I n] [some ⟨d',5,true⟩]
def fv(a:Bool)(b:Exit→E→O→Prop)(h:O)(f:E)(c:Nat)(g:Option Blk)(d e:Value):Prop:=bif a then b (.exit c) (d::e::f) (g::h)else False
def e8(a:List (Prod Nat Nat))(b:E):Option Blk:=some (.mk (rlbL a b) 5 true)
def ij:List (Prod Nat Nat):=[(200,200)]
def bv(a b c:Nat):Value:= .slice (some (.mk a 0 (some 1))) b c
def gv(c:E)(a b:Nat):Bool:=jav [(a,b)] c&&true&&true
def jh(a:E)(b c:Nat):Bool:=a.length.beq (b*1) &&c.ble b&&b.ble 9223372036854775807&&true
def ie(a:E)(b c d:Nat):Bool:=jh a b c&&jb0 (c+1) d
def kv(a:E)(b c:Nat)(d:Prop):Prop:=bif ie a b c 1 then d else False
def bm(a:Bool)(b:Exit→E→O→Prop)(d:O)(c:E):Prop:=bif a then b .normal c d else False
def e7(b:E)(a:Nat):E:=b.take (a*1)
def n7(e:Int)(d f:E)(a b c:Nat):Bool:=jav [(a,b)] (e7 d c++ [al e]++f) &&true
def iy(a:E)(b c d:Nat):Prop:=jay a b c d=true
def py(g:Exit→E→O→Prop)(f l:Int)(k:IntKind)(e m:E)(a c d:Nat)(h i j:Value):Prop:=∀b:E,iy b a (c+1) 1→bm (n7 f e b d 200 c&&true) g [e8 [(d,200)] (e7 e c++ [al f]++b)] (h::i::j:: .int k l::m)
def ct(a b:Int):Bool:=decide (a<b)
theorem r57_0(c:Int)(n:Int)(d:E)(m:Nat)(cap:Nat)(i:Int)(jk:Tmps)(R:Exit→E→O→Prop):(jbp Tryz.prog G0 noL Tryz.f229.ntmps (ja6 Tryz.f229 0) (tl S57_0.live (V57_0 (c,n,d,m,cap,i)) jk) (ml S57_0.mid (B57_0 (c,n,d,m,cap,i))) S57_0.n fun e t' m' _=>S57_0.out R e t' m')=(bif ct i n then kv d cap m (∀a:Nat,py R c (au i) .i64 d [] a m 216 (al c) (ak n) (bv 200 (m+1) a))else fv (gv d 200 200) R [] [bv 200 m cap,ak i] 0 (e8 ij d) (al c) (ak n)):=by kernel_rfl
theorem l57_0:LOKf Tryz.prog (oneL 0 S57_0.hA) Tryz.f229:=by
 refine jbe (h:=S57_0.hA) (by kernel_rfl) (jbv ok_G0 hmix (by kernel_rfl) (ja1 _) S57_0 V57_0 B57_0 (fun(c,n,d,m,cap,i)=>(n-i).toNat) ?_ ?_ ?_)
 ·intro vs bs s h;simp only[S57_0]at h;split at h
  all_goals first | (cases h;exact⟨rfl,rfl⟩) | cases h
 ·exact fun⟨c,n,d,m,cap,i⟩ hp=>by
   simp only[S57_0,jaf]at hp;simp[V57_0,B57_0,S57_0,ja3,jb2,idsL,ids,jaq (jat.1 hp.1).plain]
 ·intro⟨c,n,d,m,cap,i⟩ jk Z hp hf;rw[r57_0];delta fv ak al e8 ij bv gv jh ie kv bm e7 n7 iy py au ct;simp only[S57_0]at hp hf;simp only[jaf,jae]at hp;obtain⟨hr,hp⟩:=hp;have hr:=jat.1 hr;apply cond_intro<;>intro h
  ·have h:=jab h;refine c_t (hr.ask (by omega)) (fun cap1 tail ht=> ?_);obtain⟨h1,h2⟩:=hr.app1 c ht;refine c_t (by rw[h1.good];rfl) ?_;rw[h1.rlb,w64 (by omega)];refine⟨(c,n,_,m+1,cap1,i+1),rfl,rfl,by simp only[S57_0,jaf,jae];exact⟨jat.2 h1,by omega⟩,by simp only;omega,?_⟩;intro d' cap' g1 g2;refine hf d' cap' g1 ?_;rw[g2,h2,show(n-i).toNat=(n-(i+1)).toNat+1 by omega,←jhw,List.append_assoc]
  ·have h:=jac h;refine c_t (by rw[hr.good];rfl) ?_;rw[hr.rlb];obtain rfl:i=n:=by omega
   have e:i.toNat=m:=by omega
   have:=hf d cap (by rw[e];exact jat.2 hr) (by rw[e];simp[rep1]);rw[e]at this;exact this
def s57(c:U8)(n:Int):Bool×Value:=(decide (0≤n∧n≤1000),.string (sz (rep1 c.n n.toNat)))
theorem fn57:Fn1 Tryz.prog 229 Tryz.f229:= .m Tryz.func229
def kp(c:Bool)(b:E)(a:Nat)(d:Prop):Prop:=bif ja3 a b&&c then Tmps→d else False
def ay(a:Bool)(c:Value)(b:Value→Prop):Prop:=bif a then b c else False
def ly(h:Bool)(d e:J)(a g:E)(b c f:Nat)(i:Value→Prop):Prop:=jcm a b c=true→zc a b=d++e→kp h g f (ay (jbf a 0 b) (.string (jbb a 0 b)) i)
theorem v57(c:U8)(n:Int)(R:Value→Prop):jaz Tryz.prog G0 (oneL 0 S57_0.hA) Tryz.f229 [Enc.enc c,Enc.enc n] (fun _=>none) 0 (fun v _ _=>R v)=(bif S57_0.toLSpec.pre (U8.n c,(n,(([]:E),(0,(0,(0:Int))))))then∀a:E,∀b:Nat,ly true (zc [] 0) (rep1 (U8.n c) (Int.toNat (n-0))) a a n.toNat b 210 R else False):=by kernel_rfl
theorem ok57:jam Tryz.prog 229 (sp2 s57):=by
 refine jcj ok_G0 hmix fn57 l57_0 jag fun c n hc=> ?_
 rw[ja0,v57];delta kp ay ly;have hc:(0≤n∧n≤1000):=jab hc;dsimp only[s57];refine c_t ?_ (fun d' cap' h1 h2=> ?_)
 ·simp only[S57_0,jaf,jae];exact⟨rfl,by omega⟩
 have h1:=jat.1 h1;refine c_t (by rw[jbj h1.plain];rfl) (fun _=>c_t h1.str.1 ?_);rw[h1.str.2,h2,show(n-0).toNat=n.toNat by omega];rfl
def tenZ(n:Nat):Int:=10^n
theorem jgb(n:Nat):tenZ (n+1)=tenZ n*10:=Int.pow_succ ..
theorem je7{n:Nat}(h:n≤18):1≤tenZ n∧tenZ n≤1000000000000000000:=by
 have:n=0∨n=1∨n=2∨n=3∨n=4∨n=5∨n=6∨n=7∨n=8∨n=9∨n=10∨n=11∨n=12∨n=13∨n=14∨n=15∨n=16∨n=17∨n=18:=by omega
 rcases this with rfl | rfl | rfl | rfl | rfl | rfl | rfl | rfl | rfl | rfl | rfl | rfl | rfl | rfl | rfl | rfl | rfl | rfl | rfl<;>decide
def V52_0:Int×Int×Int→E:=fun(n,t,i)=> [I n,I t,I i]
def B52_0:Int×Int×Int→O:=fun _=> []
def S52_0:LSpec (Int×Int×Int) where
 live:=[0,3,4]
 mid:=[]
 n:=60
 dec vs bs:=match vs,bs with | [.int .i64 n,.int .i64 t,.int .i64 i],[]=>some (n,t,i) | _,_=>none
 pre:=fun(n,t,i)=>decide (0≤i∧i≤n∧n≤18∧t=tenZ i.toNat)
 fin:=fun(n,t,i) Z=>Z (.exit 0) [I n,I (tenZ n.toNat),I n] []
def mw(c:Exit→E→O→Prop)(a b:Int)(f:O)(e h:E)(g:Nat)(d:Value):Prop:=bif ct a b then c .normal (d::e) f else c (.exit g) (d::h) f
def kw(a:Int):Value:= .int .i64 (IntKind.i64.wrap a)
theorem r52_0(n:Int)(t:Int)(i:Int)(jk:Tmps)(R:Exit→E→O→Prop):(jbp Tryz.prog G0 noL Tryz.f271.ntmps (ja6 Tryz.f271 0) (tl S52_0.live (V52_0 (n,t,i)) jk) (ml S52_0.mid (B52_0 (n,t,i))) S52_0.n fun e t' m' _=>R e (List.map t' S52_0.live) (List.map m' S52_0.mid))=(mw R i n [] (kw (t*10)::bp i) (az t i) 0 (ak n)):=by kernel_rfl
theorem l52_0:LOKf Tryz.prog (oneL 0 S52_0.h) Tryz.f271:=by
 refine jbe (h:=S52_0.h) (by kernel_rfl) (ja7 ok_G0 hmix (by kernel_rfl) (ja1 _) S52_0 V52_0 B52_0 (fun(n,t,i)=>(n-i).toNat) ?_ ?_ ?_)
 ·intro vs bs s h;simp only[S52_0]at h;split at h
  all_goals first | (cases h;exact⟨rfl,rfl⟩) | cases h
 ·exact fun _ _ _ h=>h
 ·intro⟨n,t,i⟩ jk Z hp hf;rw[r52_0];delta ct mw ak az au bu bp kw;simp only[S52_0]at hp hf;simp only[jae]at hp;obtain⟨h0,h1,h2,rfl⟩:=hp;have hb:=je7 (n:=i.toNat) (by omega);apply cond_intro<;>intro h
  ·have h:=jab h;have hb2:=je7 (n:=i.toNat+1) (by omega);rw[jgb]at hb2;rw[w64 (n:=i+1) (by omega),w64 (by omega)];refine⟨(n,_,i+1),rfl,rfl,?_,by simp only;omega,hf⟩;simp only[S52_0,jae];exact⟨by omega,by omega,by omega,by rw[show(i+1).toNat=i.toNat+1 by omega,jgb]⟩
  ·have h:=jac h;obtain rfl:i=n:=by omega
   exact hf
def s52(n:Int):Bool×Value:=(decide (0≤n∧n≤18),.int .i64 (tenZ n.toNat))
theorem fn52:Fn1 Tryz.prog 271 Tryz.f271:= .m Tryz.func271
theorem v52(n:Int)(R:Value→Prop):jaz Tryz.prog G0 (oneL 0 S52_0.h) Tryz.f271 [Enc.enc n] (fun _=>none) 0 (fun v _ _=>R v)=(bif LSpec.pre S52_0 (n,1,0)then∀(x:Tmps),R (I (tenZ n.toNat))else False):=by kernel_rfl
theorem ok52:jam Tryz.prog 271 (sp1 s52):=by
 refine jby ok_G0 hmix fn52 l52_0 jag fun n hc=> ?_
 rw[ja0,v52];have hc:(0≤n∧n≤18):=jab hc;dsimp only[s52];refine c_t ?_ (fun _=>rfl);simp only[S52_0,jae];exact⟨by omega,by omega,by omega,rfl⟩
def unK(c:Int):Bool:=hasZ punchedZ c
def unD(c:Int):Int:=if unK c then(idxZ punchedZ c)%10 else 0
def unM(c:Int):Bool:=if unK c then decide (10≤idxZ punchedZ c)else false
def puZ(d:Int)(m:Bool):Int:=if 0≤d∧d≤9 then punchedZ.getD (if m then d+10 else d).toNat 0 else 0
def sgZ(c:Int)(m:Bool):Int:=if c=36 then 36 else if m then(if c=43 then 32 else 45)else if c=45 then 32 else 43
def fmZ(c d:Int)(m:Bool):Int:=if c=89∧d=48 then 32 else if c=84∨(c=73∧m=false)∨(c=82∧m=true)then puZ (d-48) m else d
def letZ(b:Int):Bool:=decide (65≤b∧b≤90∨97≤b∧b≤122)
def oneZ(c b:Int):Bool:=if c=88∨b=32 then true else if c=57 then je3 b else letZ b
theorem dig_cases{d:Int}(h:0≤d∧d≤9):d=0∨d=1∨d=2∨d=3∨d=4∨d=5∨d=6∨d=7∨d=8∨d=9:=by omega
def s29(c:U8):Bool×Value:=(true,.tuple ⟨[.int .i64 (unD c.n),.bool (unM c.n),.bool (unK c.n)]⟩)
theorem fn29:Fn1 Tryz.prog 209 Tryz.f209:= .m Tryz.func209
def du(b:E)(a:Value):Value:= .tuple ⟨a::b⟩
def ik(d:E)(b c:Value)(a:Value→Prop):Prop:=a (du (c::d) b)
def im(a:Bool):E:=[.bool a]
def j5(a c:Bool)(b:Int)(d:Value→Prop):Prop:=ik (im a) (ak b) (.bool c) d
def d6(a:Int)(b:Px.U8):Bool:=a==U8.n b
def lp(a:Int)(b:Value→Prop):Prop:=j5 true false a b
theorem v29(c:U8)(R:Value→Prop):jaz Tryz.prog G0 noL Tryz.f209 [Enc.enc c] (fun _=>none) 0 (fun v _ _=>R v)=(bif d6 123 c then lp 0 R else bif d6 125 c then j5 true true 0 R else bif d6 65 c then lp 1 R else bif d6 74 c then j5 true true 1 R else bif d6 66 c then lp 2 R else bif d6 75 c then j5 true true 2 R else bif d6 67 c then lp 3 R else bif d6 76 c then j5 true true 3 R else bif d6 68 c then lp 4 R else bif d6 77 c then j5 true true 4 R else bif d6 69 c then lp 5 R else bif d6 78 c then j5 true true 5 R else bif d6 70 c then lp 6 R else bif d6 79 c then j5 true true 6 R else bif d6 71 c then lp 7 R else bif d6 80 c then j5 true true 7 R else bif d6 72 c then lp 8 R else bif d6 81 c then j5 true true 8 R else bif d6 73 c then lp 9 R else bif d6 82 c then j5 true true 9 R else j5 false false 0 R):=by kernel_rfl
theorem ok29:jam Tryz.prog 209 (sp1 s29):=by
 refine jby ok_G0 hmix fn29 jak jag fun c hc=> ?_
 rw[ja0,v29];delta du ik ak im j5 d6 lp;dsimp only[s29];obtain⟨c⟩:=c;dsimp only
 repeat' (refine cond_intro (fun h=> ?_) (fun h=> ?_))
 all_goals first
  | (have h:=eq_of_beq h;subst h;rfl)
  | (have hk : unK c = false := by simp_all [unK, hasZ, punchedZ]
     simp[unD,unM,hk])
def s28(c:U8):Bool×Value:=(true,.tuple ⟨[.int .i64 (unD c.n),.bool (unM c.n),.bool (unK c.n)]⟩)
theorem fn28:Fn1 Tryz.prog 248 Tryz.f248:= .m Tryz.func248
def jc(b:Int)(a:Nat)(c:Value→Prop):Prop:=j5 true (decide (a≥10)) b c
theorem v28(c:U8)(R:Value→Prop):jaz Tryz.prog G0 noL Tryz.f248 [Enc.enc c] (fun _=>none) 0 (fun v _ _=>R v)=(bif d6 123 c then jc 0 0 R else bif d6 65 c then jc 1 1 R else bif d6 66 c then jc 2 2 R else bif d6 67 c then jc 3 3 R else bif d6 68 c then jc 4 4 R else bif d6 69 c then jc 5 5 R else bif d6 70 c then jc 6 6 R else bif d6 71 c then jc 7 7 R else bif d6 72 c then jc 8 8 R else bif d6 73 c then jc 9 9 R else bif d6 125 c then jc 0 10 R else bif d6 74 c then jc 1 11 R else bif d6 75 c then jc 2 12 R else bif d6 76 c then jc 3 13 R else bif d6 77 c then jc 4 14 R else bif d6 78 c then jc 5 15 R else bif d6 79 c then jc 6 16 R else bif d6 80 c then jc 7 17 R else bif d6 81 c then jc 8 18 R else bif d6 82 c then jc 9 19 R else j5 false false 0 R):=by kernel_rfl
theorem ok28:jam Tryz.prog 248 (sp1 s28):=by
 refine jby ok_G0 hmix fn28 jak jag fun c hc=> ?_
 rw[ja0,v28];delta du ik ak im j5 jc d6;dsimp only[s28];obtain⟨c⟩:=c;dsimp only
 repeat' (refine cond_intro (fun h=> ?_) (fun h=> ?_))
 all_goals first
  | (have h:=eq_of_beq h;subst h;rfl)
  | (have hk : unK c = false := by simp_all [unK, hasZ, punchedZ]
     simp[unD,unM,hk])
def s27(d:Int)(m:Bool):Bool×Value:=(true,.tuple ⟨[.int .u8 (puZ d m),.bool (decide (0≤d∧d≤9))]⟩)
theorem fn27:Fn1 Tryz.prog 289 Tryz.f289:= .m Tryz.func289
def bw(a b c:Bool)(d e:Prop):Prop:=bif a || b then av c d e else False
def ou(a:Bool)(b:Int)(c:Value→Prop):Prop:=bif a then ik [] (al b) (.bool true) c else False
def b6(a b:Int):Bool:=decide (0≤a∧a<b)
def d7(a:Int):Bool:=decide (a<0)
theorem v27(d:Int)(m:Bool)(R:Value→Prop):jaz Tryz.prog G0 noL Tryz.f289 [Enc.enc d,Enc.enc m] (fun _=>none) 0 (fun v _ _=>R v)=(bw (d7 d) true (d7 d || decide (d>9)) (ik [] (al 0) (B false) R) (bif m then ou (b6 d 10) (jaj ⟨#[125,74,75,76,77,78,79,80,81,82]⟩ d.toNat) R else ou (b6 d 10) (jaj ⟨#[123,65,66,67,68,69,70,71,72,73]⟩ d.toNat) R)):=by kernel_rfl
theorem ok27:jam Tryz.prog 289 (sp2 s27):=by
 refine jcj ok_G0 hmix fn27 jak jag fun d m hc=> ?_
 rw[ja0,v27];delta av bw du ik al ou b6 d7;dsimp only[s27];refine c_t (by simp) ?_;apply cond_intro<;>intro h
 ·have h:¬(0≤d∧d≤9):=by
   simp only[Bool.or_eq_true,jae]at h;omega
  simp[puZ,h]
 ·have h:0≤d∧d≤9:=by
   simp only[Bool.or_eq_false_iff,decide_eq_false_iff_not]at h;omega
  rcases dig_cases h with rfl | rfl | rfl | rfl | rfl | rfl | rfl | rfl | rfl | rfl<;>cases m<;>exact rfl
def s26(d:Int)(m:Bool):Bool×Value:=(true,.tuple ⟨[.int .u8 (puZ d m),.bool (decide (0≤d∧d≤9))]⟩)
theorem fn26:Fn1 Tryz.prog 288 Tryz.f288:= .m Tryz.func288
def gy(a:Int):Nat:=0+a.toNat*1
def fw(b:Int)(a:E):Int:=jau a (gy b)
def pi:E:=[al 123,al 65,al 66,al 67,al 68,al 69,al 70,al 71,al 72,al 73,al 125,al 74,al 75,al 76,al 77,al 78,al 79,al 80,al 81,al 82]
def il(a b:Int):Int:=IntKind.i64.wrap (a+b)
def ki(a:Int):Nat:=0+a.toNat*1
theorem v26(d:Int)(m:Bool)(R:Value→Prop):jaz Tryz.prog G0 noL Tryz.f288 [Enc.enc d,Enc.enc m] (fun _=>none) 0 (fun v _ _=>R v)=(bw (d7 d) true (d7 d || decide (d>9)) (ik [] (al 0) (B false) R) (bif m then bif b6 (il d 10) 20 then ou (jb1 .u8 pi (ki (il d 10))) (fw (il d 10) pi) R else False else bif b6 d 20 then ou (jb1 .u8 pi (gy d)) (fw d pi) R else False)):=by kernel_rfl
theorem ok26:jam Tryz.prog 288 (sp2 s26):=by
 refine jcj ok_G0 hmix fn26 jak jag fun d m hc=> ?_
 rw[ja0,v26];delta av bw du ik al ou gy fw pi b6 il ki d7;dsimp only[s26];refine c_t (by simp) ?_;apply cond_intro<;>intro h
 ·have h:¬(0≤d∧d≤9):=by
   simp only[Bool.or_eq_true,jae]at h;omega
  simp[puZ,h]
 ·have h:0≤d∧d≤9:=by
   simp only[Bool.or_eq_false_iff,decide_eq_false_iff_not]at h;omega
  rcases dig_cases h with rfl | rfl | rfl | rfl | rfl | rfl | rfl | rfl | rfl | rfl<;>cases m<;>exact rfl
def G1:Env:=((Env.nil.add 211 (sp1 s82)).add 202 (sp2 s40)).add 289 (sp2 s27)
theorem ok_G1:jaw Tryz.prog G1:=jai (jai (jai jap ok82) ok40) ok27
def s77(n:Int):Bool×Value:=(decide (-9223372036854775808≤n∧n≤9223372036854775807),.int .u64 n.natAbs)
theorem fn77:Fn1 Tryz.prog 270 Tryz.f270:= .m Tryz.func270
def cm(a b:Int):Int:=IntKind.i64.wrap (a-b)
theorem v77(n:Int)(R:Value→Prop):jaz Tryz.prog G1 noL Tryz.f270 [Enc.enc n] (fun _=>none) 0 (fun v _ _=>R v)=(dx (d7 n) (.int .u64 (aw (IntKind.u64.wrap (cm 0 (au n))+1) .u64)) (.int .u64 (IntKind.u64.wrap n)) R):=by kernel_rfl
theorem ok77:jam Tryz.prog 270 (sp1 s77):=by
 refine jby ok_G1 hmix fn77 jak jag fun n hc=> ?_
 rw[ja0,v77];delta dx aw cm au d7;have hc:(-9223372036854775808≤n∧n≤9223372036854775807):=jab hc;dsimp only[s77];apply cond_intro<;>intro h
 ·have h:=jab h;rw[w64 (n:=n+1) (by omega),w64 (by omega),wu64 (n:=0-(n+1)) (by omega),wu64 (by omega)];congr 1;omega
 ·have h:=jac h;rw[wu64 (by omega)];congr 1;omega
def s58(s:Y):Bool×Value:=(decide (s.size≤9223372036854775807),.int .u8 (if hasZ (bz s) 42 then 42 else 32))
theorem fn58:Fn1 Tryz.prog 259 Tryz.f259:= .m Tryz.func259
def b7(a:Y):Bool:=decide (a.size≤9223372036854775807)
theorem v58(s:Y)(R:Value→Prop):jaz Tryz.prog G1 noL Tryz.f259 [Enc.enc s] (fun _=>none) 0 (fun v _ _=>R v)=(fq (b7 s) (hasZ (bz s) 42) (al 42) (al 32) R):=by kernel_rfl
theorem ok58:jam Tryz.prog 259 (sp1 s58):=by
 refine jby ok_G1 hmix fn58 jak jag fun s hc=> ?_
 rw[ja0,v58];delta dx fq al b7;have hc:(s.size≤9223372036854775807):=jab hc;dsimp only[s58];exact c_t (jaa hc) (by cases hasZ (bz s) 42<;>rfl)
def s85(c:U8)(m:Bool):Bool×Value:=(true,.int .u8 (sgZ c.n m))
theorem fn85:Fn1 Tryz.prog 262 Tryz.f262:= .m Tryz.func262
def jd(b:Int)(a:Px.U8):Bool:=U8.n a==b
theorem v85(c:U8)(m:Bool)(R:Value→Prop):jaz Tryz.prog G1 noL Tryz.f262 [Enc.enc c,Enc.enc m] (fun _=>none) 0 (fun v _ _=>R v)=(bif jd 36 c then R (al 36)else bif m then dx (jd 43 c) (al 32) (al 45) R else dx (jd 45 c) (al 32) (al 43) R):=by kernel_rfl
theorem ok85:jam Tryz.prog 262 (sp2 s85):=by
 refine jcj ok_G1 hmix fn85 jak jag fun c m hc=> ?_
 rw[ja0,v85];delta dx al jd;dsimp only[s85];obtain⟨c⟩:=c;dsimp only;simp only[sgZ];cases m<;>by_cases h1:c=36<;>by_cases h2:c=43<;>by_cases h3:c=45<;>simp[h1,h2,h3]
def s97(c:U8)(d:U8)(m:Bool):Bool×Value:=(decide (48≤d.n∧d.n≤57),.int .u8 (fmZ c.n d.n m))
theorem fn97:Fn1 Tryz.prog 260 Tryz.f260:= .m Tryz.func260
def k9(a:Int):Int:=aw (IntKind.u8.wrap (a-48)) .i64
def br(a b c:Bool):Bool:=bif a then b else c
theorem v97(c:U8)(d:U8)(m:Bool)(R:Value→Prop):jaz Tryz.prog G1 noL Tryz.f260 [Enc.enc c,Enc.enc d,Enc.enc m] (fun _=>none) 0 (fun v _ _=>R v)=(bw (jd 89 c) true (jd 89 c&&jd 48 d) (R (al 32)) (fq (jd 84 c || br (jd 73 c) (!m || (jd 82 c || true)) (jd 82 c || true)) (jd 84 c || br (jd 73 c) (!m || jd 82 c&&m) (jd 82 c&&m)) (.int .u8 (puZ (k9 (U8.n d)) m)) (.int .u8 (U8.n d)) R)):=by kernel_rfl
theorem ok97:jam Tryz.prog 260 (sp3 s97):=by
 refine jgf ok_G1 hmix fn97 jak jag fun c d m hc=> ?_
 rw[ja0,v97];delta av bw dx fq aw k9 br jd al;have hc:(48≤d.n∧d.n≤57):=jab hc;dsimp only[s97];obtain⟨c⟩:=c;obtain⟨d⟩:=d;dsimp only at*;rw[w8 (n:=d-48) (by omega),w64 (by omega)];simp only[fmZ];cases m<;>by_cases h1:c=89<;>by_cases h2:c=84<;>by_cases h3:c=73<;>by_cases h4:c=82<;>by_cases h5:d=48<;>simp[h1,h2,h3,h4,h5]
def s72(c:U8)(b:U8):Bool×Value:=(decide (0≤b.n∧b.n<256),.bool (oneZ c.n b.n))
theorem fn72:Fn1 Tryz.prog 150 Tryz.f150:= .m Tryz.func150
theorem v72(c:U8)(b:U8)(R:Value→Prop):jaz Tryz.prog G1 noL Tryz.f150 [Enc.enc c,Enc.enc b] (fun _=>none) 0 (fun v _ _=>R v)=(bw (jd 88 c) true (jd 88 c || jd 32 b) (R (B true)) (bif jd 57 c then ay (gx (U8.n b) 48) (B (ft (U8.n b) 48 57)) R else ay (b6 (U8.n b) 256&&br (decide (upZ (U8.n b)≥65)) (b6 (U8.n b) 256&&true) true) (B (ft (upZ (U8.n b)) 65 90)) R)):=by kernel_rfl
theorem ok72:jam Tryz.prog 150 (sp2 s72):=by
 refine jcj ok_G1 hmix fn72 jak jag fun c b hc=> ?_
 rw[ja0,v72];delta av bw ay e9 ft br b6 gx jd;have hc:(0≤b.n∧b.n<256):=jab hc;dsimp only[s72];obtain⟨hb0,hb1⟩:=hc;obtain⟨c⟩:=c;obtain⟨b⟩:=b;dsimp only at*
 have hl:(decide (upZ b≥65) &&decide (upZ b≤90))=letZ b:=by
  rw[Bool.eq_iff_iff];simp only[letZ,jaf,jae];unfold upZ;by_cases hq:97≤b∧b≤122
  ·simp only[if_pos hq];constructor<;>intro h<;>omega
  ·simp only[if_neg hq];constructor<;>intro h<;>omega
 have hd:(decide (b≥48) &&decide (b≤57))=je3 b:=by
  rw[Bool.eq_iff_iff];simp only[je3,jaf,jae]
  try omega
 rw[hl,hd]
 all_goals (by_cases h1:c=88<;>by_cases h2:b=32<;>by_cases h3:c=57<;>simp_all[oneZ])
def G2:Env:=(Env.nil.add 202 (sp2 s40)).add 199 (sp2 s75)
theorem ok_G2:jaw Tryz.prog G2:=jai (jai jap ok40) ok75
def drGo(s:J):J→Int
 | []=>0
 | c::r=>if hasZ [36,83,43,45] c=true∧2≤cntZ s c then c else drGo s r
def drZ(s:J):Int:=drGo s s
def je6(s:J):Bool:=s.all (fun c=>hasZ [65,88,57] c) && (hasZ s 65 || hasZ s 88)
def crZ(s:J):Bool:=decide (2≤s.length) && (decide (s.drop (s.length-2)=[67,82]) || decide (s.drop (s.length-2)=[68,66]))
theorem has_dr{c:Int}:hasZ [36,83,43,45] c=true↔c=36∨c=83∨c=43∨c=45:=by simp[jbm]
theorem jdh(l:J):List.drop (Int.toNat 0) l=l:=rfl
def V96_0:Y×Int×Int→E:=fun(s,b,i)=> [S s,C8 b,I i]
def B96_0:Y×Int×Int→O:=fun _=> []
def S96_0:LSpec (Y×Int×Int) where
 live:=[0,2,3]
 mid:=[]
 n:=60
 dec vs bs:=match vs,bs with | [.string s,.int .u8 b,.int .i64 i],[]=>some (s,b,i) | _,_=>none
 pre:=fun(s,b,i)=>decide (0≤i∧i≤s.size∧s.size≤9223372036854775807)
 fin:=fun(s,b,i) Z=>(bif drGo (bz s) ((bz s).drop i.toNat)==0 then Z (.exit 0) [S s,C8 b,I s.size] []else(∀i',Z .ret [S s,C8 (drGo (bz s) ((bz s).drop i.toNat)),I i'] []))
def jj(d:Y)(e:Int)(c:Yb)(a b:UInt8):Bool:=hasZ (bz ⟨(a::b::c).toArray⟩) (ax d e)
def kx(c f:Bool)(a d:Y)(b e:Int):Bool:=bq a b&&br c (bq d e&&f) true
theorem r96_0(s:Y)(b:Int)(i:Int)(jk:Tmps)(R:Exit→E→O→Prop):(jbp Tryz.prog G2 noL Tryz.f242.ntmps (ja6 Tryz.f242 0) (tl S96_0.live (V96_0 (s,b,i)) jk) (ml S96_0.mid (B96_0 (s,b,i))) S96_0.n fun e t' m' _=>R e (List.map t' S96_0.live) (List.map m' S96_0.mid))=(bif dw s i then bif kx (jj s i [43,45] 36 83) (b7 s&&true) s s i i then bif jj s i [43,45] 36 83&&decide ((cntZ (bz s) (ax s i):Int)≥2)then bif bq s i then R .ret (bk s [ak i] (.int .u8 (ax s i))) []else False else R .normal (bk s (bp i) (al b)) []else False else R (.exit 0) (bk s [ak i] (al b)) []):=by kernel_rfl
theorem l96_0:LOKf Tryz.prog (oneL 0 S96_0.h) Tryz.f242:=by
 refine jbe (h:=S96_0.h) (by kernel_rfl) (ja7 ok_G2 hmix (by kernel_rfl) (ja1 _) S96_0 V96_0 B96_0 (fun(s,b,i)=>(s.size-i).toNat) ?_ ?_ ?_)
 ·intro vs bs s h;simp only[S96_0]at h;split at h
  all_goals first | (cases h;exact⟨rfl,rfl⟩) | cases h
 ·exact fun _ _ _ h=>h
 ·intro⟨s,b,i⟩ jk Z hp hf;rw[r96_0];delta bk al ak au bu bp ax am bq jj br kx b7 dw;simp only[S96_0]at hp hf;simp only[jae]at hp;apply cond_intro<;>intro h
  ·have h:=jab h;rw[jb4 hp.1 h]at hf;have h1:decide (0≤i∧i<(s.size:Int))=true:=jaa (by omega);have h2:decide (s.size≤9223372036854775807)=true:=jaa (by omega);have k:bz ⟨#[36,83,43,45]⟩=[36,83,43,45]:=rfl;rw[k];refine c_t (by rw[h1,h2];cases hasZ [36,83,43,45] (jaj s i.toNat) <;>rfl) ?_;rw[drGo]at hf;refine cond_intro (fun hd=>c_t h1 ?_) (fun hd=> ?_)
   ·simp only[jaf,jae]at hd
    have hne:(jaj s i.toNat==0)=false:=by
     have:=has_dr.1 hd.1;simp only[beq_eq_false_iff_ne];omega
    rw[if_pos ⟨hd.1,by omega⟩,hne]at hf;exact hf i
   ·have hd':¬(hasZ [36,83,43,45] (jaj s i.toNat)=true∧2≤cntZ (bz s) (jaj s i.toNat)):=by
     rintro ⟨q1,q2⟩;rw[q1,Bool.true_and,decide_eq_false_iff_not]at hd;omega
    rw[if_neg hd']at hf;rw[w64 (by omega)];exact⟨(s,b,i+1),rfl,rfl,by simp only[S96_0,jae];omega,by simp only;omega,hf⟩
  ·have h:=jac h;rw[jce (by omega)]at hf;obtain rfl:i=s.size:=by omega
   exact hf
def s96(s:Y):Bool×Value:=(decide (s.size≤9223372036854775807),.int .u8 (drZ (bz s)))
theorem fn96:Fn1 Tryz.prog 242 Tryz.f242:= .m Tryz.func242
theorem v96(s:Y)(R:Value→Prop):jaz Tryz.prog G2 (oneL 0 S96_0.h) Tryz.f242 [Enc.enc s] (fun _=>none) 0 (fun v _ _=>R v)=(ip (S96_0.pre (s,((0:Int),(0:Int)))) (drGo (bz s) (dq s 0)==0) (Tmps→R (al 0)) (Int→Tmps→R (.int .u8 (drGo (bz s) (dq s 0))))):=by kernel_rfl
theorem ok96:jam Tryz.prog 242 (sp1 s96):=by
 refine jby ok_G2 hmix fn96 l96_0 jag fun s hc=> ?_
 rw[ja0,v96];delta av ip dq al;have hc:(s.size≤9223372036854775807):=jab hc;dsimp only[s96];refine c_t (by simp only[S96_0,jae];omega) ?_;rw[jdh];refine cond_intro (fun h _=> ?_) (fun h _ _=>rfl);rw[drZ,eq_of_beq h]
def V73_0:Y×Bool×Int→E:=fun(s,b,i)=> [S s,B b,I i]
def B73_0:Y×Bool×Int→O:=fun _=> []
def S73_0:LSpec (Y×Bool×Int) where
 live:=[0,2,3]
 mid:=[]
 n:=60
 dec vs bs:=match vs,bs with | [.string s,.bool b,.int .i64 i],[]=>some (s,b,i) | _,_=>none
 pre:=fun(s,b,i)=>decide (0≤i∧i≤s.size∧s.size≤9223372036854775807)
 fin:=fun(s,b,i) Z=>(bif ((bz s).drop i.toNat).all (fun c=>hasZ [65,88,57] c)then Z (.exit 0) [S s,B b,I s.size] []else(∀i',Z .ret [S s,B false,I i'] []))
theorem r73_0(s:Y)(b:Bool)(i:Int)(jk:Tmps)(R:Exit→E→O→Prop):(jbp Tryz.prog G2 noL Tryz.f197.ntmps (ja6 Tryz.f197 0) (tl S73_0.live (V73_0 (s,b,i)) jk) (ml S73_0.mid (B73_0 (s,b,i))) S73_0.n fun e t' m' _=>R e (List.map t' S73_0.live) (List.map m' S73_0.mid))=(lc (bq s i) (!jj s i [57] 65 88) s s R i [] (bp i) [ak i] (B false) (ak i) (B b)):=by kernel_rfl
theorem l73_0:LOKf Tryz.prog (oneL 0 S73_0.h) Tryz.f197:=by
 refine jbe (h:=S73_0.h) (by kernel_rfl) (ja7 ok_G2 hmix (by kernel_rfl) (ja1 _) S73_0 V73_0 B73_0 (fun(s,b,i)=>(s.size-i).toNat) ?_ ?_ ?_)
 ·intro vs bs s h;simp only[S73_0]at h;split at h
  all_goals first | (cases h;exact⟨rfl,rfl⟩) | cases h
 ·exact fun _ _ _ h=>h
 ·intro⟨s,b,i⟩ jk Z hp hf;rw[r73_0];delta kj am dw lc ak au bu bp ax jj bq;simp only[S73_0]at hp hf;simp only[jae]at hp;apply cond_intro<;>intro h
  ·have h:=jab h;rw[jb4 hp.1 h,List.all_cons]at hf;have k:bz ⟨#[65,88,57]⟩=[65,88,57]:=rfl;rw[k];refine c_t (jaa (by omega)) ?_;apply cond_intro<;>intro hd
   ·simp only[Bool.not_eq_true']at hd;rw[hd]at hf;exact hf i
   ·simp only[Bool.not_eq_false']at hd;rw[hd,Bool.true_and]at hf;rw[w64 (by omega)];exact⟨(s,b,i+1),rfl,rfl,by simp only[S73_0,jae];omega,by simp only;omega,hf⟩
  ·have h:=jac h;rw[jce (by omega)]at hf;obtain rfl:i=s.size:=by omega
   exact hf
def s73(s:Y):Bool×Value:=(decide (s.size≤9223372036854775807),.bool (je6 (bz s)))
theorem fn73:Fn1 Tryz.prog 197 Tryz.f197:= .m Tryz.func197
theorem v73(s:Y)(R:Value→Prop):jaz Tryz.prog G2 (oneL 0 S73_0.h) Tryz.f197 [Enc.enc s] (fun _=>none) 0 (fun v _ _=>R v)=(ip (S73_0.pre (s,(false,(0:Int)))) ((dq s 0).all (fun a:Int=>hasZ [65,88,57] a)) (Tmps→ay (b7 s&& (hasZ (bz s) 65 || b7 s&&true)) (B (hasZ (bz s) 65 || hasZ (bz s) 88)) R) (Int→ji false R)):=by kernel_rfl
theorem ok73:jam Tryz.prog 197 (sp1 s73):=by
 refine jby ok_G2 hmix fn73 l73_0 jag fun s hc=> ?_
 rw[ja0,v73];delta av ip ji ay b7 dq;have hc:(s.size≤9223372036854775807):=jab hc;dsimp only[s73];refine c_t (by simp only[S73_0,jae];omega) ?_;rw[jdh];refine cond_intro (fun h _=>c_t (by rw[jaa hc];cases hasZ (bz s) 65<;>rfl) ?_) (fun h _ _=> ?_)
 ·simp only[je6,h,Bool.true_and]
 ·simp only[je6,h,Bool.false_and]
def s101(s:Y):Bool×Value:=(decide (s.size≤9223372036854775807),.bool (crZ (bz s)))
theorem fn101:Fn1 Tryz.prog 238 Tryz.f238:= .m Tryz.func238
def ov(a b c d:Bool)(e:Value→Prop):Prop:=ay (br a (b&&c) true) (.bool (a&&d)) e
def b5(a b:Y):Bool:=a.toList==b.toList
def jl(a:Y)(b:Int):Y:=a.extract b.toNat a.size
def gq(a:Y)(b:Int):Int:=aw (am a-b) .i64
def d5(a b c d e:Int):Bool:=decide (a≤b∧b≤c∧d≤e)
theorem v101(s:Y)(R:Value→Prop):jaz Tryz.prog G2 noL Tryz.f238 [Enc.enc s] (fun _=>none) 0 (fun v _ _=>R v)=(ov (decide (am s≥2)) (d5 0 (gq s 2) (am s) (am s) (am s)) (b5 (jl s (gq s 2)) ⟨#[67,82]⟩ || d5 0 (gq s 2) (am s) (am s) (am s) &&true) (b5 (jl s (gq s 2)) ⟨#[67,82]⟩ || b5 (jl s (gq s 2)) ⟨#[68,66]⟩) R):=by kernel_rfl
theorem ok101:jam Tryz.prog 238 (sp1 s101):=by
 refine jby ok_G2 hmix fn101 jak jag fun s hc=> ?_
 rw[ja0,v101];delta ay br ov b5 jl aw am gq d5;have hc:(s.size≤9223372036854775807):=jab hc;dsimp only[s101];have e:((s.size:Int)-2).toNat=s.size-2:=by omega
 have ex:bz (s.extract (s.size-2) s.size)=(bz s).drop (s.size-2):=by rw[jb7,List.take_of_length_le (by rw[jal];omega)]
 have k1:bz ⟨#[67,82]⟩=[67,82]:=rfl;have k2:bz ⟨#[68,66]⟩=[68,66]:=rfl;rw[w64 (by omega),e,jcv,jcv,ex,k1,k2];by_cases h2:2≤s.size
 ·have d1:decide ((s.size:Int)≥2)=true:=jaa (by omega);have d2:decide (0≤(s.size:Int)-2∧(s.size:Int)-2≤s.size∧(s.size:Int)≤s.size)=true:=jaa (by omega);rw[d1,d2];refine c_t (by simp) ?_;simp[crZ,h2]
 ·have d1:decide ((s.size:Int)≥2)=false:=jad (by omega);rw[d1];refine c_t rfl ?_;simp[crZ,h2]
def cdGo:J→Int→Int→Bool×Int×Int
 | [],n,i=>(true,n,i)
 | c::r,n,i=>if je3 c=true then(if 1≤n*10+(c-48)∧n*10+(c-48)≤32 then cdGo r (n*10+(c-48)) (i+1)else(false,0,0))else(true,n,i)
def ctP(l:J)(i:Int):Prop:=(cdGo (l.drop i.toNat) 0 i).1=true∧1≤(cdGo (l.drop i.toNat) 0 i).2.1∧(cdGo (l.drop i.toNat) 0 i).2.2<l.length∧l.getD (cdGo (l.drop i.toNat) 0 i).2.2.toNat 0=41
instance (l:List Int)(i:Int):Decidable (ctP l i):=by unfold ctP;infer_instance
def ctZ(l:J)(i:Int):Int×Int:=if ctP l i then((cdGo (l.drop i.toNat) 0 i).2.1,(cdGo (l.drop i.toNat) 0 i).2.2+1)else(0,0)
theorem jhk:∀(l:J)(n i:Int),0≤n∧n≤32→(cdGo l n i).1=true→0≤(cdGo l n i).2.1∧(cdGo l n i).2.1≤32∧i≤(cdGo l n i).2.2∧(cdGo l n i).2.2≤i+l.length
 | [],n,i,h,_=>by simp only[cdGo,List.length_nil];omega
 | c::r,n,i,h,hok=>by
  simp only[cdGo]at hok ⊢;split
  ·rename_i hd;rw[if_pos hd]at hok;split
   ·rename_i hq;rw[if_pos hq]at hok;have:=jhk r _ _ (by omega) hok;simp only[List.length_cons];omega
   ·rename_i hq;rw[if_neg hq]at hok;cases hok
  ·simp only[List.length_cons];omega
def V81_0:Y×Int×Int×Int×Int→E:=fun(s,r1,r2,n,i)=> [S s,I r1,I r2,I n,I i]
def B81_0:Y×Int×Int×Int×Int→O:=fun _=> []
def S81_0:LSpec (Y×Int×Int×Int×Int) where
 live:=[0,4,5,6,7]
 mid:=[]
 n:=80
 dec vs bs:=match vs,bs with | [.string s,.int .i64 r1,.int .i64 r2,.int .i64 n,.int .i64 i],[]=>some (s,r1,r2,n,i) | _,_=>none
 pre:=fun(s,r1,r2,n,i)=>decide (0≤i∧i≤s.size∧s.size≤9223372036854775807∧0≤n∧n≤32)
 fin:=fun(s,r1,r2,n,i) Z=>(bif (cdGo ((bz s).drop i.toNat) n i).1 then Z (.exit 0) [S s,I r1,I r2,I (cdGo ((bz s).drop i.toNat) n i).2.1,I (cdGo ((bz s).drop i.toNat) n i).2.2] []else(∀n' i',Z .ret [S s,I 0,I 0,I n',I i'] []))
def jy(a b c d:Bool)(e f:Prop):Prop:=bif br a b c then av d e f else False
def jm(c:Y)(a b d:Int):Int:=IntKind.i64.wrap (IntKind.i64.wrap (a*b)+k9 (ax c d))
def b8(a b:Int):Bool:=decide (a<b)
theorem r81_0(s:Y)(r1:Int)(r2:Int)(n:Int)(i:Int)(jk:Tmps)(R:Exit→E→O→Prop):(jbp Tryz.prog G2 noL Tryz.f237.ntmps (ja6 Tryz.f237 0) (tl S81_0.live (V81_0 (s,r1,r2,n,i)) jk) (ml S81_0.mid (B81_0 (s,r1,r2,n,i))) S81_0.n fun e t' m' _=>R e (List.map t' S81_0.live) (List.map m' S81_0.mid))=(jy (dw s i) (kx (decide (ax s i≥48)) true s s i i) true (dw s i&&ft (ax s i) 48 57) (bif bq s i then bw (b8 (jm s n 10 i) 1) true (b8 (jm s n 10 i) 1 || decide (jm s n 10 i>32)) (R .ret (bk s [ak 0,I (jm s n 10 i),ak i] (ak 0)) []) (R .normal (bk s (ak r2::I (jm s n 10 i)::bp i) (ak r1)) [])else False) (R (.exit 0) (bk s (ak r2::az n i) (ak r1)) [])):=by kernel_rfl
theorem l81_0:LOKf Tryz.prog (oneL 0 S81_0.h) Tryz.f237:=by
 refine jbe (h:=S81_0.h) (by kernel_rfl) (ja7 ok_G2 hmix (by kernel_rfl) (ja1 _) S81_0 V81_0 B81_0 (fun(s,r1,r2,n,i)=>(s.size-i).toNat) ?_ ?_ ?_)
 ·intro vs bs s h;simp only[S81_0]at h;split at h
  all_goals first | (cases h;exact⟨rfl,rfl⟩) | cases h
 ·exact fun _ _ _ h=>h
 ·intro⟨s,r1,r2,n,i⟩ jk Z hp hf;rw[r81_0];delta av br jy bk ak az bw au bu bp aw k9 ax jm b8 am bq e9 ft dw kx;simp only[S81_0]at hp hf;simp only[jae]at hp;have h1:i<(s.size:Int)→decide (0≤i∧i<(s.size:Int))=true:=fun h=>jaa (by omega)
  refine c_t ?_ ?_
  ·by_cases hi:i<(s.size:Int)
   ·rw[jaa hi,h1 hi];cases decide (jaj s i.toNat≥48) <;>rfl
   ·rw[jad hi];rfl
  apply cond_intro<;>intro h
  ·simp only[jaf,jae]at h;obtain⟨hi,hd1,hd2⟩:=h;rw[jb4 hp.1 hi]at hf;refine c_t (h1 hi) (c_t (by simp) ?_);have hdig:je3 (jaj s i.toNat)=true:=jaa (by omega);rw[cdGo,if_pos hdig]at hf;rw[w8 (n:=jaj s i.toNat-48) (by omega),w64 (n:=jaj s i.toNat-48) (by omega),w64 (n:=n*10) (by omega),w64 (n:=n*10+(jaj s i.toNat-48)) (by omega)];apply cond_intro<;>intro hd
   ·simp only[Bool.or_eq_true,jae]at hd;rw[if_neg (by omega)]at hf;exact hf _ i
   ·simp only[Bool.or_eq_false_iff,decide_eq_false_iff_not]at hd;rw[if_pos (by omega)]at hf;rw[w64 (by omega)];exact⟨(s,r1,r2,_,i+1),rfl,rfl,by simp only[S81_0,jae];omega,by simp only;omega,hf⟩
  ·by_cases hi:i<(s.size:Int)
   ·rw[jaa hi,Bool.true_and]at h
    have hdig:¬je3 (jaj s i.toNat)=true:=by
     intro hq;have:=jab hq;rw[jaa (by omega),jaa (by omega)]at h;cases h
    rw[jb4 hp.1 hi,cdGo,if_neg hdig]at hf;exact hf
   ·rw[jce (by omega)]at hf;exact hf
def s81(s:Y)(i:Int):Bool×Value:=(decide (0≤i∧i≤s.size∧s.size≤9223372036854775807),.tuple ⟨[.int .i64 (ctZ (bz s) i).1,.int .i64 (ctZ (bz s) i).2]⟩)
theorem fn81:Fn1 Tryz.prog 237 Tryz.f237:= .m Tryz.func237
def jz(a:Prop):Prop:=Int→Int→a
def ep(a:Int):Value:= .int .i64 (aw a .i64)
def me(a:Y)(b:Int):Prod Int Int:=(cdGo (dq a b) 0 b).snd
theorem v81(s:Y)(i:Int)(R:Value→Prop):jaz Tryz.prog G2 (oneL 0 S81_0.h) Tryz.f237 [Enc.enc s,Enc.enc i] (fun _=>none) 0 (fun v _ _=>R v)=(ip (S81_0.pre (s,((0:Int),((0:Int),((0:Int),i))))) (cdGo (dq s i) 0 i).fst (Tmps→bw (b8 (me s i).fst 1) (decide ((me s i).snd≥am s) || b6 (me s i).snd (am s) &&true) (b8 (me s i).fst 1 || (decide ((me s i).snd≥am s) || jaj s (me s i).snd.toNat !=41)) (ik [] (ak 0) (ak 0) R) (ik [] (I (me s i).fst) (ep ((me s i).snd+1)) R)) (jz (Tmps→ik [] (ak 0) (ak 0) R))):=by kernel_rfl
theorem ok81:jam Tryz.prog 237 (sp2 s81):=by
 refine jcj ok_G2 hmix fn81 l81_0 jag fun s i hc=> ?_
 rw[ja0,v81];delta av ip jz du ik ak bw aw ep dq me am b8 b6;have hc:(0≤i∧i≤s.size∧s.size≤9223372036854775807):=jab hc;dsimp only[s81];refine c_t (by simp only[S81_0,jae];omega) ?_;refine cond_intro (fun h _=> ?_) (fun h _ _ _=> ?_)
 ·have hr:=jhk ((bz s).drop i.toNat) 0 i (by omega) h;rw[List.length_drop,jal]at hr
  have hP:ctP (bz s) i↔1≤(cdGo ((bz s).drop i.toNat) 0 i).2.1∧(cdGo ((bz s).drop i.toNat) 0 i).2.2<s.size∧jaj s (cdGo ((bz s).drop i.toNat) 0 i).2.2.toNat=41:=by
   simp only[ctP,h,true_and,jal,jep]
  have hz:ctZ (bz s) i=if ctP (bz s) i then((cdGo ((bz s).drop i.toNat) 0 i).2.1,(cdGo ((bz s).drop i.toNat) 0 i).2.2+1)else(0,0):=rfl
  rw[hz];generalize cdGo ((bz s).drop i.toNat) 0 i=q at*;refine c_t ?_ (cond_intro (fun hd=> ?_) (fun hd=> ?_))
  ·by_cases h1:q.2.2<s.size
   ·rw[jaa (p:=0≤q.2.2∧q.2.2<(s.size:Int)) (by omega)];simp
   ·rw[jaa (p:=q.2.2≥(s.size:Int)) (by omega)];simp
  ·have hn:¬ctP (bz s) i:=by
    rw[hP];simp only[Bool.or_eq_true,jae,bne_iff_ne,ne_eq]at hd;omega
   rw[if_neg hn]
  ·have hn:ctP (bz s) i:=by
    rw[hP];simp only[Bool.or_eq_false_iff,decide_eq_false_iff_not,bne_eq_false_iff_eq]at hd;omega
   have:=hP.1 hn;rw[if_pos hn,w64 (by omega)]
 ·have hn:¬ctP (bz s) i:=fun hq=>by rw[hq.1]at h;cases h
  rw[ctZ,if_neg hn]
def kL:J:=[57,86,90,42,89,84,73,82,83,43,45,36,44,46,47,66,67,68,65,88]
def xpGo:J→Int→Int→J→J×Bool
 | [],st,_,out=>(out,decide (st=0))
 | c::r,st,n,out=>
  if st=1 then
   (if c=41 then(if 0<n then xpGo r 2 n out else([],false))
   else if je3 c=true∧ ¬(n=0∧c=48)∧10*n+(c-48)≤32 then xpGo r 1 (10*n+(c-48)) out else([],false))
  else if c=41∨st=2∧c=40 then([],false)
  else if c=40 then xpGo r 1 0 out
  else if hasZ kL (upZ c)=true∧(out.length:Int)+(if st=2 then n else 1)≤32 then xpGo r 0 0 (out++rep1 (upZ c) (if st=2 then n else 1).toNat)else([],false)
theorem xp_put{c:Int}{r:J}{st n:Int}{out:J}(hs:st=2∨st=0∧c≠40):
  xpGo (c::r) st n out=if hasZ kL (upZ c)=true∧(out.length:Int)+(if st=2 then n else 1)≤32 then xpGo r 0 0 (out++rep1 (upZ c) (if st=2 then n else 1).toNat)else([],false):=by
 rw[xpGo,if_neg (by omega)];by_cases h1:c=41
 ·subst h1;rw[if_pos (.inl rfl),if_neg (by intro h;exact absurd h.1 (by decide))]
 ·by_cases h2:c=40
  ·subst h2;have:st=2:=by omega
   subst this;rw[if_pos (.inr ⟨rfl,rfl⟩),if_neg (by intro h;exact absurd h.1 (by decide))]
  ·rw[if_neg (by omega),if_neg h2]
theorem xp_num:∀(l:J)(n i:Int)(out:J),0≤n∧n≤32→
  if(cdGo l n i).1=true∧1≤(cdGo l n i).2.1∧(l.drop ((cdGo l n i).2.2-i).toNat).head?=some 41 then xpGo l 1 n out=xpGo (l.drop ((cdGo l n i).2.2-i+1).toNat) 2 (cdGo l n i).2.1 out
  else(xpGo l 1 n out).2=false
 | [],n,i,out,_=>by
  rw[if_neg (by simp[cdGo])];rfl
 | c::r,n,i,out,h=>by
  by_cases hd:je3 c=true
  ·have hd':=jab hd;by_cases hq:1≤n*10+(c-48)∧n*10+(c-48)≤32
   ·have e:cdGo (c::r) n i=cdGo r (n*10+(c-48)) (i+1):=by rw[cdGo,if_pos hd,if_pos hq]
    have e2:xpGo (c::r) 1 n out=xpGo r 1 (n*10+(c-48)) out:=by
     rw[xpGo,if_pos rfl,if_neg (by omega),if_pos ⟨hd,by omega,by omega⟩,show 10*n+(c-48)=n*10+(c-48)by omega]
    have ih:=xp_num r (n*10+(c-48)) (i+1) out (by omega);rw[e,e2];by_cases hk:(cdGo r (n*10+(c-48)) (i+1)).1=true
    ·have hr:=jhk r _ (i+1) (by omega) hk;have e3:((cdGo r (n*10+(c-48)) (i+1)).2.2-i).toNat=((cdGo r (n*10+(c-48)) (i+1)).2.2-(i+1)).toNat+1:=by omega
     have e4:((cdGo r (n*10+(c-48)) (i+1)).2.2-i+1).toNat=((cdGo r (n*10+(c-48)) (i+1)).2.2-(i+1)+1).toNat+1:=by omega
     rw[e3,e4,List.drop_succ_cons,List.drop_succ_cons];exact ih
    ·rw[if_neg (fun q=>hk q.1)]at ih ⊢;exact ih
   ·have e:cdGo (c::r) n i=(false,0,0):=by rw[cdGo,if_pos hd,if_neg hq]
    rw[e,if_neg (by simp)];rw[xpGo,if_pos rfl,if_neg (by omega),if_neg (by omega)]
  ·have e:cdGo (c::r) n i=(true,n,i):=by rw[cdGo,if_neg hd]
   rw[e];simp only[Int.sub_self,Int.toNat_zero,List.drop_zero,List.head?_cons,Option.some.injEq,true_and,Int.zero_add,Int.toNat_one,List.drop_succ_cons];rw[xpGo,if_pos rfl];by_cases h41:c=41
   ·rw[if_pos h41];by_cases hn:0<n
    ·rw[if_pos hn,if_pos ⟨by omega,h41⟩]
    ·rw[if_neg hn,if_neg (by omega)]
   ·rw[if_neg h41,if_neg (show¬(je3 c=true∧ ¬(n=0∧c=48)∧10*n+(c-48)≤32)from fun q=>hd q.1),if_neg (show¬(1≤n∧c=41)from fun q=>h41 q.2)]
theorem xp_ct(l:J)(i:Int)(out:J)(hi:0≤i)(hl:i≤l.length):
  if ctP l i then xpGo (l.drop i.toNat) 1 0 out=xpGo (l.drop (ctZ l i).2.toNat) 2 (ctZ l i).1 out∧1≤(ctZ l i).1∧(ctZ l i).1≤32∧i<(ctZ l i).2∧(ctZ l i).2≤l.length
  else(xpGo (l.drop i.toNat) 1 0 out).2=false∧ctZ l i=(0,0):=by
 have N:=xp_num (l.drop i.toNat) 0 i out (by omega);by_cases hk:(cdGo (l.drop i.toNat) 0 i).1=true
 ·have hr:=jhk _ 0 i (by omega) hk;rw[List.length_drop]at hr;have e1:i.toNat+((cdGo (l.drop i.toNat) 0 i).2.2-i).toNat=(cdGo (l.drop i.toNat) 0 i).2.2.toNat:=by omega
  have e2:i.toNat+((cdGo (l.drop i.toNat) 0 i).2.2-i+1).toNat=((cdGo (l.drop i.toNat) 0 i).2.2+1).toNat:=by omega
  have hh:((l.drop i.toNat).drop ((cdGo (l.drop i.toNat) 0 i).2.2-i).toNat).head?=some 41↔(cdGo (l.drop i.toNat) 0 i).2.2<l.length∧l.getD (cdGo (l.drop i.toNat) 0 i).2.2.toNat 0=41:=by
   rw[List.drop_drop,e1,List.head?_drop,List.getD_eq_getElem?_getD];constructor
   ·intro h;have:=(List.getElem?_eq_some_iff.1 h).1;exact⟨by omega,by rw[h];rfl⟩
   ·rintro ⟨h1,h2⟩;rw[List.getElem?_eq_getElem (by omega)]at h2 ⊢;simpa using h2
  by_cases hP:ctP l i
  ·rw[if_pos hP];rw[if_pos ⟨hk,hP.2.1,hh.2 ⟨hP.2.2.1,hP.2.2.2⟩⟩,List.drop_drop,e2]at N;have hz:ctZ l i=((cdGo (l.drop i.toNat) 0 i).2.1,(cdGo (l.drop i.toNat) 0 i).2.2+1):=if_pos hP;have:=hP.2.1;have:=hP.2.2.1;rw[hz];exact⟨N,by simp only;omega,by simp only;omega,by simp only;omega,by simp only;omega⟩
  ·rw[if_neg hP];rw[if_neg (fun q=>hP ⟨hk,q.2.1,(hh.1 q.2.2).1,(hh.1 q.2.2).2⟩)]at N;exact⟨N,if_neg hP⟩
 ·have hP:¬ctP l i:=fun q=>hk q.1
  rw[if_neg hP];rw[if_neg (fun q=>hk q.1)]at N;exact⟨N,if_neg hP⟩
def G3:Env:=(((((Env.nil.add 211 (sp1 s82)).add 202 (sp2 s40)).add 229 (sp2 s57)).add 242 (sp1 s96)).add 238 (sp1 s101)).add 237 (sp2 s81)
theorem ok_G3:jaw Tryz.prog G3:=jai (jai (jai (jai (jai (jai jap ok82) ok40) ok57) ok96) ok101) ok81
def V45_0:Y×Y×Int×Y×Int→E:=fun(s,r,e,o,i)=> [S s,S r,I e,S o,I i]
def B45_0:Y×Y×Int×Y×Int→O:=fun _=> []
def S45_0:LSpec (Y×Y×Int×Y×Int) where
 live:=[0,2,3,4,5]
 mid:=[]
 n:=80
 dec vs bs:=match vs,bs with | [.string s,.string r,.int .i64 e,.string o,.int .i64 i],[]=>some (s,r,e,o,i) | _,_=>none
 pre:=fun(s,r,e,o,i)=>decide (0≤i∧i≤s.size∧s.size≤9223372036854775807∧o.size≤32)
 fin:=fun(s,r,e,o,i) Z=>(bif (xpGo ((bz s).drop i.toNat) 0 0 (bz o)).2 then Z (.exit 0) [S s,S r,I e,S (sz (xpGo ((bz s).drop i.toNat) 0 0 (bz o)).1),I s.size] []else(∀o' i',Z .ret [S s,S e0,I 30,S o',I i'] []))
def ew(a b:Y):Bool:=jbi (a.size+b.size)
def ao:Y:=⟨#[]⟩
def cu:Value:= .string ao
def mf:J:=bz ⟨#[57,86,90,42,89,84,73,82,83,43,45,36,44,46,47,66,67,68,65,88]⟩
def gz(c:Bool)(a b:Int)(d e:Prop):Prop:=bif b6 a b then av c d e else False
def i7(a b c:Bool)(d e:Prop):Prop:=bif a || b then av c d e else False
def j0(a:Y)(b:Int):Prod Int Int:=ctZ (bz a) (au b)
def d8(a b c:Int):Bool:=decide (a≤b∧b≤c)
def j6(c:Y)(a b:Int)(d:Nat):Bool:=decide (0≤a∧a≤b∧c.size≤d)
theorem r45_0(s:Y)(r:Y)(e:Int)(o:Y)(i:Int)(jk:Tmps)(R:Exit→E→O→Prop):(jbp Tryz.prog G3 noL Tryz.f196.ntmps (ja6 Tryz.f196 0) (tl S45_0.live (V45_0 (s,r,e,o,i)) jk) (ml S45_0.mid (B45_0 (s,r,e,o,i))) S45_0.n fun e t' m' _=>R e (List.map t' S45_0.live) (List.map m' S45_0.mid))=(bif dw s i then fu (ar s i 40) s i (bif j6 s (au i) (am s) 9223372036854775807 then bw (b8 (j0 s i).fst 1) true (b8 (j0 s i).fst 1 || decide ((j0 s i).snd≥am s)) (R .ret (bk s [ak 30,S o,I (j0 s i).snd] cu) []) (gz (b6 (jaj s (j0 s i).snd.toNat) 256) (j0 s i).snd (am s) (i7 (!hasZ mf (upZ (jaj s (j0 s i).snd.toNat))) true (!hasZ mf (upZ (jaj s (j0 s i).snd.toNat)) || decide (aw (am o+(j0 s i).fst) .i64>32)) (R .ret (bk s [ak 30,S o,I (j0 s i).snd] cu) []) (bif d8 0 (j0 s i).fst 1000 then bm (ew o (sz (rep1 (upZ (jaj s (j0 s i).snd.toNat)) (j0 s i).fst.toNat))) R [] (bk s [ak e,S (o++sz (rep1 (upZ (jaj s (j0 s i).snd.toNat)) (j0 s i).fst.toNat)),ep ((j0 s i).snd+1)] (S r))else False)) False)else False) (bif bq s i then bif b6 (ax s i) 256 then bw (!hasZ mf (upZ (ax s i))) true (!hasZ mf (upZ (ax s i)) || decide (aw (am o+1) .i64>32)) (R .ret (bk s [ak 30,S o,ak i] cu) []) (bm (ew o (sz (rep1 (upZ (ax s i)) (Int.toNat 1)))) R [] (bk s (ak e::S (o++sz (rep1 (upZ (ax s i)) (Int.toNat 1)))::bp i) (S r)))else False else False)else R (.exit 0) (bk s [ak e,S o,ak i] (S r)) []):=by kernel_rfl
theorem l45_0:LOKf Tryz.prog (oneL 0 S45_0.h) Tryz.f196:=by
 refine jbe (h:=S45_0.h) (by kernel_rfl) (ja7 ok_G3 hmix (by kernel_rfl) (ja1 _) S45_0 V45_0 B45_0 (fun(s,r,e,o,i)=>(s.size-i).toNat) ?_ ?_ ?_)
 ·intro vs bs s h;simp only[S45_0]at h;split at h
  all_goals first | (cases h;exact⟨rfl,rfl⟩) | cases h
 ·exact fun _ _ _ h=>h
 ·intro⟨s,r,e,o,i⟩ jk Z hp hf;rw[r45_0];delta bk ak av am bq fu bw bm au bu bp ax ew ao cu aw mf b6 gz i7 ep j0 d8 b8 j6 ar dw;simp only[S45_0]at hp hf;simp only[jae]at hp;apply cond_intro<;>intro h
  ·have h:=jab h;have hc:=jfw s i.toNat;rw[jb4 hp.1 h]at hf;have k:bz ⟨#[57,86,90,42,89,84,73,82,83,43,45,36,44,46,47,66,67,68,65,88]⟩=kL:=rfl
   have put:∀(c:Int)(q:Nat),0≤c∧c<256→bz (o++sz (rep1 (upZ c) q))=bz o++rep1 (upZ c) q∧(o++sz (rep1 (upZ c) q)).size=o.size+q:=fun c q hc=>by
    have hb:IsB (rep1 (upZ c) q):=fun x hx=>by
     rw[List.eq_of_mem_replicate hx];unfold upZ;split<;>omega
    have e:bz (o++sz (rep1 (upZ c) q))=bz o++rep1 (upZ c) q:=by rw[jbr,jcy hb]
    exact⟨e,by rw[←jal,e,List.length_append,jal];simp[rep1]⟩
   refine c_t (jaa (by omega)) (cond_intro (fun h40=> ?_) (fun h40=> ?_))
   ·have h40:=eq_of_beq h40;rw[h40]at hf
    have e1:xpGo (40::(bz s).drop (i+1).toNat) 0 0 (bz o)=xpGo ((bz s).drop (i+1).toNat) 1 0 (bz o):=by
     rw[xpGo,if_neg (by decide),if_neg (by decide),if_pos rfl]
    rw[e1]at hf;rw[w64 (n:=i+1) (by omega),k];have N:=xp_ct (bz s) (i+1) (bz o) (by omega) (by rw[jal];omega);refine c_t (jaa (by omega)) (c_t (by simp) ?_);by_cases hP:ctP (bz s) (i+1)
    ·rw[if_pos hP]at N;obtain⟨n1,n2,n3,n4,n5⟩:=N;rw[n1]at hf;rw[jal]at n5;generalize (ctZ (bz s) (i+1)).1=n' at*;generalize (ctZ (bz s) (i+1)).2=a' at*;apply cond_intro<;>intro hd
     ·simp only[Bool.or_eq_true,jae]at hd;rw[jce (by omega)]at hf;exact hf o a'
     ·simp only[Bool.or_eq_false_iff,decide_eq_false_iff_not]at hd;have hc2:=jfw s a'.toNat;obtain⟨u1,u2⟩:=put (jaj s a'.toNat) n'.toNat hc2;rw[jb4 (by omega) (show a'<s.size by omega),xp_put (.inl rfl),jal,if_pos rfl]at hf;rw[w64 (n:=(o.size:Int)+n') (by omega)];refine c_t (jaa (by omega)) (c_t (jaa hc2) (c_t (by simp) (cond_intro (fun hq=> ?_) (fun hq=> ?_))))
      ·rw[if_neg (by
        intro hz;rw[hz.1]at hq;simp only[Bool.not_true,Bool.false_or,jae]at hq;omega)]at hf
       exact hf o a'
      ·simp only[Bool.or_eq_false_iff,Bool.not_eq_false',decide_eq_false_iff_not]at hq;rw[if_pos ⟨hq.1,by omega⟩]at hf;refine c_t (jaa (by omega)) (c_t ?_ ?_)
       ·rw[jcf];simp only[jbi,Nat.ble_eq,rep1,List.length_replicate];omega
       ·rw[w64 (by omega)];refine⟨(s,r,e,_,a'+1),rfl,rfl,by simp only[S45_0,jae];omega,by simp only;omega,?_⟩;simp only[S45_0,u1];exact hf
    ·rw[if_neg hP]at N;rw[N.1]at hf;rw[N.2];exact hf o 0
   ·have h40:jaj s i.toNat≠40:=by simpa using h40
    obtain⟨u1,u2⟩:=put (jaj s i.toNat) (Int.toNat 1) hc;rw[xp_put (.inr ⟨rfl,h40⟩),jal,if_neg (show¬((0:Int)=2)by decide)]at hf;rw[k,w64 (n:=(o.size:Int)+1) (by omega)];refine c_t (jaa (by omega)) (c_t (jaa hc) (c_t (by simp) (cond_intro (fun hq=> ?_) (fun hq=> ?_))))
    ·rw[if_neg (by
      intro hz;rw[hz.1]at hq;simp only[Bool.not_true,Bool.false_or,jae]at hq;omega)]at hf
     exact hf o i
    ·simp only[Bool.or_eq_false_iff,Bool.not_eq_false',decide_eq_false_iff_not]at hq;rw[if_pos ⟨hq.1,by omega⟩]at hf;refine c_t ?_ ?_
     ·rw[jcf];simp only[jbi,Nat.ble_eq,rep1,List.length_replicate];omega
     ·rw[w64 (by omega)];refine⟨(s,r,e,_,i+1),rfl,rfl,by simp only[S45_0,jae];refine⟨by omega,by omega,by omega,?_⟩;rw[u2];omega,by simp only;omega,?_⟩;simp only[S45_0];rw[u1];exact hf
  ·have h:=jac h;rw[jce (by omega)]at hf;obtain rfl:i=s.size:=by omega
   have:sz (bz o)=o:=jf6 o;simp only[xpGo,this]at hf;exact hf
def exOK(l:J):Bool:=(xpGo l 0 0 []).2&& !(xpGo l 0 0 []).1.isEmpty
def eE(l:J):Int:=if exOK l=true then 0 else 30
def exZ(l:J):J:=if exOK l=true then(xpGo l 0 0 []).1 else []
theorem sz_empty(l:J):decide (bz (sz l)=bz ⟨#[]⟩)=l.isEmpty:=by
 cases l with
 | nil=>rfl
 | cons c r=>
  have:bz (sz (c::r))≠ []:=fun h=>by
   have:=congrArg List.length h;rw[jal,jcf]at this;simp at this
  exact jad this
def s45(s:Y):Bool×Value:=(decide (s.size≤9223372036854775807),.tuple ⟨[.string (sz (exZ (bz s))),.int .i64 (eE (bz s))]⟩)
theorem fn45:Fn1 Tryz.prog 196 Tryz.f196:= .m Tryz.func196
theorem v45(s:Y)(R:Value→Prop):jaz Tryz.prog G3 (oneL 0 S45_0.h) Tryz.f196 [Enc.enc s] (fun _=>none) 0 (fun v _ _=>R v)=(ip (S45_0.pre (s,(ao,((0:Int),(ao,(0:Int)))))) (xpGo (dq s 0) 0 0 (bz ao)).snd (Tmps→(bif b5 (sz (xpGo (dq s 0) 0 0 (bz ao)).fst) ao then ik [] cu (ak 30) R else ik [] (S (sz (xpGo (dq s 0) 0 0 (bz ao)).fst)) (ak 0) R)) (Y→Int→Tmps→ik [] (S Px.e0) (ak 30) R)):=by kernel_rfl
theorem ok45:jam Tryz.prog 196 (sp1 s45):=by
 refine jby ok_G3 hmix fn45 l45_0 jag fun s hc=> ?_
 rw[ja0,v45];delta av ip du ik ak ao dq cu b5;have hc:(s.size≤9223372036854775807):=jab hc;dsimp only[s45];refine c_t (by simp only[S45_0,jae];exact⟨by omega,by omega,by omega,by decide⟩) ?_;rw[jdh,show bz ⟨#[]⟩=[]from rfl];refine cond_intro (fun h x=> ?_) (fun h _ _ _=> ?_)
 ·rw[jcv,sz_empty];apply cond_intro<;>intro he
  ·have:exOK (bz s)=false:=by simp[exOK,he]
   simp only[exZ,eE,this];rfl
  ·have:exOK (bz s)=true:=by simp[exOK,he,h]
   simp only[exZ,eE,this,if_true]
 ·have:exOK (bz s)=false:=by simp[exOK,h]
  simp only[exZ,eE,this];rfl
def mk1(dr:Int)(seen:Bool)(c:Int):Int:=bif hasZ [57,89,84,73,82] c then 100 else bif hasZ [90,42] c || (dr !=0&& (c==dr&&seen))then 99
 else bif c==86 then 118 else bif c==36 then 109 else bif hasZ [83,43,45] c then 115 else 105
def mkGo(dr:Int):Bool→J→J
 | _,[]=> []
 | seen,c::r=>mk1 dr seen c::mkGo dr (seen || (dr !=0&&c==dr)) r
def jan(s:J):J:=if crZ s=true then s.take (s.length-2)else s
def jas(s:J):J:=mkGo (drZ (jan s)) false (jan s)++(if crZ s=true then [115,115]else [])
def V69_0:Y×Y×Y×Int×E×Nat×Nat×Bool×Int→E:=fun(s,r,b,dr,d,m,cap,seen,i)=> [S s,S r,S b,C8 dr,.slice (some ⟨200,0,some 1⟩) m cap,B seen,I i]
def B69_0:Y×Y×Y×Int×E×Nat×Nat×Bool×Int→O:=fun(s,r,b,dr,d,m,cap,seen,i)=> [some ⟨d,5,true⟩]
def S69_0:LSpecA (Y×Y×Y×Int×E×Nat×Nat×Bool×Int) where
 live:=[0,2,3,4,5,6,7]
 mid:=[200]
 n:=260
 ap:=[(.tmp 5,200)]
 dec vs bs:=match vs,bs with | [.string s,.string r,.string b,.int .u8 dr,.slice (some ⟨200,0,some 1⟩) m cap,.bool seen,.int .i64 i],[some ⟨d,5,true⟩]=>some (s,r,b,dr,d,m,cap,seen,i) | _,_=>none
 pre:=fun(s,r,b,dr,d,m,cap,seen,i)=>jcm d m cap&&decide (0≤i∧i≤b.size∧b.size≤1000∧i=m)
 fin:=fun(s,r,b,dr,d,m,cap,seen,i) Z=>∀d' cap' seen',jcm d' b.size cap'=true→zc d' b.size=zc d m++mkGo dr seen ((bz b).drop i.toNat)→Z (.exit 0) [S s,S r,S b,C8 dr,.slice (some ⟨200,0,some 1⟩) b.size cap',B seen',I b.size] [some ⟨d',5,true⟩]
def nq(b:Bool)(i l m:Y)(g:Exit→E→O→Prop)(c h j:Int)(d:E)(e f k:Nat):Prop:=bif b || (c !=0 || true)then kv d e f (∀a:Nat,py g h c .u8 d (bv 200 (f+1) a:: .bool (b || c !=0&&ar i j c)::bp j) a f k (.string l) (.string m) (.string i))else False
theorem r69_0(s:Y)(r:Y)(b:Y)(dr:Int)(d:E)(m:Nat)(cap:Nat)(seen:Bool)(i:Int)(jk:Tmps)(R:Exit→E→O→Prop):(jbp Tryz.prog G3 noL Tryz.f201.ntmps (ja6 Tryz.f201 0) (tl S69_0.live (V69_0 (s,r,b,dr,d,m,cap,seen,i)) jk) (ml S69_0.mid (B69_0 (s,r,b,dr,d,m,cap,seen,i))) S69_0.n fun e t' m' _=>S69_0.out R e t' m')=(bif dw b i then fu (jj b i [84,73,82] 57 89) b i (nq seen b s r R dr 100 i d cap m 286) (bw (jj b i [] 90 42) (br (dr !=0) (ar b i dr || true) true) (jj b i [] 90 42 || dr !=0&& (ar b i dr&&seen)) (nq seen b s r R dr 99 i d cap m 300) (bif ar b i 86 then nq seen b s r R dr 118 i d cap m 302 else bif ar b i 36 then nq seen b s r R dr 109 i d cap m 304 else bif jj b i [45] 83 43 then nq seen b s r R dr 115 i d cap m 306 else nq seen b s r R dr 105 i d cap m 305))else fv (gv d 200 200) R [] (bk b [bv 200 m cap,B seen,ak i] (al dr)) 0 (e8 ij d) (S s) (S r)):=by kernel_rfl
theorem l69_0:LOKf Tryz.prog (oneL 0 S69_0.hA) Tryz.f201:=by
 refine jbe (h:=S69_0.hA) (by kernel_rfl) (jbv ok_G3 hmix (by kernel_rfl) (ja1 _) S69_0 V69_0 B69_0 (fun(s,r,b,dr,d,m,cap,seen,i)=>(b.size-i).toNat) ?_ ?_ ?_)
 ·intro vs bs s h;simp only[S69_0]at h;split at h
  all_goals first | (cases h;exact⟨rfl,rfl⟩) | cases h
 ·exact fun⟨s,r,b,dr,d,m,cap,seen,i⟩ hp=>by
   simp only[S69_0,jaf]at hp;simp[V69_0,B69_0,S69_0,ja3,jb2,idsL,ids,jaq (jat.1 hp.1).plain]
 ·intro⟨s,r,b,dr,d,m,cap,seen,i⟩ jk Z hp hf;rw[r69_0];delta fv e8 ij bk al ak bv gv av am bq fu bw jh ie kv bm e7 n7 iy py au bu bp ax ar nq jj br dw;simp only[S69_0]at hp hf;simp only[jaf,jae]at hp;obtain⟨hr,hp⟩:=hp;have hr:=jat.1 hr;apply cond_intro<;>intro h
  ·have h:=jab h;have k1:bz ⟨#[57,89,84,73,82]⟩=[57,89,84,73,82]:=rfl;have k2:bz ⟨#[90,42]⟩=[90,42]:=rfl;have k3:bz ⟨#[83,43,45]⟩=[83,43,45]:=rfl;rw[k1,k2,k3];rw[jb4 hp.1 h]at hf;refine c_t (jaa (by omega)) ?_
   have fin:∀(cap':Nat)(d':E)(x:Int),mk1 dr seen (jaj b i.toNat)=x→RowP d' (m+1) cap'→zc d' (m+1)=zc d m++ [x]→
     S69_0.step V69_0 B69_0 (fun(s,r,b,dr,d,m,cap,seen,i)=>(b.size-i).toNat) (s,r,b,dr,d,m,cap,seen,i) Z Exit.normal [S s,S r,S b,C8 dr,.slice (some ⟨200,0,some 1⟩) (m+1) cap',B (seen || dr !=0&&jaj b i.toNat==dr),I (IntKind.wrap .i64 (i+1))] [some ⟨d',5,true⟩]:=by
    intro cap' d' x hx g1 g2;rw[w64 (by omega)];refine⟨(s,r,b,dr,d',m+1,cap',_,i+1),rfl,rfl,by simp only[S69_0,jaf,jae];exact⟨jat.2 g1,by omega⟩,by simp only;omega,?_⟩;intro d'' cap'' seen'' h1 h2;refine hf d'' cap'' seen'' h1 ?_;rw[h2,g2,mkGo,hx,List.append_assoc];rfl
   have sn:(seen || (dr !=0 || true))=true:=by simp
   have K:Nat→Nat→E→Prop:=fun _ _ _=>True
   apply cond_intro<;>intro h1
   ·exact c_t sn (jfx hr (by omega) 100 _ (fun cap' d'=>S69_0.step V69_0 B69_0 _ (s,r,b,dr,d,m,cap,seen,i) Z Exit.normal [S s,S r,S b,C8 dr,.slice (some ⟨200,0,some 1⟩) (m+1) cap',B (seen || dr !=0&&jaj b i.toNat==dr),I (IntKind.wrap .i64 (i+1))] [some ⟨d',5,true⟩]) (fun cap' d' g1 g2=>fin cap' d' 100 (by simp only[mk1,h1,cond_true]) g1 g2))
   ·refine c_t (by cases hasZ [90,42] (jaj b i.toNat) <;>cases(dr !=0) <;>simp) (cond_intro (fun h2=> ?_) (fun h2=> ?_))
    ·exact c_t sn (jfx hr (by omega) 99 _ (fun cap' d'=>S69_0.step V69_0 B69_0 _ (s,r,b,dr,d,m,cap,seen,i) Z Exit.normal [S s,S r,S b,C8 dr,.slice (some ⟨200,0,some 1⟩) (m+1) cap',B (seen || dr !=0&&jaj b i.toNat==dr),I (IntKind.wrap .i64 (i+1))] [some ⟨d',5,true⟩]) (fun cap' d' g1 g2=>fin cap' d' 99 (by simp only[mk1,h1,h2,cond_true,cond_false]) g1 g2))
    ·apply cond_intro<;>intro h3
     ·exact c_t sn (jfx hr (by omega) 118 _ (fun cap' d'=>S69_0.step V69_0 B69_0 _ (s,r,b,dr,d,m,cap,seen,i) Z Exit.normal [S s,S r,S b,C8 dr,.slice (some ⟨200,0,some 1⟩) (m+1) cap',B (seen || dr !=0&&jaj b i.toNat==dr),I (IntKind.wrap .i64 (i+1))] [some ⟨d',5,true⟩]) (fun cap' d' g1 g2=>fin cap' d' 118 (by simp only[mk1,h1,h2,h3,cond_true,cond_false]) g1 g2))
     ·apply cond_intro<;>intro h4
      ·exact c_t sn (jfx hr (by omega) 109 _ (fun cap' d'=>S69_0.step V69_0 B69_0 _ (s,r,b,dr,d,m,cap,seen,i) Z Exit.normal [S s,S r,S b,C8 dr,.slice (some ⟨200,0,some 1⟩) (m+1) cap',B (seen || dr !=0&&jaj b i.toNat==dr),I (IntKind.wrap .i64 (i+1))] [some ⟨d',5,true⟩]) (fun cap' d' g1 g2=>fin cap' d' 109 (by simp only[mk1,h1,h2,h3,h4,cond_true,cond_false]) g1 g2))
      ·apply cond_intro<;>intro h5
       ·exact c_t sn (jfx hr (by omega) 115 _ (fun cap' d'=>S69_0.step V69_0 B69_0 _ (s,r,b,dr,d,m,cap,seen,i) Z Exit.normal [S s,S r,S b,C8 dr,.slice (some ⟨200,0,some 1⟩) (m+1) cap',B (seen || dr !=0&&jaj b i.toNat==dr),I (IntKind.wrap .i64 (i+1))] [some ⟨d',5,true⟩]) (fun cap' d' g1 g2=>fin cap' d' 115 (by simp only[mk1,h1,h2,h3,h4,h5,cond_true,cond_false]) g1 g2))
       ·exact c_t sn (jfx hr (by omega) 105 _ (fun cap' d'=>S69_0.step V69_0 B69_0 _ (s,r,b,dr,d,m,cap,seen,i) Z Exit.normal [S s,S r,S b,C8 dr,.slice (some ⟨200,0,some 1⟩) (m+1) cap',B (seen || dr !=0&&jaj b i.toNat==dr),I (IntKind.wrap .i64 (i+1))] [some ⟨d',5,true⟩]) (fun cap' d' g1 g2=>fin cap' d' 105 (by simp only[mk1,h1,h2,h3,h4,h5,cond_true,cond_false]) g1 g2))
  ·have h:=jac h;refine c_t (by rw[hr.good];rfl) ?_;rw[hr.rlb];obtain rfl:i=b.size:=by omega
   have e:b.size=m:=by omega
   have:=hf d cap seen (by rw[e];exact jat.2 hr) (by rw[jce (Int.le_refl _),e];simp[mkGo]);rw[e]at this ⊢;exact this
def s69(s:Y):Bool×Value:=(decide (s.size≤1000),.string (sz (jas (bz s))))
theorem fn69:Fn1 Tryz.prog 201 Tryz.f201:= .m Tryz.func201
def d4(b:Bool)(a:Y)(c d:Prop):Prop:=bif b7 a then av b c d else False
def gm(b:E)(a:Nat):Bool:=ja3 a b&&true
def jr(a:E)(b:Nat)(c:Prop):Prop:=bif gm a b then Tmps→c else False
def j7(a b:Bool)(c:Value)(d:Value→Prop):Prop:=bif a then ay b c d else False
def rc(c d:Y)(e:Value→Prop):Prop:=bif b7 c then bif S69_0.toLSpec.pre (d,(ao,(c,(drZ (bz c),(([]:E),(0,(0,(false,(0:Int)))))))))then∀a:E,∀b:Nat,Bool→jcm a c.size b=true→zc a c.size=zc [] 0++mkGo (drZ (bz c)) false (dq c 0)→jr a 260 (d4 (crZ (bz d)) d (j7 (jbf a 0 c.size) (ew (jbb a 0 c.size) ⟨#[115,115]⟩) (.string (jbb a 0 c.size++⟨#[115,115]⟩)) e) (ay (jbf a 0 c.size) (.string (jbb a 0 c.size)) e))else False else False
def ib(a:Y)(b:Int):Y:=a.extract 0 (gq a b).toNat
def ky(a:Y)(b:Int):Bool:=d5 0 0 (gq a b) (gq a b) (am a)
theorem v69(s:Y)(R:Value→Prop):jaz Tryz.prog G3 (oneL 0 S69_0.hA) Tryz.f201 [Enc.enc s] (fun _=>none) 0 (fun v _ _=>R v)=(d4 (crZ (bz s)) s (bif ky s 2 then rc (ib s 2) s R else False) (rc s s R)):=by kernel_rfl
theorem ok69:jam Tryz.prog 201 (sp1 s69):=by
 refine jby ok_G3 hmix fn69 l69_0 jag fun s hc=> ?_
 rw[ja0,v69];delta av b7 d4 gm jr ay j7 ew dq ao rc aw am gq ib d5 ky;have hc:(s.size≤1000):=jab hc;dsimp only[s69];have hz0:zc [] 0=[]:=rfl;have kss:(⟨#[115,115]⟩:Y)=sz [115,115]:=rfl;refine c_t (jaa (by omega)) (cond_intro (fun hcr=> ?_) (fun hcr=> ?_))
 ·have h2:2≤s.size:=by
   simp only[crZ,jaf,jae,jal]at hcr;exact hcr.1
  have e:((s.size:Int)-2).toNat=s.size-2:=by omega
  rw[w64 (by omega),e];have eb:bz (s.extract 0 (s.size-2))=(bz s).take (s.size-2):=by rw[jb7];simp
  have hbs:(s.extract 0 (s.size-2)).size=s.size-2:=by rw[←jal,eb,List.length_take,jal];omega
  generalize s.extract 0 (s.size-2)=b at*;refine c_t (jaa (by omega)) (c_t (jaa (by omega)) (c_t ?_ (fun d' cap' seen' h1 h3=> ?_)))
  ·simp only[S69_0,jaf,jae];exact⟨rfl,by omega⟩
  have h1:=jat.1 h1;have hsz:(jbb d' 0 b.size).size=b.size:=by rw[h1.str.2,jcf,jba h1]
  refine c_t (by rw[jbj h1.plain];rfl) (fun _=>c_t (jaa (by omega)) (c_t hcr (c_t h1.str.1 (c_t ?_ ?_))))
  ·rw[hsz];simp only[jbi,Nat.ble_eq];show b.size+2≤_;omega
  ·rw[h1.str.2,h3,hz0,jdh,kss,←sz_append];simp only[jas,jan,hcr,if_true,jal,eb,List.nil_append]
 ·refine c_t (jaa (by omega)) (c_t ?_ (fun d' cap' seen' h1 h3=> ?_))
  ·simp only[S69_0,jaf,jae];exact⟨rfl,by omega⟩
  have h1:=jat.1 h1;refine c_t (by rw[jbj h1.plain];rfl) (fun _=>c_t (jaa (by omega)) (c_f hcr (c_t h1.str.1 ?_)));rw[h1.str.2,h3,hz0,jdh];simp[jas,jan,hcr]
def G4:Env:=(((Env.nil.add 202 (sp2 s40)).add 199 (sp2 s75)).add 242 (sp1 s96)).add 238 (sp1 s101)
theorem ok_G4:jaw Tryz.prog G4:=jai (jai (jai (jai jap ok40) ok75) ok96) ok101
def df1(s:J)(dr:Int):J→Int→Int→Int→Bool×Int×Int
 | [],_,f,l=>(true,f,l)
 | c::r,i,f,l=>bif c==dr then df1 s dr r (i+1) (if f<0 then i else f) i
  else bif hasZ [36,83,43,45] c&&decide (2≤cntZ s c)then(false,0,0)else df1 s dr r (i+1) f l
def d2Go(dr f:Int):J→Int→Bool
 | [],_=>true
 | c::r,i=> !(decide (i<f) &&c==86) && (!(decide (i>f) && (c !=dr&& !hasZ [44,46,47,66,86] c)) &&d2Go dr f r (i+1))
def jcr(s:J):Bool:=drZ s==0 || ((df1 s (drZ s) s 0 (-1) (-1)).1&&d2Go (drZ s) (df1 s (drZ s) s 0 (-1) (-1)).2.1 (s.take (df1 s (drZ s) s 0 (-1) (-1)).2.2.toNat) 0)
theorem jkr(s:J)(dr:Int):∀(r:J)(i f l:Int),0≤i→ -1≤f→f≤i→ -1≤l→l≤i→(df1 s dr r i f l).1=true→ -1≤(df1 s dr r i f l).2.1∧(df1 s dr r i f l).2.1≤i+r.length∧ -1≤(df1 s dr r i f l).2.2∧(df1 s dr r i f l).2.2≤i+r.length
 | [],i,f,l,h0,h1,h2,h3,h4,_=>by simp only[df1,List.length_nil];omega
 | c::r,i,f,l,h0,h1,h2,h3,h4,hk=>by
  simp only[df1,List.length_cons]at hk ⊢;cases hc:(c==dr)with
  | true=>
   rw[hc]at hk;simp only[cond_true]at hk ⊢;have:=jkr s dr r (i+1) _ i (by omega) (by split<;>omega) (by split<;>omega) (by omega) (by omega) hk;omega
  | false=>
   rw[hc]at hk;simp only[cond_false]at hk ⊢;cases hq:(hasZ [36,83,43,45] c&&decide (2≤cntZ s c))with
   | true=>rw[hq]at hk;cases hk
   | false=>
    rw[hq]at hk;simp only[cond_false]at hk ⊢;have:=jkr s dr r (i+1) f l (by omega) h1 (by omega) h3 (by omega) hk;omega
def V104_0:Y×Bool×Int×Int×Int×Int→E:=fun(s,b,dr,f,l,i)=> [S s,B b,C8 dr,I f,I l,I i]
def B104_0:Y×Bool×Int×Int×Int×Int→O:=fun _=> []
def S104_0:LSpec (Y×Bool×Int×Int×Int×Int) where
 live:=[0,2,3,4,5,6]
 mid:=[]
 n:=60
 dec vs bs:=match vs,bs with | [.string s,.bool b,.int .u8 dr,.int .i64 f,.int .i64 l,.int .i64 i],[]=>some (s,b,dr,f,l,i) | _,_=>none
 pre:=fun(s,b,dr,f,l,i)=>decide (0≤i∧i≤s.size∧s.size≤9223372036854775807∧ -1≤f∧f≤i∧ -1≤l∧l≤i)
 fin:=fun(s,b,dr,f,l,i) Z=>(bif (df1 (bz s) dr ((bz s).drop i.toNat) i f l).1 then Z (.exit 0) [S s,B b,C8 dr,I (df1 (bz s) dr ((bz s).drop i.toNat) i f l).2.1,I (df1 (bz s) dr ((bz s).drop i.toNat) i f l).2.2,I s.size] []else(∀f' l' i',Z .ret [S s,B false,C8 dr,I f',I l',I i'] []))
def dt(b:Bool)(a:Y)(d:E)(c:Value):E:= .string a:: .bool b::c::d
theorem r104_0(s:Y)(b:Bool)(dr:Int)(f:Int)(l:Int)(i:Int)(jk:Tmps)(R:Exit→E→O→Prop):(jbp Tryz.prog G4 noL Tryz.f239.ntmps (ja6 Tryz.f239 0) (tl S104_0.live (V104_0 (s,b,dr,f,l,i)) jk) (ml S104_0.mid (B104_0 (s,b,dr,f,l,i))) S104_0.n fun e t' m' _=>R e (List.map t' S104_0.live) (List.map m' S104_0.mid))=(bif dw s i then fu (ar s i dr) s i (bif d7 f then R .normal (dt b s (ak i::cq i i) (al dr)) []else R .normal (dt b s (ak f::cq i i) (al dr)) []) (bif kx (jj s i [43,45] 36 83) (b7 s&&true) s s i i then kj (jj s i [43,45] 36 83&&decide ((cntZ (bz s) (ax s i):Int)≥2)) R [] (dt false s (ak f::az l i) (al dr)) (dt b s (ak f::cq l i) (al dr))else False)else R (.exit 0) (dt b s (ak f::az l i) (al dr)) []):=by kernel_rfl
theorem l104_0:∀t m n K,S104_0.h t m n K→Ab.Sem Tryz.prog Tryz.f239.ntmps (.loop (ja6 Tryz.f239 0)) t m n K:=by
 refine ja7 ok_G4 hmix (by kernel_rfl) (ja1 _) S104_0 V104_0 B104_0 (fun(s,b,dr,f,l,i)=>(s.size-i).toNat) ?_ ?_ ?_
 ·intro vs bs s h;simp only[S104_0]at h;split at h
  all_goals first | (cases h;exact⟨rfl,rfl⟩) | cases h
 ·exact fun _ _ _ h=>h
 ·intro⟨s,b,dr,f,l,i⟩ jk Z hp hf;rw[r104_0];delta dt al ak az av am bq fu kj au bu bp cq ax jj br kx b7 d7 ar dw;simp only[S104_0]at hp hf;simp only[jae]at hp;apply cond_intro<;>intro h
  ·have h:=jab h;rw[jb4 hp.1 h,df1]at hf;have h1:decide (0≤i∧i<(s.size:Int))=true:=jaa (by omega);have k:bz ⟨#[36,83,43,45]⟩=[36,83,43,45]:=rfl;rw[k];refine c_t h1 (cond_intro (fun hc=> ?_) (fun hc=> ?_))
   ·rw[hc,cond_true]at hf;rw[w64 (n:=i+1) (by omega)];apply cond_intro<;>intro hd
    ·rw[if_pos (jab hd)]at hf;exact⟨(s,b,dr,i,i,i+1),rfl,rfl,by simp only[S104_0,jae];omega,by simp only;omega,hf⟩
    ·rw[if_neg (jac hd)]at hf;exact⟨(s,b,dr,f,i,i+1),rfl,rfl,by simp only[S104_0,jae];omega,by simp only;omega,hf⟩
   ·rw[hc,cond_false]at hf;refine c_t (by rw[h1,jaa hp.2.2.1];cases hasZ [36,83,43,45] (jaj s i.toNat) <;>rfl) (cond_intro (fun hd=> ?_) (fun hd=> ?_))
    ·have hd':(hasZ [36,83,43,45] (jaj s i.toNat) &&decide (2≤cntZ (bz s) (jaj s i.toNat)))=true:=by
      simp only[jaf,jae]at hd ⊢;exact⟨hd.1,by omega⟩
     rw[hd',cond_true]at hf;exact hf f l i
    ·have hd':(hasZ [36,83,43,45] (jaj s i.toNat) &&decide (2≤cntZ (bz s) (jaj s i.toNat)))=false:=by
      cases q:hasZ [36,83,43,45] (jaj s i.toNat)with
      | false=>rfl
      | true=>
       rw[q,Bool.true_and,decide_eq_false_iff_not]at hd;rw[Bool.true_and];exact jad (by omega)
     rw[hd',cond_false]at hf;rw[w64 (by omega)];exact⟨(s,b,dr,f,l,i+1),rfl,rfl,by simp only[S104_0,jae];omega,by simp only;omega,hf⟩
  ·have h:=jac h;rw[jce (by omega)]at hf;obtain rfl:i=s.size:=by omega
   exact hf
def V104_2:Y×Bool×Int×Int×Int×Int→E:=fun(s,b,dr,f,l,i)=> [S s,B b,C8 dr,I f,I l,I i]
def B104_2:Y×Bool×Int×Int×Int×Int→O:=fun _=> []
def S104_2:LSpec (Y×Bool×Int×Int×Int×Int) where
 live:=[0,2,3,4,5,7]
 mid:=[]
 n:=90
 dec vs bs:=match vs,bs with | [.string s,.bool b,.int .u8 dr,.int .i64 f,.int .i64 l,.int .i64 i],[]=>some (s,b,dr,f,l,i) | _,_=>none
 pre:=fun(s,b,dr,f,l,i)=>decide (0≤i∧s.size≤9223372036854775807∧l≤s.size)
 fin:=fun(s,b,dr,f,l,i) Z=>(bif d2Go dr f (((bz s).take l.toNat).drop i.toNat) i then(∀i',Z (.exit 2) [S s,B b,C8 dr,I f,I l,I i'] [])else(∀i',Z .ret [S s,B false,C8 dr,I f,I l,I i'] []))
theorem r104_2(s:Y)(b:Bool)(dr:Int)(f:Int)(l:Int)(i:Int)(jk:Tmps)(R:Exit→E→O→Prop):(jbp Tryz.prog G4 noL Tryz.f239.ntmps (ja6 Tryz.f239 2) (tl S104_2.live (V104_2 (s,b,dr,f,l,i)) jk) (ml S104_2.mid (B104_2 (s,b,dr,f,l,i))) S104_2.n fun e t' m' _=>R e (List.map t' S104_2.live) (List.map m' S104_2.mid))=(bif ct i l then jy (ct i f) (bq s i&&true) true (ct i f&&ar s i 86) (R .ret (dt false s (ak f::az l i) (al dr)) []) (bif br (decide (i>f)) (kx (ax s i !=dr) true s s i i) true then kj (decide (i>f) && (ax s i !=dr&& !jj s i [47,66,86] 44 46)) R [] (dt false s (ak f::az l i) (al dr)) (dt b s (ak f::cq l i) (al dr))else False)else R (.exit 2) (dt b s (ak f::az l i) (al dr)) []):=by kernel_rfl
theorem l104_2:∀t m n K,S104_2.h t m n K→Ab.Sem Tryz.prog Tryz.f239.ntmps (.loop (ja6 Tryz.f239 2)) t m n K:=by
 refine ja7 ok_G4 hmix (by kernel_rfl) (ja1 _) S104_2 V104_2 B104_2 (fun(s,b,dr,f,l,i)=>(l-i).toNat) ?_ ?_ ?_
 ·intro vs bs s h;simp only[S104_2]at h;split at h
  all_goals first | (cases h;exact⟨rfl,rfl⟩) | cases h
 ·exact fun _ _ _ h=>h
 ·intro⟨s,b,dr,f,l,i⟩ jk Z hp hf;rw[r104_2];delta dt al ak az av br jy kj au bu bp cq ax jj am bq kx ar ct;simp only[S104_2]at hp hf;simp only[jae]at hp;have k:bz ⟨#[44,46,47,66,86]⟩=[44,46,47,66,86]:=rfl;rw[k];apply cond_intro<;>intro h
  ·have h:=jab h;rw[bz_take_at hp.1 h hp.2.2,d2Go]at hf;have h1:decide (0≤i∧i<(s.size:Int))=true:=jaa (by omega);refine c_t (by rw[h1];cases decide (i<f) <;>rfl) (cond_intro (fun ha=> ?_) (fun ha=> ?_))
   ·rw[ha]at hf;exact hf i
   ·rw[ha,Bool.not_false,Bool.true_and]at hf;refine c_t (by rw[h1];cases decide (i>f) <;>cases(jaj s i.toNat !=dr) <;>rfl) (cond_intro (fun hb=> ?_) (fun hb=> ?_))
    ·rw[hb]at hf;exact hf i
    ·rw[hb,Bool.not_false,Bool.true_and]at hf;rw[w64 (by omega)];exact⟨(s,b,dr,f,l,i+1),rfl,rfl,by simp only[S104_2,jae];omega,by simp only;omega,hf⟩
  ·have h:=jac h;rw[List.drop_eq_nil_of_le (by rw[List.length_take];omega)]at hf;exact hf i
theorem lok104:LOKf Tryz.prog (twoL 0 S104_0.h 2 S104_2.h) Tryz.f239:=jeu (by kernel_rfl) (by kernel_rfl) l104_0 l104_2
def s104(s:Y):Bool×Value:=(decide (s.size≤1000),.bool (jcr (bz s)))
theorem fn104:Fn1 Tryz.prog 239 Tryz.f239:= .m Tryz.func239
def ow(a:Y):Prod Bool (Prod Int Int):=df1 (bz a) (drZ (bz a)) (dq a 0) 0 (-1) (-1)
theorem v104(s:Y)(R:Value→Prop):jaz Tryz.prog G4 (twoL 0 S104_0.h 2 S104_2.h) Tryz.f239 [Enc.enc s] (fun _=>none) 0 (fun v _ _=>R v)=(d4 (drZ (bz s)==0) s (R (B true)) (ip (S104_0.pre (s,(false,(drZ (bz s),(-(1:Int),(-(1:Int),(0:Int))))))) (ow s).fst (Tmps→(bif S104_2.pre (s,(false,(drZ (bz s),((ow s).snd.fst,((ow s).snd.snd,(0:Int))))))then bif d2Go (drZ (bz s)) (ow s).snd.fst (((bz s).take (ow s).snd.snd.toNat).drop (Int.toNat 0)) 0 then Int→ji true R else Int→ji false R else False)) (jz (Int→ji false R)))):=by kernel_rfl
theorem ok104:jam Tryz.prog 239 (sp1 s104):=by
 refine jby ok_G4 hmix fn104 lok104 jag fun s hc=> ?_
 rw[ja0,v104];delta av b7 d4 ip jz ji dq ow;have hc:(s.size≤1000):=jab hc;dsimp only[s104];refine c_t (jaa (by omega)) (cond_intro (fun h=>by simp only[jcr,h,Bool.true_or]) (fun h=>c_t (by simp only[S104_0,jae];omega) ?_));rw[jdh];have hr:=jkr (bz s) (drZ (bz s)) (bz s) 0 (-1) (-1) (by omega) (by omega) (by omega) (by omega) (by omega);rw[jal]at hr;simp only[jcr,h,Bool.false_or];generalize df1 (bz s) (drZ (bz s)) (bz s) 0 (-1) (-1)=q at*;refine cond_intro (fun h1 x=>c_t ?_ ?_) (fun h1 _ _ _ _=>by rw[h1];rfl)
 ·have:=hr h1;simp only[S104_2,jae];omega
 ·rw[jdh];exact cond_intro (fun h2 _ _=>by rw[h1,h2];rfl) (fun h2 _ _=>by rw[h1,h2];rfl)
def ldGo:J→Bool→Bool→Bool→Int→Bool×Bool×Bool×Int
 | [],fm,bh,_,dg=>(true,fm,bh,dg)
 | m::r,fm,bh,pt,dg=>bif m==118 then ldGo r fm bh true dg else bif m==100 then ldGo r true bh pt (dg+1)
  else bif m==99 then(bif fm then(false,false,false,0)else ldGo r fm (bh || pt) pt (dg+1))else ldGo r fm bh pt dg
def jdp(b ms:J):Bool:=bif hasZ b 90&&hasZ b 42 then false else bif (hasZ b 90 || hasZ b 42) &&drZ b !=0 then false
 else(ldGo ms false false false 0).1&& (decide (1≤(ldGo ms false false false 0).2.2.2) && (decide ((ldGo ms false false false 0).2.2.2≤9) && !((ldGo ms false false false 0).2.2.1&& (ldGo ms false false false 0).2.1)))
def V105_0:Y×Y×Bool×Bool×Bool×Bool×Int×Int→E:=fun(s,ms,b,fm,bh,pt,dg,i)=> [S s,S ms,B b,B fm,B bh,B pt,I dg,I i]
def B105_0:Y×Y×Bool×Bool×Bool×Bool×Int×Int→O:=fun _=> []
def S105_0:LSpec (Y×Y×Bool×Bool×Bool×Bool×Int×Int) where
 live:=[0,1,4,5,6,7,8,9]
 mid:=[]
 n:=60
 dec vs bs:=match vs,bs with | [.string s,.string ms,.bool b,.bool fm,.bool bh,.bool pt,.int .i64 dg,.int .i64 i],[]=>some (s,ms,b,fm,bh,pt,dg,i) | _,_=>none
 pre:=fun(s,ms,b,fm,bh,pt,dg,i)=>decide (0≤i∧i≤s.size∧s.size=ms.size∧s.size≤1000∧0≤dg∧dg≤i)
 fin:=fun(s,ms,b,fm,bh,pt,dg,i) Z=>(bif (ldGo ((bz ms).drop i.toNat) fm bh pt dg).1 then(∀pt',Z (.exit 0) [S s,S ms,B b,B (ldGo ((bz ms).drop i.toNat) fm bh pt dg).2.1,B (ldGo ((bz ms).drop i.toNat) fm bh pt dg).2.2.1,B pt',I (ldGo ((bz ms).drop i.toNat) fm bh pt dg).2.2.2,I s.size] [])else(∀fm' bh' pt' dg' i',Z .ret [S s,S ms,B false,B fm',B bh',B pt',I dg',I i'] []))
def ox(b d e g:Bool)(a c:Y)(f:E):E:= .string a::dt b c (.bool d:: .bool e::f) (.bool g)
theorem r105_0(s:Y)(ms:Y)(b:Bool)(fm:Bool)(bh:Bool)(pt:Bool)(dg:Int)(i:Int)(jk:Tmps)(R:Exit→E→O→Prop):(jbp Tryz.prog G4 noL Tryz.f240.ntmps (ja6 Tryz.f240 0) (tl S105_0.live (V105_0 (s,ms,b,fm,bh,pt,dg,i)) jk) (ml S105_0.mid (B105_0 (s,ms,b,fm,bh,pt,dg,i))) S105_0.n fun e t' m' _=>R e (List.map t' S105_0.live) (List.map m' S105_0.mid))=(bif dw s i then fu (ar ms i 118) ms i (R .normal (ox b bh true fm s ms (cq dg i)) []) (bif bq ms i then bif ar ms i 100 then R .normal (ox b bh pt true s ms (bu dg::bp i)) []else bif bq ms i then bif ar ms i 99 then bif fm then R .ret (S s::dt false ms (B bh::B pt::az dg i) (B fm)) []else bm (bh || true) R [] (ox b (bh || pt) pt fm s ms (bu dg::bp i))else R .normal (ox b bh pt fm s ms (cq dg i)) []else False else False)else R (.exit 0) (ox b bh pt fm s ms (az dg i)) []):=by kernel_rfl
theorem l105_0:LOKf Tryz.prog (oneL 0 S105_0.h) Tryz.f240:=by
 refine jbe (h:=S105_0.h) (by kernel_rfl) (ja7 ok_G4 hmix (by kernel_rfl) (ja1 _) S105_0 V105_0 B105_0 (fun(s,ms,b,fm,bh,pt,dg,i)=>(s.size-i).toNat) ?_ ?_ ?_)
 ·intro vs bs s h;simp only[S105_0]at h;split at h
  all_goals first | (cases h;exact⟨rfl,rfl⟩) | cases h
 ·exact fun _ _ _ h=>h
 ·intro⟨s,ms,b,fm,bh,pt,dg,i⟩ jk Z hp hf;rw[r105_0];delta dt ox ak az av am bq fu au bu bp cq bm ax ar dw;simp only[S105_0]at hp hf;simp only[jae]at hp;apply cond_intro<;>intro h
  ·have h:=jab h;rw[jb4 (s:=ms) hp.1 (by omega),ldGo]at hf;have h1:decide (0≤i∧i<(ms.size:Int))=true:=jaa (by omega);refine c_t h1 (cond_intro (fun q1=> ?_) (fun q1=>c_t h1 (cond_intro (fun q2=> ?_) (fun q2=>c_t h1 (cond_intro (fun q3=>cond_intro (fun q4=> ?_) (fun q4=>c_t (by simp) ?_)) (fun q3=> ?_))))))
   ·rw[q1,cond_true]at hf;rw[w64 (by omega)];exact⟨(s,ms,b,fm,bh,true,dg,i+1),rfl,rfl,by simp only[S105_0,jae];omega,by simp only;omega,hf⟩
   ·rw[q1,q2,cond_false,cond_true]at hf;rw[w64 (n:=dg+1) (by omega),w64 (by omega)];exact⟨(s,ms,b,true,bh,pt,dg+1,i+1),rfl,rfl,by simp only[S105_0,jae];omega,by simp only;omega,hf⟩
   ·rw[q1,q2,q3,cond_false,cond_false,cond_true,q4,cond_true]at hf;exact hf fm bh pt dg i
   ·rw[q1,q2,q3,cond_false,cond_false,cond_true,q4,cond_false]at hf;rw[w64 (n:=dg+1) (by omega),w64 (by omega),q4];exact⟨(s,ms,b,false,bh || pt,pt,dg+1,i+1),rfl,rfl,by simp only[S105_0,jae];omega,by simp only;omega,hf⟩
   ·rw[q1,q2,q3,cond_false,cond_false,cond_false]at hf;rw[w64 (by omega)];exact⟨(s,ms,b,fm,bh,pt,dg,i+1),rfl,rfl,by simp only[S105_0,jae];omega,by simp only;omega,hf⟩
  ·have h:=jac h;rw[jce (by omega)]at hf;obtain rfl:i=s.size:=by omega
   exact hf pt
def s105(s:Y)(ms:Y):Bool×Value:=(decide (s.size=ms.size∧s.size≤1000),.bool (jdp (bz s) (bz ms)))
theorem fn105:Fn1 Tryz.prog 240 Tryz.f240:= .m Tryz.func240
def ig(a b c:Bool)(d e:Prop):Prop:=bif a&&b then av c d e else False
def nr(a:Y):Prod Bool (Prod Bool Int):=(ldGo (dq a 0) false false false 0).snd
def ns(b:Bool)(a:Int):Bool:=bif e9 a 1 then br (decide (a≤9)) (b || true) true else true
theorem v105(s:Y)(ms:Y)(R:Value→Prop):jaz Tryz.prog G4 (oneL 0 S105_0.h) Tryz.f240 [Enc.enc s,Enc.enc ms] (fun _=>none) 0 (fun v _ _=>R v)=(ig (b7 s) (br (hasZ (bz s) 90) (b7 s&&true) true) (hasZ (bz s) 90&&hasZ (bz s) 42) (R (B false)) (bif b7 s&&br (hasZ (bz s) 90) (b7 s&&true) (b7 s&& (bif hasZ (bz s) 42 then b7 s&&true else true))then bif br (hasZ (bz s) 90) (drZ (bz s) !=0) (hasZ (bz s) 42&&drZ (bz s) !=0)then R (B false)else ip (S105_0.pre (s,(ms,(false,(false,(false,(false,((0:Int),(0:Int))))))))) (ldGo (dq ms 0) false false false 0).fst (Bool→Tmps→ay (ns (nr ms).snd.fst (nr ms).snd.snd) (B (decide ((nr ms).snd.snd≥1) && (decide ((nr ms).snd.snd≤9) &&br (nr ms).snd.fst (!(nr ms).fst) (!false)))) R) (Bool→Bool→Bool→Int→Int→ji false R)else False)):=by kernel_rfl
theorem ok105:jam Tryz.prog 240 (sp2 s105):=by
 refine jcj ok_G4 hmix fn105 l105_0 jag fun s ms hc=> ?_
 rw[ja0,v105];delta av ig ip ji ay br dq nr e9 ns b7;have hc:(s.size=ms.size∧s.size≤1000):=jab hc;dsimp only[s105];have d:decide (s.size≤9223372036854775807)=true:=jaa (by omega);rw[d];refine c_t (by cases hasZ (bz s) 90<;>rfl) (cond_intro (fun a=> ?_) (fun a=> ?_))
 ·simp only[jdp,a,cond_true]
 ·refine c_t (by cases hasZ (bz s) 90<;>cases hasZ (bz s) 42<;>rfl) ?_;have e:(bif hasZ (bz s) 90 then drZ (bz s) !=0 else hasZ (bz s) 42&&drZ (bz s) !=0)=((hasZ (bz s) 90 || hasZ (bz s) 42) &&drZ (bz s) !=0):=by cases hasZ (bz s) 90<;>cases hasZ (bz s) 42<;>rfl
  rw[e];apply cond_intro<;>intro q
  ·simp only[jdp,a,q,cond_true,cond_false]
  ·refine c_t (by simp only[S105_0,jae];omega) ?_;rw[jdh];simp only[jdp,a,q,cond_false];generalize ldGo (bz ms) false false false 0=w;obtain⟨w1,fm,bh,dg⟩:=w;refine cond_intro (fun r pt' x=>c_t ?_ ?_) (fun r _ _ _ _ _ _=> ?_)
   ·simp only;cases decide (dg≥1) <;>cases decide (dg≤9) <;>cases bh<;>rfl
   ·simp only at r ⊢;rw[r];cases fm<;>cases bh<;>rfl
   ·simp only at r ⊢;rw[r];rfl
def b2i(b:Bool):Int:=if b then 1 else 0
def jdm(s:J):Int:=b2i (crZ s)+b2i (hasZ (jan s) 83)+b2i (hasZ (jan s) 43)+b2i (hasZ (jan s) 45)+cntZ (jan s) 84+cntZ (jan s) 73+cntZ (jan s) 82
def s76(s:Y):Bool×Value:=(decide (s.size≤1000),.int .i64 (jdm (bz s)))
theorem fn76:Fn1 Tryz.prog 200 Tryz.f200:= .m Tryz.func200
theorem lokf_jvP{fn:Func}{l:List Nat}(h:(match fn.body with | some c=>blks (jV l) c | none=> [])=[]):LOKf Tryz.prog (jV l) fn:=by
 unfold LOKf;split
 ·rename_i c hc;simp only[hc]at h;exact jg4 c fun p hp=>by rw[h]at hp;cases hp
 ·trivial
def bo76(s:Y):Y:=bif crZ (bz s)then s.extract 0 (IntKind.wrap .i64 ((s.size:Int)-2)).toNat else s
def sg76(b:Y)(x c:Int):Int:=bif hasZ (bz b) c then IntKind.wrap .i64 (x+1)else x
def dp(a:Y):Bool:=decide (a.size≤9223372036854775807)
def mg(b c:Bool)(a:Y)(d e:Prop):Prop:=bif dp a then bw b true c d e else False
def k76(b:Y)(x:Int)(R:Value→Prop):Prop:=mg (hasZ (bz b) 83) (b7 b) b (bw (hasZ (bz b) 43) true (b7 b) (bif hasZ (bz b) 45 || true then d4 (b7 b) b (ay (b7 b) (ep (il (IntKind.i64.wrap (sg76 b (sg76 b (sg76 b x 83) 43) 45+(cntZ (bz b) 84:Int))) (cntZ (bz b) 73:Int)+(cntZ (bz b) 82:Int))) R) False else False) False) False
theorem v76(s:Y)(R:Value→Prop):jaz Tryz.prog G4 (jV [4]) Tryz.f200 [Enc.enc s] (fun _=>none) 0 (fun v _ _=>R v)=(d4 (br (crZ (bz s)) (ky s 2&&true&&true) true) s (k76 (bo76 s) (bif crZ (bz s)then 1 else 0) R) False):=by kernel_rfl
theorem b2i_r{q:Bool}:0≤b2i q∧b2i q≤1:=by cases q<;>decide
theorem sg_v{b:Y}{x c:Int}(h:0≤x∧x≤1000):sg76 b x c=x+b2i (hasZ (bz b) c):=by
 unfold sg76;cases hasZ (bz b) c
 ·simp[b2i]
 ·rw[cond_true,w64 (by omega)];rfl
theorem ok76:jam Tryz.prog 200 (sp1 s76):=by
 refine jby ok_G4 hmix fn76 (lokf_jvP (l:=[4]) (by kernel_rfl)) jag fun s hc=> ?_
 rw[ja0,v76];delta av b7 d4 br d5 am aw gq ky;have hc:(s.size≤1000):=jab hc;dsimp only[s76]
 have key:(bz (bo76 s)=jan (bz s)∧(bo76 s).size≤1000)∧(crZ (bz s)=true→2≤s.size):=by
  unfold bo76 jan;cases hcr:crZ (bz s)
  ·exact⟨⟨by simp,hc⟩,by simp⟩
  ·have h2:2≤s.size:=by
    simp only[crZ,jaf,jae,jal]at hcr;exact hcr.1
   have e:((s.size:Int)-2).toNat=s.size-2:=by omega
   rw[cond_true,w64 (n:=(s.size:Int)-2) (by omega),e];have eb:bz (s.extract 0 (s.size-2))=(bz s).take (s.size-2):=by rw[jb7];simp
   have hbs:(s.extract 0 (s.size-2)).size=s.size-2:=by rw[←jal,eb,List.length_take,jal];omega
   exact⟨⟨by rw[eb];simp,by omega⟩,fun _=>h2⟩
 obtain⟨⟨hB,hb⟩,h2⟩:=key;refine c_t (jaa (by omega)) (c_t ?_ ?_)
 ·cases hcr:crZ (bz s)
  ·rfl
  ·have h2:=h2 hcr;rw[w64 (n:=(s.size:Int)-2) (by omega)];simp;omega
 generalize bo76 s=b at*;have n1:=jit (bz b) 84;have n2:=jit (bz b) 73;have n3:=jit (bz b) 82;rw[jal]at n1 n2 n3;unfold k76;delta av bw dp mg b7 d4 ay aw ep il;simp only[jaa (show b.size≤9223372036854775807 by omega),Bool.or_true,cond_true,jdm,←hB];have hx:(bif crZ (bz s)then(1:Int)else 0)=b2i (crZ (bz s)):=by cases crZ (bz s) <;>rfl
 have r:=fun q=>b2i_r (q:=q)
 have r0:=r (crZ (bz s));have r1:=r (hasZ (bz b) 83);have r2:=r (hasZ (bz b) 43);have r3:=r (hasZ (bz b) 45);rw[hx,sg_v (x:=b2i (crZ (bz s))) (by omega),sg_v (x:=b2i (crZ (bz s))+b2i (hasZ (bz b) 83)) (by omega),sg_v (by omega),w3 (by omega) (by omega) (by omega) (by omega)]
def G5:Env:=(Env.nil.add 202 (sp2 s40)).add 242 (sp1 s96)
theorem ok_G5:jaw Tryz.prog G5:=jai (jai jap ok40) ok96
def stIn(dr i:Int):J→J→Int→Bool→Bool→Bool×Bool
 | c::cs,m::ms,j,a,b=>bif m==100 || (m==99 || c==dr)then stIn dr i cs ms (j+1) (a || decide (j<i)) (b || decide (j>i))else stIn dr i cs ms (j+1) a b
 | _,_,_,a,b=>(a,b)
def stGo(dr:Int)(body ms:J):J→Int→Bool
 | [],_=>true
 | c::r,i=>(bif !hasZ [36,83,43,45] c || c==dr then true else !((stIn dr i body ms 0 false false).1&& (stIn dr i body ms 0 false false).2)) &&stGo dr body ms r (i+1)
def jf2(body ms:J):Bool:=stGo (drZ body) body ms body 0
def V106_2:Y×Y×Bool×Int×Int×Bool×Bool×Int→E:=fun(s,ms,b,dr,i,a,bh,j)=> [S s,S ms,B b,C8 dr,I i,B a,B bh,I j]
def B106_2:Y×Y×Bool×Int×Int×Bool×Bool×Int→O:=fun _=> []
def S106_2:LSpec (Y×Y×Bool×Int×Int×Bool×Bool×Int) where
 live:=[0,1,4,5,6,7,8,9]
 mid:=[]
 n:=200
 dec vs bs:=match vs,bs with | [.string s,.string ms,.bool b,.int .u8 dr,.int .i64 i,.bool a,.bool bh,.int .i64 j],[]=>some (s,ms,b,dr,i,a,bh,j) | _,_=>none
 pre:=fun(s,ms,b,dr,i,a,bh,j)=>decide (0≤j∧j≤s.size∧s.size=ms.size∧s.size≤1000)
 fin:=fun(s,ms,b,dr,i,a,bh,j) Z=>Z (.exit 2) [S s,S ms,B b,C8 dr,I i,B (stIn dr i ((bz s).drop j.toNat) ((bz ms).drop j.toNat) j a bh).1,B (stIn dr i ((bz s).drop j.toNat) ((bz ms).drop j.toNat) j a bh).2,I s.size] []
def gp(b:Bool)(a:Int)(d:E)(c:Value):E:=ak a:: .bool b::c::d
theorem r106_2(s:Y)(ms:Y)(b:Bool)(dr:Int)(i:Int)(a:Bool)(bh:Bool)(j:Int)(jk:Tmps)(R:Exit→E→O→Prop):(jbp Tryz.prog G5 noL Tryz.f241.ntmps (ja6 Tryz.f241 2) (tl S106_2.live (V106_2 (s,ms,b,dr,i,a,bh,j)) jk) (ml S106_2.mid (B106_2 (s,ms,b,dr,i,a,bh,j))) S106_2.n fun e t' m' _=>R e (List.map t' S106_2.live) (List.map m' S106_2.mid))=(bif dw s j then ig (bq ms j) (ar ms j 100 || bq ms j&& (ar ms j 99 || bq s j&&true)) (ar ms j 100 || (ar ms j 99 || ar s j dr)) (bif a || true then bm (bh || true) R [] (S s::dt b ms (gp (a || ct j i) i (bp j) (B (bh || decide (j>i)))) (al dr))else False) (R .normal (S s::dt b ms (gp a i (bp j) (B bh)) (al dr)) [])else R (.exit 2) (S s::dt b ms (gp a i [ak j] (B bh)) (al dr)) []):=by kernel_rfl
theorem l106_2:∀t m n K,S106_2.h t m n K→Ab.Sem Tryz.prog Tryz.f241.ntmps (.loop (ja6 Tryz.f241 2)) t m n K:=by
 refine ja7 ok_G5 hmix (by kernel_rfl) (ja1 _) S106_2 V106_2 B106_2 (fun(s,ms,b,dr,i,a,bh,j)=>(s.size-j).toNat) ?_ ?_ ?_
 ·intro vs bs s h;simp only[S106_2]at h;split at h
  all_goals first | (cases h;exact⟨rfl,rfl⟩) | cases h
 ·exact fun _ _ _ h=>h
 ·intro⟨s,ms,b,dr,i,a,bh,j⟩ jk Z hp hf;rw[r106_2];delta dt al ak gp av ig au bu bp bm ct ax ar am bq dw;simp only[S106_2]at hp hf;simp only[jae]at hp;apply cond_intro<;>intro h
  ·have h:=jab h;rw[jb4 hp.1 h,jb4 (s:=ms) hp.1 (by omega),stIn]at hf;have h1:decide (0≤j∧j<(ms.size:Int))=true:=jaa (by omega);have h2:decide (0≤j∧j<(s.size:Int))=true:=jaa (by omega);rw[w64 (n:=j+1) (by omega)];refine c_t (by rw[h1,h2];simp) (cond_intro (fun q=> ?_) (fun q=> ?_))
   ·rw[q,cond_true]at hf;exact c_t (by simp) (c_t (by simp) ⟨(s,ms,b,dr,i,_,_,j+1),rfl,rfl,by simp only[S106_2,jae];omega,by simp only;omega,hf⟩)
   ·rw[q,cond_false]at hf;exact⟨(s,ms,b,dr,i,a,bh,j+1),rfl,rfl,by simp only[S106_2,jae];omega,by simp only;omega,hf⟩
  ·have h:=jac h;rw[jce (s:=s) (by omega)]at hf;obtain rfl:j=s.size:=by omega
   exact hf
theorem lk106:LOK Tryz.prog (oneL 2 S106_2.h) Tryz.f241.ntmps (ja6 Tryz.f241 0):=lok_one (by kernel_rfl) l106_2
def V106_0:Y×Y×Bool×Int×Int→E:=fun(s,ms,b,dr,i)=> [S s,S ms,B b,C8 dr,I i]
def B106_0:Y×Y×Bool×Int×Int→O:=fun _=> []
def S106_0:LSpec (Y×Y×Bool×Int×Int) where
 live:=[0,1,4,5,6]
 mid:=[]
 n:=100
 dec vs bs:=match vs,bs with | [.string s,.string ms,.bool b,.int .u8 dr,.int .i64 i],[]=>some (s,ms,b,dr,i) | _,_=>none
 pre:=fun(s,ms,b,dr,i)=>decide (0≤i∧i≤s.size∧s.size=ms.size∧s.size≤1000)
 fin:=fun(s,ms,b,dr,i) Z=>(bif stGo dr (bz s) (bz ms) ((bz s).drop i.toNat) i then Z (.exit 0) [S s,S ms,B b,C8 dr,I s.size] []else(∀i',Z .ret [S s,S ms,B false,C8 dr,I i'] []))
theorem r106_0(s:Y)(ms:Y)(b:Bool)(dr:Int)(i:Int)(jk:Tmps)(R:Exit→E→O→Prop):(jbp Tryz.prog G5 (oneL 2 S106_2.h) Tryz.f241.ntmps (ja6 Tryz.f241 0) (tl S106_0.live (V106_0 (s,ms,b,dr,i)) jk) (ml S106_0.mid (B106_0 (s,ms,b,dr,i))) S106_0.n fun e t' m' _=>R e (List.map t' S106_0.live) (List.map m' S106_0.mid))=(bif dw s i then ig (bq s i) (!jj s i [43,45] 36 83 || bq s i&&true) (!jj s i [43,45] 36 83 || ar s i dr) (R .normal (S s::dt b ms (bp i) (al dr)) []) (go (S106_2.pre (s,(ms,(b,(dr,(i,(false,(false,(0:Int))))))))) (bw (stIn dr i (dq s 0) (dq ms 0) 0 false false).fst true ((stIn dr i (dq s 0) (dq ms 0) 0 false false).fst&& (stIn dr i (dq s 0) (dq ms 0) 0 false false).snd) (R .ret (S s::dt false ms [ak i] (al dr)) []) (R .normal (S s::dt b ms (bp i) (al dr)) [])) Tmps)else R (.exit 0) (S s::dt b ms [ak i] (al dr)) []):=by kernel_rfl
theorem l106_0:∀t m n K,S106_0.h t m n K→Ab.Sem Tryz.prog Tryz.f241.ntmps (.loop (ja6 Tryz.f241 0)) t m n K:=by
 refine ja7 ok_G5 hmix (by kernel_rfl) lk106 S106_0 V106_0 B106_0 (fun(s,ms,b,dr,i)=>(s.size-i).toNat) ?_ ?_ ?_
 ·intro vs bs s h;simp only[S106_0]at h;split at h
  all_goals first | (cases h;exact⟨rfl,rfl⟩) | cases h
 ·exact fun _ _ _ h=>h
 ·intro⟨s,ms,b,dr,i⟩ jk Z hp hf;rw[r106_0];delta dt al ak av ig go bw au bu bp dq ax ar jj am bq dw;simp only[S106_0]at hp hf;simp only[jae]at hp;apply cond_intro<;>intro h
  ·have h:=jab h;rw[jb4 hp.1 h,stGo]at hf;have h1:decide (0≤i∧i<(s.size:Int))=true:=jaa (by omega);have k:bz ⟨#[36,83,43,45]⟩=[36,83,43,45]:=rfl;rw[k];refine c_t (by rw[h1];simp) (cond_intro (fun q=> ?_) (fun q=>c_t ?_ (fun x=>c_t (by simp) ?_)))
   ·rw[q,cond_true,Bool.true_and]at hf;rw[w64 (by omega)];exact⟨(s,ms,b,dr,i+1),rfl,rfl,by simp only[S106_0,jae];omega,by simp only;omega,hf⟩
   ·simp only[S106_2,jae];omega
   ·rw[q,cond_false]at hf;rw[jdh,jdh];apply cond_intro<;>intro w
    ·rw[w]at hf;exact hf i
    ·rw[w,Bool.not_false,Bool.true_and]at hf;rw[w64 (by omega)];exact⟨(s,ms,b,dr,i+1),rfl,rfl,by simp only[S106_0,jae];omega,by simp only;omega,hf⟩
  ·have h:=jac h;rw[jce (by omega)]at hf;obtain rfl:i=s.size:=by omega
   exact hf
theorem lok106:LOKf Tryz.prog (oneL 0 S106_0.h) Tryz.f241:=jbe (by kernel_rfl) l106_0
def s106(s:Y)(ms:Y):Bool×Value:=(decide (s.size=ms.size∧s.size≤1000),.bool (jf2 (bz s) (bz ms)))
theorem fn106:Fn1 Tryz.prog 241 Tryz.f241:= .m Tryz.func241
def my(a b:Bool)(c:Value→Prop):Prop:=bif a then bif b then ji true c else Int→ji false c else False
theorem v106(s:Y)(ms:Y)(R:Value→Prop):jaz Tryz.prog G5 (oneL 0 S106_0.h) Tryz.f241 [Enc.enc s,Enc.enc ms] (fun _=>none) 0 (fun v _ _=>R v)=(bif b7 s then my (S106_0.pre (s,(ms,(false,(drZ (bz s),(0:Int)))))) (stGo (drZ (bz s)) (bz s) (bz ms) (dq s 0) 0) R else False):=by kernel_rfl
theorem ok106:jam Tryz.prog 241 (sp2 s106):=by
 refine jcj ok_G5 hmix fn106 lok106 jag fun s ms hc=> ?_
 rw[ja0,v106];delta ji my dq b7;have hc:(s.size=ms.size∧s.size≤1000):=jab hc;dsimp only[s106];refine c_t (jaa (by omega)) (c_t (by simp only[S106_0,jae];omega) ?_);rw[jdh];exact cond_intro (fun h _=>by simp only[jf2,h]) (fun h _ _=>by simp only[jf2,h])
theorem mk_len(dr:Int):∀(l:J)(b:Bool),(mkGo dr b l).length=l.length
 | [],_=>rfl
 | c::r,b=>by simp only[mkGo,List.length_cons,mk_len dr r]
theorem jej(l:J):(jas l).length=l.length:=by
 unfold jas jan;cases h:crZ l with
 | false=>simp[mk_len]
 | true=>
  have:2≤l.length:=by
   simp only[crZ,jaf,jae]at h;exact h.1
  simp[mk_len];omega
theorem mk1_rng(dr:Int)(b:Bool)(c:Int):0≤mk1 dr b c∧mk1 dr b c<256:=by
 unfold mk1;cases hasZ [57,89,84,73,82] c<;>cases(hasZ [90,42] c || (dr !=0&& (c==dr&&b))) <;>cases(c==86) <;>cases(c==36) <;>cases hasZ [83,43,45] c<;>decide
theorem mk_isB(dr:Int):∀(l:J)(b:Bool),IsB (mkGo dr b l)
 | [],_=>IsB.nil
 | c::r,b=>IsB.cons (mk1_rng dr b c) (mk_isB dr r _)
theorem jfd(l:J):IsB (jas l):=by
 unfold jas;refine(mk_isB _ _ _).append ?_;split
 ·intro c hc;simp at hc;omega
 ·exact IsB.nil
def numV(s:J):Bool:= !je6 s&& (!(jan s).any (hasZ [65,88,67,68]) && (decide ((cntZ (jan s) 86:Int)≤1) && (jcr (jan s) && (jdp (jan s) (jas (jan s)) && (decide (jdm s≤1) &&jf2 (jan s) (jas (jan s)))))))
def G6:Env:=((((((((Env.nil.add 202 (sp2 s40)).add 199 (sp2 s75)).add 197 (sp1 s73)).add 238 (sp1 s101)).add 201 (sp1 s69)).add 239 (sp1 s104)).add 240 (sp2 s105)).add 200 (sp1 s76)).add 241 (sp2 s106)
theorem ok_G6:jaw Tryz.prog G6:=jai (jai (jai (jai (jai (jai (jai (jai (jai jap ok40) ok75) ok73) ok101) ok69) ok104) ok105) ok76) ok106
def V74_0:Y×Bool×Y×Int→E:=fun(s,b,d,i)=> [S s,B b,S d,I i]
def B74_0:Y×Bool×Y×Int→O:=fun _=> []
def S74_0:LSpec (Y×Bool×Y×Int) where
 live:=[0,2,3,4]
 mid:=[]
 n:=80
 dec vs bs:=match vs,bs with | [.string s,.bool b,.string d,.int .i64 i],[]=>some (s,b,d,i) | _,_=>none
 pre:=fun(s,b,d,i)=>decide (0≤i∧i≤d.size∧d.size≤1000)
 fin:=fun(s,b,d,i) Z=>(bif ((bz d).drop i.toNat).any (hasZ [65,88,67,68])then(∀i',Z .ret [S s,B false,S d,I i'] [])else Z (.exit 0) [S s,B b,S d,I d.size] [])
theorem r74_0(s:Y)(b:Bool)(d:Y)(i:Int)(jk:Tmps)(R:Exit→E→O→Prop):(jbp Tryz.prog G6 noL Tryz.f198.ntmps (ja6 Tryz.f198 0) (tl S74_0.live (V74_0 (s,b,d,i)) jk) (ml S74_0.mid (B74_0 (s,b,d,i))) S74_0.n fun e t' m' _=>R e (List.map t' S74_0.live) (List.map m' S74_0.mid))=(lc (bq d i) (jj d i [67,68] 65 88) d s R i [ak i] (S d::bp i) (bk d [] (ak i)) (B false) (S d) (B b)):=by kernel_rfl
theorem l74_0:LOKf Tryz.prog (oneL 0 S74_0.h) Tryz.f198:=by
 refine jbe (h:=S74_0.h) (by kernel_rfl) (ja7 ok_G6 hmix (by kernel_rfl) (ja1 _) S74_0 V74_0 B74_0 (fun(s,b,d,i)=>(d.size-i).toNat) ?_ ?_ ?_)
 ·intro vs bs s h;simp only[S74_0]at h;split at h
  all_goals first | (cases h;exact⟨rfl,rfl⟩) | cases h
 ·exact fun _ _ _ h=>h
 ·intro⟨s,b,d,i⟩ jk Z hp hf;rw[r74_0];delta kj am dw lc bk ak au bu bp ax jj bq;simp only[S74_0]at hp hf;simp only[jae]at hp;apply cond_intro<;>intro h
  ·have h:=jab h;rw[jb4 hp.1 h,List.any_cons]at hf;have k:bz ⟨#[65,88,67,68]⟩=[65,88,67,68]:=rfl;rw[k];refine c_t (jaa (by omega)) (cond_intro (fun q=> ?_) (fun q=> ?_))
   ·rw[q]at hf;exact hf i
   ·rw[q,Bool.false_or]at hf;rw[w64 (by omega)];exact⟨(s,b,d,i+1),rfl,rfl,by simp only[S74_0,jae];omega,by simp only;omega,hf⟩
  ·have h:=jac h;rw[jce (by omega)]at hf;obtain rfl:i=d.size:=by omega
   exact hf
def s74(s:Y):Bool×Value:=(decide (s.size≤1000),.bool (numV (bz s)))
theorem fn74:Fn1 Tryz.prog 198 Tryz.f198:= .m Tryz.func198
def ir(a:Y):Y:=sz (jas (bz a))
def fy(a:Y):Bool:=decide (a.size≤1000)
def rd(a b:Y)(c:Value→Prop):Prop:=bif Px.S74_0.pre (a,(false,(b,(0:Int))))then bif (dq b 0).any (hasZ [65,88,67,68])then Int→Tmps→c (.bool false)else Tmps→j7 (fy b) (b7 b&&br (decide ((cntZ (bz b) 86:Int)≤1)) (fy b&& (bif jcr (bz b)then decide (b.size=(ir b).size∧b.size≤1000) && (bif jdp (bz b) (bz (ir b))then fy a&& (bif decide (jdm (bz a)≤1)then decide (b.size=(ir b).size∧b.size≤1000) &&true else true)else true)else true)) true) (.bool (decide ((cntZ (bz b) 86:Int)≤1) && (jcr (bz b) && (jdp (bz b) (bz (ir b)) && (decide (jdm (bz a)≤1) &&jf2 (bz b) (bz (ir b))))))) c else False
theorem v74(s:Y)(R:Value→Prop):jaz Tryz.prog G6 (oneL 0 S74_0.h) Tryz.f198 [Enc.enc s] (fun _=>none) 0 (fun v _ _=>R v)=(d4 (je6 (bz s)) s (R (B false)) (bif b7 s then bif crZ (bz s)then bif ky s 2 then rd s (ib s 2) R else False else rd s s R else False)):=by kernel_rfl
theorem ok74:jam Tryz.prog 198 (sp1 s74):=by
 refine jby ok_G6 hmix fn74 l74_0 jag fun s hc=> ?_
 rw[ja0,v74];delta av b7 d4 ay j7 ir br fy dq rd aw am gq ib d5 ky;have hc:(s.size≤1000):=jab hc;dsimp only[s74];have hm:∀b:Y,bz (sz (jas (bz b)))=jas (bz b)∧(sz (jas (bz b))).size=b.size:=fun b=>⟨jcy (jfd _),by rw[jcf,jej,jal]⟩
 have d0:decide (s.size≤9223372036854775807)=true:=jaa (by omega);have e4:decide (s.size≤1000)=true:=jaa hc;rw[d0];refine c_t rfl (cond_intro (fun hch=>by simp only[numV,hch,Bool.not_true,Bool.false_and]) (fun hch=>c_t rfl (cond_intro (fun hcr=> ?_) (fun hcr=> ?_))))
 ·have h2:2≤s.size:=by
   simp only[crZ,jaf,jae,jal]at hcr;exact hcr.1
  have e:((s.size:Int)-2).toNat=s.size-2:=by omega
  rw[w64 (n:=(s.size:Int)-2) (by omega),e];have eb:bz (s.extract 0 (s.size-2))=(bz s).take (s.size-2):=by rw[jb7];simp
  have hbs:(s.extract 0 (s.size-2)).size=s.size-2:=by rw[←jal,eb,List.length_take,jal];omega
  have hB:jan (bz s)=bz (s.extract 0 (s.size-2)):=by simp[jan,hcr,eb]
  clear eb;generalize s.extract 0 (s.size-2)=b at*;have e1:decide (b.size≤1000)=true:=jaa (by omega);have e2:decide (b.size≤9223372036854775807)=true:=jaa (by omega);refine c_t (jaa (by omega)) (c_t (by simp only[S74_0,jae];omega) ?_);rw[jdh];refine cond_intro (fun ha _ _=> ?_) (fun ha _=> ?_)
  ·simp only[numV,hB,ha,Bool.not_true,Bool.false_and,Bool.and_false]
  ·simp only[(hm b).1,(hm b).2,e1,e2,e4,eq_self,true_and,Bool.true_and,cond_true,Bool.and_true];refine c_t (by simp) ?_;simp only[numV,hch,hB,ha,Bool.not_false,Bool.true_and]
 ·have hB:jan (bz s)=bz s:=by simp[jan,hcr]
  refine c_t (by simp only[S74_0,jae];omega) ?_;rw[jdh];refine cond_intro (fun ha _ _=> ?_) (fun ha _=> ?_)
  ·simp only[numV,hB,ha,Bool.not_true,Bool.false_and,Bool.and_false]
  ·simp only[(hm s).1,(hm s).2,e4,eq_self,true_and,Bool.true_and,cond_true,Bool.and_true];refine c_t (by simp) ?_;simp only[numV,hch,hB,ha,Bool.not_false,Bool.true_and]
def G7:Env:=((((((Env.nil.add 202 (sp2 s40)).add 199 (sp2 s75)).add 197 (sp1 s73)).add 201 (sp1 s69)).add 196 (sp1 s45)).add 200 (sp1 s76)).add 198 (sp1 s74)
theorem ok_G7:jaw Tryz.prog G7:=jai (jai (jai (jai (jai (jai (jai jap ok40) ok75) ok73) ok69) ok45) ok76) ok74
def vOK(l:J):Bool:=exOK l&& (je6 (exZ l) || numV (exZ l))
def pN(l:J):Bool:=exOK l&&numV (exZ l)
def pS(l:J):J:=if vOK l=true then exZ l else []
def pW(l:J):Int:=if vOK l=true then(if je6 (exZ l)=true then((exZ l).length:Int)else(exZ l).length-cntZ (exZ l) 86)else 0
def isP(m:Int):Bool:=m==100 || m==99
def pdGo:J→Int
 | []=>0
 | m::r=>(bif isP m then 1 else 0)+pdGo r
def pqGo(s:J):J→Int→Int
 | [],_=>0
 | m::r,i=>(bif isP m&&hasZ (s.take i.toNat) 86 then 1 else 0)+pqGo s r (i+1)
def pD(l:J):Int:=if pN l=true then pdGo (jas (exZ l))else 0
def pQ(l:J):Int:=if pN l=true then pqGo (exZ l) (jas (exZ l)) 0 else 0
def pG(l:J):Bool:=pN l&&jdm (exZ l)==1
def pE(l:J):Int:=if vOK l=true then 0 else 30
def picV(l:J):Value:= .agg ⟨[.string (sz (pS l)),.bool (pN l),.int .i64 (pW l),.int .i64 (pD l),.int .i64 (pQ l),.bool (pG l)]⟩
def V30_0:Int×Y×Y×Y×Bool×Int×Int×Int×Bool×Y×Int×Int×Int×Bool×Bool×Int→E:=fun(e,s,ms,z,zb,z1,z2,z3,zg,p,w,d,q,n,g,i)=> [.pointer (some ⟨0,0,some 0⟩),I e,S s,.pointer (some ⟨26,0,some 0⟩),S ms,I i]
def B30_0:Int×Y×Y×Y×Bool×Int×Int×Int×Bool×Y×Int×Int×Int×Bool×Bool×Int→O:=fun(e,s,ms,z,zb,z1,z2,z3,zg,p,w,d,q,n,g,i)=> [some ⟨[S z,B zb,I z1,I z2,I z3,B zg],131,true⟩,some ⟨[S p,B n,I w,I d,I q,B g],131,true⟩]
def S30_0:LSpec (Int×Y×Y×Y×Bool×Int×Int×Int×Bool×Y×Int×Int×Int×Bool×Bool×Int) where
 live:=[2,3,4,6,7,8]
 mid:=[0,26]
 n:=120
 dec vs bs:=match vs,bs with | [.pointer (some ⟨0,0,some 0⟩),.int .i64 e,.string s,.pointer (some ⟨26,0,some 0⟩),.string ms,.int .i64 i],[some ⟨[.string z,.bool zb,.int .i64 z1,.int .i64 z2,.int .i64 z3,.bool zg],131,true⟩,some ⟨[.string p,.bool n,.int .i64 w,.int .i64 d,.int .i64 q,.bool g],131,true⟩]=>some (e,s,ms,z,zb,z1,z2,z3,zg,p,w,d,q,n,g,i) | _,_=>none
 pre:=fun(e,s,ms,z,zb,z1,z2,z3,zg,p,w,d,q,n,g,i)=>decide (0≤i∧i≤ms.size∧ms.size=s.size∧s.size≤1000∧0≤d∧d≤i∧0≤q∧q≤i)
 fin:=fun(e,s,ms,z,zb,z1,z2,z3,zg,p,w,d,q,n,g,i) Z=>Z (.exit 0) [.pointer (some ⟨0,0,some 0⟩),I e,S s,.pointer (some ⟨26,0,some 0⟩),S ms,I ms.size] [some ⟨[S z,B zb,I z1,I z2,I z3,B zg],131,true⟩,some ⟨[S p,B n,I w,I (d+pdGo ((bz ms).drop i.toNat)),I (q+pqGo (bz s) ((bz ms).drop i.toNat) i),B g],131,true⟩]
def gu(b f:Bool)(a:Y)(c d e:Int):Option Blk:=some (.mk [.string a,.bool b,ak c,ak d,ak e,.bool f] 131 true)
def aq(a:Nat):Value:= .pointer (some (.mk a 0 (some 0)))
def kl(a:Y)(d:E)(b:Nat)(c:Value):E:= .string a::aq b::c::d
theorem r30_0(e:Int)(s:Y)(ms:Y)(z:Y)(zb:Bool)(z1:Int)(z2:Int)(z3:Int)(zg:Bool)(p:Y)(w:Int)(d:Int)(q:Int)(n:Bool)(g:Bool)(i:Int)(jk:Tmps)(R:Exit→E→O→Prop):(jbp Tryz.prog G7 noL Tryz.f143.ntmps (ja6 Tryz.f143 0) (tl S30_0.live (V30_0 (e,s,ms,z,zb,z1,z2,z3,zg,p,w,d,q,n,g,i)) jk) (ml S30_0.mid (B30_0 (e,s,ms,z,zb,z1,z2,z3,zg,p,w,d,q,n,g,i))) S30_0.n fun e t' m' _=>R e (List.map t' S30_0.live) (List.map m' S30_0.mid))=(bif dw ms i then ig (bq ms i) (ar ms i 100 || bq ms i&&true) (ar ms i 100 || ar ms i 99) (bif d5 0 0 i i (am s)then d4 (hasZ (bz (s.extract 0 i.toNat)) 86) (s.extract 0 i.toNat) (R .normal (aq 0::ak e::kl s (bp i) 26 (S ms)) [gu zb zg z z1 z2 z3,gu n g p w (au d) (au q)]) (R .normal (aq 0::ak e::kl s (bp i) 26 (S ms)) [gu zb zg z z1 z2 z3,gu n g p w (au d) q])else False) (R .normal (aq 0::ak e::kl s (bp i) 26 (S ms)) [gu zb zg z z1 z2 z3,gu n g p w d q])else R (.exit 0) (aq 0::ak e::kl s [ak i] 26 (S ms)) [gu zb zg z z1 z2 z3,gu n g p w d q]):=by kernel_rfl
theorem l30_0:LOKf Tryz.prog (oneL 0 S30_0.h) Tryz.f143:=by
 refine jbe (h:=S30_0.h) (by kernel_rfl) (ja7 ok_G7 hmix (by kernel_rfl) (ja1 _) S30_0 V30_0 B30_0 (fun(e,s,ms,z,zb,z1,z2,z3,zg,p,w,d,q,n,g,i)=>(ms.size-i).toNat) ?_ ?_ ?_)
 ·intro vs bs s h;simp only[S30_0]at h;split at h
  all_goals first | (cases h;exact⟨rfl,rfl⟩) | cases h
 ·exact fun _ _ _ h=>h
 ·intro⟨e,s,ms,z,zb,z1,z2,z3,zg,p,w,d,q,n,g,i⟩ jk Z hp hf;rw[r30_0];delta ak gu aq kl av ig au bu bp b7 d4 d5 am ax ar bq dw;simp only[S30_0]at hp hf;simp only[jae]at hp;apply cond_intro<;>intro h
  ·have h:=jab h;rw[jb4 (s:=ms) hp.1 h,pdGo,pqGo]at hf;have h1:decide (0≤i∧i<(ms.size:Int))=true:=jaa (by omega);have ex:bz (s.extract 0 i.toNat)=(bz s).take i.toNat:=by rw[jb7];simp
   have exs:(s.extract 0 i.toNat).size≤1000:=by rw[←jal,ex,List.length_take,jal];omega
   refine c_t (by rw[h1];simp) (cond_intro (fun a=>c_t (jaa (by omega)) (c_t (jaa (by omega)) ?_)) (fun a=> ?_))
   ·have a':isP (jaj ms i.toNat)=true:=a;rw[a',cond_true,Bool.true_and]at hf;rw[ex,w64 (n:=d+1) (by omega),w64 (n:=i+1) (by omega)];apply cond_intro<;>intro b
    ·rw[b,cond_true,←Int.add_assoc,←Int.add_assoc]at hf;rw[w64 (n:=q+1) (by omega)];exact⟨(e,s,ms,z,zb,z1,z2,z3,zg,p,w,d+1,q+1,n,g,i+1),rfl,rfl,by simp only[S30_0,jae];omega,by simp only;omega,hf⟩
    ·rw[b,cond_false,Int.zero_add,←Int.add_assoc]at hf;exact⟨(e,s,ms,z,zb,z1,z2,z3,zg,p,w,d+1,q,n,g,i+1),rfl,rfl,by simp only[S30_0,jae];omega,by simp only;omega,hf⟩
   ·have a':isP (jaj ms i.toNat)=false:=a;rw[a',cond_false,Bool.false_and,cond_false,Int.zero_add,Int.zero_add]at hf;rw[w64 (by omega)];exact⟨(e,s,ms,z,zb,z1,z2,z3,zg,p,w,d,q,n,g,i+1),rfl,rfl,by simp only[S30_0,jae];omega,by simp only;omega,hf⟩
  ·have h:=jac h;rw[jce (s:=ms) (by omega),pdGo,pqGo,Int.add_zero,Int.add_zero]at hf;obtain rfl:i=ms.size:=by omega
   exact hf
theorem up_rng{c:Int}(h:0≤c∧c<256):0≤upZ c∧upZ c<256:=by unfold upZ;split<;>omega
theorem jjt:∀(l:J)(st n:Int)(out:J),IsB l→IsB out→out.length≤32→IsB (xpGo l st n out).1∧(xpGo l st n out).1.length≤32
 | [],st,n,out,_,h2,h3=>⟨h2,h3⟩
 | c::r,st,n,out,h1,h2,h3=>by
  have hc:=h1 c (List.mem_cons_self ..);have hr:IsB r:=fun x hx=>h1 x (List.mem_cons_of_mem _ hx)
  have nil:IsB (([],false):J×Bool).1∧(([],false):J×Bool).1.length≤32:=⟨IsB.nil,Nat.zero_le _⟩
  rw[xpGo];by_cases e1:st=1
  ·rw[if_pos e1];split
   ·split
    ·exact jjt r _ _ out hr h2 h3
    ·exact nil
   ·split
    ·exact jjt r _ _ out hr h2 h3
    ·exact nil
  ·rw[if_neg e1];by_cases e2:c=41∨st=2∧c=40
   ·rw[if_pos e2];exact nil
   ·rw[if_neg e2];by_cases e3:c=40
    ·rw[if_pos e3];exact jjt r _ _ out hr h2 h3
    ·rw[if_neg e3];by_cases hq:hasZ kL (upZ c)=true∧(out.length:Int)+(if st=2 then n else 1)≤32
     ·rw[if_pos hq];refine jjt r _ _ _ hr (h2.append fun x hx=> ?_) ?_
      ·rw[List.eq_of_mem_replicate hx];exact up_rng hc
      ·rw[List.length_append];simp only[rep1,List.length_replicate];have:=hq.2;omega
     ·rw[if_neg hq];exact nil
theorem jlb(s:Y):IsB (exZ (bz s))∧(exZ (bz s)).length≤32:=by
 unfold exZ;split
 ·exact jjt _ _ _ _ (jdq s) IsB.nil (Nat.zero_le _)
 ·exact⟨IsB.nil,Nat.zero_le _⟩
theorem jf1:sz []=⟨#[]⟩:=rfl
def s30(s:Y):Bool×Value:=(decide (s.size≤9223372036854775807),.tuple ⟨[picV (bz s),.int .i64 (pE (bz s))]⟩)
theorem fn30:Fn1 Tryz.prog 143 Tryz.f143:= .m Tryz.func143
def b9(a:E):Value:= .agg ⟨a⟩
def iq(a:Y):Y:=sz (exZ (bz a))
def cw(a:Y):Int:=(a.size:Int)
def cv(a b:Int):Int:=aw (a-b) .i64
theorem v30(s:Y)(R:Value→Prop):jaz Tryz.prog G7 (oneL 0 S30_0.h) Tryz.f143 [Enc.enc s] (fun _=>none) 0 (fun v _ _=>R v)=(d4 (eE (bz s) !=0) s (ik [] (b9 (cu::B false::ak 0::ak 0::ak 0::im false)) (I (eE (bz s))) R) (bif b7 (iq s)then bif je6 (bz (iq s))then ik [] (b9 (bk (iq s) (I (cw (iq s))::ak 0::ak 0::im false) (B false))) (ak 0) R else bif fy (iq s)then bif !Px.numV (bz (iq s))then ik [] (b9 (cu::B false::ak 0::ak 0::ak 0::im false)) (ak 30) R else bif b7 (iq s)then bif fy (iq s)then bif fy (iq s)then go (S30_0.pre ((0:Int),(iq s,(ir (iq s),(ao,(false,((0:Int),((0:Int),((0:Int),(false,(iq s,(cv (cw (iq s)) (cntZ (bz (iq s)) 86:Int),((0:Int),((0:Int),(true,(jdm (bz (iq s))==1,(0:Int))))))))))))))))) (ik [] (b9 (bk (iq s) (ep (cw (iq s)-(cntZ (bz (iq s)) 86:Int))::I (0+pdGo (dq (ir (iq s)) 0))::I (0+pqGo (bz (iq s)) (dq (ir (iq s)) 0) 0)::im (jdm (bz (iq s))==1)) (B true))) (ak 0) R) Tmps else False else False else False else False else False)):=by kernel_rfl
theorem ok30:jam Tryz.prog 143 (sp1 s30):=by
 refine jby ok_G7 hmix fn30 l30_0 jag fun s hc=> ?_
 rw[ja0,v30];delta av b7 d4 go du ik ak b9 bk im iq dq ir aw ep cw cv ao fy cu;have hc:(s.size≤9223372036854775807):=jab hc
 try dsimp only[s30]
 obtain⟨hb,hl⟩:=jlb s;have hmB:=jfd (exZ (bz s));have hml:=jej (exZ (bz s));have hcn:=jit (exZ (bz s)) 86;rw[jcy hb,jcf];refine c_t (jaa hc) (cond_intro (fun he=> ?_) (fun he=> ?_))
 ·have ho:exOK (bz s)=false:=by
   cases h:exOK (bz s)with
   | false=>rfl
   | true=>rw[eE,h]at he;cases he
  simp[picV,pS,pN,pW,pD,pQ,pG,pE,eE,vOK,ho,jf1]
 ·have ho:exOK (bz s)=true:=by
   cases h:exOK (bz s)with
   | true=>rfl
   | false=>rw[eE,h]at he;cases he
  refine c_t (jaa (by omega)) (cond_intro (fun hch=> ?_) (fun hch=>c_t (jaa (by omega)) (cond_intro (fun hn=> ?_) (fun hn=>c_t (jaa (by omega)) (c_t (jaa (by omega)) (c_t (jaa (by omega)) (c_t ?_ (fun x=> ?_))))))))
  ·simp[picV,pS,pN,pW,pD,pQ,pG,pE,vOK,ho,hch,numV]
  ·have hn:numV (exZ (bz s))=false:=by simpa using hn
   simp[picV,pS,pN,pW,pD,pQ,pG,pE,vOK,ho,hch,hn,jf1]
  ·have e1:(sz (jas (exZ (bz s)))).size=(exZ (bz s)).length:=by rw[jcf,hml]
   have e2:(sz (exZ (bz s))).size=(exZ (bz s)).length:=jcf _;simp only[S30_0,jae,e1];omega
  ·have hn:numV (exZ (bz s))=true:=by simpa using hn
   rw[jcy hmB,jdh,w64 (by omega)];simp[picV,pS,pN,pW,pD,pQ,pG,pE,vOK,ho,hch,hn]
structure Pic where
 s:Y
 n:Bool
 w:Int
 d:Int
 q:Int
 g:Bool
instance:Enc Pic where
 enc p:= .agg ⟨[.string p.s,.bool p.n,.int .i64 p.w,.int .i64 p.d,.int .i64 p.q,.bool p.g]⟩
 dec | .agg ⟨[.string a,.bool b,.int .i64 c,.int .i64 d,.int .i64 e,.bool f]⟩=>some ⟨a,b,c,d,e,f⟩ | _=>none
 dec_some:=by
  intro v a h;split at h
  ·cases h;rfl
  ·cases h
 plain_enc _:=rfl
def G8:Env:=((((Env.nil.add 202 (sp2 s40)).add 271 (sp1 s52)).add 270 (sp1 s77)).add 262 (sp2 s85)).add 143 (sp1 s30)
theorem ok_G8:jaw Tryz.prog G8:=jai (jai (jai (jai (jai jap ok40) ok52) ok77) ok85) ok30
def tyK(l:J):Int:=if vOK l=true then(if pN l=true then 1 else 3)else 0
def tyP(l:J):Int:=if vOK l=true then(if pN l=true then pD l else pW l)else 0
def tyV(l:J):Value:= .agg ⟨[.int .i64 (tyK l),.int .i64 (tyP l),.int .i64 (pQ l),.bool false,.string ⟨#[]⟩]⟩
def cuM(n q sc:Int):Int:=if q≥sc then(n.natAbs:Int)/tenZ (q-sc).toNat else n.natAbs*tenZ (sc-q).toNat
def cuV(n q sc d:Int):Int:=cuM n q sc%tenZ d.toNat
def cuN(n q sc d:Int)(g:Bool):Int:=if n<0∧g=true then 0-cuV n q sc d else cuV n q sc d
def cuF(n q sc d:Int)(g:Bool):Bool:=decide (cuM n q sc<tenZ d.toNat) && (decide (n≥0) || (g || cuV n q sc d==0))
def ssZ(c dr:Int)(m:Bool):Int:=bif dr !=0&&c==dr then 32 else bif hasZ [67,82,68,66] c then(bif m then c else 32)else sgZ c m
theorem jkj(l:J):(pE l !=0)= !vOK l:=by
 unfold pE;cases vOK l<;>rfl
theorem pE_eq(l:J):(pE l==0)=vOK l:=by
 unfold pE;cases vOK l<;>rfl
theorem jdf{l:J}(h:pN l=true):vOK l=true:=by
 simp only[pN,jaf]at h;simp[vOK,h.1,h.2]
theorem pN_and(l:J):(vOK l&&pN l)=pN l:=by
 cases h:pN l with
 | false=>simp
 | true=>simp[jdf h]
theorem pN_or(l:J):(!vOK l || !pN l)= !pN l:=by
 cases h:pN l with
 | false=>simp
 | true=>simp[jdf h]
theorem jes{n:Nat}(h:n≤9):tenZ n≤1000000000:=by
 match n,h with
 | 0,_ | 1,_ | 2,_ | 3,_ | 4,_ | 5,_ | 6,_ | 7,_ | 8,_ | 9,_=>decide
theorem jiz(a b:Nat):tenZ (a+b)=tenZ a*tenZ b:=Int.pow_add ..
theorem jin:∀(ms:J)(fm bh pt:Bool)(dg:Int),(ldGo ms fm bh pt dg).1=true→(ldGo ms fm bh pt dg).2.2.2=dg+pdGo ms
 | [],fm,bh,pt,dg,_=>by simp[ldGo,pdGo]
 | m::r,fm,bh,pt,dg,h=>by
  rw[ldGo]at h ⊢;rw[pdGo];cases h1:(m==118)with
  | true=>
   rw[h1,cond_true]at h;have hm:=eq_of_beq h1;subst hm;simp only[cond_true,isP];rw[jin r _ _ _ _ h];simp
  | false=>
   rw[h1,cond_false]at h;cases h2:(m==100)with
   | true=>
    rw[h2,cond_true]at h;simp only[cond_true,cond_false,isP,h2,Bool.true_or];rw[jin r _ _ _ _ h];omega
   | false=>
    rw[h2,cond_false]at h;cases h3:(m==99)with
    | true=>
     rw[h3,cond_true]at h;cases fm with
     | true=>cases h
     | false=>
      rw[cond_false]at h;simp only[cond_true,cond_false,isP,h2,h3,Bool.false_or];rw[jin r _ _ _ _ h];omega
    | false=>
     rw[h3,cond_false]at h;simp only[cond_false,isP,h2,h3,Bool.false_or];rw[jin r _ _ _ _ h];omega
theorem pd_app:∀a b:J,pdGo (a++b)=pdGo a+pdGo b
 | [],b=>by simp[pdGo]
 | m::r,b=>by simp only[List.cons_append,pdGo,pd_app r b];omega
theorem pd_nn:∀a:J,0≤pdGo a
 | []=>by simp[pdGo]
 | m::r=>by have:=pd_nn r;simp only[pdGo];cases isP m<;>simp<;>omega
theorem pq_rng(s:J):∀(a:J)(i:Int),0≤pqGo s a i∧pqGo s a i≤pdGo a
 | [],i=>by simp[pqGo,pdGo]
 | m::r,i=>by
  have:=pq_rng s r (i+1);simp only[pqGo,pdGo];cases isP m<;>cases hasZ (s.take i.toNat) 86<;>simp<;>omega
theorem body_ncr{s:J}(h:(jan s).any (hasZ [65,88,67,68])=false):crZ (jan s)=false:=by
 cases hc:crZ (jan s)with
 | false=>rfl
 | true=>
  exfalso;simp only[crZ,jaf,Bool.or_eq_true,jae]at hc;have:∀c∈jan s,hasZ [65,88,67,68] c=false:=by simpa using h
  rcases hc.2 with h1 | h1
  ·have hm:(67:Int)∈(jan s).drop ((jan s).length-2):=by rw[h1];simp
   exact absurd (this _ (List.mem_of_mem_drop hm)) (by decide)
  ·have hm:(68:Int)∈(jan s).drop ((jan s).length-2):=by rw[h1];simp
   exact absurd (this _ (List.mem_of_mem_drop hm)) (by decide)
theorem jgs{s:J}(h:(jan s).any (hasZ [65,88,67,68])=false):jas (jan s)=mkGo (drZ (jan s)) false (jan s):=by
 have hc:=body_ncr h;have gen:∀l:J,crZ l=false→jan l=l:=fun l h=>by simp[jan,h]
 have hb:jan (jan s)=jan s:=gen _ hc;unfold jas;rw[hb,hc];simp
structure NumP (s:J):Prop where
 nch:je6 s=false
 plain:(jan s).any (hasZ [65,88,67,68])=false
 one:(cntZ (jan s) 86:Int)≤1
 dr:jcr (jan s)=true
 ld:jdp (jan s) (mkGo (drZ (jan s)) false (jan s))=true
 sg:jdm s≤1
 st:jf2 (jan s) (mkGo (drZ (jan s)) false (jan s))=true
theorem numV_iff{s:J}:numV s=true↔NumP s:=by
 constructor
 ·intro h;simp only[numV,jaf,Bool.not_eq_true',jae]at h;obtain⟨h1,h2,h3,h4,h5,h6,h7⟩:=h;rw[jgs h2]at h5 h7;exact⟨h1,h2,h3,h4,h5,h6,h7⟩
 ·rintro ⟨h1,h2,h3,h4,h5,h6,h7⟩;rw[←jgs h2]at h5 h7;simp only[numV,jaf,Bool.not_eq_true',jae];exact⟨h1,h2,h3,h4,h5,h6,h7⟩
theorem num_digits{s:J}(h:NumP s):1≤pdGo (jas s)∧pdGo (jas s)≤9:=by
 have hl:=h.ld
 have e:pdGo (jas s)=pdGo (mkGo (drZ (jan s)) false (jan s)):=by
  unfold jas;rw[pd_app];split
  ·have:pdGo [115,115]=0:=by decide
   omega
  ·simp[pdGo]
 rw[e];unfold jdp at hl;cases h1:(hasZ (jan s) 90&&hasZ (jan s) 42)with
 | true=>rw[h1]at hl;cases hl
 | false=>
  rw[h1,cond_false]at hl;cases h2:((hasZ (jan s) 90 || hasZ (jan s) 42) &&drZ (jan s) !=0)with
  | true=>rw[h2]at hl;cases hl
  | false=>
   rw[h2,cond_false]at hl;simp only[jaf,jae]at hl;obtain⟨g1,g2,g3,_⟩:=hl;have:=jin _ _ _ _ _ g1;omega
theorem jhy{l:J}(h:pN l=true):NumP (exZ l):=by
 simp only[pN,jaf]at h;exact numV_iff.1 h.2
theorem je1{l:J}(h:pN l=true):1≤pD l∧pD l≤9∧0≤pQ l∧pQ l≤pD l:=by
 have h1:=num_digits (jhy h);have h2:=pq_rng (exZ l) (jas (exZ l)) 0;simp only[pD,pQ,h,if_true];omega
theorem jfb(s:Y):IsB (pS (bz s))∧(pS (bz s)).length≤32:=by
 unfold pS;split
 ·exact jlb s
 ·exact⟨IsB.nil,Nat.zero_le _⟩
def s48(s:Y):Bool×Value:=(decide (s.size≤9223372036854775807),.int .i64 (pE (bz s)))
theorem fn48:Fn1 Tryz.prog 69 Tryz.f69:= .m Tryz.func69
theorem v48(s:Y)(R:Value→Prop):jaz Tryz.prog G8 noL Tryz.f69 [Enc.enc s] (fun _=>none) 0 (fun v _ _=>R v)=(bif decide (s.size≤9223372036854775807)then R (I (pE (bz s)))else False):=by kernel_rfl
theorem ok48:jam Tryz.prog 69 (sp1 s48):=by
 refine jby ok_G8 hmix fn48 jak jag fun s hc=> ?_
 rw[ja0,v48];have hc:(s.size≤9223372036854775807):=jab hc
 try dsimp only[s48]
 exact c_t (jaa hc) rfl
def s49(s:Y):Bool×Value:=(decide (s.size≤9223372036854775807),.bool (pN (bz s)))
theorem fn49:Fn1 Tryz.prog 180 Tryz.f180:= .m Tryz.func180
theorem v49(s:Y)(R:Value→Prop):jaz Tryz.prog G8 noL Tryz.f180 [Enc.enc s] (fun _=>none) 0 (fun v _ _=>R v)=(j7 (b7 s) (pE (bz s)==0 || true) (B (pE (bz s)==0&&pN (bz s))) R):=by kernel_rfl
theorem ok49:jam Tryz.prog 180 (sp1 s49):=by
 refine jby ok_G8 hmix fn49 jak jag fun s hc=> ?_
 rw[ja0,v49];delta ay j7 b7;have hc:(s.size≤9223372036854775807):=jab hc
 try dsimp only[s49]
 rw[pE_eq];exact c_t (jaa hc) (c_t (by simp) (by rw[pN_and]))
def s47(s:Y):Bool×Value:=(decide (s.size≤9223372036854775807),.tuple ⟨[tyV (bz s),.int .i64 (pE (bz s))]⟩)
theorem fn47:Fn1 Tryz.prog 111 Tryz.f111:= .m Tryz.func111
def co(b:E)(a:Value):Value:= .tuple ⟨a::b⟩
def dl(a b c:Int):Value:= .agg ⟨[ak a,ak b,ak c,.bool false,cu]⟩
def j1(a:Y):Bool:=pE (bz a) !=0
theorem v47(s:Y)(R:Value→Prop):jaz Tryz.prog G8 noL Tryz.f111 [Enc.enc s] (fun _=>none) 0 (fun v _ _=>R v)=(d4 (j1 s) s (R (co [I (pE (bz s))] (dl 0 0 0))) (bif pN (bz s)then ik [] (b9 [ak 1,I (pD (bz s)),I (pQ (bz s)),B false,cu]) (ak 0) R else ik [] (b9 [ak 3,I (pW (bz s)),ak 0,B false,cu]) (ak 0) R)):=by kernel_rfl
theorem ok47:jam Tryz.prog 111 (sp1 s47):=by
 refine jby ok_G8 hmix fn47 jak jag fun s hc=> ?_
 rw[ja0,v47];delta av b7 d4 du ik ak b9 ao cu co dl j1;have hc:(s.size≤9223372036854775807):=jab hc
 try dsimp only[s47]
 rw[jkj];refine c_t (jaa hc) (cond_intro (fun h=> ?_) (fun h=> ?_))
 ·have h:vOK (bz s)=false:=by simpa using h
  have hn:pN (bz s)=false:=by
   cases q:pN (bz s)with
   | false=>rfl
   | true=>rw[jdf q]at h;cases h
  simp[tyV,tyK,tyP,pQ,h,hn]
 ·have h:vOK (bz s)=true:=by simpa using h
  apply cond_intro<;>intro hn
  ·simp[tyV,tyK,tyP,pE,h,hn]
  ·simp[tyV,tyK,tyP,pE,pQ,h,hn]
def s65(n:Int)(q:Int)(p:Pic):Bool×Value:=(decide (0≤q∧q≤9∧0≤p.d∧p.d≤9∧0≤p.q∧p.q≤p.d∧ -9223372036854775808≤n∧n≤9223372036854775807),.tuple ⟨[.int .i64 (cuN n q p.q p.d p.g),.bool (cuF n q p.q p.d p.g)]⟩)
theorem fn65:Fn1 Tryz.prog 230 Tryz.f230:= .m Tryz.func230
def ia(a:Bool)(b:Prop):Prop:=bif a then b else False
def px(c d:Bool)(b:Int)(a:IntKind)(e:Prop):Prop:=bif decide (a.wrap b≠0)then bif c then ia d e else False else False
def j8(a:Int):Int:=tenZ a.toNat
def re(e:Bool)(a b:Int)(f:Prop)(c:Px.Pic):Prop:=bif d8 0 (cv a b) 18 then px (decide (aw (j8 (Pic.d c)) .u64≠0)) e (j8 (cv a b)) .u64 f else False
def rf(a e f h:Int)(b:Px.Pic)(c:Value→Prop):Prop:=bif b8 a 0&&Pic.g b then c (du (im (b8 f (IntKind.u64.wrap h))) (ep (0-IntKind.i64.wrap ((IntKind.u64.wrap e).tmod (IntKind.u64.wrap (j8 (Pic.d b)))))))else ay (br (b8 f (IntKind.u64.wrap h)) (gx a 0) true) (du (im (b8 f (IntKind.u64.wrap h) && (e9 a 0 || (IntKind.u64.wrap e).tmod (aw (j8 (Pic.d b)) .u64)==0))) (.int .i64 (bif b8 f (IntKind.u64.wrap h)then bif e9 a 0 then aw ((IntKind.u64.wrap e).tmod (IntKind.u64.wrap (j8 (Pic.d b)))) .i64 else aw ((IntKind.u64.wrap e).tmod (IntKind.u64.wrap (j8 (Pic.d b)))) .i64 else aw ((IntKind.u64.wrap e).tmod (IntKind.u64.wrap (j8 (Pic.d b)))) .i64))) c
theorem v65(n:Int)(q:Int)(p:Pic)(R:Value→Prop):jaz Tryz.prog G8 noL Tryz.f230 [Enc.enc n,Enc.enc q,Enc.enc p] (fun _=>none) 0 (fun v _ _=>R v)=(bif d8 (-9223372036854775808) n 9223372036854775807 then bif d8 0 (Pic.d p) 18 then bif decide (q≥Pic.q p)then re (d7 n || true) q (Pic.q p) (rf n (Int.tdiv (n.natAbs:Int) (aw (j8 (cm q (Pic.q p))) .u64)) (aw (Int.tdiv (n.natAbs:Int) (IntKind.u64.wrap (j8 (cm q (Pic.q p))))) .u64) (j8 (Pic.d p)) p R) p else re (decide (aw (j8 (Pic.d p)) .u64≠0)) (Pic.q p) q (bif d7 n || true then rf n (Int.tmod (n.natAbs:Int) (aw (j8 (Pic.d p)) .u64)*aw (j8 (cm (Pic.q p) q)) .u64) (n.natAbs:Int) ((aw (j8 (Pic.d p)) .u64).tdiv (aw (j8 (cm (Pic.q p) q)) .u64)) p R else False) p else False else False):=by kernel_rfl
theorem ok65:jam Tryz.prog 230 (sp3 s65):=by
 refine jgf ok_G8 hmix fn65 jak jag fun n q p hc=> ?_
 rw[ja0,v65];delta ia px j8 aw cv d8 re ay du e9 b8 im br gx ep rf cm d7;have hc:(0≤q∧q≤9∧0≤p.d∧p.d≤9∧0≤p.q∧p.q≤p.d∧ -9223372036854775808≤n∧n≤9223372036854775807):=jab hc
 try dsimp only[s65]
 obtain⟨h1,h2,h3,h4,h5,h6,h7,h8⟩:=hc;obtain⟨ps,pn,pw,d,sc,g⟩:=p;simp only at h3 h4 h5 h6 ⊢;have ta:=je7 (n:=d.toNat) (by omega)
 have ta9:tenZ d.toNat≤1000000000:=by
  exact jes (by omega)
 have na:(n.natAbs:Int)≤9223372036854775808:=by omega
 have fin:∀(M:Int),0≤M→M=cuM n q sc→ ∀b:Bool,b=decide (M<tenZ d.toNat)→ ∀V:Int,V=M%tenZ d.toNat→
   (bif decide (n<0) || true then (bif decide (n<0) && g then Value.tuple ⟨[.int .i64 (IntKind.wrap .i64 (0-IntKind.wrap .i64 V)), .bool b]⟩ = Value.tuple ⟨[.int .i64 (cuN n q sc d g), .bool (cuF n q sc d g)]⟩
    else bif (bif b then decide (n≥0) || true else true)then Value.tuple ⟨[.int .i64 (bif b then bif decide (n≥0)then IntKind.wrap .i64 V else IntKind.wrap .i64 V else IntKind.wrap .i64 V),.bool (b&& (decide (n≥0) || V==0))]⟩=Value.tuple ⟨[.int .i64 (cuN n q sc d g),.bool (cuF n q sc d g)]⟩else False)else False):=by
  intro M hM0 hM b hb V hV;have hv0:=Int.emod_nonneg M (show tenZ d.toNat≠0 by omega);have hv1:=Int.emod_lt_of_pos M (show 0<tenZ d.toNat by omega);rw[←hV]at hv0 hv1;have hV':cuV n q sc d=V:=by rw[cuV,←hM,hV]
  refine c_t (by simp) ?_;rw[w64 (n:=V) (by omega),w64 (by omega)];by_cases hn:n<0
  ·have hn':¬n≥0:=by omega
   cases g with
   | true=>simp[cuN,cuF,hn,hV',←hM,←hb,hn']
   | false=>
    cases b<;>simp[cuN,cuF,hn,hV',←hM,←hb,hn']
  ·have hn':n≥0:=by omega
   cases g<;>cases b<;>simp[cuN,cuF,hn,hV',←hM,←hb,hn']
 refine c_t (jaa ⟨h7,h8⟩) (c_t (jaa (by omega)) (cond_intro (fun hq=> ?_) (fun hq=> ?_)))
 ·have hq:=jab hq;have tu:=je7 (n:=(q-sc).toNat) (by omega);have M0:0≤(n.natAbs:Int)/tenZ (q-sc).toNat:=Int.ediv_nonneg (by omega) (by omega);have M1:(n.natAbs:Int)/tenZ (q-sc).toNat≤9223372036854775808:=Int.le_trans (Int.ediv_le_self _ (by omega)) na;rw[w64 (n:=q-sc) (by omega),wu64 (n:=tenZ (q-sc).toNat) (by omega),Int.tdiv_eq_ediv_of_nonneg (by omega),wu64 (n:=tenZ d.toNat) (by omega),wu64 (n:=(n.natAbs:Int)/tenZ (q-sc).toNat) (by omega),Int.tmod_eq_emod_of_nonneg M0];have e:=fin _ M0 (by rw[cuM,if_pos hq]) _ rfl _ rfl;exact c_t (jaa (by omega)) (c_t (jaa (by omega)) (c_t (jaa (by omega)) e))
 ·have hq:=jac hq;have tu:=je7 (n:=(sc-q).toNat) (by omega);have tu9:=jes (n:=(sc-q).toNat) (by omega);have ed:tenZ d.toNat=tenZ (sc-q).toNat*tenZ (d.toNat-(sc-q).toNat):=by rw[←jiz];congr 1;omega
  have tw:=jes (n:=d.toNat-(sc-q).toNat) (by omega);have tw1:=je7 (n:=d.toNat-(sc-q).toNat) (by omega);have ediv:tenZ d.toNat/tenZ (sc-q).toNat=tenZ (d.toNat-(sc-q).toNat):=by rw[ed];exact Int.mul_ediv_cancel_left _ (by omega)
  have v0:=Int.emod_nonneg (n.natAbs:Int) (show tenZ d.toNat≠0 by omega);have v1:=Int.emod_lt_of_pos (n.natAbs:Int) (show 0<tenZ d.toNat by omega);have p0:0≤(n.natAbs:Int)%tenZ d.toNat*tenZ (sc-q).toNat:=Int.mul_nonneg v0 (by omega);have p1:(n.natAbs:Int)%tenZ d.toNat*tenZ (sc-q).toNat≤1000000000*1000000000:=Int.mul_le_mul (by omega) tu9 (by omega) (by omega)
  have bb:decide ((n.natAbs:Int)<tenZ (d.toNat-(sc-q).toNat))=decide ((n.natAbs:Int)*tenZ (sc-q).toNat<tenZ d.toNat):=by
   rw[decide_eq_decide,ed,Int.mul_comm (tenZ (sc-q).toNat)];exact(Int.mul_lt_mul_right (by omega)).symm
  have vv:(n.natAbs:Int)%tenZ d.toNat*tenZ (sc-q).toNat%tenZ d.toNat=(n.natAbs:Int)*tenZ (sc-q).toNat%tenZ d.toNat:=by
   rw[Int.mul_emod,Int.emod_emod_of_dvd _ (Int.dvd_refl _),←Int.mul_emod]
  rw[w64 (n:=sc-q) (by omega),wu64 (n:=tenZ (sc-q).toNat) (by omega),wu64 (n:=tenZ d.toNat) (by omega),Int.tdiv_eq_ediv_of_nonneg (by omega),ediv,Int.tmod_eq_emod_of_nonneg (a:=(n.natAbs:Int)) (by omega),wu64 (n:=(n.natAbs:Int)%tenZ d.toNat*tenZ (sc-q).toNat) (by omega),wu64 (n:=tenZ (d.toNat-(sc-q).toNat)) (by omega),Int.tmod_eq_emod_of_nonneg p0,vv,bb];have e:=fin ((n.natAbs:Int)*tenZ (sc-q).toNat) (Int.mul_nonneg (by omega) (by omega)) (by rw[cuM,if_neg hq]) _ rfl _ rfl;exact c_t (jaa (by omega)) (c_t (jaa (by omega)) (c_t (jaa (by omega)) (c_t (jaa (by omega)) e)))
def s98(c:U8)(dr:U8)(m:Bool):Bool×Value:=(true,.int .u8 (ssZ c.n dr.n m))
theorem fn98:Fn1 Tryz.prog 261 Tryz.f261:= .m Tryz.func261
theorem v98(c:U8)(dr:U8)(m:Bool)(R:Value→Prop):jaz Tryz.prog G8 noL Tryz.f261 [Enc.enc c,Enc.enc dr,Enc.enc m] (fun _=>none) 0 (fun v _ _=>R v)=(bw (U8.n dr !=0) true (U8.n dr !=0&&U8.n c==U8.n dr) (R (al 32)) (bif hasZ (bz ⟨#[67,82,68,66]⟩) (U8.n c)then dx m (.int .u8 (U8.n c)) (al 32) R else R (.int .u8 (sgZ (U8.n c) m)))):=by kernel_rfl
theorem ok98:jam Tryz.prog 261 (sp3 s98):=by
 refine jgf ok_G8 hmix fn98 jak jag fun c dr m hc=> ?_
 rw[ja0,v98];delta av bw dx al
 try dsimp only[s98]
 refine c_t (by simp) (cond_intro (fun h=> ?_) (fun h=>cond_intro (fun h2=>cond_intro (fun h3=> ?_) (fun h3=> ?_)) (fun h2=> ?_)))
 ·simp only[ssZ,h,cond_true]
 ·have h2':hasZ [67,82,68,66] c.n=true:=h2;simp only[ssZ,h,h2',h3,cond_true,cond_false]
 ·have h2':hasZ [67,82,68,66] c.n=true:=h2;simp only[ssZ,h,h2',h3,cond_true,cond_false]
 ·have h2':hasZ [67,82,68,66] c.n=false:=h2;simp only[ssZ,h,h2',cond_false]
def G9:Env:=Env.nil.add 270 (sp1 s77)
theorem ok_G9:jaw Tryz.prog G9:=jai jap ok77
def digZ:Int→Nat→J
 | _,0=> []
 | v,n+1=>digZ (v/10) n++ [48+v%10]
theorem isBytes_iff{l:E}:jcg l=true↔ ∀v∈l,∃n,v= .int .u8 n:=by
 induction l with
 | nil=>simp[jcg]
 | cons v r ih=>
  constructor
  ·intro h;unfold jcg at h;split at h
   ·rename_i heq;cases heq
   ·rename_i n r' heq;cases heq;intro u hu;rcases List.mem_cons.1 hu with rfl | hu
    ·exact⟨_,rfl⟩
    ·exact ih.1 h u hu
   ·cases h
  ·intro h;obtain⟨n,rfl⟩:=h v (List.mem_cons_self ..);exact ih.2 fun u hu=>h u (List.mem_cons_of_mem _ hu)
theorem RowP.set{c:E}{n cap:Nat}(h:RowP c n cap)(x:Int){i:Nat}(hi:i<n):
  RowP (setL c (0+i*1) [.int .u8 x]) n cap∧zc (setL c (0+i*1) [.int .u8 x]) n=(zc c n).set i x∧Nat.ble (0+i*1+1) c.length=true:=by
 have e:setL c (0+i*1) [.int .u8 x]=c.set i (.int .u8 x):=by simp[setL]
 have h1:=h.len;have h2:=h.le;rw[e];refine⟨⟨?_,?_,by simp[h1],h2,h.cap⟩,?_,Nat.ble_eq_true_of_le (by omega)⟩
 ·rw[List.take_set];refine isBytes_iff.2 fun v hv=> ?_
  rcases List.mem_or_eq_of_mem_set hv with hv | rfl
  ·exact isBytes_iff.1 h.bytes v hv
  ·exact⟨_,rfl⟩
 ·refine jbd.2 fun v hv=> ?_
  rcases List.mem_or_eq_of_mem_set hv with hv | rfl
  ·exact jbd.1 h.plain v hv
  ·rfl
 ·simp only[zc,List.take_set,List.map_set,iv]
theorem zrow_u8(k:Nat):zrow (.int .u8 0) k=cz (List.replicate k 0)++ []:=by
 simp only[zrow,Builtin.zeroCells,cz,Value.cells,List.append_nil,List.map_replicate];apply List.ext_getElem?;intro i;simp only[Array.toList_map,Array.toList_range,List.getElem?_map,List.getElem?_replicate];by_cases h:i<k
 ·simp[h,Nat.mod_one]
 ·simp[h]
theorem row_zero{k:Nat}(hk:k≤9223372036854775807):RowP (zrow (.int .u8 0) k) k k:=by
 have:=(jjx (List.replicate k 0) (tail:=[]) (cap:=k) rfl (by simp) hk).1;rw[zrow_u8];simpa using this
theorem w8u(v:Int)(h:0≤v):IntKind.wrap .u8 (IntKind.wrap .u64 (48+v.tmod 10))=48+v%10:=by
 rw[Int.tmod_eq_emod_of_nonneg h,wu64 (by omega),w8 (by omega)]
theorem jkg(c:Int)(n:Nat)(h:0≤c∧c<256):IsB (rep1 c n):=fun x hx=>by rw[List.eq_of_mem_replicate hx];exact h
theorem jds:∀(n:Nat)(v:Int),(digZ v n).length=n
 | 0,_=>rfl
 | n+1,v=>by simp[digZ,jds n]
def V38_0:Int×E×Nat×Nat×Int→E:=fun(v,d,m,cap,i)=> [C64 v,.slice (some ⟨200,0,some 1⟩) m cap,I i]
def B38_0:Int×E×Nat×Nat×Int→O:=fun(v,d,m,cap,i)=> [some ⟨d,5,true⟩]
def S38_0:LSpecA (Int×E×Nat×Nat×Int) where
 live:=[5,6,7]
 mid:=[200]
 n:=210
 ap:=[(.tmp 6,200)]
 dec vs bs:=match vs,bs with | [.int .u64 v,.slice (some ⟨200,0,some 1⟩) m cap,.int .i64 i],[some ⟨d,5,true⟩]=>some (v,d,m,cap,i) | _,_=>none
 pre:=fun(v,d,m,cap,i)=>jcm d m cap&&decide (-1≤i∧i<m∧m≤1000∧0≤v∧v≤9223372036854775808)
 fin:=fun(v,d,m,cap,i) Z=>∀d' v',jcm d' m cap=true→zc d' m=digZ v (i+1).toNat++(zc d m).drop (i+1).toNat→Z (.exit 0) [.int .u64 v',.slice (some ⟨200,0,some 1⟩) m cap,I (-1)] [some ⟨d',5,true⟩]
def og(c:Exit→E→O→Prop)(e f:Int)(d:IntKind)(b h:E)(a:Nat)(g:Value):Prop:=bm (jav [(a,200)] b&&true&&true) c [e8 [(a,200)] b] (.int d (d.wrap (e.tdiv f))::g::h)
def pz(a:Bool)(e:Exit→E→O→Prop)(b f g:Int)(h:IntKind)(d j m:E)(c:Nat)(i k l n:Value):Prop:=bif a then gz (Nat.ble (gy b+1) d.length) b (c:Int) (og e f g h (setL d (gy b) [.int .u8 (aw (h.wrap (48+f.tmod g)) .u8)]) (i::j) 200 k) False else fv (gv d 200 200) e [] (l::m) 0 (e8 ij d) n k
theorem r38_0(v:Int)(d:E)(m:Nat)(cap:Nat)(i:Int)(jk:Tmps)(R:Exit→E→O→Prop):(jbp Tryz.prog G9 noL Tryz.f257.ntmps (ja6 Tryz.f257 0) (tl S38_0.live (V38_0 (v,d,m,cap,i)) jk) (ml S38_0.mid (B38_0 (v,d,m,cap,i))) S38_0.n fun e t' m' _=>S38_0.out R e t' m')=(pz (e9 i 0) R i v 10 .u64 d [] [] m (I (cm i 1)) (bv 200 m cap) (ak i) (.int .u64 v)):=by kernel_rfl
theorem l38_0:LOKf Tryz.prog (oneL 0 S38_0.hA) Tryz.f257:=by
 refine jbe (h:=S38_0.hA) (by kernel_rfl) (jbv ok_G9 hmix (by kernel_rfl) (ja1 _) S38_0 V38_0 B38_0 (fun(v,d,m,cap,i)=>(i+1).toNat) ?_ ?_ ?_)
 ·intro vs bs s h;simp only[S38_0]at h;split at h
  all_goals first | (cases h;exact⟨rfl,rfl⟩) | cases h
 ·exact fun⟨v,d,m,cap,i⟩ hp=>by
   simp only[S38_0,jaf]at hp;simp[V38_0,B38_0,S38_0,ja3,jb2,idsL,ids,jaq (jat.1 hp.1).plain]
 ·intro⟨v,d,m,cap,i⟩ jk Z hp hf;rw[r38_0];delta fv e8 ij gv av b6 gz bm og aw gy pz ak bv cm e9;simp only[S38_0]at hp hf;simp only[jaf,jae]at hp;obtain⟨hr,hp⟩:=hp;have hr:=jat.1 hr;have hz:=jba hr;apply cond_intro<;>intro h
  ·have h:=jab h;rw[w8u v hp.2.2.2.1];obtain⟨h1,h2,h3⟩:=hr.set (48+v%10) (i:=i.toNat) (by omega);have e3:setL d (0+i.toNat*1) [.int .u8 (48+v%10)]=d.set i.toNat (.int .u8 (48+v%10)):=by simp[setL]
   refine c_t (jaa (by omega)) (c_t h3 (c_t (by rw[h1.good];rfl) ?_));rw[h1.rlb,Int.tdiv_eq_ediv_of_nonneg (by omega),wu64 (n:=v/10) (by omega),w64 (by omega)];refine⟨(v/10,_,m,cap,i-1),rfl,rfl,by simp only[S38_0,jaf,jae];exact⟨jat.2 h1,by omega⟩,by simp only;omega,?_⟩;intro d' v' g1 g2;refine hf d' v' g1 ?_;have e1:(i+1).toNat=i.toNat+1:=by omega
   have e2:(i-1+1).toNat=i.toNat:=by omega
   rw[g2,h2,e1,e2,digZ,List.append_assoc];congr 1;rw[List.drop_set];have hd:(zc d m).drop i.toNat=(zc d m).getD i.toNat 0::(zc d m).drop (i.toNat+1):=jel _ _ (by omega);rw[if_neg (by omega),hd,Nat.sub_self];rfl
  ·have h:=jac h;refine c_t (by rw[hr.good];rfl) ?_;rw[hr.rlb];obtain rfl:i= -1:=by omega
   exact hf d v (jat.2 hr) (by simp[digZ])
def s38(n:Int)(k:Int):Bool×Value:=(decide (0≤k∧k≤1000∧ -9223372036854775808≤n∧n≤9223372036854775807),.string (sz (digZ n.natAbs k.toNat)))
theorem fn38:Fn1 Tryz.prog 257 Tryz.f257:= .m Tryz.func257
def jv(a:List (Prod Nat Nat))(b:E)(c:Nat):Bool:=jav a b&&true&&true&&gm (rlbL a b) c
def qa(c:Bool)(a:Int)(b:Nat)(d:Prop):Prop:=bif d8 0 a a&&jb0 a.toNat 1 then bif jv [(b,200)] (zrow (al 0) a.toNat) 210 then bif c then d else False else False else False
def ii(a:Int)(b:List (Prod Nat Nat))(c:E)(d:Nat):J:=(zc (rlbL b c) d).drop a.toNat
theorem v38(n:Int)(k:Int)(R:Value→Prop):jaz Tryz.prog G9 (oneL 0 S38_0.hA) Tryz.f257 [Enc.enc n,Enc.enc k] (fun _=>none) 0 (fun v _ _=>R v)=(bif d8 (-9223372036854775808) n 9223372036854775807 then qa (S38_0.toLSpec.pre ((n.natAbs:Int),(rlbL [(5,200)] (zrow (al 0) k.toNat),(k.toNat,(k.toNat,cm k 1))))) k 5 (∀a:E,Int→ly true (digZ (n.natAbs:Int) (Int.toNat (cm k 1+1))) (ii (cm k 1+1) [(5,200)] (zrow (al 0) k.toNat) k.toNat) a a k.toNat k.toNat 210 R)else False):=by kernel_rfl
theorem ok38:jam Tryz.prog 257 (sp2 s38):=by
 refine jcj ok_G9 hmix fn38 l38_0 jag fun n k hc=> ?_
 rw[ja0,v38];delta gm jv al d8 qa kp ay ly ii cm;have hc:(0≤k∧k≤1000∧ -9223372036854775808≤n∧n≤9223372036854775807):=jab hc
 try dsimp only[s38]
 obtain⟨h1,h2,h3,h4⟩:=hc;have hr:=row_zero (k:=k.toNat) (by omega);refine c_t (jaa ⟨h3,h4⟩) (c_t (by simp[jb0];omega) (c_t ?_ ?_))
 ·rw[hr.good,hr.rlb,jbj hr.plain];rfl
 rw[hr.rlb,w64 (by omega)];refine c_t ?_ (fun d' v' g1 g2=> ?_)
 ·simp only[S38_0,jaf,jae];exact⟨jat.2 hr,by omega⟩
 have g1:=jat.1 g1;refine c_t (by rw[jbj g1.plain];rfl) (fun _=>c_t g1.str.1 ?_);have hz:=jba hr;rw[g1.str.2,g2,show(k-1+1).toNat=k.toNat by omega,List.drop_of_length_le (by omega),List.append_nil]
def G10:Env:=((Env.nil.add 202 (sp2 s40)).add 229 (sp2 s57)).add 201 (sp1 s69)
theorem ok_G10:jaw Tryz.prog G10:=jai (jai (jai jap ok40) ok57) ok69
def jex:J→J→Int→Int
 | [],_,o=>o
 | m::r,ds,o=>bif (m==118 || m==100) || (m==99&&ds.headD 0 !=48)then o else jex r (bif m==99 then ds.tail else ds) (o+1)
def ldc:J→Nat
 | []=>0
 | m::r=>(bif m==99 then 1 else 0)+ldc r
def endZ(ms ds:J)(w:Int)(k:Nat):Int:=bif !hasZ ms 99 then 0 else bif !hasZ ms 100&&decide (ds=rep1 48 k)then w else jex ms ds 0
def V86_0:Int×Y×Bool×Int×Int×Int×Bool×Y×Y×Int×Int×Int→E:=fun(r,z,zb,z1,z2,z3,zg,s,ms,o,d,i)=> [I r,.pointer (some ⟨0,0,some 0⟩),S s,S ms,I o,I d,I i]
def B86_0:Int×Y×Bool×Int×Int×Int×Bool×Y×Y×Int×Int×Int→O:=fun(r,z,zb,z1,z2,z3,zg,s,ms,o,d,i)=> [some ⟨[S z,B zb,I z1,I z2,I z3,B zg],131,true⟩]
def S86_0:LSpec (Int×Y×Bool×Int×Int×Int×Bool×Y×Y×Int×Int×Int) where
 live:=[4,2,1,5,6,7,8]
 mid:=[0]
 n:=100
 dec vs bs:=match vs,bs with | [.int .i64 r,.pointer (some ⟨0,0,some 0⟩),.string s,.string ms,.int .i64 o,.int .i64 d,.int .i64 i],[some ⟨[.string z,.bool zb,.int .i64 z1,.int .i64 z2,.int .i64 z3,.bool zg],131,true⟩]=>some (r,z,zb,z1,z2,z3,zg,s,ms,o,d,i) | _,_=>none
 pre:=fun(r,z,zb,z1,z2,z3,zg,s,ms,o,d,i)=>decide (0≤i∧i≤ms.size∧ms.size≤1000∧0≤d∧o=i∧d+ldc ((bz ms).drop i.toNat)≤s.size∧s.size≤1000)
 fin:=fun(r,z,zb,z1,z2,z3,zg,s,ms,o,d,i) Z=>(∀o' d' i',Z .ret [I (jex ((bz ms).drop i.toNat) ((bz s).drop d.toNat) o),.pointer (some ⟨0,0,some 0⟩),S s,S ms,I o',I d',I i'] [some ⟨[S z,B zb,I z1,I z2,I z3,B zg],131,true⟩])∧(∀d',Z (.exit 0) [I r,.pointer (some ⟨0,0,some 0⟩),S s,S ms,I (jex ((bz ms).drop i.toNat) ((bz s).drop d.toNat) o),I d',I ms.size] [some ⟨[S z,B zb,I z1,I z2,I z3,B zg],131,true⟩])
theorem r86_0(r:Int)(z:Y)(zb:Bool)(z1:Int)(z2:Int)(z3:Int)(zg:Bool)(s:Y)(ms:Y)(o:Int)(d:Int)(i:Int)(jk:Tmps)(R:Exit→E→O→Prop):(jbp Tryz.prog G10 noL Tryz.f258.ntmps (ja6 Tryz.f258 0) (tl S86_0.live (V86_0 (r,z,zb,z1,z2,z3,zg,s,ms,o,d,i)) jk) (ml S86_0.mid (B86_0 (r,z,zb,z1,z2,z3,zg,s,ms,o,d,i))) S86_0.n fun e t' m' _=>R e (List.map t' S86_0.live) (List.map m' S86_0.mid))=(bif dw ms i then ig (bq ms i) (ar ms i 118 || bq ms i&& (ar ms i 100 || kx (ar ms i 99) true ms s i d)) (ar ms i 118 || (ar ms i 100 || ar ms i 99&&ax s d !=48)) (R .ret (ak o::aq 0::bk s (ak o::az d i) (S ms)) [gu zb zg z z1 z2 z3]) (fu (ar ms i 99) ms i (R .normal (ak r::aq 0::bk s (bu o::bu d::bp i) (S ms)) [gu zb zg z z1 z2 z3]) (R .normal (ak r::aq 0::bk s (bu o::cq d i) (S ms)) [gu zb zg z z1 z2 z3]))else R (.exit 0) (ak r::aq 0::bk s (ak o::az d i) (S ms)) [gu zb zg z z1 z2 z3]):=by kernel_rfl
theorem l86_0:LOKf Tryz.prog (oneL 0 S86_0.h) Tryz.f258:=by
 refine jbe (h:=S86_0.h) (by kernel_rfl) (ja7 ok_G10 hmix (by kernel_rfl) (ja1 _) S86_0 V86_0 B86_0 (fun(r,z,zb,z1,z2,z3,zg,s,ms,o,d,i)=>(ms.size-i).toNat) ?_ ?_ ?_)
 ·intro vs bs s h;simp only[S86_0]at h;split at h
  all_goals first | (cases h;exact⟨rfl,rfl⟩) | cases h
 ·exact fun _ _ _ h=>h
 ·intro⟨r,z,zb,z1,z2,z3,zg,s,ms,o,d,i⟩ jk Z hp hf;rw[r86_0];delta ak gu bk az aq av ig am bq fu au bu bp cq ax ar br kx dw;simp only[S86_0]at hp hf;simp only[jae]at hp;apply cond_intro<;>intro h
  ·have h:=jab h;have h1:decide (0≤i∧i<(ms.size:Int))=true:=jaa (by omega);rw[jb4 hp.1 h]at hf;have hq:=hp.2.2.2.2.2.1;rw[jb4 hp.1 h,ldc]at hq
   have hd:jaj ms i.toNat=99→d<s.size:=by
    intro e;rw[e]at hq;simp only[beq_self_eq_true,cond_true]at hq;omega
   have hc:(decide (0≤i∧i<(ms.size:Int)) && (jaj ms i.toNat==118 || decide (0≤i∧i<(ms.size:Int)) && (jaj ms i.toNat==100 || decide (0≤i∧i<(ms.size:Int)) &&bif jaj ms i.toNat==99 then decide (0≤d∧d<(s.size:Int)) &&true else true)))=true:=by
    rw[h1];cases e:(jaj ms i.toNat==99)with
    | true=>
     have:=hd (eq_of_beq e);rw[cond_true,jaa (show 0≤d∧d<(s.size:Int)by omega)];simp
    | false=>simp
   have hhd:jaj ms i.toNat=99→(bz s).drop d.toNat=jaj s d.toNat::(bz s).drop (d+1).toNat:=fun e=>jb4 hp.2.2.2.1 (hd e)
   have hb:(jaj ms i.toNat==99&&jaj s d.toNat !=48)=(jaj ms i.toNat==99&& ((bz s).drop d.toNat).headD 0 !=48):=by
    cases e:(jaj ms i.toNat==99)with
    | true=>rw[hhd (eq_of_beq e)];rfl
    | false=>rfl
   rw[jex,Bool.or_assoc]at hf;refine c_t hc ?_;rw[hb];refine cond_intro (fun a=> ?_) (fun a=>c_t h1 (cond_intro (fun b=> ?_) (fun b=> ?_)))
   ·rw[a,cond_true]at hf;exact hf.1 _ _ _
   ·rw[a,b,cond_false,cond_true,hhd (eq_of_beq b),List.tail_cons]at hf;rw[b,cond_true]at hq;have:=hd (eq_of_beq b);rw[w64 (n:=o+1) (by omega),w64 (n:=d+1) (by omega),w64 (by omega)];exact⟨(r,z,zb,z1,z2,z3,zg,s,ms,o+1,d+1,i+1),rfl,rfl,by simp only[S86_0,jae];omega,by simp only;omega,hf⟩
   ·rw[a,b,cond_false,cond_false]at hf;rw[b,cond_false]at hq;rw[w64 (n:=o+1) (by omega),w64 (by omega)];exact⟨(r,z,zb,z1,z2,z3,zg,s,ms,o+1,d,i+1),rfl,rfl,by simp only[S86_0,jae];omega,by simp only;omega,hf⟩
  ·have h:=jac h;rw[jce (s:=ms) (by omega),jex]at hf;obtain rfl:i=ms.size:=by omega
   exact hf.2 _
def s86(p:Pic)(s:Y):Bool×Value:=(decide (p.s.size≤900∧s.size≤1000∧ldc (jas (bz p.s))≤s.size∧0≤p.d∧p.d≤1000),.int .i64 (endZ (jas (bz p.s)) (bz s) p.w p.d.toNat))
theorem fn86:Fn1 Tryz.prog 258 Tryz.f258:= .m Tryz.func258
def kz(a:Bool)(b c:Prop):Prop:=bif a then b∧c else False
def j2(a:Px.Pic):Y:=ir (Pic.s a)
theorem v86(p:Pic)(s:Y)(R:Value→Prop):jaz Tryz.prog G10 (oneL 0 S86_0.h) Tryz.f258 [Enc.enc p,Enc.enc s] (fun _=>none) 0 (fun v _ _=>R v)=(bif fy (Pic.s p)then d4 (!hasZ (bz (j2 p)) 99) (j2 p) (R (ak 0)) (ig (b7 (j2 p)) (br (!hasZ (bz (j2 p)) 100) (d8 0 (Pic.d p) 1000&&true) true) (!hasZ (bz (j2 p)) 100&&b5 s (sz (rep1 48 (Pic.d p).toNat))) (R (I (Pic.w p))) (kz (S86_0.pre ((0:Int),(Pic.s p,(Pic.n p,(Pic.w p,(Pic.d p,(Pic.q p,(Pic.g p,(s,(j2 p,((0:Int),((0:Int),(0:Int))))))))))))) (jz (Int→Tmps→R (I (jex (dq (j2 p) 0) (dq s 0) 0)))) (Int→Tmps→R (I (jex (dq (j2 p) 0) (dq s 0) 0)))))else False):=by kernel_rfl
theorem ok86:jam Tryz.prog 258 (sp2 s86):=by
 refine jcj ok_G10 hmix fn86 l86_0 jag fun p s hc=> ?_
 rw[ja0,v86];delta av b7 d4 ig kz dq ir j2 jz b5 br d8 ak fy;have hc:(p.s.size≤900∧s.size≤1000∧ldc (jas (bz p.s))≤s.size∧0≤p.d∧p.d≤1000):=jab hc
 try dsimp only[s86]
 have hml:(sz (jas (bz p.s))).size=p.s.size:=by rw[jcf,jej,jal]
 have hB:=jcy (jfd (bz p.s));have hr1:bz (sz (rep1 48 p.d.toNat))=rep1 48 p.d.toNat:=jcy (jkg 48 _ (by omega));rw[hB,jcv,hr1,hml];refine c_t (jaa (by omega)) (c_t (jaa (by omega)) (cond_intro (fun a=> ?_) (fun a=>c_t ?_ (cond_intro (fun b=> ?_) (fun b=>c_t ?_ ?_)))))
 ·simp only[endZ,a,cond_true]
 ·rw[jaa (show p.s.size≤9223372036854775807 by omega),jaa (show 0≤p.d∧p.d≤1000 by omega)];cases hasZ (jas (bz p.s)) 100<;>rfl
 ·simp only[endZ,a,b,cond_true,cond_false]
 ·simp only[S86_0,jae,hml,hB,Int.toNat_zero,List.drop_zero];exact⟨Int.le_refl _,by omega,by omega,Int.le_refl _,trivial,by omega,by omega⟩
 ·have e:endZ (jas (bz p.s)) (bz s) p.w p.d.toNat=jex (jas (bz p.s)) (bz s) 0:=by simp only[endZ,a,b,cond_false]
  rw[e,jdh];exact⟨fun _ _ _ _=>rfl,fun _ _=>rfl⟩
def G11:Env:=(((((((((Env.nil.add 202 (sp2 s40)).add 229 (sp2 s57)).add 259 (sp1 s58)).add 262 (sp2 s85)).add 260 (sp3 s97)).add 242 (sp1 s96)).add 201 (sp1 s69)).add 261 (sp3 s98)).add 257 (sp2 s38)).add 258 (sp2 s86)
theorem ok_G11:jaw Tryz.prog G11:=jai (jai (jai (jai (jai (jai (jai (jai (jai (jai jap ok40) ok57) ok58) ok85) ok97) ok96) ok69) ok98) ok38) ok86
def fdGo(le fill dr:Int)(neg:Bool):J→J→J→Int→J
 | [],_,_,_=> []
 | m::r,sp,ds,o=>
  bif m==100 then fmZ (sp.headD 0) (ds.headD 0) neg::fdGo le fill dr neg r sp.tail ds.tail (o+1)
  else bif m==99 then(bif decide (o<le)then fill else ds.headD 0)::fdGo le fill dr neg r sp.tail ds.tail (o+1)
  else bif m==105 then(bif sp.headD 0==66 then 32 else bif decide (o<le)then fill else sp.headD 0)::fdGo le fill dr neg r sp.tail ds (o+1)
  else bif m !=118 then ssZ (sp.headD 0) dr neg::fdGo le fill dr neg r sp.tail ds (o+1)
  else fdGo le fill dr neg r sp.tail ds o
def dgL(l:J):Bool:=l.all fun d=>decide (48≤d∧d≤57)
def fdFl(sp:J):Int:=if hasZ sp 42=true then 42 else 32
def fdLe(sp:J)(w:Int)(k:Nat)(n:Int):Int:=endZ (jas sp) (digZ n.natAbs k) w k
def fdBl(sp:J)(w:Int)(k:Nat)(n:Int):Bool:=decide (fdLe sp w k n>0) && (fdLe sp w k n==w&& (n==0&& !hasZ (jas sp) 100))
def fdDr(sp:J):Int:=bif !hasZ sp 90&& (!hasZ sp 42&&hasZ (jas sp) 99)then drZ sp else 0
def jf0(sp:J)(w:Int)(k:Nat)(n:Int):J:=fdGo (fdLe sp w k n) (fdFl sp) (fdDr sp) (decide (n<0)) (jas sp) sp (digZ n.natAbs k) 0
def jdn(sp:J)(w:Int)(k:Nat)(n:Int):J:=
 bif fdBl sp w k n then rep1 (fdFl sp) w.toNat else bif fdDr sp !=0 then(jf0 sp w k n).set (fdLe sp w k n-1).toNat (sgZ (fdDr sp) (decide (n<0)))else jf0 sp w k n
def fdOK(sp:J)(w:Int)(k:Nat)(n:Int):Bool:=fdBl sp w k n || (fdDr sp==0 || decide (1≤fdLe sp w k n∧fdLe sp w k n≤(jf0 sp w k n).length))
theorem jfj:∀(n:Nat)(v:Int),dgL (digZ v n)=true
 | 0,_=>rfl
 | n+1,v=>by
  have:=jfj n (v/10);simp only[dgL]at this ⊢;simp only[digZ,List.all_append,this,List.all_cons,List.all_nil,Bool.and_true,Bool.true_and,jae];omega
theorem jg5{l:J}(h:dgL l=true):IsB l:=fun x hx=>by
 simp only[dgL,List.all_eq_true,jae]at h;have:=h x hx;omega
theorem ldc_le:∀l:J,(ldc l:Int)≤pdGo l
 | []=>by simp[ldc,pdGo]
 | m::r=>by
  have:=ldc_le r;simp only[ldc,pdGo,isP];cases m==100<;>cases m==99<;>simp<;>omega
theorem dg_at{s:Y}(h:dgL (bz s)=true){k:Int}(h0:0≤k)(h1:k<s.size):48≤jaj s k.toNat∧jaj s k.toNat≤57:=by
 have hm:jaj s k.toNat∈bz s:=by
  have:jaj s k.toNat∈(bz s).drop k.toNat:=by rw[jb4 h0 h1];exact List.mem_cons_self ..
  exact List.mem_of_mem_drop this
 simp only[dgL,List.all_eq_true,jae]at h;exact h _ hm
def V66_0:Int×Y×Bool×Int×Int×Int×Bool×Y×Int×Int×Y×Int×E×Nat×Nat×Int×Int→E:=fun(n,z,zb,z1,z2,z3,zg,s,le,fl,ms,dr,d,m,cap,k,i)=> [I n,.pointer (some ⟨0,0,some 0⟩),S s,I le,C8 fl,S ms,C8 dr,.slice (some ⟨200,0,some 1⟩) m cap,I k,I i]
def B66_0:Int×Y×Bool×Int×Int×Int×Bool×Y×Int×Int×Y×Int×E×Nat×Nat×Int×Int→O:=fun(n,z,zb,z1,z2,z3,zg,s,le,fl,ms,dr,d,m,cap,k,i)=> [some ⟨[S z,B zb,I z1,I z2,I z3,B zg],131,true⟩,some ⟨d,5,true⟩]
def S66_0:LSpecA (Int×Y×Bool×Int×Int×Int×Bool×Y×Int×Int×Y×Int×E×Nat×Nat×Int×Int) where
 live:=[1,2,5,6,7,8,9,10,11,12]
 mid:=[0,200]
 n:=260
 ap:=[(.tmp 10,200)]
 dec vs bs:=match vs,bs with | [.int .i64 n,.pointer (some ⟨0,0,some 0⟩),.string s,.int .i64 le,.int .u8 fl,.string ms,.int .u8 dr,.slice (some ⟨200,0,some 1⟩) m cap,.int .i64 k,.int .i64 i],[some ⟨[.string z,.bool zb,.int .i64 z1,.int .i64 z2,.int .i64 z3,.bool zg],131,true⟩,some ⟨d,5,true⟩]=>some (n,z,zb,z1,z2,z3,zg,s,le,fl,ms,dr,d,m,cap,k,i) | _,_=>none
 pre:=fun(n,z,zb,z1,z2,z3,zg,s,le,fl,ms,dr,d,m,cap,k,i)=>jcm d m cap&& (dgL (bz s) &&decide (0≤i∧i≤ms.size∧ms.size≤1000∧ms.size=z.size∧0≤k∧k+pdGo ((bz ms).drop i.toNat)≤s.size∧s.size≤1000∧m≤i))
 fin:=fun(n,z,zb,z1,z2,z3,zg,s,le,fl,ms,dr,d,m,cap,k,i) Z=>∀d' m' cap' k',jcm d' m' cap'=true→zc d' m'=zc d m++fdGo le fl dr (decide (n<0)) ((bz ms).drop i.toNat) ((bz z).drop i.toNat) ((bz s).drop k.toNat) m→Z (.exit 0) [I n,.pointer (some ⟨0,0,some 0⟩),S s,I le,.int .u8 fl,S ms,.int .u8 dr,.slice (some ⟨200,0,some 1⟩) m' cap',I k',I ms.size] [some ⟨[S z,B zb,I z1,I z2,I z3,B zg],131,true⟩,some ⟨d',5,true⟩]
def fk(d e:Int)(a b c:Nat):E:=bv a b c::cq d e
def dv(a:E)(b c:Nat):Prop:=jay a b c 1=true
def mz(h i:Bool)(j:Y)(g:Exit→E→O→Prop)(d k l m:Int)(e n:E)(a c f:Nat):Prop:=∀b:E,dv b a (c+1)→bm (n7 d e b f 200 c&&true) g [gu h i j k l m,e8 [(f,200)] (e7 e c++ [al d]++b)] n
def pj(b e:Y)(a c d f i j:Int)(g h:Nat):E:=ak a::aq 0:: .string b::ak c::al d:: .string e::al f::fk i j 200 (g+1) h
def qb(b e:Y)(a c d f i j:Int)(g h:Nat):E:=ak a::aq 0:: .string b::ak c::al d:: .string e::al f::bv 200 (g+1) h::bu i::bp j
theorem r66_0(n:Int)(z:Y)(zb:Bool)(z1:Int)(z2:Int)(z3:Int)(zg:Bool)(s:Y)(le:Int)(fl:Int)(ms:Y)(dr:Int)(d:E)(m:Nat)(cap:Nat)(k:Int)(i:Int)(jk:Tmps)(R:Exit→E→O→Prop):(jbp Tryz.prog G11 noL Tryz.f210.ntmps (ja6 Tryz.f210 0) (tl S66_0.live (V66_0 (n,z,zb,z1,z2,z3,zg,s,le,fl,ms,dr,d,m,cap,k,i)) jk) (ml S66_0.mid (B66_0 (n,z,zb,z1,z2,z3,zg,s,le,fl,ms,dr,d,m,cap,k,i))) S66_0.n fun e t' m' _=>S66_0.out R e t' m')=(bif dw ms i then fu (bq ms i) z i (bif ar ms i 100 then bif bq s k then bif d8 48 (ax s k) 57 then kv d cap m (∀a:Nat,mz zb zg z R (fmZ (ax z i) (ax s k) (d7 n)) z1 z2 z3 d (qb s ms n le fl dr k i m a) a m 287)else False else False else bif bq ms i then bif ar ms i 99 then bif b8 (natO m) le then kv d cap m (∀a:Nat,mz zb zg z R fl z1 z2 z3 d (qb s ms n le fl dr k i m a) a m 286)else bif bq s k then kv d cap m (∀a:Nat,mz zb zg z R (ax s k) z1 z2 z3 d (qb s ms n le fl dr k i m a) a m 288)else False else bif bq ms i then bif ar ms i 105 then bif ar z i 66 then kv d cap m (∀a:Nat,mz zb zg z R 32 z1 z2 z3 d (pj s ms n le fl dr k i m a) a m 290)else bif b8 (natO m) le then kv d cap m (∀a:Nat,mz zb zg z R fl z1 z2 z3 d (pj s ms n le fl dr k i m a) a m 292)else kv d cap m (∀a:Nat,mz zb zg z R (ax z i) z1 z2 z3 d (pj s ms n le fl dr k i m a) a m 292)else bif bq ms i then bif ax ms i !=118 then kv d cap m (∀a:Nat,mz zb zg z R (ssZ (ax z i) dr (d7 n)) z1 z2 z3 d (pj s ms n le fl dr k i m a) a m 297)else bm (gv d 200 200) R [gu zb zg z z1 z2 z3,e8 ij d] (ak n::aq 0::bk s (al fl::S ms::al dr::fk k i 200 m cap) (ak le))else False else False else False) False else fv (gv d 200 200) R [e8 ij d] (bk s (al fl::S ms::al dr::bv 200 m cap::az k i) (ak le)) 0 (gu zb zg z z1 z2 z3) (ak n) (aq 0)):=by kernel_rfl
theorem l66_0:LOKf Tryz.prog (oneL 0 S66_0.hA) Tryz.f210:=by
 refine jbe (h:=S66_0.hA) (by kernel_rfl) (jbv ok_G11 hmix (by kernel_rfl) (ja1 _) S66_0 V66_0 B66_0 (fun(n,z,zb,z1,z2,z3,zg,s,le,fl,ms,dr,d,m,cap,k,i)=>(ms.size-i).toNat) ?_ ?_ ?_)
 ·intro vs bs s h;simp only[S66_0]at h;split at h
  all_goals first | (cases h;exact⟨rfl,rfl⟩) | cases h
 ·exact fun⟨n,z,zb,z1,z2,z3,zg,s,le,fl,ms,dr,d,m,cap,k,i⟩ hp=>by
   simp only[S66_0,jaf]at hp;simp[V66_0,B66_0,S66_0,ja3,jb2,idsL,ids,jaq (jat.1 hp.1).plain]
 ·intro⟨n,z,zb,z1,z2,z3,zg,s,le,fl,ms,dr,d,m,cap,k,i⟩ jk Z hp hf;rw[r66_0];delta fv aq ak gu bk az bv al e8 ij gv av am bq fu bm au bu bp cq fk jh ie kv e7 n7 dv mz pj d7 ax b8 ar qb d8 dw;simp only[S66_0]at hp hf;simp only[jaf,jae]at hp;rw[jca];obtain⟨hr,hdg,hp⟩:=hp;have hr:=jat.1 hr;apply cond_intro<;>intro h
  ·have h:=jab h;have hi0:=hp.1;have g1:decide (0≤i∧i<(ms.size:Int))=true:=jaa (by omega);have g2:decide (0≤i∧i<(z.size:Int))=true:=jaa (by omega);have hq:=hp.2.2.2.2.2.1;rw[jb4 hi0 h,pdGo]at hq;have nn:=pd_nn ((bz ms).drop (i+1).toNat);have hi1:i<(z.size:Int):=by omega
   have ek:(k+1).toNat=k.toNat+1:=by omega
   have eF:fdGo le fl dr (decide (n<0)) ((bz ms).drop i.toNat) ((bz z).drop i.toNat) ((bz s).drop k.toNat) m=
     (bif jaj ms i.toNat==100 then fmZ (jaj z i.toNat) (((bz s).drop k.toNat).headD 0) (decide (n<0))::fdGo le fl dr (decide (n<0)) ((bz ms).drop (i+1).toNat) ((bz z).drop (i+1).toNat) ((bz s).drop (k+1).toNat) (m+1)
     else bif jaj ms i.toNat==99 then(bif decide ((m:Int)<le)then fl else((bz s).drop k.toNat).headD 0)::fdGo le fl dr (decide (n<0)) ((bz ms).drop (i+1).toNat) ((bz z).drop (i+1).toNat) ((bz s).drop (k+1).toNat) (m+1)
     else bif jaj ms i.toNat==105 then(bif jaj z i.toNat==66 then 32 else bif decide ((m:Int)<le)then fl else jaj z i.toNat)::fdGo le fl dr (decide (n<0)) ((bz ms).drop (i+1).toNat) ((bz z).drop (i+1).toNat) ((bz s).drop k.toNat) (m+1)
     else bif jaj ms i.toNat !=118 then ssZ (jaj z i.toNat) dr (decide (n<0))::fdGo le fl dr (decide (n<0)) ((bz ms).drop (i+1).toNat) ((bz z).drop (i+1).toNat) ((bz s).drop k.toNat) (m+1)
     else fdGo le fl dr (decide (n<0)) ((bz ms).drop (i+1).toNat) ((bz z).drop (i+1).toNat) ((bz s).drop k.toNat) m):=by
    rw[jb4 (s:=ms) hi0 h,jb4 (s:=z) hi0 hi1,fdGo,List.tail_drop,ek];rfl
   have fin:∀(cap':Nat)(d':E)(m1:Nat)(k':Int)(M:J),RowP d' m1 cap'→(m1:Int)≤i+1→zc d' m1=zc d m++M→0≤k'→k'+pdGo ((bz ms).drop (i+1).toNat)≤s.size→
     fdGo le fl dr (decide (n<0)) ((bz ms).drop i.toNat) ((bz z).drop i.toNat) ((bz s).drop k.toNat) m=M++fdGo le fl dr (decide (n<0)) ((bz ms).drop (i+1).toNat) ((bz z).drop (i+1).toNat) ((bz s).drop k'.toNat) m1→
     S66_0.step V66_0 B66_0 (fun(n,z,zb,z1,z2,z3,zg,s,le,fl,ms,dr,d,m,cap,k,i)=>(ms.size-i).toNat) (n,z,zb,z1,z2,z3,zg,s,le,fl,ms,dr,d,m,cap,k,i) Z Exit.normal
      [I n,.pointer (some ⟨0,0,some 0⟩),S s,I le,C8 fl,S ms,C8 dr,.slice (some ⟨200,0,some 1⟩) m1 cap',I k',I (IntKind.wrap .i64 (i+1))] [some ⟨[S z,B zb,I z1,I z2,I z3,B zg],131,true⟩,some ⟨d',5,true⟩]:=by
    intro cap' d' m1 k' M q1 q2 q3 q4 q5 q6;rw[w64 (n:=i+1) (by omega)];refine⟨(n,z,zb,z1,z2,z3,zg,s,le,fl,ms,dr,d',m1,cap',k',i+1),rfl,rfl,by simp only[S66_0,jaf,jae];exact⟨jat.2 q1,hdg,by omega⟩,by simp only;omega,?_⟩;intro d'' m'' cap'' k'' r1 r2;exact hf d'' m'' cap'' k'' r1 (by rw[r2,q3,q6,List.append_assoc])
   have hk:isP (jaj ms i.toNat)=true→k<s.size∧k+1+pdGo ((bz ms).drop (i+1).toNat)≤s.size:=by
    intro e;rw[e,cond_true]at hq;omega
   have hk0:k+pdGo ((bz ms).drop (i+1).toNat)≤s.size:=by
    revert hq;cases isP (jaj ms i.toNat) <;>simp only[cond_true,cond_false] <;>omega
   have hkd:k<s.size→(bz s).drop k.toNat=jaj s k.toNat::(bz s).drop (k+1).toNat:=fun e=>jb4 hp.2.2.2.2.1 e
   refine c_t g2 (c_t g1 (cond_intro (fun a=> ?_) (fun a=>c_t g1 (cond_intro (fun b=> ?_) (fun b=>c_t g1 (cond_intro (fun c=> ?_) (fun c=>c_t g1 (cond_intro (fun e=> ?_) (fun e=> ?_)))))))))
   ·obtain⟨k1,k2⟩:=hk (by simp[isP,a]);refine c_t (jaa (by omega)) (c_t (jaa (dg_at hdg (by omega) k1)) ?_);refine c_t (hr.ask (k:=1) (by omega)) (fun cap1 tail ht=> ?_);obtain⟨f1,f2⟩:=hr.app1 (fmZ (jaj z i.toNat) (jaj s k.toNat) (decide (n<0))) ht;refine c_t (by rw[f1.good];rfl) ?_;rw[f1.rlb];rw[w64 (n:=k+1) (by omega)];exact fin _ _ _ _ _ f1 (by omega) f2 (by omega) k2 (by rw[eF,a,cond_true,hkd k1];rfl)
   ·obtain⟨k1,k2⟩:=hk (by simp[isP,b]);refine cond_intro (fun c=> ?_) (fun c=>c_t (jaa (by omega)) ?_)
    ·refine c_t (hr.ask (k:=1) (by omega)) (fun cap1 tail ht=> ?_);obtain⟨f1,f2⟩:=hr.app1 (fl) ht;refine c_t (by rw[f1.good];rfl) ?_;rw[f1.rlb];rw[w64 (n:=k+1) (by omega)];exact fin _ _ _ _ _ f1 (by omega) f2 (by omega) k2 (by rw[eF,a,b,c,cond_true,cond_false];rfl)
    ·refine c_t (hr.ask (k:=1) (by omega)) (fun cap1 tail ht=> ?_);obtain⟨f1,f2⟩:=hr.app1 (jaj s k.toNat) ht;refine c_t (by rw[f1.good];rfl) ?_;rw[f1.rlb];rw[w64 (n:=k+1) (by omega)];exact fin _ _ _ _ _ f1 (by omega) f2 (by omega) k2 (by rw[eF,a,b,c,cond_true,cond_false,cond_false,hkd k1];rfl)
   ·refine cond_intro (fun e=> ?_) (fun e=>cond_intro (fun o=> ?_) (fun o=> ?_))
    ·refine c_t (hr.ask (k:=1) (by omega)) (fun cap1 tail ht=> ?_);obtain⟨f1,f2⟩:=hr.app1 (32) ht;refine c_t (by rw[f1.good];rfl) ?_;rw[f1.rlb];exact fin _ _ _ _ _ f1 (by omega) f2 (by omega) hk0 (by rw[eF,a,b,c,e];rfl)
    ·refine c_t (hr.ask (k:=1) (by omega)) (fun cap1 tail ht=> ?_);obtain⟨f1,f2⟩:=hr.app1 (fl) ht;refine c_t (by rw[f1.good];rfl) ?_;rw[f1.rlb];exact fin _ _ _ _ _ f1 (by omega) f2 (by omega) hk0 (by rw[eF,a,b,c,e,o];rfl)
    ·refine c_t (hr.ask (k:=1) (by omega)) (fun cap1 tail ht=> ?_);obtain⟨f1,f2⟩:=hr.app1 (jaj z i.toNat) ht;refine c_t (by rw[f1.good];rfl) ?_;rw[f1.rlb];exact fin _ _ _ _ _ f1 (by omega) f2 (by omega) hk0 (by rw[eF,a,b,c,e,o];rfl)
   ·refine c_t (hr.ask (k:=1) (by omega)) (fun cap1 tail ht=> ?_);obtain⟨f1,f2⟩:=hr.app1 (ssZ (jaj z i.toNat) dr (decide (n<0))) ht;refine c_t (by rw[f1.good];rfl) ?_;rw[f1.rlb];exact fin _ _ _ _ _ f1 (by omega) f2 (by omega) hk0 (by rw[eF,a,b,c,e];rfl)
   ·refine c_t (by rw[hr.good];rfl) ?_;rw[hr.rlb];exact fin _ _ _ _ [] hr (by omega) (by simp) (by omega) hk0 (by rw[eF,a,b,c,e];rfl)
  ·have h:=jac h;refine c_t (by rw[hr.good];rfl) ?_;rw[hr.rlb];obtain rfl:i=ms.size:=by omega
   exact hf d m cap k (jat.2 hr) (by rw[jce (Int.le_refl _)];simp[fdGo])
def s66(p:Pic)(n:Int):Bool×Value:=(decide (p.s.size≤900∧0≤p.d∧p.d≤900∧pdGo (jas (bz p.s))≤p.d∧0≤p.w∧p.w≤900∧ -9223372036854775808≤n∧n≤9223372036854775807∧fdOK (bz p.s) p.w p.d.toNat n=true),.string (sz (jdn (bz p.s) p.w p.d.toNat n)))
theorem fn66:Fn1 Tryz.prog 210 Tryz.f210:= .m Tryz.func210
def lq(a b:Int):Y:=sz (digZ (a.natAbs:Int) b.toNat)
def j9(a:Px.Pic):J:=bz (Pic.s a)
def lz(b:Int)(a:Px.Pic):Int:=endZ (jas (j9 a)) (bz (lq b (Pic.d a))) (Pic.w a) (Pic.d a).toNat
def rg(a c:Int)(b:Px.Pic):Bool:=S66_0.toLSpec.pre (a,(Pic.s b,(Pic.n b,(Pic.w b,(Pic.d b,(Pic.q b,(Pic.g b,(lq a (Pic.d b),(lz a b,(if hasZ (j9 b) 42=true then(42:Int)else(32:Int),(j2 b,(c,(([]:E),(0,(0,((0:Int),(0:Int)))))))))))))))))
def pk(a:Int)(b:E)(c:Nat)(d e:Value)(f:Value→Prop):Prop:=gz (Nat.ble (ki a+1) b.length) a (c:Int) (ay (jbf (setL b (ki a) [d]) 0 c) e f) False
def kc(a b c d e f:Int):Bool:=decide (a≤b∧b≤c∧d≤e∧e≤f)
theorem v66(p:Pic)(n:Int)(R:Value→Prop):jaz Tryz.prog G11 (oneL 0 S66_0.hA) Tryz.f210 [Enc.enc p,Enc.enc n] (fun _=>none) 0 (fun v _ _=>R v)=(bif kc 0 (Pic.d p) 1000 (-9223372036854775808) n 9223372036854775807 then bif decide ((Pic.s p).size≤900∧(lq n (Pic.d p)).size≤1000∧ldc (jas (j9 p))≤(lq n (Pic.d p)).size∧0≤Pic.d p∧Pic.d p≤1000)then d4 (fy (Pic.s p)) (Pic.s p) (jy (decide (lz n p>0)) (bif lz n p==Pic.w p then bif n==0 then b7 (j2 p) &&true else true else true) true (decide (lz n p>0) && (lz n p==Pic.w p&& (n==0&& !hasZ (bz (j2 p)) 100))) (ay (d8 0 (Pic.w p) 1000) (S (sz (rep1 (if hasZ (j9 p) 42=true then 42 else 32) (Pic.w p).toNat))) R) (ig (b7 (Pic.s p)) (br (!hasZ (j9 p) 90) (b7 (Pic.s p) && (bif !hasZ (j9 p) 42 then b7 (j2 p) &&true else true)) true) (!hasZ (j9 p) 90&& (!hasZ (j9 p) 42&&hasZ (bz (j2 p)) 99)) (bif b7 (Pic.s p)then bif rg n (drZ (j9 p)) p then∀a:E,∀b:Nat,∀c:Nat,Int→jcm a b c=true→zc a b=zc [] 0++fdGo (lz n p) (if hasZ (j9 p) 42=true then 42 else 32) (drZ (j9 p)) (d7 n) (dq (j2 p) 0) (dq (Pic.s p) 0) (dq (lq n (Pic.d p)) 0) 0→jr a 260 (bif drZ (j9 p) !=0 then pk (cv (lz n p) 1) a b (.int .u8 (sgZ (drZ (j9 p)) (d7 n))) (S (jbb (setL a (ki (cv (lz n p) 1)) [.int .u8 (sgZ (drZ (j9 p)) (d7 n))]) 0 b)) R else ay (jbf a 0 b) (S (jbb a 0 b)) R)else False else False) (bif rg n 0 p then∀a:E,∀b:Nat,∀c:Nat,Int→ly true (zc [] 0) (fdGo (lz n p) (if hasZ (j9 p) 42=true then 42 else 32) 0 (d7 n) (dq (j2 p) 0) (dq (Pic.s p) 0) (dq (lq n (Pic.d p)) 0) 0) a a b c 260 R else False))) False else False else False):=by kernel_rfl
theorem ok66:jam Tryz.prog 210 (sp2 s66):=by
 refine jcj ok_G11 hmix fn66 l66_0 jag fun p n hc=> ?_
 rw[ja0,v66];delta av b7 d4 br jy ig kp ay ly dq lq ir j2 d7 j9 lz rg gm jr b6 gz ki pk aw cv d8 fy kc;have hc:(p.s.size≤900∧0≤p.d∧p.d≤900∧pdGo (jas (bz p.s))≤p.d∧0≤p.w∧p.w≤900∧ -9223372036854775808≤n∧n≤9223372036854775807∧fdOK (bz p.s) p.w p.d.toNat n=true):=jab hc
 try dsimp only[s66]
 obtain⟨h1,h2,h3,h4,h5,h6,h7,h8,hok⟩:=hc;have hml:(sz (jas (bz p.s))).size=p.s.size:=by rw[jcf,jej,jal]
 have hB:=jcy (jfd (bz p.s));have hdg:=jfj p.d.toNat (n.natAbs:Int);have hds:bz (sz (digZ n.natAbs p.d.toNat))=digZ n.natAbs p.d.toNat:=jcy (jg5 hdg);have hdl:(sz (digZ n.natAbs p.d.toNat)).size=p.d.toNat:=by rw[jcf,jds]
 have hld:=ldc_le (jas (bz p.s));have hz0:zc [] 0=[]:=rfl;rw[hB,hds];have dd:decide (p.s.size≤9223372036854775807)=true:=jaa (by omega);have dm:decide ((sz (jas (bz p.s))).size≤9223372036854775807)=true:=jaa (by omega)
 have pre:∀dr:Int,S66_0.pre (n,p.s,p.n,p.w,p.d,p.q,p.g,sz (digZ n.natAbs p.d.toNat),endZ (jas (bz p.s)) (digZ n.natAbs p.d.toNat) p.w p.d.toNat,(if hasZ (bz p.s) 42=true then 42 else 32),sz (jas (bz p.s)),dr,[],0,0,0,0)=true:=by
  intro dr;simp only[S66_0,jaf,jae,hds,hB,Int.toNat_zero,List.drop_zero];exact⟨rfl,hdg,Int.le_refl _,by omega,by omega,by omega,Int.le_refl _,by omega,by omega,by omega⟩
 refine c_t (jaa (by omega)) (c_t (jaa (by omega)) (c_t dd (c_t (jaa (by omega)) (c_t ?_ (cond_intro (fun a=> ?_) (fun a=> ?_))))))
 ·rw[dm];simp
 ·have a':fdBl (bz p.s) p.w p.d.toNat n=true:=a;refine c_t (jaa (by omega)) ?_;rw[jdn,a',cond_true];rfl
 have a':fdBl (bz p.s) p.w p.d.toNat n=false:=a
 have e1:jdn (bz p.s) p.w p.d.toNat n=bif fdDr (bz p.s) !=0 then(jf0 (bz p.s) p.w p.d.toNat n).set (fdLe (bz p.s) p.w p.d.toNat n-1).toNat (sgZ (fdDr (bz p.s)) (decide (n<0)))else jf0 (bz p.s) p.w p.d.toNat n:=by
  rw[jdn,a',cond_false]
 rw[e1];refine c_t (by rw[dd,dm];simp) (cond_intro (fun b=>c_t dd (c_t (pre _) (fun d' m' cap' k' g1 g2=> ?_))) (fun b=>c_t (pre _) (fun d' m' cap' k' g1 g2=> ?_)))
 ·have eD:fdDr (bz p.s)=drZ (bz p.s):=by rw[fdDr,b,cond_true]
  have g1:=jat.1 g1;have hzl:=jba g1
  have g2:zc d' m'=jf0 (bz p.s) p.w p.d.toNat n:=by
   rw[g2,jdh,jdh,jdh,jf0,eD];rfl
  rw[eD];refine c_t (by rw[jbj g1.plain];rfl) (fun _=>cond_intro (fun c=> ?_) (fun c=> ?_))
  ·have hx:1≤fdLe (bz p.s) p.w p.d.toNat n∧fdLe (bz p.s) p.w p.d.toNat n≤(jf0 (bz p.s) p.w p.d.toNat n).length:=by
    have hc0:(drZ (bz p.s)==0)=false:=by simpa using c
    simpa only[fdOK,a',eD,hc0,Bool.false_or,jae]using hok
   rw[←g2,hzl]at hx;have hcp:=g1.cap;have hle:=g1.le;have ele:endZ (jas (bz p.s)) (digZ n.natAbs p.d.toNat) p.w p.d.toNat=fdLe (bz p.s) p.w p.d.toNat n:=rfl;rw[ele,w64 (by omega)];obtain⟨q1,q2,q3⟩:=g1.set (sgZ (drZ (bz p.s)) (decide (n<0))) (i:=(fdLe (bz p.s) p.w p.d.toNat n-1).toNat) (by omega);refine c_t (jaa (by omega)) (c_t q3 (c_t q1.str.1 ?_));rw[q1.str.2,q2,g2,c,cond_true]
  ·refine c_t g1.str.1 ?_;rw[g1.str.2,g2,c,cond_false]
 ·have eD:fdDr (bz p.s)=0:=by rw[fdDr,b,cond_false]
  have g1:=jat.1 g1
  have g2:zc d' m'=jf0 (bz p.s) p.w p.d.toNat n:=by
   rw[g2,jdh,jdh,jdh,jf0,eD];rfl
  refine c_t (by rw[jbj g1.plain];rfl) (fun _=>c_t g1.str.1 ?_);rw[g1.str.2,g2,eD];rfl
theorem drGo_none(s:J):∀t:J,(∀c∈t,hasZ [36,83,43,45] c=false)→drGo s t=0
 | [],_=>rfl
 | c::r,h=>by
  have h1:=h c (List.mem_cons_self ..);rw[drGo,if_neg (by simp[h1])];exact drGo_none s r fun x hx=>h x (List.mem_cons_of_mem _ hx)
theorem jkv(a b:J)(c:Int):cntZ (a++b) c=cntZ a c+cntZ b c:=by
 simp[cntZ]
theorem cnt_none{t:J}{c:Int}(h:c∉t):cntZ t c=0:=by
 simp only[cntZ,List.length_eq_zero_iff,List.filter_eq_nil_iff];intro x hx;simp;rintro rfl;exact h hx
theorem dr_app(b t:J)(ht:∀c∈t,hasZ [36,83,43,45] c=false):∀r,drGo (b++t) (r++t)=drGo b r
 | []=>by
  rw[List.nil_append,drGo_none _ _ ht];rfl
 | c::r=>by
  rw[List.cons_append,drGo,drGo,dr_app b t ht r];cases hc:hasZ [36,83,43,45] c with
  | false=>simp
  | true=>
   have:c∉t:=fun hx=>by rw[ht c hx]at hc;cases hc
   rw[jkv,cnt_none this];simp
theorem jez(s:J):∃t,s=jan s++t∧(t=[]∧crZ s=false∨(t=[67,82]∨t=[68,66])∧crZ s=true):=by
 unfold jan;by_cases h:crZ s=true
 ·rw[if_pos h];refine⟨s.drop (s.length-2),(List.take_append_drop ..).symm,.inr ⟨?_,h⟩⟩;simp only[crZ,jaf,Bool.or_eq_true,jae]at h;exact h.2
 ·rw[if_neg h];exact⟨[],by simp,.inl ⟨rfl,by simpa using h⟩⟩
theorem dr_body(s:J):drZ s=drZ (jan s):=by
 obtain⟨t,h,ht⟩:=jez s
 have:=dr_app (jan s) t (by
  intro c hc;rcases ht with⟨rfl,_⟩ | ⟨rfl | rfl,_⟩
  ·cases hc
  ·rcases List.mem_cons.1 hc with rfl | hc
   ·decide
   ·rcases List.mem_cons.1 hc with rfl | hc
    ·decide
    ·cases hc
  ·rcases List.mem_cons.1 hc with rfl | hc
   ·decide
   ·rcases List.mem_cons.1 hc with rfl | hc
    ·decide
    ·cases hc) (jan s)
 rw[←h]at this;exact this
theorem jic(s:J):∀r:J,drGo s r=0∨(hasZ [36,83,43,45] (drGo s r)=true∧drGo s r∈r)
 | []=> .inl rfl
 | c::r=>by
  rw[drGo];split
  ·rename_i h;exact .inr ⟨h.1,List.mem_cons_self ..⟩
  ·rcases jic s r with h | ⟨h1,h2⟩
   ·exact .inl h
   ·exact .inr ⟨h1,List.mem_cons_of_mem _ h2⟩
theorem jh1:∀(r:J)(bh pt:Bool)(dg:Int),99∈r→(ldGo r true bh pt dg).1=false
 | m::r,bh,pt,dg,h=>by
  rw[ldGo];rcases List.mem_cons.1 h with rfl | h
  ·rfl
  ·cases m==118 with
   | true=>exact jh1 r _ _ _ h
   | false=>
    cases m==100 with
    | true=>exact jh1 r _ _ _ h
    | false=>
     cases m==99 with
     | true=>rfl
     | false=>exact jh1 r _ _ _ h
theorem jks(s:J)(dr:Int):∀(r:J)(i f l:Int),0<i→(f<0∨1≤f)→(df1 s dr r i f l).1=true→(dr∈r∨(1≤f∧1≤l))→1≤(df1 s dr r i f l).2.1∧1≤(df1 s dr r i f l).2.2
 | [],i,f,l,hi,hf,hk,h=>by
  rcases h with h | h
  ·cases h
  ·exact h
 | c::r,i,f,l,hi,hf,hk,h=>by
  rw[df1]at hk ⊢;cases hc:(c==dr)with
  | true=>
   rw[hc,cond_true]at hk;rw[cond_true];exact jks s dr r _ _ _ (by omega) (by split<;>omega) hk (.inr ⟨by split<;>omega,by omega⟩)
  | false=>
   have hne:c≠dr:=by simpa using hc
   rw[hc,cond_false]at hk;rw[cond_false];cases h2:(hasZ [36,83,43,45] c&&decide (2≤cntZ s c))with
   | true=>rw[h2]at hk;cases hk
   | false=>
    rw[h2,cond_false]at hk;rw[cond_false];refine jks s dr r _ _ _ (by omega) hf hk ?_;rcases h with h | h
    ·rcases List.mem_cons.1 h with h | h
     ·exact absurd h.symm hne
     ·exact .inl h
    ·exact .inr h
theorem drifts_head{c:Int}{r:J}(h:jcr (c::r)=true)(h0:drZ (c::r)≠0):c≠86:=by
 rintro rfl;simp only[jcr,Bool.or_eq_true,beq_iff_eq,jaf]at h;rcases h with h | ⟨h1,h2⟩
 ·exact h0 h
 have hd:=(jic (86::r) (86::r)).resolve_left h0;have hd:hasZ [36,83,43,45] (drZ (86::r))=true∧drZ (86::r)∈86::r:=hd;generalize hg:drZ (86::r)=dr at*
 have hne:((86:Int)==dr)=false:=by
  cases e:((86:Int)==dr)with
  | false=>rfl
  | true=>rw[←eq_of_beq e]at hd;exact absurd hd.1 (by decide)
 have hs:hasZ [36,83,43,45] 86=false:=by decide
 rw[df1,hne,cond_false,hs,Bool.false_and,cond_false]at h1 h2
 have hm:dr∈r:=by
  rcases List.mem_cons.1 hd.2 with rfl | h
  ·simp at hne
  ·exact h
 obtain⟨g1,g2⟩:=jks (86::r) dr r (0+1) (-1) (-1) (by omega) (by omega) h1 (.inl hm);generalize (df1 (86::r) dr r (0+1) (-1) (-1)).2.2=l at*;generalize (df1 (86::r) dr r (0+1) (-1) (-1)).2.1=f at*;obtain⟨k,hk⟩:∃k,l.toNat=k+1:=⟨l.toNat-1,by omega⟩
 rw[hk,List.take_succ_cons,d2Go,jaa (show 0<f by omega)]at h2;simp at h2
def nv(l:J):Nat:=(l.filter (· !=118)).length
theorem jf8(m:Int)(r:J):nv (m::r)=(if m=118 then 0 else 1)+nv r:=by
 unfold nv;by_cases h:m=118
 ·simp[h]
 ·simp[h];omega
theorem nv_app(a b:J):nv (a++b)=nv a+nv b:=by simp[nv]
theorem jlc:∀(ms ds:J)(o:Int),o≤jex ms ds o∧jex ms ds o≤o+nv ms
 | [],ds,o=>by simp[jex,nv]
 | m::r,ds,o=>by
  rw[jex,jf8];cases h:((m==118 || m==100) || (m==99&&ds.headD 0 !=48))with
  | true=>rw[cond_true];split<;>omega
  | false=>
   rw[cond_false];have:=jlc r (bif m==99 then ds.tail else ds) (o+1);have hm:m≠118:=by rintro rfl;simp at h
   rw[if_neg hm];omega
theorem jip(le fill dr:Int)(neg:Bool):∀(ms sp ds:J)(o:Int),(fdGo le fill dr neg ms sp ds o).length=nv ms
 | [],_,_,_=>rfl
 | m::r,sp,ds,o=>by
  rw[fdGo,jf8];cases h1:(m==100)with
  | true=>
   have:=eq_of_beq h1;subst this;rw[cond_true,List.length_cons,jip,if_neg (by decide)];omega
  | false=>
   cases h2:(m==99)with
   | true=>
    have:=eq_of_beq h2;subst this;rw[cond_false,cond_true,List.length_cons,jip,if_neg (by decide)];omega
   | false=>
    cases h3:(m==105)with
    | true=>
     have:=eq_of_beq h3;subst this;rw[cond_false,cond_false,cond_true,List.length_cons,jip,if_neg (by decide)];omega
    | false=>
     cases h4:(m !=118)with
     | true=>
      have h4:m≠118:=by simpa using h4
      rw[cond_false,cond_false,cond_false,cond_true,List.length_cons,jip,if_neg h4];omega
     | false=>
      have h4:m=118:=by simpa using h4
      rw[cond_false,cond_false,cond_false,cond_false,jip,if_pos h4];omega
theorem jk6{dr:Int}(hd:dr=0∨hasZ [36,83,43,45] dr=true)(seen:Bool)(c:Int):mk1 dr seen c=118↔c=86:=by
 constructor
 ·intro h;unfold mk1 at h;cases h1:hasZ [57,89,84,73,82] c with
  | true=>rw[h1]at h;cases h
  | false=>
   rw[h1,cond_false]at h;cases h2:(hasZ [90,42] c || (dr !=0&& (c==dr&&seen)))with
   | true=>rw[h2]at h;cases h
   | false=>
    rw[h2,cond_false]at h;cases h3:(c==86)with
    | true=>exact eq_of_beq h3
    | false=>
     rw[h3,cond_false]at h;cases h4:(c==36) <;>cases h5:hasZ [83,43,45] c<;>rw[h4,h5]at h<;>exact absurd h (by decide)
 ·rintro rfl;unfold mk1;have h1:hasZ [57,89,84,73,82] 86=false:=by decide
  have h2:hasZ [90,42] 86=false:=by decide
  have h3:((86:Int)==dr)=false:=by
   cases e:((86:Int)==dr)with
   | false=>rfl
   | true=>
    rw[←eq_of_beq e]at hd;rcases hd with hd | hd
    ·cases hd
    ·exact absurd hd (by decide)
  rw[h1,h2,h3];simp
theorem mk_nv{dr:Int}(hd:dr=0∨hasZ [36,83,43,45] dr=true):∀(l:J)(seen:Bool),nv (mkGo dr seen l)+cntZ l 86=l.length
 | [],_=>rfl
 | c::r,seen=>by
  have:=mk_nv hd r (seen || (dr !=0&&c==dr));rw[mkGo,jf8,List.length_cons]
  have hc:cntZ (c::r) 86=(if c=86 then 1 else 0)+cntZ r 86:=by
   unfold cntZ;by_cases h:c=86
   ·simp[h];omega
   ·simp[h]
  rw[hc];have hm:=jk6 hd seen c;by_cases h:c=86
  ·rw[if_pos h,if_pos (hm.2 h)];omega
  ·rw[if_neg h,if_neg fun e=>h (hm.1 e)];omega
theorem jhd(s:J):nv (jas s)+cntZ s 86=s.length:=by
 obtain⟨t,h,ht⟩:=jez s;have h1:=mk_nv (dr:=drZ (jan s)) ((jic _ _).imp id And.left) (jan s) false;unfold jas;rw[nv_app]
 have e:cntZ s 86=cntZ (jan s) 86+cntZ t 86:=by
  conv=>lhs;rw[h]
  exact jkv ..
 have el:s.length=(jan s).length+t.length:=by
  conv=>lhs;rw[h]
  simp
 rcases ht with⟨rfl,hc⟩ | ⟨rfl | rfl,hc⟩
 ·rw[if_neg (by simp[hc])];have:cntZ [] 86=0:=rfl;have:nv []=0:=rfl;simp only[List.length_nil]at el;omega
 ·rw[if_pos hc];have:cntZ [67,82] 86=0:=by decide
  have:nv [115,115]=2:=by decide
  simp only[List.length_cons,List.length_nil]at el;omega
 ·rw[if_pos hc];have:cntZ [68,66] 86=0:=by decide
  have:nv [115,115]=2:=by decide
  simp only[List.length_cons,List.length_nil]at el;omega
theorem field_ok{s:J}(h:NumP s)(k:Nat)(n:Int):fdOK s ((s.length:Int)-cntZ s 86) k n=true:=by
 have hnv:=jhd s;have hw:(s.length:Int)-cntZ s 86=nv (jas s):=by omega
 rw[hw];unfold fdOK;cases hb:fdBl s (nv (jas s)) k n with
 | true=>rfl
 | false=>
  rw[Bool.false_or];cases h0:(fdDr s==0)with
  | true=>rfl
  | false=>
   rw[Bool.false_or,jae,jf0,jip];have h0:fdDr s≠0:=by simpa using h0
   unfold fdDr at h0;cases hq:(!hasZ s 90&& (!hasZ s 42&&hasZ (jas s) 99))with
   | false=>rw[hq]at h0;exact absurd rfl h0
   | true=>
    rw[hq,cond_true]at h0;simp only[jaf,Bool.not_eq_true']at hq;obtain⟨q1,q2,q3⟩:=hq;rw[dr_body]at h0;obtain⟨t,ht,ht2⟩:=jez s;have htm:(if crZ s=true then([115,115]:J)else [])=[]∨(if crZ s=true then([115,115]:J)else [])=[115,115]:=by split<;>simp
    have hld:=h.ld;have hdr:=h.dr;have hms:jas s=mkGo (drZ (jan s)) false (jan s)++(if crZ s=true then [115,115]else []):=rfl;generalize (if crZ s=true then([115,115]:J)else [])=tm at*
    have h99:99∈mkGo (drZ (jan s)) false (jan s):=by
     have:=jbm.1 q3;rw[hms,List.mem_append]at this;rcases this with h | h
     ·exact h
     ·rcases htm with rfl | rfl
      ·cases h
      ·exact absurd h (by decide)
    have hz:∀c∈jan s,hasZ [90,42] c=false:=by
     intro c hc;have hcs:c∈s:=by rw[ht];exact List.mem_append_left _ hc
     cases e:hasZ [90,42] c with
     | false=>rfl
     | true=>
      have:=jbm.1 e;rcases List.mem_cons.1 this with rfl | this
      ·rw[jbm.2 hcs]at q1;cases q1
      ·rcases List.mem_cons.1 this with rfl | this
       ·rw[jbm.2 hcs]at q2;cases q2
       ·cases this
    cases hbs:jan s with
    | nil=>rw[hbs]at h0;exact absurd rfl h0
    | cons c r=>
     rw[hbs]at h0 hms h99 hz hld hdr;have hv:=drifts_head hdr h0;have hsg:=(jic (c::r) (c::r)).resolve_left h0;have hsg:hasZ [36,83,43,45] (drZ (c::r))=true:=hsg.1;generalize drZ (c::r)=dr at*;rw[mkGo]at h99 hms hld;have hcz:=hz c (List.mem_cons_self ..);have h118:mk1 dr false c≠118:=fun e=>hv ((jk6 (.inr hsg) false c).1 e)
     have hn99:mk1 dr false c≠99:=by
      unfold mk1;rw[hcz];cases hasZ [57,89,84,73,82] c with
      | true=>rw[cond_true];decide
      | false=>cases dr !=0<;>cases c==dr<;>cases c==86<;>cases c==36<;>cases hasZ [83,43,45] c<;>decide
     have h99r:99∈mkGo dr (false || (dr !=0&&c==dr)) r:=by
      rcases List.mem_cons.1 h99 with e | e
      ·exact absurd e.symm hn99
      ·exact e
     have hn100:mk1 dr false c≠100:=by
      intro e;rw[e]at hld;generalize mkGo dr (false || (dr !=0&&c==dr)) r=R at*
      have key:(ldGo (100::R) false false false 0).1=false:=by
       rw[ldGo];exact jh1 R false false (0+1) h99r
      unfold jdp at hld;rw[key]at hld;simp at hld
     have hm0:∀ds:J,((mk1 dr false c==118 || mk1 dr false c==100) || (mk1 dr false c==99&&ds.headD 0 !=48))=false:=by
      intro ds;simp[h118,hn100,hn99]
     have hnv1:1≤nv (jas s):=by
      rw[hms,List.cons_append,jf8,if_neg h118];omega
     unfold fdLe endZ;rw[q3,Bool.not_true,cond_false];cases(!hasZ (jas s) 100&&decide (digZ n.natAbs k=rep1 48 k))with
     | true=>rw[cond_true];omega
     | false=>
      rw[cond_false];have g1:=jlc (jas s) (digZ n.natAbs k) 0;refine⟨?_,by omega⟩;rw[hms,List.cons_append,jex,hm0,cond_false];have:=(jlc (mkGo dr (false || (dr !=0&&c==dr)) r++tm) (bif mk1 dr false c==99 then(digZ n.natAbs k).tail else digZ n.natAbs k) (0+1)).1;omega
theorem jjz{l:J}(hl:IsB (pS l)∧(pS l).length≤32)(h:pN l=true)(n:Int):IsB (pS l)∧(pS l).length≤32∧pdGo (jas (pS l))=pD l∧0≤pW l∧pW l≤32∧fdOK (pS l) (pW l) (pD l).toNat n=true:=by
 have hv:=jdf h;have hnp:=jhy h;have hS:pS l=exZ l:=by rw[pS,if_pos hv]
 have hW:pW l=(exZ l).length-cntZ (exZ l) 86:=by rw[pW,if_pos hv,hnp.nch];rfl
 have hD:pD l=pdGo (jas (exZ l)):=by rw[pD,if_pos h]
 obtain⟨g1,g2⟩:=hl;have hc:=jit (exZ l) 86;rw[hS]at g1 g2 ⊢;rw[hW];exact⟨g1,g2,hD.symm,by omega,by omega,field_ok hnp _ _⟩
def G12:Env:=((((Env.nil.add 209 (sp1 s29)).add 201 (sp1 s69)).add 143 (sp1 s30)).add 230 (sp3 s65)).add 210 (sp2 s66)
theorem ok_G12:jaw Tryz.prog G12:=jai (jai (jai (jai (jai jap ok29) ok69) ok30) ok65) ok66
def edE(l:J)(q:Int):Int:=if pN l=true then(if 0≤q∧q≤9 then 0 else 1)else 30
def edS(l:J)(n q:Int):J:=if pN l=true∧0≤q∧q≤9 then jdn (pS l) (pW l) (pD l).toNat (cuN n q (pQ l) (pD l) (pG l))else []
def edF(l:J)(n q:Int):Bool:=if pN l=true∧0≤q∧q≤9 then cuF n q (pQ l) (pD l) (pG l)else false
def rdD(c:Int):Int:=bif unK c then unD c else bif decide (c≥48) &&decide (c≤57)then c-48 else 0
def rdGo:J→J→Int→Int
 | [],_,a=>a
 | m::r,s,a=>bif m==118 then rdGo r s a else rdGo r s.tail (bif m==100 || m==99 then a*10+rdD (s.headD 0)else a)
theorem cuN_rng(n q sc d:Int)(g:Bool)(h:0≤d∧d≤9): -1000000000<cuN n q sc d g∧cuN n q sc d g<1000000000:=by
 have t1:=je7 (n:=d.toNat) (by omega);have t9:=jes (n:=d.toNat) (by omega);have h1:=Int.emod_nonneg (cuM n q sc) (show tenZ d.toNat≠0 by omega);have h2:=Int.emod_lt_of_pos (cuM n q sc) (show 0<tenZ d.toNat by omega);unfold cuN cuV;split<;>omega
theorem rd_rng(c:Int):0≤rdD c∧rdD c≤9:=by
 unfold rdD;cases h:unK c with
 | true=>
  have e:unD c=idxZ punchedZ c%10:=by rw[unD,h,if_pos rfl]
  rw[cond_true,e];omega
 | false=>
  rw[cond_false];cases h1:decide (c≥48) <;>cases h2:decide (c≤57) <;>simp at h1 h2<;>simp<;>omega
theorem pu_rng(d:Int)(m:Bool):0≤puZ d m∧puZ d m<256:=by
 unfold puZ;split
 ·have:∀x∈punchedZ,0≤x∧x<256:=by decide
  rw[List.getD_eq_getElem?_getD];cases h:punchedZ[(if m=true then d+10 else d).toNat]? with
  | none=>simp
  | some x=>exact this x (List.mem_of_getElem? h)
 ·simp
theorem hd_isB{l:J}(h:IsB l):0≤l.headD 0∧l.headD 0<256:=by
 cases l with
 | nil=>simp
 | cons a r=>exact h a (List.mem_cons_self ..)
theorem jhp{l:J}(h:IsB l):IsB l.tail:=fun x hx=>h x (List.mem_of_mem_tail hx)
theorem jhj{a:Int}{l:J}(ha:0≤a∧a<256)(h:IsB l):IsB (a::l):=fun x hx=>by
 rcases List.mem_cons.1 hx with rfl | hx
 ·exact ha
 ·exact h x hx
theorem fm_rng{c d:Int}(m:Bool)(h:0≤d∧d<256):0≤fmZ c d m∧fmZ c d m<256:=by
 unfold fmZ;split
 ·omega
 ·split
  ·exact pu_rng _ _
  ·exact h
theorem sg_rng(c:Int)(m:Bool):0≤sgZ c m∧sgZ c m<256:=by
 unfold sgZ;split
 ·omega
 ·split
  ·split<;>omega
  ·split<;>omega
theorem ss_rng{c:Int}(dr:Int)(m:Bool)(h:0≤c∧c<256):0≤ssZ c dr m∧ssZ c dr m<256:=by
 unfold ssZ;have:=sg_rng c m;cases(dr !=0&&c==dr) <;>cases hasZ [67,82,68,66] c<;>cases m<;>simp<;>omega
theorem jiq{le fill dr:Int}{neg:Bool}(hf:0≤fill∧fill<256):∀(ms sp ds:J)(o:Int),IsB sp→IsB ds→IsB (fdGo le fill dr neg ms sp ds o)
 | [],_,_,_,_,_=>IsB.nil
 | m::r,sp,ds,o,hs,hd=>by
  rw[fdGo];have h1:=hd_isB hs;have h2:=hd_isB hd;cases m==100 with
  | true=>exact jhj (fm_rng _ h2) (jiq hf _ _ _ _ (jhp hs) (jhp hd))
  | false=>
   cases m==99 with
   | true=>exact jhj (by cases decide (o<le) <;>simp only[cond_true,cond_false] <;>omega) (jiq hf _ _ _ _ (jhp hs) (jhp hd))
   | false=>
    cases m==105 with
    | true=>exact jhj (by cases sp.headD 0==66<;>cases decide (o<le) <;>simp only[cond_true,cond_false] <;>omega) (jiq hf _ _ _ _ (jhp hs) hd)
    | false=>
     cases m !=118 with
     | true=>exact jhj (ss_rng _ _ h1) (jiq hf _ _ _ _ (jhp hs) hd)
     | false=>exact jiq hf _ _ _ _ (jhp hs) hd
theorem fl_rng(sp:J):0≤fdFl sp∧fdFl sp<256:=by unfold fdFl;split<;>omega
theorem jh7{sp:J}(h:IsB sp)(w:Int)(k:Nat)(n:Int):IsB (jdn sp w k n):=by
 have h1:IsB (jf0 sp w k n):=jiq (fl_rng sp) _ _ _ _ h (jg5 (jfj _ _));unfold jdn;cases fdBl sp w k n with
 | true=>exact jkg _ _ (fl_rng sp)
 | false=>
  cases fdDr sp !=0 with
  | true=>
   intro x hx;rcases List.mem_or_eq_of_mem_set hx with hx | rfl
   ·exact h1 x hx
   ·exact sg_rng _ _
  | false=>exact h1
theorem jge:∀(ms s:J)(a:Int)(k:Nat),0≤a→a<tenZ k→(k:Int)+pdGo ms≤9→0≤rdGo ms s a∧rdGo ms s a<1000000000
 | [],s,a,k,h0,h1,h2=>by
  have:=jes (n:=k) (by simp only[pdGo]at h2;omega);rw[rdGo];omega
 | m::r,s,a,k,h0,h1,h2=>by
  have nn:=pd_nn r;rw[pdGo]at h2;rw[rdGo];cases h:(m==118)with
  | true=>
   have q:isP 118=false:=by decide
   rw[eq_of_beq h,q,cond_false,Int.zero_add]at h2;exact jge r s a k h0 h1 h2
  | false=>
   rw[cond_false];cases hP:(m==100 || m==99)with
   | true=>
    have hP:isP m=true:=hP;rw[hP,cond_true]at h2;have rr:=rd_rng (s.headD 0);have tp:tenZ (k+1)=tenZ k*10:=by rw[jiz];rfl
    rw[cond_true];exact jge r _ _ (k+1) (by omega) (by omega) (by omega)
   | false=>
    have hP:isP m=false:=hP;rw[hP,cond_false,Int.zero_add]at h2;exact jge r _ a k h0 h1 h2
def rdA(l t:J):Int:=rdGo (jas (pS l)) t 0
def fdN(l:J)(n:Int):J:=jdn (pS l) (pW l) (pD l).toNat n
def rdV(l t:J):Int×Int:=if pN l=true then(if(t.length:Int)=pW l then(if fdN l (rdA l t)=t then(rdA l t,0)else if pG l=true∧rdA l t>0∧fdN l (0-rdA l t)=t then(0-rdA l t,0)else(0,31))else(0,31))else(0,30)
theorem pN_nv{l:J}(h:pN l=true):pW l=nv (jas (pS l)):=by
 have h1:=jhd (pS l);have h2:pS l=exZ l:=by rw[pS,if_pos (jdf h)]
 have hW:pW l=(exZ l).length-cntZ (exZ l) 86:=by rw[pW,if_pos (jdf h),(jhy h).nch];rfl
 rw[h2]at h1 ⊢;rw[hW];omega
def onGo:J→J→Bool
 | _,[]=>true
 | [],_::_=>false
 | c::r,b::s=>oneZ c b&&onGo r s
def hoZ(l t:J):Bool:=if vOK l=true then(if pN l=true then decide ((rdV l t).2=0)else(decide ((t.length:Int)=pW l) &&onGo (pS l) t))else false
def flZ(l t:J):J:=if(t.length:Int)>pW l then t.take (pW l).toNat else t++rep1 32 (pW l-t.length).toNat
def fiE(l:J):Int:=if vOK l=true∧pN l=false then 0 else 30
def fiS(l t:J):J:=if vOK l=true∧pN l=false then flZ l t else []
def fiF(l t:J):Bool:=if vOK l=true∧pN l=false then hoZ l (flZ l t)else false
def zeS(l:J):J:=if vOK l=true then(if pN l=true then fdN l 0 else rep1 32 (pW l).toNat)else []
theorem pCh{l:J}(h:vOK l=true)(hn:pN l=false):pW l=(pS l).length:=by
 have hc:je6 (exZ l)=true:=by
  simp only[vOK,jaf,Bool.or_eq_true]at h;simp only[pN]at hn;rcases h with⟨h1,h2 | h2⟩
  ·exact h2
  ·rw[h1,h2]at hn;cases hn
 rw[pW,pS,if_pos h,if_pos h,hc];rfl
theorem jjy{s:Y}:0≤pW (bz s)∧pW (bz s)≤32:=by
 have:=jlb s;have hc:=jit (exZ (bz s)) 86;unfold pW;split
 ·split<;>omega
 ·omega
def s21(n:Int)(q:Int)(s:Y):Bool×Value:=(decide (s.size≤9223372036854775807∧ -9223372036854775808≤n∧n≤9223372036854775807),.tuple ⟨[.string (sz (edS (bz s) n q)),.bool (edF (bz s) n q),.int .i64 (edE (bz s) q)]⟩)
theorem fn21:Fn1 Tryz.prog 182 Tryz.f182:= .m Tryz.func182
def fp(a:Y):Y:=sz (pS (bz a))
def nw(a:Y)(b:Int):Y:=sz (jdn (bz (fp a)) (pW (bz a)) (pD (bz a)).toNat b)
def mh(c:Y)(a b:Int):Int:=Px.cuN a b (pQ (bz c)) (pD (bz c)) (pG (bz c))
def nx(a:Y)(b:Int):Bool:=decide ((fp a).size≤900∧0≤pD (bz a)∧pD (bz a)≤900∧pdGo (jas (bz (fp a)))≤pD (bz a)∧0≤pW (bz a)∧pW (bz a)≤900∧ -(9223372036854775808:Int)≤b∧b≤9223372036854775807∧fdOK (bz (fp a)) (pW (bz a)) (pD (bz a)).toNat b=true)
def m5(b:Int)(a:Value→Prop):Prop:=a (co [.bool false,ak b] cu)
theorem v21(n:Int)(q:Int)(s:Y)(R:Value→Prop):jaz Tryz.prog G12 noL Tryz.f182 [Enc.enc n,Enc.enc q,Enc.enc s] (fun _=>none) 0 (fun v _ _=>R v)=(mg (j1 s) (j1 s || !pN (bz s)) s (m5 30 R) (bw (d7 q) true (d7 q || decide (q>9)) (m5 1 R) (j7 (decide (0≤q∧q≤9∧0≤pD (bz s)∧pD (bz s)≤9∧0≤pQ (bz s)∧pQ (bz s)≤pD (bz s)∧ -(9223372036854775808:Int)≤n∧n≤9223372036854775807)) (nx s (mh s n q)) (co [B (Px.cuF n q (pQ (bz s)) (pD (bz s)) (pG (bz s))),ak 0] (S (nw s (mh s n q)))) R))):=by kernel_rfl
theorem ok21:jam Tryz.prog 182 (sp3 s21):=by
 refine jgf ok_G12 hmix fn21 jak jag fun n q s hc=> ?_
 rw[ja0,v21];delta av bw dp mg ay j7 co fp nw mh ak nx ao cu m5 d7 j1;have hc:(s.size≤9223372036854775807∧ -9223372036854775808≤n∧n≤9223372036854775807):=jab hc
 try dsimp only[s21]
 rw[jkj,pN_or];refine c_t (jaa hc.1) (c_t (by simp) (cond_intro (fun h=> ?_) (fun h=> ?_)))
 ·have h:pN (bz s)=false:=by simpa using h
  simp[edS,edF,edE,h,jf1]
 ·have h:pN (bz s)=true:=by simpa using h
  have hd:=je1 h;have hcr:=cuN_rng n q (pQ (bz s)) (pD (bz s)) (pG (bz s)) (by omega);obtain⟨g1,g2,g3,g4,g5,g6⟩:=jjz (jfb s) h (cuN n q (pQ (bz s)) (pD (bz s)) (pG (bz s)));rw[jcy g1,jcf];refine c_t (by simp) (cond_intro (fun h2=> ?_) (fun h2=> ?_))
  ·have h2:¬(0≤q∧q≤9):=by
    simp only[Bool.or_eq_true,jae]at h2;omega
   simp[edS,edF,edE,h,h2,jf1]
  ·have h2:0≤q∧q≤9:=by
    simp only[Bool.or_eq_false_iff,decide_eq_false_iff_not]at h2;omega
   refine c_t (jaa (by omega)) (c_t (jaa ⟨by omega,by omega,by omega,by omega,by omega,by omega,by omega,by omega,g6⟩) ?_);simp[edS,edF,edE,h,h2]
def V23_0:Y×Y×Bool×Int×Int×Int×Bool×Int×Y×Int×Int→E:=fun(s,z,zb,z1,z2,z3,zg,a,ms,o,i)=> [S s,.pointer (some ⟨7,0,some 0⟩),I a,S ms,I o,I i]
def B23_0:Y×Y×Bool×Int×Int×Int×Bool×Int×Y×Int×Int→O:=fun(s,z,zb,z1,z2,z3,zg,a,ms,o,i)=> [some ⟨[S z,B zb,I z1,I z2,I z3,B zg],131,true⟩]
def S23_0:LSpec (Y×Y×Bool×Int×Int×Int×Bool×Int×Y×Int×Int) where
 live:=[1,6,8,9,10,11]
 mid:=[7]
 n:=120
 dec vs bs:=match vs,bs with | [.string s,.pointer (some ⟨7,0,some 0⟩),.int .i64 a,.string ms,.int .i64 o,.int .i64 i],[some ⟨[.string z,.bool zb,.int .i64 z1,.int .i64 z2,.int .i64 z3,.bool zg],131,true⟩]=>some (s,z,zb,z1,z2,z3,zg,a,ms,o,i) | _,_=>none
 pre:=fun(s,z,zb,z1,z2,z3,zg,a,ms,o,i)=>decide (0≤i∧i≤ms.size∧ms.size≤1000∧0≤o∧o+nv ((bz ms).drop i.toNat)≤s.size∧s.size≤1000∧0≤a∧pdGo ((bz ms).drop i.toNat)≤9∧a<tenZ (9-pdGo ((bz ms).drop i.toNat)).toNat)
 fin:=fun(s,z,zb,z1,z2,z3,zg,a,ms,o,i) Z=>∀o',Z (.exit 0) [S s,.pointer (some ⟨7,0,some 0⟩),I (rdGo ((bz ms).drop i.toNat) ((bz s).drop o.toNat) a),S ms,I o',I ms.size] [some ⟨[S z,B zb,I z1,I z2,I z3,B zg],131,true⟩]
theorem r23_0(s:Y)(z:Y)(zb:Bool)(z1:Int)(z2:Int)(z3:Int)(zg:Bool)(a:Int)(ms:Y)(o:Int)(i:Int)(jk:Tmps)(R:Exit→E→O→Prop):(jbp Tryz.prog G12 noL Tryz.f149.ntmps (ja6 Tryz.f149 0) (tl S23_0.live (V23_0 (s,z,zb,z1,z2,z3,zg,a,ms,o,i)) jk) (ml S23_0.mid (B23_0 (s,z,zb,z1,z2,z3,zg,a,ms,o,i))) S23_0.n fun e t' m' _=>R e (List.map t' S23_0.live) (List.map m' S23_0.mid))=(bif dw ms i then fu (ar ms i 118) ms i (R .normal (kl s (S ms::cq o i) 7 (ak a)) [gu zb zg z z1 z2 z3]) (ig (bq ms i) (ar ms i 100 || bq ms i&&true) (ar ms i 100 || ar ms i 99) (bif bq s o then bif unK (ax s o)then R .normal (kl s (bk ms (bp i) (bu o)) 7 (ep (IntKind.i64.wrap (a*10)+unD (ax s o)))) [gu zb zg z z1 z2 z3]else bif kx (decide (ax s o≥48)) true s s o o then bif ft (ax s o) 48 57 then bm (bq s o) R [gu zb zg z z1 z2 z3] (kl s (bk ms (bp i) (bu o)) 7 (I (jm s a 10 o)))else R .normal (kl s (bk ms (bp i) (bu o)) 7 (kw (a*10))) [gu zb zg z z1 z2 z3]else False else False) (R .normal (kl s (bk ms (bp i) (bu o)) 7 (ak a)) [gu zb zg z z1 z2 z3]))else R (.exit 0) (kl s (S ms::az o i) 7 (ak a)) [gu zb zg z z1 z2 z3]):=by kernel_rfl
theorem l23_0:LOKf Tryz.prog (oneL 0 S23_0.h) Tryz.f149:=by
 refine jbe (h:=S23_0.h) (by kernel_rfl) (ja7 ok_G12 hmix (by kernel_rfl) (ja1 _) S23_0 V23_0 B23_0 (fun(s,z,zb,z1,z2,z3,zg,a,ms,o,i)=>(ms.size-i).toNat) ?_ ?_ ?_)
 ·intro vs bs s h;simp only[S23_0]at h;split at h
  all_goals first | (cases h;exact⟨rfl,rfl⟩) | cases h
 ·exact fun _ _ _ h=>h
 ·intro⟨s,z,zb,z1,z2,z3,zg,a,ms,o,i⟩ jk Z hp hf;rw[r23_0];delta ak gu aq kl az av am bq fu ig bk au bu bp kw bm aw k9 ax jm e9 ft br kx ep ar cq dw;simp only[S23_0]at hp hf;simp only[jae]at hp;apply cond_intro<;>intro h
  ·have h:=jab h;obtain⟨hi0,p2,p3,p4,p5,p6,p7,p8,p9⟩:=hp;have g1:decide (0≤i∧i<(ms.size:Int))=true:=jaa (by omega);rw[jb4 hi0 h,jf8]at p5;rw[jb4 hi0 h,pdGo]at p8 p9;rw[jb4 hi0 h,rdGo]at hf;have nn:=pd_nn ((bz ms).drop (i+1).toNat);have eo:o.toNat+1=(o+1).toNat:=by omega
   have fin:∀(o2 a2:Int),0≤o2→o2+nv ((bz ms).drop (i+1).toNat)≤s.size→0≤a2→a2<tenZ (9-pdGo ((bz ms).drop (i+1).toNat)).toNat→pdGo ((bz ms).drop (i+1).toNat)≤9→
     (∀o':Int,Z (.exit 0) [S s,.pointer (some ⟨7,0,some 0⟩),I (rdGo ((bz ms).drop (i+1).toNat) ((bz s).drop o2.toNat) a2),S ms,I o',I ms.size] [some ⟨[S z,B zb,I z1,I z2,I z3,B zg],131,true⟩])→
     S23_0.step V23_0 B23_0 (fun(s,z,zb,z1,z2,z3,zg,a,ms,o,i)=>(ms.size-i).toNat) (s,z,zb,z1,z2,z3,zg,a,ms,o,i) Z Exit.normal
      [S s,.pointer (some ⟨7,0,some 0⟩),I a2,S ms,I o2,I (IntKind.wrap .i64 (i+1))] [some ⟨[S z,B zb,I z1,I z2,I z3,B zg],131,true⟩]:=by
    intro o2 a2 q1 q2 q3 q4 q5 q6;rw[w64 (n:=i+1) (by omega)];exact⟨(s,z,zb,z1,z2,z3,zg,a2,ms,o2,i+1),rfl,rfl,by simp only[S23_0,jae];exact⟨by omega,by omega,p3,q1,q2,p6,q3,q5,q4⟩,by simp only;omega,q6⟩
   refine c_t g1 (cond_intro (fun b=> ?_) (fun b=>c_t (by rw[g1];cases jaj ms i.toNat==100<;>rfl) ?_))
   ·have q:isP 118=false:=by decide
    rw[b,cond_true]at hf;rw[eq_of_beq b]at p5 p8 p9;rw[if_pos rfl]at p5;rw[q,cond_false,Int.zero_add]at p8 p9;exact fin o a p4 (by omega) p7 p9 p8 hf
   ·have hne:jaj ms i.toNat≠118:=by simpa using b
    rw[b,cond_false,List.tail_drop,eo]at hf;rw[if_neg hne]at p5;have o1:o<s.size:=by omega
    have g3:decide (0≤o∧o<(s.size:Int))=true:=jaa (by omega);rw[w64 (n:=o+1) (by omega)];refine cond_intro (fun c=>c_t g3 ?_) (fun c=> ?_)
    ·have hP:isP (jaj ms i.toNat)=true:=c;rw[hP,cond_true]at p8 p9;rw[c,cond_true,jb4 p4 o1,List.headD_cons]at hf;have rr:=rd_rng (jaj s o.toNat)
     have tp:tenZ (9-pdGo ((bz ms).drop (i+1).toNat)).toNat=tenZ (9-(1+pdGo ((bz ms).drop (i+1).toNat))).toNat*10:=by
      rw[show(9-pdGo ((bz ms).drop (i+1).toNat)).toNat=(9-(1+pdGo ((bz ms).drop (i+1).toNat))).toNat+1 by omega,jiz];rfl
     have t9:=jes (n:=(9-(1+pdGo ((bz ms).drop (i+1).toNat))).toNat) (by omega);have F:=fin (o+1) (a*10+rdD (jaj s o.toNat)) (by omega) (by omega) (by omega) (by omega) (by omega) hf;rw[w64 (n:=a*10) (by omega)];refine cond_intro (fun d=> ?_) (fun d=>c_t (by rw[g3];cases decide (jaj s o.toNat≥48) <;>rfl) (cond_intro (fun e=>c_t g3 ?_) (fun e=> ?_)))
     ·have er:rdD (jaj s o.toNat)=unD (jaj s o.toNat):=by rw[rdD,d,cond_true]
      rw[er]at F rr;rw[w64 (by omega)];exact F
     ·have er:rdD (jaj s o.toNat)=jaj s o.toNat-48:=by rw[rdD,d,cond_false,e,cond_true]
      rw[er]at F rr;rw[w8 (by omega),w64 (n:=jaj s o.toNat-48) (by omega),w64 (by omega)];exact F
     ·have er:rdD (jaj s o.toNat)=0:=by rw[rdD,d,cond_false,e,cond_false]
      rw[er,Int.add_zero]at F;exact F
    ·have hP:isP (jaj ms i.toNat)=false:=c;rw[hP,cond_false,Int.zero_add]at p8 p9;rw[c,cond_false]at hf;exact fin (o+1) a (by omega) (by omega) p7 p9 p8 hf
  ·have h:=jac h;rw[jce (s:=ms) (by omega),rdGo]at hf;obtain rfl:i=ms.size:=by omega
   exact hf _
def s23(s:Y)(t:Y):Bool×Value:=(decide (s.size≤9223372036854775807∧t.size≤9223372036854775807),.tuple ⟨[.int .i64 (rdV (bz s) (bz t)).1,.int .i64 (rdV (bz s) (bz t)).2]⟩)
theorem fn23:Fn1 Tryz.prog 149 Tryz.f149:= .m Tryz.func149
def cl(a:Y):J:=(bz a).drop (Int.toNat 0)
theorem v23(s:Y)(t:Y)(R:Value→Prop):jaz Tryz.prog G12 (oneL 0 S23_0.h) Tryz.f149 [Enc.enc s,Enc.enc t] (fun _=>none) 0 (fun v _ _=>R v)=(mg (j1 s) (j1 s || !pN (bz s)) s (R (co [ak 30] (ak 0))) (bif am t !=pW (bz s)then R (co [ak 31] (ak 0))else bif fy (fp s)then go (S23_0.pre (t,(fp s,(pN (bz s),(pW (bz s),(pD (bz s),(pQ (bz s),(pG (bz s),((0:Int),(ir (fp s),((0:Int),(0:Int)))))))))))) (Tmps→(bif nx s (rdGo (cl (ir (fp s))) (cl t) 0)then bif b5 (nw s (rdGo (cl (ir (fp s))) (cl t) 0)) t then R (co [ak 0] (I (rdGo (cl (ir (fp s))) (cl t) 0)))else fq (br (pG (bz s)) (bif decide (rdGo (cl (ir (fp s))) (cl t) 0>0)then nx s (cv 0 (rdGo (cl (ir (fp s))) (cl t) 0)) &&true else true) true) (pG (bz s) && (decide (rdGo (dq (ir (fp s)) 0) (dq t 0) 0>0) &&b5 (nw s (cv 0 (rdGo (dq (ir (fp s)) 0) (dq t 0) 0))) t)) (co [ak 0] (ep (0-rdGo (dq (ir (fp s)) 0) (dq t 0) 0))) (co [ak 31] (ak 0)) R else False)) Int else False)):=by kernel_rfl
theorem ok23:jam Tryz.prog 149 (sp2 s23):=by
 refine jcj ok_G12 hmix fn23 l23_0 jag fun s t hc=> ?_
 rw[ja0,v23];delta av bw dp mg go dx fq co ak aw ep dq ir fp b5 nw cv br nx cl fy am j1;have hc:(s.size≤9223372036854775807∧t.size≤9223372036854775807):=jab hc
 try dsimp only[s23]
 rw[jkj,pN_or];refine c_t (jaa hc.1) (c_t (by simp) (cond_intro (fun h=> ?_) (fun h=> ?_)))
 ·have h:pN (bz s)=false:=by simpa using h
  simp[rdV,h]
 have h:pN (bz s)=true:=by simpa using h
 have hd:=je1 h;have hnv:=pN_nv h;apply cond_intro<;>intro h2
 ·have h2:¬(t.size:Int)=pW (bz s):=by simpa using h2
  simp[rdV,h,h2,jal]
 have h2:(t.size:Int)=pW (bz s):=by simpa using h2
 obtain⟨g1,g2,g3,g4,g5,g6⟩:=jjz (jfb s) h (rdA (bz s) (bz t));obtain⟨-,-,-,-,-,g7⟩:=jjz (jfb s) h (0-rdA (bz s) (bz t));have hmB:=jfd (pS (bz s));have hml:=jej (pS (bz s));have hr:0≤rdA (bz s) (bz t)∧rdA (bz s) (bz t)<1000000000:=jge _ _ 0 0 (by omega) (by decide) (by omega);have er:rdGo (jas (pS (bz s))) (bz t) 0=rdA (bz s) (bz t):=rfl;rw[jcy g1,jcf,jcy hmB,jdh,jdh,er,w64 (n:=0-rdA (bz s) (bz t)) (by omega),jcv,jcv,jcy (jh7 g1 _ _ _),jcy (jh7 g1 _ _ _)];have eF:∀n,jdn (pS (bz s)) (pW (bz s)) (pD (bz s)).toNat n=fdN (bz s) n:=fun _=>rfl
 rw[eF,eF]
 have e1:rdV (bz s) (bz t)=if fdN (bz s) (rdA (bz s) (bz t))=bz t then(rdA (bz s) (bz t),0)else if pG (bz s)=true∧rdA (bz s) (bz t)>0∧fdN (bz s) (0-rdA (bz s) (bz t))=bz t then(0-rdA (bz s) (bz t),0)else(0,31):=by
  rw[rdV,if_pos h,if_pos (by rw[jal];exact h2)]
 refine c_t (jaa (by omega)) (c_t ?_ (fun o' _=>c_t (jaa ⟨by omega,by omega,by omega,by omega,by omega,by omega,by omega,by omega,g6⟩) (cond_intro (fun a=> ?_) (fun a=>c_t ?_ (cond_intro (fun b=> ?_) (fun b=> ?_))))))
 ·simp only[S23_0,jae,jcf,jcy hmB,Int.toNat_zero,List.drop_zero];refine⟨by omega,by omega,by omega,by omega,by omega,by omega,by omega,by omega,?_⟩;have:=je7 (n:=(9-pdGo (jas (pS (bz s)))).toNat) (by omega);omega
 ·rw[e1,if_pos (jab a)]
 ·cases pG (bz s)with
  | false=>rfl
  | true=>
   cases decide (rdA (bz s) (bz t)>0)with
   | false=>rfl
   | true=>
    show(decide _&&true)=true;rw[Bool.and_true];exact jaa ⟨by omega,by omega,by omega,by omega,by omega,by omega,by omega,by omega,g7⟩
 ·simp only[jaf,jae]at b;rw[e1,if_neg (jac a),if_pos b]
 ·have b:¬(pG (bz s)=true∧rdA (bz s) (bz t)>0∧fdN (bz s) (0-rdA (bz s) (bz t))=bz t):=by
   rintro ⟨b1,b2,b3⟩;rw[b1,jaa b2,jaa b3]at b;cases b
  rw[e1,if_neg (jac a),if_neg b]
def G13:Env:=((Env.nil.add 150 (sp2 s72)).add 143 (sp1 s30)).add 149 (sp2 s23)
theorem ok_G13:jaw Tryz.prog G13:=jai (jai (jai jap ok72) ok30) ok23
def V25_0:Bool×Y×Y×Bool×Int×Int×Int×Bool×Int→E:=fun(r,t,z,zb,z1,z2,z3,zg,i)=> [B r,S t,.pointer (some ⟨6,0,some 0⟩),I i]
def B25_0:Bool×Y×Y×Bool×Int×Int×Int×Bool×Int→O:=fun(r,t,z,zb,z1,z2,z3,zg,i)=> [some ⟨[S z,B zb,I z1,I z2,I z3,B zg],131,true⟩]
def S25_0:LSpec (Bool×Y×Y×Bool×Int×Int×Int×Bool×Int) where
 live:=[4,1,5,7]
 mid:=[6]
 n:=120
 dec vs bs:=match vs,bs with | [.bool r,.string t,.pointer (some ⟨6,0,some 0⟩),.int .i64 i],[some ⟨[.string z,.bool zb,.int .i64 z1,.int .i64 z2,.int .i64 z3,.bool zg],131,true⟩]=>some (r,t,z,zb,z1,z2,z3,zg,i) | _,_=>none
 pre:=fun(r,t,z,zb,z1,z2,z3,zg,i)=>decide (0≤i∧i≤t.size∧t.size=z.size∧t.size≤1000)
 fin:=fun(r,t,z,zb,z1,z2,z3,zg,i) Z=>(bif onGo ((bz z).drop i.toNat) ((bz t).drop i.toNat)then Z (.exit 0) [B r,S t,.pointer (some ⟨6,0,some 0⟩),I t.size] [some ⟨[S z,B zb,I z1,I z2,I z3,B zg],131,true⟩]else(∀i',Z .ret [B false,S t,.pointer (some ⟨6,0,some 0⟩),I i'] [some ⟨[S z,B zb,I z1,I z2,I z3,B zg],131,true⟩]))
theorem r25_0(r:Bool)(t:Y)(z:Y)(zb:Bool)(z1:Int)(z2:Int)(z3:Int)(zg:Bool)(i:Int)(jk:Tmps)(R:Exit→E→O→Prop):(jbp Tryz.prog G13 noL Tryz.f75.ntmps (ja6 Tryz.f75 0) (tl S25_0.live (V25_0 (r,t,z,zb,z1,z2,z3,zg,i)) jk) (ml S25_0.mid (B25_0 (r,t,z,zb,z1,z2,z3,zg,i))) S25_0.n fun e t' m' _=>R e (List.map t' S25_0.live) (List.map m' S25_0.mid))=(bif dw t i then fu (bq t i) z i (gz (!oneZ (ax z i) (ax t i)) (ax t i) 256 (R .ret (B false::kl t [] 6 (ak i)) [gu zb zg z z1 z2 z3]) (R .normal (B r::bk t (bp i) (aq 6)) [gu zb zg z z1 z2 z3])) False else R (.exit 0) (B r::kl t [] 6 (ak i)) [gu zb zg z z1 z2 z3]):=by kernel_rfl
theorem l25_0:LOKf Tryz.prog (oneL 0 S25_0.h) Tryz.f75:=by
 refine jbe (h:=S25_0.h) (by kernel_rfl) (ja7 ok_G13 hmix (by kernel_rfl) (ja1 _) S25_0 V25_0 B25_0 (fun(r,t,z,zb,z1,z2,z3,zg,i)=>(t.size-i).toNat) ?_ ?_ ?_)
 ·intro vs bs s h;simp only[S25_0]at h;split at h
  all_goals first | (cases h;exact⟨rfl,rfl⟩) | cases h
 ·exact fun _ _ _ h=>h
 ·intro⟨r,t,z,zb,z1,z2,z3,zg,i⟩ jk Z hp hf;rw[r25_0];delta ak gu aq kl av am bq fu b6 gz bk au bu bp ax dw;simp only[S25_0]at hp hf;simp only[jae]at hp;apply cond_intro<;>intro h
  ·have h:=jab h;have hz:i<(z.size:Int):=by omega
   have hb:=jdq t (jaj t i.toNat) (List.mem_of_mem_drop (by rw[jb4 hp.1 h];exact List.mem_cons_self ..));rw[jb4 hp.1 h,jb4 hp.1 hz,onGo]at hf;refine c_t (jaa (by omega)) (c_t (jaa (by omega)) (c_t (jaa hb) (cond_intro (fun a=> ?_) (fun a=> ?_))))
   ·have a:oneZ (jaj z i.toNat) (jaj t i.toNat)=false:=by simpa using a
    rw[a,Bool.false_and,cond_false]at hf;exact hf _
   ·have a:oneZ (jaj z i.toNat) (jaj t i.toNat)=true:=by simpa using a
    rw[a,Bool.true_and]at hf;rw[w64 (by omega)];exact⟨(r,t,z,zb,z1,z2,z3,zg,i+1),rfl,rfl,by simp only[S25_0,jae];omega,by simp only;omega,hf⟩
  ·have h:=jac h;rw[jce (s:=t) (by omega),onGo,cond_true]at hf;obtain rfl:i=t.size:=by omega
   exact hf
def s25(s:Y)(t:Y):Bool×Value:=(decide (s.size≤9223372036854775807∧t.size≤9223372036854775807),.bool (hoZ (bz s) (bz t)))
theorem fn25:Fn1 Tryz.prog 75 Tryz.f75:= .m Tryz.func75
def g0(c:Y)(a b d:Nat):Bool:=decide (a≤b∧c.size≤d)
theorem v25(s:Y)(t:Y)(R:Value→Prop):jaz Tryz.prog G13 (oneL 0 S25_0.h) Tryz.f75 [Enc.enc s,Enc.enc t] (fun _=>none) 0 (fun v _ _=>R v)=(d4 (j1 s) s (R (B false)) (bif pN (bz s)then ay (g0 t s.size 9223372036854775807 9223372036854775807) (B ((rdV (bz s) (bz t)).snd==0)) R else bif am t !=pW (bz s)then R (B false)else my (S25_0.pre (false,(t,(fp s,(pN (bz s),(pW (bz s),(pD (bz s),(pQ (bz s),(pG (bz s),(0:Int)))))))))) (onGo (cl (fp s)) (cl t)) R)):=by kernel_rfl
theorem ok25:jam Tryz.prog 75 (sp2 s25):=by
 refine jcj ok_G13 hmix fn25 l25_0 jag fun s t hc=> ?_
 rw[ja0,v25];delta av b7 d4 ji my cl fp am ay g0 j1;have hc:(s.size≤9223372036854775807∧t.size≤9223372036854775807):=jab hc
 try dsimp only[s25]
 obtain⟨g1,g2⟩:=jfb s;rw[jkj,jcy g1];refine c_t (jaa hc.1) (cond_intro (fun h=> ?_) (fun h=> ?_))
 ·have h:vOK (bz s)=false:=by simpa using h
  simp[hoZ,h]
 have h:vOK (bz s)=true:=by simpa using h
 refine cond_intro (fun hn=>c_t (jaa hc) ?_) (fun hn=> ?_)
 ·have e:((rdV (bz s) (bz t)).2==0)=decide ((rdV (bz s) (bz t)).2=0):=by rw[Bool.eq_iff_iff];simp
  rw[e];simp[hoZ,h,hn]
 have hw:=pCh h hn;apply cond_intro<;>intro a
 ·have a:¬(t.size:Int)=pW (bz s):=by simpa using a
  simp[hoZ,h,hn,jal,a]
 have a:(t.size:Int)=pW (bz s):=by simpa using a
 refine c_t ?_ (cond_intro (fun b _=> ?_) (fun b _ _=> ?_))
 ·simp only[S25_0,jae,jcf];omega
 ·rw[jdh,jdh]at b;simp[hoZ,h,hn,jal,a,b]
 ·rw[jdh,jdh]at b;simp[hoZ,h,hn,jal,a,b]
def G14:Env:=(((Env.nil.add 229 (sp2 s57)).add 143 (sp1 s30)).add 210 (sp2 s66)).add 75 (sp2 s25)
theorem ok_G14:jaw Tryz.prog G14:=jai (jai (jai (jai jap ok57) ok30) ok66) ok25
def s53(s:Y)(t:Y):Bool×Value:=(decide (s.size≤9223372036854775807∧t.size≤9223372036854775807),.tuple ⟨[.string (sz (fiS (bz s) (bz t))),.bool (fiF (bz s) (bz t)),.int .i64 (fiE (bz s))]⟩)
theorem fn53:Fn1 Tryz.prog 181 Tryz.f181:= .m Tryz.func181
def rh(a b:Y)(c:Value→Prop):Prop:=ay (g0 a b.size 9223372036854775807 9223372036854775807) (co [.bool (hoZ (bz b) (bz a)),ak 0] (.string a)) c
def jo(a:Int):Nat:=(aw a .i64).toNat
theorem v53(s:Y)(t:Y)(R:Value→Prop):jaz Tryz.prog G14 noL Tryz.f181 [Enc.enc s,Enc.enc t] (fun _=>none) 0 (fun v _ _=>R v)=(mg (j1 s) (j1 s || pN (bz s)) s (m5 30 R) (bif decide (am t>pW (bz s))then bif d5 0 0 (pW (bz s)) (pW (bz s)) (am t)then rh (t.extract 0 (pW (bz s)).toNat) s R else False else bif d8 0 (cv (pW (bz s)) (am t)) 1000 then bif ew t (sz (rep1 32 (jo (pW (bz s)-am t))))then rh (t++sz (rep1 32 (jo (pW (bz s)-am t)))) s R else False else False)):=by kernel_rfl
theorem ok53:jam Tryz.prog 181 (sp2 s53):=by
 refine jcj ok_G14 hmix fn53 jak jag fun s t hc=> ?_
 rw[ja0,v53];delta av bw dp mg ay co ak g0 rh aw jo am ew d8 cv d5 ao cu m5 j1;have hc:(s.size≤9223372036854775807∧t.size≤9223372036854775807):=jab hc
 try dsimp only[s53]
 have hw:= @jjy s;rw[jkj];refine c_t (jaa hc.1) (c_t (by simp) (cond_intro (fun h=> ?_) (fun h=> ?_)))
 ·have h:¬(vOK (bz s)=true∧pN (bz s)=false):=by
   rintro ⟨h1,h2⟩;rw[h1,h2]at h;cases h
  rw[fiS,fiF,fiE,if_neg h,if_neg h,if_neg h,jf1]
 have h:vOK (bz s)=true∧pN (bz s)=false:=by
  cases h1:vOK (bz s) <;>cases h2:pN (bz s) <;>rw[h1,h2]at h<;>first | exact⟨rfl,rfl⟩ | cases h
 rw[fiS,fiF,fiE,if_pos h,if_pos h,if_pos h];apply cond_intro<;>intro a
 ·have a:=jab a;have ex:bz (t.extract 0 (pW (bz s)).toNat)=(bz t).take (pW (bz s)).toNat:=by rw[jb7];simp
  have exs:(t.extract 0 (pW (bz s)).toNat).size≤9223372036854775807:=by rw[←jal,ex,List.length_take,jal];omega
  have e:flZ (bz s) (bz t)=(bz t).take (pW (bz s)).toNat:=by rw[flZ,if_pos (by rw[jal];exact a)]
  refine c_t (jaa (by omega)) (c_t (jaa (by omega)) ?_);rw[e,ex,←ex,jf6]
 ·have a:=jac a;rw[w64 (by omega)];have hR:=jkg 32 (pW (bz s)-t.size).toNat (by omega);have hl:(rep1 32 (pW (bz s)-t.size).toNat).length=(pW (bz s)-t.size).toNat:=by simp[rep1]
  have e:flZ (bz s) (bz t)=bz t++rep1 32 (pW (bz s)-t.size).toNat:=by rw[flZ,if_neg (by rw[jal];exact a),jal]
  have eb:bz (t++sz (rep1 32 (pW (bz s)-t.size).toNat))=bz t++rep1 32 (pW (bz s)-t.size).toNat:=by rw[jbr,jcy hR]
  have es:(t++sz (rep1 32 (pW (bz s)-t.size).toNat)).size≤9223372036854775807:=by rw[←jal,eb,List.length_append,jal,hl];omega
  refine c_t (jaa (by omega)) (c_t ?_ (c_t (jaa (by omega)) ?_))
  ·rw[jcf,hl];simp only[jbi,Nat.ble_eq];omega
  ·rw[e,eb,sz_append,jf6]
def s55(s:Y):Bool×Value:=(decide (s.size≤9223372036854775807),.tuple ⟨[.string (sz (zeS (bz s))),.int .i64 (pE (bz s))]⟩)
theorem fn55:Fn1 Tryz.prog 179 Tryz.f179:= .m Tryz.func179
theorem v55(s:Y)(R:Value→Prop):jaz Tryz.prog G14 noL Tryz.f179 [Enc.enc s] (fun _=>none) 0 (fun v _ _=>R v)=(d4 (j1 s) s (R (co [I (pE (bz s))] cu)) (bif pN (bz s)then ay (nx s 0) (co [ak 0] (S (nw s 0))) R else ay (d8 0 (pW (bz s)) 1000) (co [ak 0] (S (sz (rep1 32 (pW (bz s)).toNat)))) R)):=by kernel_rfl
theorem ok55:jam Tryz.prog 179 (sp1 s55):=by
 refine jby ok_G14 hmix fn55 jak jag fun s hc=> ?_
 rw[ja0,v55];delta av b7 d4 ay co ak d8 fp nw nx ao cu j1;have hc:(s.size≤9223372036854775807):=jab hc
 try dsimp only[s55]
 have hw:= @jjy s;have g1:=jfb s;rw[jkj,jcy g1.1,jcf];refine c_t (jaa hc) (cond_intro (fun h=> ?_) (fun h=> ?_))
 ·have h:vOK (bz s)=false:=by simpa using h
  simp[zeS,h,jf1]
 have h:vOK (bz s)=true:=by simpa using h
 have hE:pE (bz s)=0:=by rw[pE,if_pos h]
 refine cond_intro (fun hn=> ?_) (fun hn=>c_t (jaa (by omega)) ?_)
 ·have hd:=je1 hn;obtain⟨g1,g2,g3,g4,g5,g6⟩:=jjz (jfb s) hn 0;refine c_t (jaa ⟨by omega,by omega,by omega,by omega,by omega,by omega,by omega,by omega,g6⟩) ?_;simp[zeS,h,hn,hE,fdN]
 ·simp[zeS,h,hn,hE]
end Go.Px
end
noncomputable section
namespace Go.Px
open Go Go.Ab Go.Proofs
inductive Rw where
 | nil
 | own (d:E) (m cap:Nat)
def Rw.v(q:Nat):Rw→Value
 | .nil=> .slice none 0 0
 | .own _ m cap=> .slice (some ⟨q,0,some 1⟩) m cap
def Rw.b:Rw→Option Blk
 | .nil=>none
 | .own d _ _=>some ⟨d,5,true⟩
def Rw.z:Rw→J
 | .nil=> []
 | .own d m _=>zc d m
def Rw.ok:Rw→Bool
 | .nil=>true
 | .own d m cap=>jcm d m cap
def Rw.is:Rw→Bool
 | .nil=>false
 | .own _ _ _=>true
def G15:Env:=Env.nil
theorem ok_G15:jaw Tryz.prog G15:=jap
theorem w32{n:Int}(h: -2147483648≤n∧n≤2147483647):IntKind.wrap .i32 n=n:=by
 rw[IntKind.wrap_i32];omega
def rpZ(n c:Int):Int×Bool:=if c<48∨c>57∨(n=0∧c=48)then(0,false)else(10*n+(c-48),decide (10*n+(c-48)≤32))
def s113(n:Int)(c:R32):Bool×Value:=(decide (0≤n∧n≤32∧0≤c.n∧c.n≤2147483647),.tuple ⟨[.int .i64 (rpZ n c.n).1,.bool (rpZ n c.n).2]⟩)
theorem fn113:Fn1 Tryz.prog 234 Tryz.f234:= .m Tryz.func234
def ny(b c e:Int)(a d:IntKind):Int:=a.wrap (b*c)+a.wrap (d.wrap (e-48))
theorem v113(n:Int)(c:R32)(R:Value→Prop):jaz Tryz.prog G15 noL Tryz.f234 [Enc.enc n,Enc.enc c] (fun _=>none) 0 (fun v _ _=>R v)=(fq (b8 (R32.n c) 48 || (decide (R32.n c>57) || (n==0 || true))) (b8 (R32.n c) 48 || (decide (R32.n c>57) || n==0&&R32.n c==48)) (co (im false) (ak 0)) (co (im (decide (aw (ny 10 n (R32.n c) .i64 .i32) .i64≤32))) (ep (ny 10 n (R32.n c) .i64 .i32))) R):=by kernel_rfl
theorem ok113:jam Tryz.prog 234 (sp2 s113):=by
 refine jcj ok_G15 hmix fn113 jak jag fun n c hc=> ?_
 rw[ja0,v113];delta dx fq co aw ep ny im ak b8;have hc:(0≤n∧n≤32∧0≤c.n∧c.n≤2147483647):=jab hc
 try dsimp only[s113]
 obtain⟨c⟩:=c;simp only at hc ⊢;refine c_t (by simp) (cond_intro (fun h=> ?_) (fun h=> ?_))
 ·have h:c<48∨c>57∨(n=0∧c=48):=by simpa using h
  simp[rpZ,h]
 ·have h:¬(c<48∨c>57∨(n=0∧c=48)):=by
   intro q;have:(decide (c<48) || (decide (c>57) || n==0&&c==48))=true:=by simpa using q
   rw[this]at h;cases h
  rw[w64 (n:=10*n) (by omega),w32 (n:=c-48) (by omega),w64 (n:=c-48) (by omega),w64 (by omega)];simp[rpZ,h]
def G16:Env:=Env.nil.add 272 (sp2 s141)
theorem ok_G16:jaw Tryz.prog G16:=jai jap ok141
def V114_0:Blk×Int×Int×Rw×Int→E:=fun(b,c,n,o,i)=> [o.v 400,.int .i32 c,I n,I i]
def B114_0:Blk×Int×Int×Rw×Int→O:=fun(b,c,n,o,i)=> [some b,o.b]
def S114_0:LSpecA (Blk×Int×Int×Rw×Int) where
 live:=[0,1,31,32]
 mid:=[7,400]
 n:=420
 ap:=[(.tmp 0,400)]
 dec vs bs:=match vs,bs with
  | [.slice none 0 0,.int .i32 c,.int .i64 n,.int .i64 i],[some b,none]=>some (b,c,n,.nil,i)
  | [.slice (some ⟨400,0,some 1⟩) m cap,.int .i32 c,.int .i64 n,.int .i64 i],[some b,some ⟨d,5,true⟩]=>some (b,c,n,.own d m cap,i)
  | _,_=>none
 pre:=fun(b,c,n,o,i)=>o.ok&& ((o.is || decide (i<n)) && (ja8 b.c&&decide (0≤i∧i≤n∧n≤32∧0≤c∧c<128∧o.z.length+(n-i).toNat≤1000)))
 fin:=fun(b,c,n,o,i) Z=>∀d' m' cap',jcm d' m' cap'=true→zc d' m'=o.z++rep1 c (n-i).toNat→Z (.exit 0) [.slice (some ⟨400,0,some 1⟩) m' cap',.int .i32 c,I n,I n] [some b,some ⟨d',5,true⟩]
def jt:Value:= .slice none 0 0
theorem r114_0n(b:Blk)(c:Int)(n:Int)(i:Int)(jk:Tmps)(R:Exit→E→O→Prop):(jbp Tryz.prog G16 noL Tryz.f235.ntmps (ja6 Tryz.f235 0) (tl S114_0.live (V114_0 (b,c,n,.nil,i)) jk) (ml S114_0.mid (B114_0 (b,c,n,.nil,i))) S114_0.n fun e t' m' _=>S114_0.out R e t' m')=(bif ct i n then∀a:Nat,∀d:E,dv d a 1→bm (jav [(425,400)] b.c&& (jav [(425,400)] (.int .u8 (IntKind.u8.wrap c)::d) &&true) &&true) R [some (.mk (rlbL [(425,400)] b.c) b.ty b.own),e8 [(425,400)] (.int .u8 (IntKind.u8.wrap c)::d)] (bv 400 1 a:: .int .i32 c::cq n i)else fv (jav [] b.c&&true&&true) R [none] (az n i) 0 (some (.mk (rlbL [] b.c) b.ty b.own)) jt (.int .i32 c)):=by kernel_rfl
theorem r114_0o(b:Blk)(c:Int)(n:Int)(d:E)(m:Nat)(cap:Nat)(i:Int)(jk:Tmps)(R:Exit→E→O→Prop):(jbp Tryz.prog G16 noL Tryz.f235.ntmps (ja6 Tryz.f235 0) (tl S114_0.live (V114_0 (b,c,n,.own d m cap,i)) jk) (ml S114_0.mid (B114_0 (b,c,n,.own d m cap,i))) S114_0.n fun e t' m' _=>S114_0.out R e t' m')=(bif ct i n then kv d cap m (∀a:Nat,∀e:E,dv e a (m+1)→bm (jav [(425,400)] b.c&&n7 (IntKind.u8.wrap c) d e 425 400 m&&true) R [some (.mk (rlbL [(425,400)] b.c) b.ty b.own),e8 [(425,400)] (e7 d m++ [.int .u8 (IntKind.u8.wrap c)]++e)] (bv 400 (m+1) a:: .int .i32 c::cq n i))else fv (jav [(400,400)] b.c&& (jav [(400,400)] d&&true) &&true) R [e8 [(400,400)] d] (az n i) 0 (some (.mk (rlbL [(400,400)] b.c) b.ty b.own)) (bv 400 m cap) (.int .i32 c)):=by kernel_rfl
theorem l114_0:LOKf Tryz.prog (oneL 0 S114_0.hA) Tryz.f235:=by
 refine jbe (h:=S114_0.hA) (by kernel_rfl) (jbv ok_G16 hmix (by kernel_rfl) (ja1 _) S114_0 V114_0 B114_0 (fun(b,c,n,o,i)=>(n-i).toNat) ?_ ?_ ?_)
 ·intro vs bs s h;simp only[S114_0]at h;split at h
  all_goals first | (cases h;exact⟨rfl,rfl⟩) | cases h | (split at h<;>first | (rename_i hq;cases h;have hq:=jah hq;subst hq;exact⟨rfl,rfl⟩) | cases h)
 ·exact fun⟨b,c,n,o,i⟩ hp=>by
   simp only[S114_0,jaf]at hp;cases o with
   | nil=>simp[V114_0,B114_0,S114_0,ja3,jb2,idsL,ids,Rw.v,Rw.b,jaq hp.2.2.1]
   | own d m cap=>simp[V114_0,B114_0,S114_0,ja3,jb2,idsL,ids,Rw.v,Rw.b,jaq hp.2.2.1,jaq (jat.1 hp.1).plain]
 ·intro⟨b,c,n,o,i⟩ jk Z hp hf;simp only[S114_0]at hp hf;cases o with
  | nil=>
   rw[r114_0n];delta fv jt ak az bm au bu bp cq bv e8 dv ct;simp only[jaf,jae]at hp;obtain⟨-,hi,hb,hp⟩:=hp;have hi:i<n:=jab hi;simp only[Rw.z,List.length_nil]at hp;have eb:∀ps,rlbL ps b.c=b.c:=fun ps=>rlbL_plain ps hb
   have gb:∀ps,jav ps b.c=true:=fun ps=>goodL_plain hb
   refine c_t (jaa hi) (fun cap1 tail ht=> ?_);rw[w8 (n:=c) (by omega)];have hh:=jgo [c] ht;have h1:RowP (.int .u8 c::tail) 1 cap1:=hh.1;have h2:zc (.int .u8 c::tail) 1=[c]:=hh.2;refine c_t (by simp[h1.good,gb]) ?_;rw[h1.rlb,eb,w64 (by omega)];refine⟨(b,c,n,.own _ 1 cap1,i+1),rfl,rfl,by simp only[S114_0,jaf,jae];exact⟨jat.2 h1,rfl,hb,by omega,by omega,by omega,by omega,by omega,by simp only[Rw.z,h2,List.length_cons,List.length_nil];omega⟩,by simp only;omega,?_⟩;intro d' m' cap' g1 g2;refine hf d' m' cap' g1 ?_;rw[g2];simp only[Rw.z];rw[h2,show(n-i).toNat=(n-(i+1)).toNat+1 by omega,←jhw];rfl
  | own d m cap=>
   rw[r114_0o];delta fv bv ak az e8 jh ie kv bm au bu bp cq e7 al n7 dv ct;simp only[jaf,jae]at hp;obtain⟨hr,-,hb,hp⟩:=hp;simp only[Rw.z]at hp;have eb:∀ps,rlbL ps b.c=b.c:=fun ps=>rlbL_plain ps hb
   have gb:∀ps,jav ps b.c=true:=fun ps=>goodL_plain hb
   have hr:=jat.1 hr;have hzl:=jba hr;apply cond_intro<;>intro h
   ·have h:=jab h;rw[w8 (n:=c) (by omega)];refine c_t (hr.ask (k:=1) (by omega)) (fun cap1 tail ht=> ?_);obtain⟨h1,h2⟩:=hr.app1 c ht;refine c_t (by rw[h1.good,gb];rfl) ?_;rw[h1.rlb,eb,w64 (by omega)];have hl1:(zc (List.take (m*1) d++ [Value.int IntKind.u8 c]++tail) (m+1)).length=m+1:=jba h1;refine⟨(b,c,n,.own _ (m+1) cap1,i+1),rfl,rfl,by simp only[S114_0,jaf,jae];exact⟨jat.2 h1,rfl,hb,by omega,by omega,by omega,by omega,by omega,by simp only[Rw.z,hl1];omega⟩,by simp only;omega,?_⟩;intro d' m' cap' g1 g2;refine hf d' m' cap' g1 ?_;rw[g2];simp only[Rw.z];rw[h2,show(n-i).toNat=(n-(i+1)).toNat+1 by omega,←jhw,List.append_assoc]
   ·have h:=jac h;refine c_t (by rw[hr.good,gb];rfl) ?_;rw[hr.rlb,eb];obtain rfl:i=n:=by omega
    exact hf d m cap (jat.2 hr) (by simp[Rw.z,rep1])
theorem fn114:Fn1 Tryz.prog 235 Tryz.f235:= .m Tryz.func235
def G17:Env:=(Env.nil.add 234 (sp2 s113)).addG 235 (inlQ Tryz.prog G16 (oneL 0 S114_0.hA) Tryz.f235)
theorem ok_G17:jaw Tryz.prog G17:=jao (jai jap ok113) (jar ok_G16 hmix fn114 l114_0)
end Go.Px
end
