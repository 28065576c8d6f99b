/-
  Part 1: the run and laws.
-/
import Derived.Test.YtiahilhlpmohoaaGreatDoorB1Ab1
import Derived.Test.YtiahilhlpmohoaaGreatDoorB1Ab2
import Derived.Test.YtiahilhlpmohoaaGreatDoorB1Ab3
import Derived.Test.YtiahilhlpmohoaaGreatDoorB1Ab4
import Derived.Test.YtiahilhlpmohoaaGreatDoorB1Ab5
import Derived.Test.YtiahilhlpmohoaaGreatDoorB1Ab6
import Derived.Test.YtiahilhlpmohoaaGreatDoorB1Ab7
import Derived.Test.YtiahilhlpmohoaaGreatDoorB1AbE
import Derived.Test.YtiahilhlpmohoaaGreatDoorB1Ab8
import Derived.Test.YtiahilhlpmohoaaGreatDoorB1Ab9
import Derived.Test.YtiahilhlpmohoaaGreatDoorB1Ab10
import Derived.Test.YtiahilhlpmohoaaGreatDoorB1Ab11
import Derived.Test.YtiahilhlpmohoaaGreatDoorB1Ab12
import Derived.Test.YtiahilhlpmohoaaGreatDoorB1Ab13
import Derived.Test.YtiahilhlpmohoaaGreatDoorB1Ab14
import Derived.Test.YtiahilhlpmohoaaGreatDoorB1AbW
import Derived.Test.YtiahilhlpmohoaaGreatDoorB1Ab15
import Derived.Test.YtiahilhlpmohoaaGreatDoorB1Ab16
import Derived.Test.YtiahilhlpmohoaaGreatDoorB1Ab17
import Derived.Test.YtiahilhlpmohoaaGreatDoorB1Ab18
import Derived.Test.YtiahilhlpmohoaaGreatDoorB1Ab19
import Derived.WalkKit
import Derived.ProofKit
import Derived.Test.YtiahilhlpmohoaaGreatDoorLays
import Derived.Laws.RangeAny
import Derived.Shelf.Strings.LastIndex
import Derived.Shelf.Strconv.Itoa3
import Derived.Shelf.Strconv.AppendUint10
import Derived.Lib.ItoaLen
import Derived.Shelf.Strconv.Atoi
import Derived.Lib.AtoiErrMem
import Derived.Laws.BitsLemmas
import Derived.Lib.Strings
import Derived.Test.YtiahilhlpmohoaaGreatDoorProg
import Derived.LaidEql
import Derived.Stop.Asserts
import Derived.RowKitTokens
import Derived.Shelf.Small.Strs
import Derived.JoinedOf
import Derived.SevenTiedAt
import Derived.Test.YtiahilhlpmohoaaGreatDoorRows
import Derived.Test.YtiahilhlpmohoaaGreatDoorLbys
import Derived.Lay
import Derived.LaidHandle
import Derived.LaidSub
import Derived.Lib.LaidTab
import Derived.Lib.LaidU8
import Derived.LaidMore
import Derived.HandedShaped
import Derived.Shelf.Vars
set_option linter.unusedVariables false
set_option linter.unusedSimpArgs false
set_option linter.unusedSectionVars false
section
namespace Go.Px
open Go Go.Ab
def bz(s:Y):J:=s.data.toList.map fun b=>(b.toNat:Int)
def sz(l:J):Y:=⟨(l.map fun n=>UInt8.ofNat n.toNat).toArray⟩
def IsB(l:J):Prop:=∀c∈l,0≤c∧c<256
@[simp] theorem jam (s:Y):(bz s).length=s.size:=by
 unfold bz;rw[List.length_map,Array.length_toList];rfl
theorem jek(s:Y)(i:Nat):jai s i=(bz s).getD i 0:=by
 simp only[jai,bz,List.getD_eq_getElem?_getD,List.getElem?_map]
theorem jdb(s:Y):IsB (bz s):=by
 intro c hc;simp only[bz,List.mem_map]at hc;obtain⟨b,_,rfl⟩:=hc;have:=b.toNat_lt;omega
theorem jf3(s:Y):sz (bz s)=s:=by
 simp only[sz,bz,List.map_map]
 have:((fun n:Int=>UInt8.ofNat n.toNat) ∘fun b:UInt8=>(b.toNat:Int))=id:=by
  funext b;simp
 rw[this];simp
theorem je1{l:J}(h:IsB l):bz (sz l)=l:=by
 simp only[sz,bz,List.map_map]
 have:∀n∈l,((fun b:UInt8=>(b.toNat:Int)) ∘fun n:Int=>UInt8.ofNat n.toNat) n=n:=by
  intro n hn;have:=h n hn;simp only[Function.comp,UInt8.toNat_ofNat'];omega
 rw[List.map_congr_left this];simp
theorem jg0{a b:Y}(h:bz a=bz b):a=b:=by rw[←jf3 a,←jf3 b,h]
theorem jbr(a b:Y):bz (a++b)=bz a++bz b:=by
 simp[bz,ByteArray.data_append]
theorem jb7(s:Y)(i j:Nat):bz (s.extract i j)=((bz s).take j).drop i:=by
 simp[bz,ByteArray.data_extract,List.map_drop,List.map_take,Array.toList_extract,List.extract_eq_take_drop,List.drop_take]
theorem jgh(l:J):(sz l).size=l.length:=by simp[sz,ByteArray.size]
theorem jfg(a b:Y):(a.toList==b.toList)=decide (bz a=bz b):=by
 rw[ByteArray.toList_eq,ByteArray.toList_eq,Bool.eq_iff_iff,beq_iff_eq,jae];constructor
 ·intro h;simp[bz,h]
 ·intro h;have:=jg0 h;rw[this]
theorem IsB.append{a b:J}(ha:IsB a)(hb:IsB b):IsB (a++b):=fun c hc=>by
 rcases List.mem_append.1 hc with h | h
 ·exact ha c h
 ·exact hb c h
theorem IsB.take{a:J}(ha:IsB a)(n:Nat):IsB (a.take n):=fun c hc=>ha c (List.mem_of_mem_take hc)
theorem IsB.drop{a:J}(ha:IsB a)(n:Nat):IsB (a.drop n):=fun c hc=>ha c (List.mem_of_mem_drop hc)
theorem IsB.nil:IsB []:=fun c hc=>by cases hc
theorem IsB.cons{c:Int}{a:J}(h:0≤c∧c<256)(ha:IsB a):IsB (c::a):=fun d hd=>by
 rcases List.mem_cons.1 hd with rfl | hd
 ·exact h
 ·exact ha d hd
def cz(l:J):F:=l.map fun n=> .int .u8 n
@[simp] theorem cz_length (l:J):(cz l).length=l.length:=by simp[cz]
theorem cz_append(a b:J):cz (a++b)=cz a++cz b:=by simp[cz]
theorem cz_cell:∀l:J,(cz l).all jfu=true
 | []=>rfl
 | c::r=>by
  have:=cz_cell r;simp only[cz]at this;simp[cz,jfu,this]
theorem jhl:∀l:J,jay (cz l)=true
 | []=>rfl
 | c::r=>by simpa[cz,jay,plain]using jhl r
theorem jei:∀l:J,jbx (cz l)=true
 | []=>rfl
 | c::r=>by simpa[cz,jbx]using jei r
theorem cz_bytesL:∀l:J,jdj (cz l)=l.map fun n=>UInt8.ofNat n.toNat
 | []=>rfl
 | c::r=>by
  have:=cz_bytesL r;simp only[cz]at this;simp only[cz,List.map_cons,jdj,this]
theorem bytesOf_cz(l:J)(tail:F):ja8 (cz l++tail) 0 l.length=sz l:=by
 simp only[ja8,List.drop_zero];rw[List.take_append_of_le_length (by simp),List.take_of_length_le (by simp),cz_bytesL];rfl
theorem bytesOK_cz(l:J)(tail:F):jbe (cz l++tail) 0 l.length=true:=by
 simp only[jbe,List.drop_zero,jaf,Nat.ble_eq,List.length_append,cz_length];rw[List.take_append_of_le_length (by simp),List.take_of_length_le (by simp)];exact⟨jei l,by omega⟩
theorem strCells_eq(s:Y):Lib.strCells s=cz (bz s):=by
 simp[Lib.strCells,cz,bz]
theorem jgd(l:J)(i:Nat)(h:i<l.length):l.drop i=l.getD i 0::l.drop (i+1):=by
 rw[List.drop_eq_getElem_cons h];simp[List.getD_eq_getElem?_getD,h]
end Go.Px
end
section
namespace Go.Px
open Go Go.Ab Go.Proofs Go.Shelf
def punchedZ:J:=[123,65,66,67,68,69,70,71,72,73,125,74,75,76,77,78,79,80,81,82]
def pow10Z:J:=[1,10,100,1000,10000,100000,1000000,10000000,100000000,1000000000,10000000000,100000000000,1000000000000,10000000000000,100000000000000,1000000000000000,10000000000000000,100000000000000000,1000000000000000000,10000000000000000000]
def jme:Nat→Option F
 | 3=>some (punchedZ.map fun n=> .int .u8 n)
 | 2=>some (pow10Z.map fun n=> .int .u64 n)
 | 0=>some [.iface 304 (.agg ⟨[.pointer (some ⟨10,157,none⟩)]⟩)]
 | _=>none
instance tabs:Tabs where
 row:=jme
 plain:=fun b r h=>by
  match b,h with
  | 3,h=>cases h;rfl
  | 2,h=>cases h;rfl
  | 0,h=>cases h;rfl
theorem hmix:Tryz.prog.follows .mixedOrders=true:=by kernel_rfl
structure U8 where n:Int
structure R32 where n:Int
structure U64 where n:Int
instance:Enc U8 where
 enc a:= .int .u8 a.n
 dec | .int .u8 n=>some ⟨n⟩ | _=>none
 dec_some:=by
  intro v a h;split at h
  ·cases h;rfl
  ·cases h
 plain_enc _:=rfl
instance:Enc R32 where
 enc a:= .int .i32 a.n
 dec | .int .i32 n=>some ⟨n⟩ | _=>none
 dec_some:=by
  intro v a h;split at h
  ·cases h;rfl
  ·cases h
 plain_enc _:=rfl
instance:Enc U64 where
 enc a:= .int .u64 a.n
 dec | .int .u64 n=>some ⟨n⟩ | _=>none
 dec_some:=by
  intro v a h;split at h
  ·cases h;rfl
  ·cases h
 plain_enc _:=rfl
theorem pure_shelf{P:Program}{f:FuncId}{s:Ab.Spec}(hc:jbq P f)
  (h:∀args bs v,s args bs=some (true,v)→jay args=true∧ ∀w,TabsIn w.heap.size w→Calls P f args.toArray w fun e w'=>e= .returned v∧RowKit.Below w.heap.size w w'):jan P f s:=by
 refine⟨hc,fun args v N w0 lk ι w hrel hs hp=> ?_⟩;obtain⟨h1,h2⟩:=h _ _ _ hs;have hren:args.map (ren ι)=args:=by rw[←jb0,jb3 _ h1]
 rw[hren];exact h2 w hrel.tabs
theorem jch{w w':World}(h:w'=w):RowKit.Below w.heap.size w w':=h▸RowKit.Below.refl _ _
section
variable {α β : Type} [Enc α] [Enc β] {P : Program} {f : FuncId}
theorem shelf1(hc:jbq P f){g:α→Bool×Value}(h:∀a,(g a).1=true→ ∀w,TabsIn w.heap.size w→Calls P f #[Enc.enc a] w fun e w'=>e= .returned (g a).2∧RowKit.Below w.heap.size w w'):jan P f (sp1 g):=by
 refine pure_shelf hc fun args bs v hs=> ?_
 simp only[sp1]at hs;split at hs
 ·split at hs
  ·rename_i ha;simp only[Option.some.injEq]at hs;obtain rfl:=Enc.dec_some ha;exact⟨by simp[jay,Enc.plain_enc],by have q:=h _ (by rw[hs]);rw[hs]at q;exact q⟩
  ·cases hs
 ·cases hs
theorem jda(hc:jbq P f){g:α→β→Bool×Value}(h:∀a b,(g a b).1=true→ ∀w,TabsIn w.heap.size w→Calls P f #[Enc.enc a,Enc.enc b] w fun e w'=>e= .returned (g a b).2∧RowKit.Below w.heap.size w w'):jan P f (sp2 g):=by
 refine pure_shelf hc fun args bs v hs=> ?_
 simp only[sp2]at hs;split at hs
 ·split at hs
  ·rename_i ha hb;simp only[Option.some.injEq]at hs;obtain rfl:=Enc.dec_some ha;obtain rfl:=Enc.dec_some hb;exact⟨by simp[jay,Enc.plain_enc],by have q:=h _ _ (by rw[hs]);rw[hs]at q;exact q⟩
  ·cases hs
 ·cases hs
end
def idxZ:J→Int→Int
 | [],_=> -1
 | b::l,c=>if b=c then 0 else if idxZ l c= -1 then -1 else idxZ l c+1
def cntZ(l:J)(c:Int):Nat:=(l.filter (· ==c)).length
def sufZ(l p:J):Bool:=decide (p.length≤l.length∧l.drop (l.length-p.length)=p)
def hasZ(l:J)(c:Int):Bool:=l.any (· ==c)
def anyZ(l cs:J):Bool:=l.any (hasZ cs)
def jap(l cs:J):J:=((l.reverse.dropWhile (hasZ cs)).reverse).dropWhile (hasZ cs)
def repZ(l:J):Nat→J
 | 0=> []
 | n+1=>l++repZ l n
def numZ:J→Int→Int
 | [],a=>a
 | c::r,a=>numZ r (a*10+(c-48))
def jg4(c:Int):Bool:=decide (48≤c∧c≤57)
abbrev zl(l:Yb):J:=l.map fun b=>(b.toNat:Int)
theorem jmd{a b:UInt8}:((a.toNat:Int)=b.toNat)↔a=b:=by
 rw[Int.natCast_inj,UInt8.toNat_inj]
theorem jl0(c:UInt8):∀l:Yb,Lib.indexByte l c=idxZ (zl l) c.toNat
 | []=>rfl
 | b::l=>by
  simp only[Lib.indexByte,zl,List.map_cons,idxZ,jl0 c l,jmd,beq_iff_eq]
theorem jko(c:UInt8):∀l:Yb,l.contains c=hasZ (zl l) c.toNat
 | []=>rfl
 | b::l=>by
  have:=jko c l;simp only[hasZ,zl]at this;rw[List.contains_cons,this];simp only[hasZ,zl,List.map_cons,List.any_cons];congr 1;rw[Bool.eq_iff_iff,beq_iff_eq,beq_iff_eq,jmd];exact eq_comm
theorem jbk{l:J}{c:Int}:hasZ l c=true↔c∈l:=by simp[hasZ]
theorem jet(c:Int):∀l:J,-1≤idxZ l c∧(0≤idxZ l c↔c∈l)
 | []=>by simp[idxZ]
 | b::l=>by
  obtain⟨h1,h2⟩:=jet c l;simp only[idxZ,List.mem_cons];by_cases hb:b=c
  ·simp[hb]
  ·rw[if_neg hb];have hb':¬c=b:=fun h=>hb h.symm
   split
   ·rename_i h;rw[h]at h2;simp only[hb',false_or];exact⟨by omega,by rw[←h2]⟩
   ·exact⟨by omega,by simp only[hb',false_or];rw[←h2];omega⟩
theorem cnt_zl(c:UInt8):∀l:Yb,Lib.countByte l c=cntZ (zl l) c.toNat
 | []=>rfl
 | b::l=>by
  have ih:=cnt_zl c l;simp only[Lib.countByte,cntZ,zl]at ih;simp only[Lib.countByte,cntZ,zl,List.map_cons,List.count_cons,List.filter_cons,ih];by_cases hb:b=c
  ·simp[hb]
  ·have:((b.toNat:Int)==(c.toNat:Int))=false:=by simpa[jmd]using hb
   simp[hb,this]
theorem zl_inj{a b:Yb}(h:zl a=zl b):a=b:=by
 have:=jg0 (a:=⟨a.toArray⟩) (b:=⟨b.toArray⟩) (by simpa[bz]using h);simpa using congrArg (fun s:Y=>s.data.toList) this
theorem suf_zl(s p:Yb):Lib.hasSuffix s p=sufZ (zl s) (zl p):=by
 rw[Bool.eq_iff_iff];simp only[Lib.hasSuffix,sufZ,List.isSuffixOf_iff_suffix,jae,List.length_map];constructor
 ·rintro ⟨t,rfl⟩;exact⟨by simp,by simp⟩
 ·rintro ⟨h1,h2⟩;rw[←List.map_drop]at h2;have e:=zl_inj h2;exact⟨s.take (s.length-p.length),(congrArg (s.take (s.length-p.length)++ ·) e.symm).trans (List.take_append_drop ..)⟩
theorem jeu{p:UInt8→Bool}{q:Int→Bool}(h:∀b:UInt8,p b=q b.toNat):∀l:Yb,zl (l.dropWhile p)=(zl l).dropWhile q
 | []=>rfl
 | b::l=>by
  simp only[List.dropWhile_cons,zl,List.map_cons,h b];split
  ·exact jeu h l
  ·rfl
theorem trim_zl(l cs:Yb):zl (Lib.trimS l cs)=jap (zl l) (zl cs):=by
 have h:∀b:UInt8,cs.contains b=hasZ (zl cs) b.toNat:=fun b=>jko b cs
 simp only[Lib.trimS,Lib.trimLeftS,Lib.trimRightS,jap];rw[jeu (q:=hasZ (zl cs)) h];congr 1;rw[zl,List.map_reverse,←List.map_reverse];have:=jeu (p:=(cs.contains ·)) (q:=hasZ (zl cs)) h l.reverse;rw[List.map_reverse];simp only[zl,List.map_reverse]at this ⊢;rw[this]
theorem jmr(l:Yb):∀n,zl (Lib.repeatL l n)=repZ (zl l) n
 | 0=>rfl
 | n+1=>by
  have:=jmr l n;simp only[zl]at this;simp[Lib.repeatL,repZ,zl,this]
theorem jg2(l:Yb):(⟨l.toArray⟩:Y)=sz (zl l):=by
 rw[←jf3 ⟨l.toArray⟩];simp[bz]
theorem jj6(s:Y):zl s.data.toList=bz s:=rfl
theorem cal {P : Program} {f : FuncId} {fn : Func} (h : P.funcs[f]? = some fn) (hn : (fn.name == "runtime.NumGoroutine") = false) (hb : fn.body.isSome = true) : jbq P f := ⟨fn, h, hn, by cases hf : fn.body with | none => rw [hf] at hb; cases hb | some c => rfl⟩
theorem c141:jbq Tryz.prog 221:=cal Tryz.func221 (by kernel_rfl) (by kernel_rfl)
theorem c157:jbq Tryz.prog 253:=cal Tryz.func253 (by kernel_rfl) (by kernel_rfl)
theorem c130:jbq Tryz.prog 187:=cal Tryz.func187 (by kernel_rfl) (by kernel_rfl)
theorem c132:jbq Tryz.prog 189:=cal Tryz.func189 (by kernel_rfl) (by kernel_rfl)
theorem c102:jbq Tryz.prog 128:=cal Tryz.func128 (by kernel_rfl) (by kernel_rfl)
theorem c89:jbq Tryz.prog 124:=cal Tryz.func124 (by kernel_rfl) (by kernel_rfl)
theorem c88:jbq Tryz.prog 110:=cal Tryz.func110 (by kernel_rfl) (by kernel_rfl)
theorem c78:jbq Tryz.prog 114:=cal Tryz.func114 (by kernel_rfl) (by kernel_rfl)
theorem c68:jbq Tryz.prog 183:=cal Tryz.func183 (by kernel_rfl) (by kernel_rfl)
def s141(s:Y)(c:U8):Bool×Value:=(decide (0≤c.n∧c.n<256),.int .i64 (idxZ (bz s) c.n))
theorem ok141:jan Tryz.prog 221 (sp2 s141):=jda c141 fun s c hc w _=>by
 have hc:0≤c.n∧c.n<256:=jab hc;refine(Any.strings_IndexByte Tryz.lays137 s c.n w).mono fun e w' ⟨h1,h2⟩=>⟨?_,jch h2⟩
 rw[h1,jl0];simp only[s141]
 have:((c.n.toNat.toUInt8.toNat:Nat):Int)=c.n:=by
  simp only[Nat.toUInt8,UInt8.toNat_ofNat'];omega
 rw[this,jj6]
def oneB(s:Y):Bool:=Nat.beq s.size 1
theorem jef{s:Y}(h:oneB s=true):∃c:UInt8,s=⟨#[c]⟩∧(c.toNat:Int)=(bz s).getD 0 0:=by
 have h:=jah h;have hl:s.data.toList.length=1:=by simpa using h
 match hm:s.data.toList,hl with
 | [c],_=>
  refine⟨c,?_,by simp[bz,hm]⟩;apply ByteArray.ext;apply Array.ext';simpa using hm
def s157(s t:Y):Bool×Value:=(oneB t,.int .i64 (cntZ (bz s) ((bz t).getD 0 0)))
theorem ok157:jan Tryz.prog 253 (sp2 s157):=jda c157 fun s t hc w _=>by
 obtain⟨c,h1,h2⟩:=jef hc;have e:Enc.enc t=Value.string ⟨#[c]⟩:=congrArg Value.string h1;rw[e];refine(Any.strings_Count_one Tryz.lays138 s c w).mono fun e w' ⟨h3,h4⟩=>⟨?_,jch h4⟩
 rw[h3,cnt_zl,h2];rfl
def s132(s t:Y):Bool×Value:=(oneB t,.bool (hasZ (bz s) ((bz t).getD 0 0)))
theorem ok132:jan Tryz.prog 189 (sp2 s132):=jda c132 fun s t hc w _=>by
 obtain⟨c,h1,h2⟩:=jef hc;have e:Enc.enc t=Value.string ⟨#[c]⟩:=congrArg Value.string h1;rw[e];refine(Any.strings_Contains_one Tryz.lays144 s c w).mono fun e w' ⟨h3,h4⟩=>⟨?_,jch h4⟩
 rw[h3];simp only[s132];rw[←h2];congr 2;rw[Bool.eq_iff_iff,jae,jl0,(jet _ _).2,jbk,jj6]
def s130(s t:Y):Bool×Value:=(decide (s.size≤9223372036854775807),.bool (sufZ (bz s) (bz t)))
theorem ok130:jan Tryz.prog 187 (sp2 s130):=jda c130 fun s t hc w _=>by
 refine(Any.strings_HasSuffix Tryz.lays100 s t w (jab hc)).mono fun e w' ⟨h3,h4⟩=>⟨?_,jch h4⟩
 rw[h3,suf_zl];rfl
def asc(l:J):Bool:=l.all fun c=>decide (c<128)
theorem jdf{s:Y}(h:asc (bz s)=true):∀(j:Nat) b,s.data.toList[j]?=some b→b.toNat<128:=fun j b hb=>by
 simp only[asc,bz,List.all_map,List.all_eq_true]at h;have:=h b (List.mem_of_getElem? hb);simp at this;omega
theorem info128:(Tryz.prog.info? (Tryz.lays150_ren.t 116)).map (fun i=>(i.zero,i.size))=some (some (.agg (Array.replicate 256 (.bool false))),256):=by kernel_rfl
theorem jjn:(Tryz.prog.info? (Tryz.lays160_ren.t 116)).map (fun i=>(i.zero,i.size))=some (some (.agg (Array.replicate 256 (.bool false))),256):=by kernel_rfl
theorem indexAny_zl(cs:Yb):∀l:Yb,(0≤Lib.indexAny l cs)↔anyZ (zl l) (zl cs)=true
 | []=>by simp[Lib.indexAny,anyZ]
 | b::l=>by
  have ih:=indexAny_zl cs l;have g:=Lib.indexAny_ge cs l;have hb:hasZ (zl cs) b.toNat=cs.contains b:=(jko b cs).symm;simp only[anyZ,zl,List.map_cons,List.any_cons]at ih hb ⊢;rw[hb];unfold Lib.indexAny;split
  ·simp_all
  ·rename_i hn;have hn:cs.contains b=false:=by simpa using hn
   rw[hn,Bool.false_or,←ih];split
   ·rename_i h;have h:=eq_of_beq h;constructor<;>intro<;>omega
   ·rename_i h;have h:Lib.indexAny l cs≠ -1:=by simpa using h
    constructor<;>intro<;>omega
def s102(s t:Y):Bool×Value:=(decide (s.size≤1000) && (decide (t.size≤1000) && (asc (bz s) &&asc (bz t))),.bool (anyZ (bz s) (bz t)))
theorem ok102:jan Tryz.prog 128 (sp2 s102):=jda c102 fun s t hc w _=>by
 simp only[s102,jaf,jae]at hc;obtain⟨h1,h2,h3,h4⟩:=hc;refine(Any.strings_ContainsAny_laid Tryz.lays150 info128 s t w (by omega) (by omega) (jdf h3) (jdf h4)).mono fun e w' ⟨h5,h6⟩=>⟨?_,h6⟩
 rw[h5];simp only[s102];congr 2;rw[Bool.eq_iff_iff,Lib.containsAny,jae,indexAny_zl];rfl
theorem szO_ex:∃f:J→Y,f=sz:=⟨_,rfl⟩
noncomputable def szO : J → Y := Classical.choose szO_ex
theorem jcl(l:J):szO l=sz l:=by rw[szO,Classical.choose_spec szO_ex]
noncomputable def s89 (s t : Y) : Bool × Value := (decide (s.size ≤ 1000) && (decide (t.size ≤ 1000) && asc (bz t)), .string (szO (jap (bz s) (bz t))))
theorem ok89:jan Tryz.prog 124 (sp2 s89):=jda c89 fun s t hc w _=>by
 simp only[s89,jaf,jae]at hc;obtain⟨h1,h2,h3⟩:=hc;refine(Any.strings_Trim_laid Tryz.lays160 jjn s t w (by omega) (by omega) (jdf h3)).mono fun e w' ⟨h5,h6⟩=>⟨?_,h6⟩
 rw[h5,jg2,trim_zl];simp only[s89,jcl];rfl
def s88(s t:Y):Bool×Value:=(oneB t&&asc (bz t),.string (sz ((bz s).dropWhile (· ==(bz t).getD 0 0))))
theorem ok88:jan Tryz.prog 110 (sp2 s88):=jda c88 fun s t hc w _=>by
 simp only[s88,jaf]at hc;obtain⟨c,h1,h2⟩:=jef hc.1;have hlt:c.toNat<128:=jdf hc.2 0 c (by rw[h1];rfl);have e:Enc.enc t=Value.string ⟨#[c]⟩:=congrArg Value.string h1;rw[e];refine(Any.strings_TrimLeft_one Tryz.lays161 s c hlt w).mono fun e w' ⟨h3,h4⟩=>⟨?_,jch h4⟩
 rw[h3,jg2];simp only[s88,Lib.trimLeftB];rw[jeu (q:=(· ==(bz t).getD 0 0)) (fun b=>by rw[←h2,Bool.eq_iff_iff,beq_iff_eq,beq_iff_eq,jmd]),jj6]
def s78(s:Y)(n:Int):Bool×Value:=(decide (0≤n∧n≤1000∧s.size≤1000),.string (sz (repZ (bz s) n.toNat)))
theorem ok78:jan Tryz.prog 114 (sp2 s78):=jda c78 fun s n hc w _=>by
 obtain⟨h1,h2,h3⟩:=jab hc
 have e:Enc.enc n=Value.int .i64 (n.toNat:Int):=by
  show Value.int .i64 n=_;rw[Int.toNat_of_nonneg h1]
 rw[e];have hm:s.size*n.toNat≤1000*1000:=Nat.mul_le_mul h3 (by omega);refine(Any.strings_Repeat Tryz.lays105 Tryz.Builder_Extra_105 s n.toNat w (by omega) (by omega)).mono fun e w' ⟨h4,h5⟩=>⟨?_,h5⟩
 rw[h4,jg2,jmr];rfl
end Go.Px
end
section
namespace Go.Px
open Go Go.Ab Go.Proofs
abbrev I(n:Int):Value:= .int .i64 n
abbrev B(b:Bool):Value:= .bool b
abbrev C8(n:Int):Value:= .int .u8 n
abbrev C64(n:Int):Value:= .int .u64 n
abbrev S(s:Y):Value:= .string s
def e0:Y:=⟨#[]⟩
theorem c_t{b:Bool}{P Q:Prop}(h:b=true)(hp:P):bif b then P else Q:=by rw[h];exact hp
theorem c_f{b:Bool}{P Q:Prop}(h:b=false)(hq:Q):bif b then P else Q:=by rw[h];exact hq
theorem w64{n:Int}(h: -9223372036854775808≤n∧n≤9223372036854775807):IntKind.wrap .i64 n=n:=by rw[IntKind.wrap_i64];omega
theorem w8e(n:Int):IntKind.wrap .u8 n=n%256:=by
 simp[IntKind.wrap,IntKind.bits,IntKind.signed]
theorem w8{n:Int}(h:0≤n∧n<256):IntKind.wrap .u8 n=n:=by rw[w8e];omega
theorem jni(n:Int):IntKind.wrap .u64 n=n%18446744073709551616:=by
 simp[IntKind.wrap,IntKind.bits,IntKind.signed]
theorem wu64{n:Int}(h:0≤n∧n<18446744073709551616):IntKind.wrap .u64 n=n:=by rw[jni];omega
theorem jho(s:Y)(i:Nat):0≤jai s i∧jai s i<256:=by
 rw[jek,List.getD_eq_getElem?_getD];cases h:(bz s)[i]? with
 | none=>simp
 | some c=>exact jdb s c (List.mem_of_getElem? h)
theorem jd2{s:Y}{i:Int}(h0:0≤i)(h:i<s.size):(bz s).drop i.toNat=jai s i.toNat::(bz s).drop (i+1).toNat:=by
 have:=jgd (bz s) i.toNat (by rw[jam];omega);rw[this,jek];congr 2;omega
theorem jg1{s:Y}{i:Int}(h:s.size≤i):(bz s).drop i.toNat=[]:=List.drop_eq_nil_of_le (by rw[jam];omega)
def upZ(c:Int):Int:=if 97≤c∧c≤122 then c-32 else c
def twoL(i:Nat)(h:jb8)(j:Nat)(h':jb8):Nat→Option jb8:=fun k=>match Nat.beq k i with | true=>some h | false=>match Nat.beq k j with | true=>some h' | false=>none
theorem jgb{P:Program}{fn:Func}{i j:Nat}{h h':jb8}(hij:Nat.beq j i=false)(hb:(match fn.body with | some c=>blks (twoL i h j h') c | none=> [])=[(i,.loop (jbb fn i)),(j,.loop (jbb fn j))])
  (hs:∀t m n K,h t m n K→Ab.Sem P fn.ntmps (.loop (jbb fn i)) t m n K) (hs':∀t m n K,h' t m n K→Ab.Sem P fn.ntmps (.loop (jbb fn j)) t m n K):LOKf P (twoL i h j h') fn:=by
 unfold LOKf;split
 ·rename_i c hc;simp only[hc]at hb;refine jh3 c fun p hp k hk=> ?_
  rw[hb]at hp;simp only[List.mem_cons,List.not_mem_nil,or_false]at hp;have e:Nat.beq i i=true:=by simp
  have e':Nat.beq j j=true:=by simp
  rcases hp with rfl | rfl
  ·simp only[twoL,e,Option.some.injEq]at hk;subst hk;exact hs
  ·simp only[twoL,hij,e',Option.some.injEq]at hk;subst hk;exact hs'
 ·trivial
theorem lok_one{P:Program}{nt:Nat}{c b:Code}{id:Nat}{h:jb8}(hb:blks (oneL id h) c=[(id,b)])(hs:∀t m n K,h t m n K→Ab.Sem P nt b t m n K):LOK P (oneL id h) nt c:=by
 refine jh3 c fun p hp h' hh=> ?_
 rw[hb]at hp;simp only[List.mem_singleton]at hp;subst hp
 have:h'=h:=by
  simp only[oneL]at hh;have e:Nat.beq id id=true:=by simp
  rw[e]at hh;simpa using hh.symm
 subst this;exact hs
theorem cnt_le(l:J)(c:Int):cntZ l c≤l.length:=List.length_filter_le ..
def iv:Value→Int
 | .int _ n=>n
 | _=>0
def zc(c:F)(n:Nat):J:=(c.take n).map iv
def jc6(c:F)(n cap:Nat):Bool:=jbx (c.take n) && (jay c&& (Nat.beq c.length cap&& (Nat.ble n cap&&Nat.ble cap 9223372036854775807)))
theorem jmg:∀{l:F},jbx l=true→cz (l.map iv)=l
 | [],_=>rfl
 | .int .u8 n::r,h=>by
  have:=jmg (l:=r) (by simpa[jbx]using h);simp only[cz]at this;simp only[List.map_cons,cz,iv,this]
structure RowP (c:F)(n cap:Nat):Prop where
 bytes:jbx (c.take n)=true
 plain:jay c=true
 len:c.length=cap
 le:n≤cap
 cap:cap≤9223372036854775807
theorem jat{c:F}{n cap:Nat}:jc6 c n cap=true↔RowP c n cap:=by
 simp only[jc6,jaf,Nat.ble_eq,Nat.beq_eq];exact⟨fun⟨h1,h2,h3,h4,h5⟩=>⟨h1,h2,h3,h4,h5⟩,fun⟨h1,h2,h3,h4,h5⟩=>⟨h1,h2,h3,h4,h5⟩⟩
theorem ja6{c:F}{n cap:Nat}(h:RowP c n cap):(zc c n).length=n:=by
 have h1:=h.len;have h2:=h.le;simp only[zc,List.length_map,List.length_take];omega
theorem RowP.eq{c:F}{n cap:Nat}(h:RowP c n cap):c=cz (zc c n)++c.drop n:=by
 rw[zc,jmg h.bytes,List.take_append_drop]
theorem RowP.take{c:F}{n cap:Nat}(h:RowP c n cap):c.take n=cz (zc c n):=(jmg h.bytes).symm
theorem RowP.str{c:F}{n cap:Nat}(h:RowP c n cap):jbe c 0 n=true∧ja8 c 0 n=sz (zc c n):=by
 have hz:=ja6 h;have e:=h.eq;have h1:=bytesOK_cz (zc c n) (c.drop n);have h2:=bytesOf_cz (zc c n) (c.drop n);rw[←e,hz]at h1 h2;exact⟨h1,h2⟩
theorem plainL_append{a b:F}:jay (a++b)=true↔jay a=true∧jay b=true:=by
 simp only[ja2,List.mem_append];exact⟨fun h=>⟨fun v hv=>h v (.inl hv),fun v hv=>h v (.inr hv)⟩,fun⟨h1,h2⟩ v hv=>hv.elim (h1 v) (h2 v)⟩
theorem jlu(L:J){tail:F}{cap:Nat}(ht:jay tail=true)(hl:L.length+tail.length=cap)(hc:cap≤9223372036854775807):RowP (cz L++tail) L.length cap∧zc (cz L++tail) L.length=L:=by
 have e:(cz L++tail).take L.length=cz L:=by rw[List.take_append_of_le_length (by simp),List.take_of_length_le (by simp)]
 refine⟨⟨by rw[e];exact jei L,plainL_append.2 ⟨jhl L,ht⟩,by simp[hl],by omega,hc⟩,?_⟩;show List.map iv ((cz L++tail).take L.length)=L;rw[e];simp only[cz,List.map_map];have:(iv∘fun n:Int=>Value.int .u8 n)=id:=by funext n;rfl
 rw[this,List.map_id]
theorem je3{tail:F}{cap need size:Nat}(h:jbm tail cap need size=true):jay tail=true∧tail.length+need*size=cap*size∧need≤cap∧cap≤9223372036854775807:=by
 simp only[jbm,jaf,Nat.ble_eq,Nat.beq_eq]at h;exact⟨h.1.1.1,h.1.1.2,h.1.2,h.2⟩
theorem RowP.app{c:F}{n cap:Nat}(h:RowP c n cap)(M:J){tail:F}{cap':Nat}(ht:jbm tail cap' (n+M.length) 1=true):
  RowP (c.take n++cz M++tail) (n+M.length) cap'∧zc (c.take n++cz M++tail) (n+M.length)=zc c n++M:=by
 obtain⟨t1,t2,t3,t4⟩:=je3 ht;have hz:=ja6 h;have:=jlu (zc c n++M) (tail:=tail) (cap:=cap') t1 (by simp only[List.length_append,hz];omega) t4;simp only[List.length_append,hz,cz_append]at this;rw[h.take];exact this
theorem RowP.app1{c:F}{n cap:Nat}(h:RowP c n cap)(x:Int){tail:F}{cap':Nat}(ht:jbm tail cap' (n+1) 1=true):
  RowP (c.take (n*1)++ [.int .u8 x]++tail) (n+1) cap'∧zc (c.take (n*1)++ [.int .u8 x]++tail) (n+1)=zc c n++ [x]:=by
 rw[Nat.mul_one];exact h.app [x] ht
theorem RowP.ask{c:F}{n cap:Nat}(h:RowP c n cap){k:Nat}(hk:n+k≤1000000):
  (Nat.beq c.length (cap*1) &&Nat.ble n cap&&Nat.ble cap 9223372036854775807&&true&&jcj (n+k) 1)=true:=by
 have h1:=h.len;have h2:=h.le;have h3:=h.cap;simp only[jcj,jaf,Nat.ble_eq,Nat.beq_eq,Nat.mul_one];exact⟨⟨⟨⟨h1,h2⟩,h3⟩,trivial⟩,by omega,by omega⟩
theorem jfx(M:J){tail:F}{cap':Nat}(ht:jbm tail cap' M.length 1=true):RowP (cz M++tail) M.length cap'∧zc (cz M++tail) M.length=M:=by
 obtain⟨t1,t2,t3,t4⟩:=je3 ht;exact jlu M t1 (by omega) t4
theorem RowP.good{c:F}{n cap:Nat}(h:RowP c n cap)(ps:List (Nat×Nat)):jas ps c=true:=goodL_plain h.plain
theorem RowP.rlb{c:F}{n cap:Nat}(h:RowP c n cap)(ps:List (Nat×Nat)):rlbL ps c=c:=rlbL_plain ps h.plain
theorem jbl{c:F}(h:jay c=true)(n:Nat):jaw n c=true:=by
 simp[jaw,jao h]
def G0:Env:=Env.nil
theorem ok_G0:ja0 Tryz.prog G0:=jav
def rep1(c:Int)(n:Nat):J:=List.replicate n c
theorem rep1_succ(c:Int)(n:Nat):[c]++rep1 c n=rep1 c (n+1):=rfl
def tenZ(n:Nat):Int:=10^n
theorem tenZ_succ(n:Nat):tenZ (n+1)=tenZ n*10:=Int.pow_succ ..
def unK(c:Int):Bool:=hasZ punchedZ c
def unD(c:Int):Int:=if unK c then(idxZ punchedZ c)%10 else 0
def unM(c:Int):Bool:=if unK c then decide (10≤idxZ punchedZ c)else false
def puZ(d:Int)(m:Bool):Int:=if 0≤d∧d≤9 then punchedZ.getD (if m then d+10 else d).toNat 0 else 0
def sgZ(c:Int)(m:Bool):Int:=if c=36 then 36 else if m then(if c=43 then 32 else 45)else if c=45 then 32 else 43
def fmZ(c d:Int)(m:Bool):Int:=if c=89∧d=48 then 32 else if c=84∨(c=73∧m=false)∨(c=82∧m=true)then puZ (d-48) m else d
def letZ(b:Int):Bool:=decide (65≤b∧b≤90∨97≤b∧b≤122)
def oneZ(c b:Int):Bool:=if c=88∨b=32 then true else if c=57 then jg4 b else letZ b
theorem dig_cases{d:Int}(h:0≤d∧d≤9):d=0∨d=1∨d=2∨d=3∨d=4∨d=5∨d=6∨d=7∨d=8∨d=9:=by omega
def s28(c:U8):Bool×Value:=(true,.tuple ⟨[.int .i64 (unD c.n),.bool (unM c.n),.bool (unK c.n)]⟩)
def gx(c:F)(a b:Value):Value:= .tuple ⟨a::b::c⟩
def ak(a:Int):Value:= .int .i64 a
def fy:F:=[.bool false]
def ia(b:Int)(c:Nat)(a:Value→Prop):Prop:=a (gx [.bool true] (ak b) (.bool (decide (c≥10))))
def ib(a:Int)(b:Px.U8):Bool:=a==U8.n b
theorem v28(c:U8)(R:Value→Prop):jaz Tryz.prog G0 noL Tryz.f243 [Enc.enc c] (fun _=>none) 0 (fun v _ _=>R v)=(bif ib 123 c then ia 0 0 R else bif ib 65 c then ia 1 1 R else bif ib 66 c then ia 2 2 R else bif ib 67 c then ia 3 3 R else bif ib 68 c then ia 4 4 R else bif ib 69 c then ia 5 5 R else bif ib 70 c then ia 6 6 R else bif ib 71 c then ia 7 7 R else bif ib 72 c then ia 8 8 R else bif ib 73 c then ia 9 9 R else bif ib 125 c then ia 0 10 R else bif ib 74 c then ia 1 11 R else bif ib 75 c then ia 2 12 R else bif ib 76 c then ia 3 13 R else bif ib 77 c then ia 4 14 R else bif ib 78 c then ia 5 15 R else bif ib 79 c then ia 6 16 R else bif ib 80 c then ia 7 17 R else bif ib 81 c then ia 8 18 R else bif ib 82 c then ia 9 19 R else R (gx fy (ak 0) (B false))):=by kernel_rfl
theorem ok28:jan Tryz.prog 243 (sp1 s28):=by
 refine jck ok_G0 hmix (.m Tryz.func243) jaj jag fun c hc=> ?_
 rw[ja5,v28];delta gx ak fy ia ib;dsimp only[s28];obtain⟨c⟩:=c;dsimp only
 repeat' (refine cond_intro (fun h=> ?_) (fun h=> ?_))
 all_goals first
  | (have h:=eq_of_beq h;subst h;rfl)
  | (have hk : unK c = false := by simp_all [unK, hasZ, punchedZ]
     simp[unD,unM,hk])
def s26(d:Int)(m:Bool):Bool×Value:=(true,.tuple ⟨[.int .u8 (puZ d m),.bool (decide (0≤d∧d≤9))]⟩)
def br(a b c:Bool)(d e:Prop):Prop:=bif a || b then bif c then d else e else False
def aq(a:Bool)(c:Value)(b:Value→Prop):Prop:=bif a then b c else False
def bm(a:Int):Value:= .int .u8 a
def pu:F:=[bm 123,bm 65,bm 66,bm 67,bm 68,bm 69,bm 70,bm 71,bm 72,bm 73,bm 125,bm 74,bm 75,bm 76,bm 77,bm 78,bm 79,bm 80,bm 81,bm 82]
def ct(a b:Int):Bool:=decide (0≤a∧a<b)
def o1(a:Int)(b:Nat)(c:Value→Prop):Prop:=bif ct a 20 then aq (jbc .u8 pu b) (gx [] (.int .u8 (jaq pu b)) (.bool true)) c else False
def e7(a:Int):Nat:=0+a.toNat*1
def jx(a:Int):Nat:=0+a.toNat*1
def bk(a b:Int):Int:=IntKind.i64.wrap (a+b)
def dw(a b:Int):Bool:=decide (a>b)
def au(a b:Int):Bool:=decide (a<b)
theorem v26(d:Int)(m:Bool)(R:Value→Prop):jaz Tryz.prog G0 noL Tryz.f297 [Enc.enc d,Enc.enc m] (fun _=>none) 0 (fun v _ _=>R v)=(br (au d 0) true (au d 0 || dw d 9) (R (gx [] (bm 0) (B false))) (bif m then o1 (bk d 10) (jx (bk d 10)) R else o1 d (e7 d) R)):=by kernel_rfl
theorem ok26:jan Tryz.prog 297 (sp2 s26):=by
 refine jdg ok_G0 hmix (.m Tryz.func297) jaj jag fun d m hc=> ?_
 rw[ja5,v26];delta br aq gx bm pu ct o1 e7 jx bk dw au;dsimp only[s26];refine c_t (by simp) ?_;apply cond_intro<;>intro h
 ·have h:¬(0≤d∧d≤9):=by
   simp only[Bool.or_eq_true,jae]at h;omega
  simp[puZ,h]
 ·have h:0≤d∧d≤9:=by
   simp only[Bool.or_eq_false_iff,decide_eq_false_iff_not]at h;omega
  rcases dig_cases h with rfl | rfl | rfl | rfl | rfl | rfl | rfl | rfl | rfl | rfl<;>cases m<;>exact rfl
def drGo(s:J):J→Int
 | []=>0
 | c::r=>if hasZ [36,83,43,45] c=true∧2≤cntZ s c then c else drGo s r
def drZ(s:J):Int:=drGo s s
def jgt(s:J):Bool:=s.all (fun c=>hasZ [65,88,57] c) && (hasZ s 65 || hasZ s 88)
def crZ(s:J):Bool:=decide (2≤s.length) && (decide (s.drop (s.length-2)=[67,82]) || decide (s.drop (s.length-2)=[68,66]))
theorem has_dr{c:Int}:hasZ [36,83,43,45] c=true↔c=36∨c=83∨c=43∨c=45:=by simp[jbk]
def cdGo:J→Int→Int→Bool×Int×Int
 | [],n,i=>(true,n,i)
 | c::r,n,i=>if jg4 c=true then(if 1≤n*10+(c-48)∧n*10+(c-48)≤32 then cdGo r (n*10+(c-48)) (i+1)else(false,0,0))else(true,n,i)
def ctP(l:J)(i:Int):Prop:=(cdGo (l.drop i.toNat) 0 i).1=true∧1≤(cdGo (l.drop i.toNat) 0 i).2.1∧(cdGo (l.drop i.toNat) 0 i).2.2<l.length∧l.getD (cdGo (l.drop i.toNat) 0 i).2.2.toNat 0=41
instance (l:List Int)(i:Int):Decidable (ctP l i):=by unfold ctP;infer_instance
def kL:J:=[57,86,90,42,89,84,73,82,83,43,45,36,44,46,47,66,67,68,65,88]
def xpGo:J→Int→Int→J→J×Bool
 | [],st,_,out=>(out,decide (st=0))
 | c::r,st,n,out=>
  if st=1 then
   (if c=41 then(if 0<n then xpGo r 2 n out else([],false))
   else if jg4 c=true∧ ¬(n=0∧c=48)∧10*n+(c-48)≤32 then xpGo r 1 (10*n+(c-48)) out else([],false))
  else if c=41∨st=2∧c=40 then([],false)
  else if c=40 then xpGo r 1 0 out
  else if hasZ kL (upZ c)=true∧(out.length:Int)+(if st=2 then n else 1)≤32 then xpGo r 0 0 (out++rep1 (upZ c) (if st=2 then n else 1).toNat)else([],false)
def exOK(l:J):Bool:=(xpGo l 0 0 []).2&& !(xpGo l 0 0 []).1.isEmpty
def exZ(l:J):J:=if exOK l=true then(xpGo l 0 0 []).1 else []
def mk1(dr:Int)(seen:Bool)(c:Int):Int:=bif hasZ [57,89,84,73,82] c then 100 else bif hasZ [90,42] c || (dr !=0&& (c==dr&&seen))then 99
 else bif c==86 then 118 else bif c==36 then 109 else bif hasZ [83,43,45] c then 115 else 105
def mkGo(dr:Int):Bool→J→J
 | _,[]=> []
 | seen,c::r=>mk1 dr seen c::mkGo dr (seen || (dr !=0&&c==dr)) r
def jal(s:J):J:=if crZ s=true then s.take (s.length-2)else s
def ja4(s:J):J:=mkGo (drZ (jal s)) false (jal s)++(if crZ s=true then [115,115]else [])
def df1(s:J)(dr:Int):J→Int→Int→Int→Bool×Int×Int
 | [],_,f,l=>(true,f,l)
 | c::r,i,f,l=>bif c==dr then df1 s dr r (i+1) (if f<0 then i else f) i
  else bif hasZ [36,83,43,45] c&&decide (2≤cntZ s c)then(false,0,0)else df1 s dr r (i+1) f l
def d2Go(dr f:Int):J→Int→Bool
 | [],_=>true
 | c::r,i=> !(decide (i<f) &&c==86) && (!(decide (i>f) && (c !=dr&& !hasZ [44,46,47,66,86] c)) &&d2Go dr f r (i+1))
def jdo(s:J):Bool:=drZ s==0 || ((df1 s (drZ s) s 0 (-1) (-1)).1&&d2Go (drZ s) (df1 s (drZ s) s 0 (-1) (-1)).2.1 (s.take (df1 s (drZ s) s 0 (-1) (-1)).2.2.toNat) 0)
def ldGo:J→Bool→Bool→Bool→Int→Bool×Bool×Bool×Int
 | [],fm,bh,_,dg=>(true,fm,bh,dg)
 | m::r,fm,bh,pt,dg=>bif m==118 then ldGo r fm bh true dg else bif m==100 then ldGo r true bh pt (dg+1)
  else bif m==99 then(bif fm then(false,false,false,0)else ldGo r fm (bh || pt) pt (dg+1))else ldGo r fm bh pt dg
def jgy(b ms:J):Bool:=bif hasZ b 90&&hasZ b 42 then false else bif (hasZ b 90 || hasZ b 42) &&drZ b !=0 then false
 else(ldGo ms false false false 0).1&& (decide (1≤(ldGo ms false false false 0).2.2.2) && (decide ((ldGo ms false false false 0).2.2.2≤9) && !((ldGo ms false false false 0).2.2.1&& (ldGo ms false false false 0).2.1)))
def b2i(b:Bool):Int:=if b then 1 else 0
def jf5(s:J):Int:=b2i (crZ s)+b2i (hasZ (jal s) 83)+b2i (hasZ (jal s) 43)+b2i (hasZ (jal s) 45)+cntZ (jal s) 84+cntZ (jal s) 73+cntZ (jal s) 82
def stIn(dr i:Int):J→J→Int→Bool→Bool→Bool×Bool
 | c::cs,m::ms,j,a,b=>bif m==100 || (m==99 || c==dr)then stIn dr i cs ms (j+1) (a || decide (j<i)) (b || decide (j>i))else stIn dr i cs ms (j+1) a b
 | _,_,_,a,b=>(a,b)
def stGo(dr:Int)(body ms:J):J→Int→Bool
 | [],_=>true
 | c::r,i=>(bif !hasZ [36,83,43,45] c || c==dr then true else !((stIn dr i body ms 0 false false).1&& (stIn dr i body ms 0 false false).2)) &&stGo dr body ms r (i+1)
def jkf(body ms:J):Bool:=stGo (drZ body) body ms body 0
theorem jmz(dr:Int):∀(l:J)(b:Bool),(mkGo dr b l).length=l.length
 | [],_=>rfl
 | c::r,b=>by simp only[mkGo,List.length_cons,jmz dr r]
theorem marks_len(l:J):(ja4 l).length=l.length:=by
 unfold ja4 jal;cases h:crZ l with
 | false=>simp[jmz]
 | true=>
  have:2≤l.length:=by
   simp only[crZ,jaf,jae]at h;exact h.1
  simp[jmz];omega
def numV(s:J):Bool:= !jgt s&& (!(jal s).any (hasZ [65,88,67,68]) && (decide ((cntZ (jal s) 86:Int)≤1) && (jdo (jal s) && (jgy (jal s) (ja4 (jal s)) && (decide (jf5 s≤1) &&jkf (jal s) (ja4 (jal s)))))))
def vOK(l:J):Bool:=exOK l&& (jgt (exZ l) || numV (exZ l))
def pN(l:J):Bool:=exOK l&&numV (exZ l)
def pS(l:J):J:=if vOK l=true then exZ l else []
def pW(l:J):Int:=if vOK l=true then(if jgt (exZ l)=true then((exZ l).length:Int)else(exZ l).length-cntZ (exZ l) 86)else 0
def isP(m:Int):Bool:=m==100 || m==99
def pdGo:J→Int
 | []=>0
 | m::r=>(bif isP m then 1 else 0)+pdGo r
def pqGo(s:J):J→Int→Int
 | [],_=>0
 | m::r,i=>(bif isP m&&hasZ (s.take i.toNat) 86 then 1 else 0)+pqGo s r (i+1)
def pD(l:J):Int:=if pN l=true then pdGo (ja4 (exZ l))else 0
def pQ(l:J):Int:=if pN l=true then pqGo (exZ l) (ja4 (exZ l)) 0 else 0
def pG(l:J):Bool:=pN l&&jf5 (exZ l)==1
def pE(l:J):Int:=if vOK l=true then 0 else 30
def picV(l:J):Value:= .agg ⟨[.string (sz (pS l)),.bool (pN l),.int .i64 (pW l),.int .i64 (pD l),.int .i64 (pQ l),.bool (pG l)]⟩
theorem up_rng{c:Int}(h:0≤c∧c<256):0≤upZ c∧upZ c<256:=by unfold upZ;split<;>omega
theorem jka:∀(l:J)(st n:Int)(out:J),IsB l→IsB out→out.length≤32→IsB (xpGo l st n out).1∧(xpGo l st n out).1.length≤32
 | [],st,n,out,_,h2,h3=>⟨h2,h3⟩
 | c::r,st,n,out,h1,h2,h3=>by
  have hc:=h1 c (List.mem_cons_self ..);have hr:IsB r:=fun x hx=>h1 x (List.mem_cons_of_mem _ hx)
  have nil:IsB (([],false):J×Bool).1∧(([],false):J×Bool).1.length≤32:=⟨IsB.nil,Nat.zero_le _⟩
  rw[xpGo];by_cases e1:st=1
  ·rw[if_pos e1];split
   ·split
    ·exact jka r _ _ out hr h2 h3
    ·exact nil
   ·split
    ·exact jka r _ _ out hr h2 h3
    ·exact nil
  ·rw[if_neg e1];by_cases e2:c=41∨st=2∧c=40
   ·rw[if_pos e2];exact nil
   ·rw[if_neg e2];by_cases e3:c=40
    ·rw[if_pos e3];exact jka r _ _ out hr h2 h3
    ·rw[if_neg e3];by_cases hq:hasZ kL (upZ c)=true∧(out.length:Int)+(if st=2 then n else 1)≤32
     ·rw[if_pos hq];refine jka r _ _ _ hr (h2.append fun x hx=> ?_) ?_
      ·rw[List.eq_of_mem_replicate hx];exact up_rng hc
      ·rw[List.length_append];simp only[rep1,List.length_replicate];have:=hq.2;omega
     ·rw[if_neg hq];exact nil
theorem jm9(s:Y):IsB (exZ (bz s))∧(exZ (bz s)).length≤32:=by
 unfold exZ;split
 ·exact jka _ _ _ _ (jdb s) IsB.nil (Nat.zero_le _)
 ·exact⟨IsB.nil,Nat.zero_le _⟩
theorem jlr:sz []=⟨#[]⟩:=rfl
structure Pic where
 s:Y
 n:Bool
 w:Int
 d:Int
 q:Int
 g:Bool
instance:Enc Pic where
 enc p:= .agg ⟨[.string p.s,.bool p.n,.int .i64 p.w,.int .i64 p.d,.int .i64 p.q,.bool p.g]⟩
 dec | .agg ⟨[.string a,.bool b,.int .i64 c,.int .i64 d,.int .i64 e,.bool f]⟩=>some ⟨a,b,c,d,e,f⟩ | _=>none
 dec_some:=by
  intro v a h;split at h
  ·cases h;rfl
  ·cases h
 plain_enc _:=rfl
def tyK(l:J):Int:=if vOK l=true then(if pN l=true then 1 else 3)else 0
def tyP(l:J):Int:=if vOK l=true then(if pN l=true then pD l else pW l)else 0
def tyV(l:J):Value:= .agg ⟨[.int .i64 (tyK l),.int .i64 (tyP l),.int .i64 (pQ l),.bool false,.string ⟨#[]⟩]⟩
def cuM(n q sc:Int):Int:=if q≥sc then(n.natAbs:Int)/tenZ (q-sc).toNat else n.natAbs*tenZ (sc-q).toNat
def cuV(n q sc d:Int):Int:=cuM n q sc%tenZ d.toNat
def cuN(n q sc d:Int)(g:Bool):Int:=if n<0∧g=true then 0-cuV n q sc d else cuV n q sc d
def cuF(n q sc d:Int)(g:Bool):Bool:=decide (cuM n q sc<tenZ d.toNat) && (decide (n≥0) || (g || cuV n q sc d==0))
def ssZ(c dr:Int)(m:Bool):Int:=bif dr !=0&&c==dr then 32 else bif hasZ [67,82,68,66] c then(bif m then c else 32)else sgZ c m
theorem pE_ne(l:J):(pE l !=0)= !vOK l:=by
 unfold pE;cases vOK l<;>rfl
theorem jdh{l:J}(h:pN l=true):vOK l=true:=by
 simp only[pN,jaf]at h;simp[vOK,h.1,h.2]
theorem tenZ_le9{n:Nat}(h:n≤9):tenZ n≤1000000000:=by
 match n,h with
 | 0,_ | 1,_ | 2,_ | 3,_ | 4,_ | 5,_ | 6,_ | 7,_ | 8,_ | 9,_=>decide
theorem tenZ_add(a b:Nat):tenZ (a+b)=tenZ a*tenZ b:=Int.pow_add ..
theorem jiz:∀(ms:J)(fm bh pt:Bool)(dg:Int),(ldGo ms fm bh pt dg).1=true→(ldGo ms fm bh pt dg).2.2.2=dg+pdGo ms
 | [],fm,bh,pt,dg,_=>by simp[ldGo,pdGo]
 | m::r,fm,bh,pt,dg,h=>by
  rw[ldGo]at h ⊢;rw[pdGo];cases h1:(m==118)with
  | true=>
   rw[h1,cond_true]at h;have hm:=eq_of_beq h1;subst hm;simp only[cond_true,isP];rw[jiz r _ _ _ _ h];simp
  | false=>
   rw[h1,cond_false]at h;cases h2:(m==100)with
   | true=>
    rw[h2,cond_true]at h;simp only[cond_true,cond_false,isP,h2,Bool.true_or];rw[jiz r _ _ _ _ h];omega
   | false=>
    rw[h2,cond_false]at h;cases h3:(m==99)with
    | true=>
     rw[h3,cond_true]at h;cases fm with
     | true=>cases h
     | false=>
      rw[cond_false]at h;simp only[cond_true,cond_false,isP,h2,h3,Bool.false_or];rw[jiz r _ _ _ _ h];omega
    | false=>
     rw[h3,cond_false]at h;simp only[cond_false,isP,h2,h3,Bool.false_or];rw[jiz r _ _ _ _ h];omega
theorem jmv:∀a b:J,pdGo (a++b)=pdGo a+pdGo b
 | [],b=>by simp[pdGo]
 | m::r,b=>by simp only[List.cons_append,pdGo,jmv r b];omega
theorem pd_nn:∀a:J,0≤pdGo a
 | []=>by simp[pdGo]
 | m::r=>by have:=pd_nn r;simp only[pdGo];cases isP m<;>simp<;>omega
theorem pq_rng(s:J):∀(a:J)(i:Int),0≤pqGo s a i∧pqGo s a i≤pdGo a
 | [],i=>by simp[pqGo,pdGo]
 | m::r,i=>by
  have:=pq_rng s r (i+1);simp only[pqGo,pdGo];cases isP m<;>cases hasZ (s.take i.toNat) 86<;>simp<;>omega
theorem body_ncr{s:J}(h:(jal s).any (hasZ [65,88,67,68])=false):crZ (jal s)=false:=by
 cases hc:crZ (jal s)with
 | false=>rfl
 | true=>
  exfalso;simp only[crZ,jaf,Bool.or_eq_true,jae]at hc;have:∀c∈jal s,hasZ [65,88,67,68] c=false:=by simpa using h
  rcases hc.2 with h1 | h1
  ·have hm:(67:Int)∈(jal s).drop ((jal s).length-2):=by rw[h1];simp
   exact absurd (this _ (List.mem_of_mem_drop hm)) (by decide)
  ·have hm:(68:Int)∈(jal s).drop ((jal s).length-2):=by rw[h1];simp
   exact absurd (this _ (List.mem_of_mem_drop hm)) (by decide)
theorem jgl{s:J}(h:(jal s).any (hasZ [65,88,67,68])=false):ja4 (jal s)=mkGo (drZ (jal s)) false (jal s):=by
 have hc:=body_ncr h;have gen:∀l:J,crZ l=false→jal l=l:=fun l h=>by simp[jal,h]
 have hb:jal (jal s)=jal s:=gen _ hc;unfold ja4;rw[hb,hc];simp
structure NumP (s:J):Prop where
 nch:jgt s=false
 plain:(jal s).any (hasZ [65,88,67,68])=false
 one:(cntZ (jal s) 86:Int)≤1
 dr:jdo (jal s)=true
 ld:jgy (jal s) (mkGo (drZ (jal s)) false (jal s))=true
 sg:jf5 s≤1
 st:jkf (jal s) (mkGo (drZ (jal s)) false (jal s))=true
theorem numV_iff{s:J}:numV s=true↔NumP s:=by
 constructor
 ·intro h;simp only[numV,jaf,Bool.not_eq_true',jae]at h;obtain⟨h1,h2,h3,h4,h5,h6,h7⟩:=h;rw[jgl h2]at h5 h7;exact⟨h1,h2,h3,h4,h5,h6,h7⟩
 ·rintro ⟨h1,h2,h3,h4,h5,h6,h7⟩;rw[←jgl h2]at h5 h7;simp only[numV,jaf,Bool.not_eq_true',jae];exact⟨h1,h2,h3,h4,h5,h6,h7⟩
theorem num_digits{s:J}(h:NumP s):1≤pdGo (ja4 s)∧pdGo (ja4 s)≤9:=by
 have hl:=h.ld
 have e:pdGo (ja4 s)=pdGo (mkGo (drZ (jal s)) false (jal s)):=by
  unfold ja4;rw[jmv];split
  ·have:pdGo [115,115]=0:=by decide
   omega
  ·simp[pdGo]
 rw[e];unfold jgy at hl;cases h1:(hasZ (jal s) 90&&hasZ (jal s) 42)with
 | true=>rw[h1]at hl;cases hl
 | false=>
  rw[h1,cond_false]at hl;cases h2:((hasZ (jal s) 90 || hasZ (jal s) 42) &&drZ (jal s) !=0)with
  | true=>rw[h2]at hl;cases hl
  | false=>
   rw[h2,cond_false]at hl;simp only[jaf,jae]at hl;obtain⟨g1,g2,g3,_⟩:=hl;have:=jiz _ _ _ _ _ g1;omega
theorem jhz{l:J}(h:pN l=true):NumP (exZ l):=by
 simp only[pN,jaf]at h;exact numV_iff.1 h.2
theorem jed{l:J}(h:pN l=true):1≤pD l∧pD l≤9∧0≤pQ l∧pQ l≤pD l:=by
 have h1:=num_digits (jhz h);have h2:=pq_rng (exZ l) (ja4 (exZ l)) 0;simp only[pD,pQ,h,if_true];omega
theorem jiy(s:Y):IsB (pS (bz s))∧(pS (bz s)).length≤32:=by
 unfold pS;split
 ·exact jm9 s
 ·exact⟨IsB.nil,Nat.zero_le _⟩
def digZ:Int→Nat→J
 | _,0=> []
 | v,n+1=>digZ (v/10) n++ [48+v%10]
theorem isBytes_iff{l:F}:jbx l=true↔ ∀v∈l,∃n,v= .int .u8 n:=by
 induction l with
 | nil=>simp[jbx]
 | cons v r ih=>
  constructor
  ·intro h;unfold jbx at h;split at h
   ·rename_i heq;cases heq
   ·rename_i n r' heq;cases heq;intro u hu;rcases List.mem_cons.1 hu with rfl | hu
    ·exact⟨_,rfl⟩
    ·exact ih.1 h u hu
   ·cases h
  ·intro h;obtain⟨n,rfl⟩:=h v (List.mem_cons_self ..);exact ih.2 fun u hu=>h u (List.mem_cons_of_mem _ hu)
theorem RowP.set{c:F}{n cap:Nat}(h:RowP c n cap)(x:Int){i:Nat}(hi:i<n):
  RowP (setL c (0+i*1) [.int .u8 x]) n cap∧zc (setL c (0+i*1) [.int .u8 x]) n=(zc c n).set i x∧Nat.ble (0+i*1+1) c.length=true:=by
 have e:setL c (0+i*1) [.int .u8 x]=c.set i (.int .u8 x):=by simp[setL]
 have h1:=h.len;have h2:=h.le;rw[e];refine⟨⟨?_,?_,by simp[h1],h2,h.cap⟩,?_,Nat.ble_eq_true_of_le (by omega)⟩
 ·rw[List.take_set];refine isBytes_iff.2 fun v hv=> ?_
  rcases List.mem_or_eq_of_mem_set hv with hv | rfl
  ·exact isBytes_iff.1 h.bytes v hv
  ·exact⟨_,rfl⟩
 ·refine ja2.2 fun v hv=> ?_
  rcases List.mem_or_eq_of_mem_set hv with hv | rfl
  ·exact ja2.1 h.plain v hv
  ·rfl
 ·simp only[zc,List.take_set,List.map_set,iv]
theorem rep_isB(c:Int)(n:Nat)(h:0≤c∧c<256):IsB (rep1 c n):=fun x hx=>by rw[List.eq_of_mem_replicate hx];exact h
theorem jd7:∀(n:Nat)(v:Int),(digZ v n).length=n
 | 0,_=>rfl
 | n+1,v=>by simp[digZ,jd7 n]
def jg6:J→J→Int→Int
 | [],_,o=>o
 | m::r,ds,o=>bif (m==118 || m==100) || (m==99&&ds.headD 0 !=48)then o else jg6 r (bif m==99 then ds.tail else ds) (o+1)
def endZ(ms ds:J)(w:Int)(k:Nat):Int:=bif !hasZ ms 99 then 0 else bif !hasZ ms 100&&decide (ds=rep1 48 k)then w else jg6 ms ds 0
def fdGo(le fill dr:Int)(neg:Bool):J→J→J→Int→J
 | [],_,_,_=> []
 | m::r,sp,ds,o=>
  bif m==100 then fmZ (sp.headD 0) (ds.headD 0) neg::fdGo le fill dr neg r sp.tail ds.tail (o+1)
  else bif m==99 then(bif decide (o<le)then fill else ds.headD 0)::fdGo le fill dr neg r sp.tail ds.tail (o+1)
  else bif m==105 then(bif sp.headD 0==66 then 32 else bif decide (o<le)then fill else sp.headD 0)::fdGo le fill dr neg r sp.tail ds (o+1)
  else bif m !=118 then ssZ (sp.headD 0) dr neg::fdGo le fill dr neg r sp.tail ds (o+1)
  else fdGo le fill dr neg r sp.tail ds o
def dgL(l:J):Bool:=l.all fun d=>decide (48≤d∧d≤57)
def fdFl(sp:J):Int:=if hasZ sp 42=true then 42 else 32
def fdLe(sp:J)(w:Int)(k:Nat)(n:Int):Int:=endZ (ja4 sp) (digZ n.natAbs k) w k
def fdBl(sp:J)(w:Int)(k:Nat)(n:Int):Bool:=decide (fdLe sp w k n>0) && (fdLe sp w k n==w&& (n==0&& !hasZ (ja4 sp) 100))
def fdDr(sp:J):Int:=bif !hasZ sp 90&& (!hasZ sp 42&&hasZ (ja4 sp) 99)then drZ sp else 0
def jg5(sp:J)(w:Int)(k:Nat)(n:Int):J:=fdGo (fdLe sp w k n) (fdFl sp) (fdDr sp) (decide (n<0)) (ja4 sp) sp (digZ n.natAbs k) 0
def jft(sp:J)(w:Int)(k:Nat)(n:Int):J:=
 bif fdBl sp w k n then rep1 (fdFl sp) w.toNat else bif fdDr sp !=0 then(jg5 sp w k n).set (fdLe sp w k n-1).toNat (sgZ (fdDr sp) (decide (n<0)))else jg5 sp w k n
def fdOK(sp:J)(w:Int)(k:Nat)(n:Int):Bool:=fdBl sp w k n || (fdDr sp==0 || decide (1≤fdLe sp w k n∧fdLe sp w k n≤(jg5 sp w k n).length))
theorem jfz:∀(n:Nat)(v:Int),dgL (digZ v n)=true
 | 0,_=>rfl
 | n+1,v=>by
  have:=jfz n (v/10);simp only[dgL]at this ⊢;simp only[digZ,List.all_append,this,List.all_cons,List.all_nil,Bool.and_true,Bool.true_and,jae];omega
theorem jij{l:J}(h:dgL l=true):IsB l:=fun x hx=>by
 simp only[dgL,List.all_eq_true,jae]at h;have:=h x hx;omega
theorem drGo_none(s:J):∀t:J,(∀c∈t,hasZ [36,83,43,45] c=false)→drGo s t=0
 | [],_=>rfl
 | c::r,h=>by
  have h1:=h c (List.mem_cons_self ..);rw[drGo,if_neg (by simp[h1])];exact drGo_none s r fun x hx=>h x (List.mem_cons_of_mem _ hx)
theorem cnt_app(a b:J)(c:Int):cntZ (a++b) c=cntZ a c+cntZ b c:=by
 simp[cntZ]
theorem cnt_none{t:J}{c:Int}(h:c∉t):cntZ t c=0:=by
 simp only[cntZ,List.length_eq_zero_iff,List.filter_eq_nil_iff];intro x hx;simp;rintro rfl;exact h hx
theorem dr_app(b t:J)(ht:∀c∈t,hasZ [36,83,43,45] c=false):∀r,drGo (b++t) (r++t)=drGo b r
 | []=>by
  rw[List.nil_append,drGo_none _ _ ht];rfl
 | c::r=>by
  rw[List.cons_append,drGo,drGo,dr_app b t ht r];cases hc:hasZ [36,83,43,45] c with
  | false=>simp
  | true=>
   have:c∉t:=fun hx=>by rw[ht c hx]at hc;cases hc
   rw[cnt_app,cnt_none this];simp
theorem jex(s:J):∃t,s=jal s++t∧(t=[]∧crZ s=false∨(t=[67,82]∨t=[68,66])∧crZ s=true):=by
 unfold jal;by_cases h:crZ s=true
 ·rw[if_pos h];refine⟨s.drop (s.length-2),(List.take_append_drop ..).symm,.inr ⟨?_,h⟩⟩;simp only[crZ,jaf,Bool.or_eq_true,jae]at h;exact h.2
 ·rw[if_neg h];exact⟨[],by simp,.inl ⟨rfl,by simpa using h⟩⟩
theorem dr_body(s:J):drZ s=drZ (jal s):=by
 obtain⟨t,h,ht⟩:=jex s
 have:=dr_app (jal s) t (by
  intro c hc;rcases ht with⟨rfl,_⟩ | ⟨rfl | rfl,_⟩
  ·cases hc
  ·rcases List.mem_cons.1 hc with rfl | hc
   ·decide
   ·rcases List.mem_cons.1 hc with rfl | hc
    ·decide
    ·cases hc
  ·rcases List.mem_cons.1 hc with rfl | hc
   ·decide
   ·rcases List.mem_cons.1 hc with rfl | hc
    ·decide
    ·cases hc) (jal s)
 rw[←h]at this;exact this
theorem jih(s:J):∀r:J,drGo s r=0∨(hasZ [36,83,43,45] (drGo s r)=true∧drGo s r∈r)
 | []=> .inl rfl
 | c::r=>by
  rw[drGo];split
  ·rename_i h;exact .inr ⟨h.1,List.mem_cons_self ..⟩
  ·rcases jih s r with h | ⟨h1,h2⟩
   ·exact .inl h
   ·exact .inr ⟨h1,List.mem_cons_of_mem _ h2⟩
theorem jh5:∀(r:J)(bh pt:Bool)(dg:Int),99∈r→(ldGo r true bh pt dg).1=false
 | m::r,bh,pt,dg,h=>by
  rw[ldGo];rcases List.mem_cons.1 h with rfl | h
  ·rfl
  ·cases m==118 with
   | true=>exact jh5 r _ _ _ h
   | false=>
    cases m==100 with
    | true=>exact jh5 r _ _ _ h
    | false=>
     cases m==99 with
     | true=>rfl
     | false=>exact jh5 r _ _ _ h
theorem jlh(s:J)(dr:Int):∀(r:J)(i f l:Int),0<i→(f<0∨1≤f)→(df1 s dr r i f l).1=true→(dr∈r∨(1≤f∧1≤l))→1≤(df1 s dr r i f l).2.1∧1≤(df1 s dr r i f l).2.2
 | [],i,f,l,hi,hf,hk,h=>by
  rcases h with h | h
  ·cases h
  ·exact h
 | c::r,i,f,l,hi,hf,hk,h=>by
  rw[df1]at hk ⊢;cases hc:(c==dr)with
  | true=>
   rw[hc,cond_true]at hk;rw[cond_true];exact jlh s dr r _ _ _ (by omega) (by split<;>omega) hk (.inr ⟨by split<;>omega,by omega⟩)
  | false=>
   have hne:c≠dr:=by simpa using hc
   rw[hc,cond_false]at hk;rw[cond_false];cases h2:(hasZ [36,83,43,45] c&&decide (2≤cntZ s c))with
   | true=>rw[h2]at hk;cases hk
   | false=>
    rw[h2,cond_false]at hk;rw[cond_false];refine jlh s dr r _ _ _ (by omega) hf hk ?_;rcases h with h | h
    ·rcases List.mem_cons.1 h with h | h
     ·exact absurd h.symm hne
     ·exact .inl h
    ·exact .inr h
theorem drifts_head{c:Int}{r:J}(h:jdo (c::r)=true)(h0:drZ (c::r)≠0):c≠86:=by
 rintro rfl;simp only[jdo,Bool.or_eq_true,beq_iff_eq,jaf]at h;rcases h with h | ⟨h1,h2⟩
 ·exact h0 h
 have hd:=(jih (86::r) (86::r)).resolve_left h0;have hd:hasZ [36,83,43,45] (drZ (86::r))=true∧drZ (86::r)∈86::r:=hd;generalize hg:drZ (86::r)=dr at*
 have hne:((86:Int)==dr)=false:=by
  cases e:((86:Int)==dr)with
  | false=>rfl
  | true=>rw[←eq_of_beq e]at hd;exact absurd hd.1 (by decide)
 have hs:hasZ [36,83,43,45] 86=false:=by decide
 rw[df1,hne,cond_false,hs,Bool.false_and,cond_false]at h1 h2
 have hm:dr∈r:=by
  rcases List.mem_cons.1 hd.2 with rfl | h
  ·simp at hne
  ·exact h
 obtain⟨g1,g2⟩:=jlh (86::r) dr r (0+1) (-1) (-1) (by omega) (by omega) h1 (.inl hm);generalize (df1 (86::r) dr r (0+1) (-1) (-1)).2.2=l at*;generalize (df1 (86::r) dr r (0+1) (-1) (-1)).2.1=f at*;obtain⟨k,hk⟩:∃k,l.toNat=k+1:=⟨l.toNat-1,by omega⟩
 rw[hk,List.take_succ_cons,d2Go,jaa (show 0<f by omega)]at h2;simp at h2
def nv(l:J):Nat:=(l.filter (· !=118)).length
theorem je5(m:Int)(r:J):nv (m::r)=(if m=118 then 0 else 1)+nv r:=by
 unfold nv;by_cases h:m=118
 ·simp[h]
 ·simp[h];omega
theorem nv_app(a b:J):nv (a++b)=nv a+nv b:=by simp[nv]
theorem jl5:∀(ms ds:J)(o:Int),o≤jg6 ms ds o∧jg6 ms ds o≤o+nv ms
 | [],ds,o=>by simp[jg6,nv]
 | m::r,ds,o=>by
  rw[jg6,je5];cases h:((m==118 || m==100) || (m==99&&ds.headD 0 !=48))with
  | true=>rw[cond_true];split<;>omega
  | false=>
   rw[cond_false];have:=jl5 r (bif m==99 then ds.tail else ds) (o+1);have hm:m≠118:=by rintro rfl;simp at h
   rw[if_neg hm];omega
theorem jib(le fill dr:Int)(neg:Bool):∀(ms sp ds:J)(o:Int),(fdGo le fill dr neg ms sp ds o).length=nv ms
 | [],_,_,_=>rfl
 | m::r,sp,ds,o=>by
  rw[fdGo,je5];cases h1:(m==100)with
  | true=>
   have:=eq_of_beq h1;subst this;rw[cond_true,List.length_cons,jib,if_neg (by decide)];omega
  | false=>
   cases h2:(m==99)with
   | true=>
    have:=eq_of_beq h2;subst this;rw[cond_false,cond_true,List.length_cons,jib,if_neg (by decide)];omega
   | false=>
    cases h3:(m==105)with
    | true=>
     have:=eq_of_beq h3;subst this;rw[cond_false,cond_false,cond_true,List.length_cons,jib,if_neg (by decide)];omega
    | false=>
     cases h4:(m !=118)with
     | true=>
      have h4:m≠118:=by simpa using h4
      rw[cond_false,cond_false,cond_false,cond_true,List.length_cons,jib,if_neg h4];omega
     | false=>
      have h4:m=118:=by simpa using h4
      rw[cond_false,cond_false,cond_false,cond_false,jib,if_pos h4];omega
theorem jly{dr:Int}(hd:dr=0∨hasZ [36,83,43,45] dr=true)(seen:Bool)(c:Int):mk1 dr seen c=118↔c=86:=by
 constructor
 ·intro h;unfold mk1 at h;cases h1:hasZ [57,89,84,73,82] c with
  | true=>rw[h1]at h;cases h
  | false=>
   rw[h1,cond_false]at h;cases h2:(hasZ [90,42] c || (dr !=0&& (c==dr&&seen)))with
   | true=>rw[h2]at h;cases h
   | false=>
    rw[h2,cond_false]at h;cases h3:(c==86)with
    | true=>exact eq_of_beq h3
    | false=>
     rw[h3,cond_false]at h;cases h4:(c==36) <;>cases h5:hasZ [83,43,45] c<;>rw[h4,h5]at h<;>exact absurd h (by decide)
 ·rintro rfl;unfold mk1;have h1:hasZ [57,89,84,73,82] 86=false:=by decide
  have h2:hasZ [90,42] 86=false:=by decide
  have h3:((86:Int)==dr)=false:=by
   cases e:((86:Int)==dr)with
   | false=>rfl
   | true=>
    rw[←eq_of_beq e]at hd;rcases hd with hd | hd
    ·cases hd
    ·exact absurd hd (by decide)
  rw[h1,h2,h3];simp
theorem mk_nv{dr:Int}(hd:dr=0∨hasZ [36,83,43,45] dr=true):∀(l:J)(seen:Bool),nv (mkGo dr seen l)+cntZ l 86=l.length
 | [],_=>rfl
 | c::r,seen=>by
  have:=mk_nv hd r (seen || (dr !=0&&c==dr));rw[mkGo,je5,List.length_cons]
  have hc:cntZ (c::r) 86=(if c=86 then 1 else 0)+cntZ r 86:=by
   unfold cntZ;by_cases h:c=86
   ·simp[h];omega
   ·simp[h]
  rw[hc];have hm:=jly hd seen c;by_cases h:c=86
  ·rw[if_pos h,if_pos (hm.2 h)];omega
  ·rw[if_neg h,if_neg fun e=>h (hm.1 e)];omega
theorem jhb(s:J):nv (ja4 s)+cntZ s 86=s.length:=by
 obtain⟨t,h,ht⟩:=jex s;have h1:=mk_nv (dr:=drZ (jal s)) ((jih _ _).imp id And.left) (jal s) false;unfold ja4;rw[nv_app]
 have e:cntZ s 86=cntZ (jal s) 86+cntZ t 86:=by
  conv=>lhs;rw[h]
  exact cnt_app ..
 have el:s.length=(jal s).length+t.length:=by
  conv=>lhs;rw[h]
  simp
 rcases ht with⟨rfl,hc⟩ | ⟨rfl | rfl,hc⟩
 ·rw[if_neg (by simp[hc])];have:cntZ [] 86=0:=rfl;have:nv []=0:=rfl;simp only[List.length_nil]at el;omega
 ·rw[if_pos hc];have:cntZ [67,82] 86=0:=by decide
  have:nv [115,115]=2:=by decide
  simp only[List.length_cons,List.length_nil]at el;omega
 ·rw[if_pos hc];have:cntZ [68,66] 86=0:=by decide
  have:nv [115,115]=2:=by decide
  simp only[List.length_cons,List.length_nil]at el;omega
theorem field_ok{s:J}(h:NumP s)(k:Nat)(n:Int):fdOK s ((s.length:Int)-cntZ s 86) k n=true:=by
 have hnv:=jhb s;have hw:(s.length:Int)-cntZ s 86=nv (ja4 s):=by omega
 rw[hw];unfold fdOK;cases hb:fdBl s (nv (ja4 s)) k n with
 | true=>rfl
 | false=>
  rw[Bool.false_or];cases h0:(fdDr s==0)with
  | true=>rfl
  | false=>
   rw[Bool.false_or,jae,jg5,jib];have h0:fdDr s≠0:=by simpa using h0
   unfold fdDr at h0;cases hq:(!hasZ s 90&& (!hasZ s 42&&hasZ (ja4 s) 99))with
   | false=>rw[hq]at h0;exact absurd rfl h0
   | true=>
    rw[hq,cond_true]at h0;simp only[jaf,Bool.not_eq_true']at hq;obtain⟨q1,q2,q3⟩:=hq;rw[dr_body]at h0;obtain⟨t,ht,ht2⟩:=jex s;have htm:(if crZ s=true then([115,115]:J)else [])=[]∨(if crZ s=true then([115,115]:J)else [])=[115,115]:=by split<;>simp
    have hld:=h.ld;have hdr:=h.dr;have hms:ja4 s=mkGo (drZ (jal s)) false (jal s)++(if crZ s=true then [115,115]else []):=rfl;generalize (if crZ s=true then([115,115]:J)else [])=tm at*
    have h99:99∈mkGo (drZ (jal s)) false (jal s):=by
     have:=jbk.1 q3;rw[hms,List.mem_append]at this;rcases this with h | h
     ·exact h
     ·rcases htm with rfl | rfl
      ·cases h
      ·exact absurd h (by decide)
    have hz:∀c∈jal s,hasZ [90,42] c=false:=by
     intro c hc;have hcs:c∈s:=by rw[ht];exact List.mem_append_left _ hc
     cases e:hasZ [90,42] c with
     | false=>rfl
     | true=>
      have:=jbk.1 e;rcases List.mem_cons.1 this with rfl | this
      ·rw[jbk.2 hcs]at q1;cases q1
      ·rcases List.mem_cons.1 this with rfl | this
       ·rw[jbk.2 hcs]at q2;cases q2
       ·cases this
    cases hbs:jal s with
    | nil=>rw[hbs]at h0;exact absurd rfl h0
    | cons c r=>
     rw[hbs]at h0 hms h99 hz hld hdr;have hv:=drifts_head hdr h0;have hsg:=(jih (c::r) (c::r)).resolve_left h0;have hsg:hasZ [36,83,43,45] (drZ (c::r))=true:=hsg.1;generalize drZ (c::r)=dr at*;rw[mkGo]at h99 hms hld;have hcz:=hz c (List.mem_cons_self ..);have h118:mk1 dr false c≠118:=fun e=>hv ((jly (.inr hsg) false c).1 e)
     have hn99:mk1 dr false c≠99:=by
      unfold mk1;rw[hcz];cases hasZ [57,89,84,73,82] c with
      | true=>rw[cond_true];decide
      | false=>cases dr !=0<;>cases c==dr<;>cases c==86<;>cases c==36<;>cases hasZ [83,43,45] c<;>decide
     have h99r:99∈mkGo dr (false || (dr !=0&&c==dr)) r:=by
      rcases List.mem_cons.1 h99 with e | e
      ·exact absurd e.symm hn99
      ·exact e
     have hn100:mk1 dr false c≠100:=by
      intro e;rw[e]at hld;generalize mkGo dr (false || (dr !=0&&c==dr)) r=R at*
      have key:(ldGo (100::R) false false false 0).1=false:=by
       rw[ldGo];exact jh5 R false false (0+1) h99r
      unfold jgy at hld;rw[key]at hld;simp at hld
     have hm0:∀ds:J,((mk1 dr false c==118 || mk1 dr false c==100) || (mk1 dr false c==99&&ds.headD 0 !=48))=false:=by
      intro ds;simp[h118,hn100,hn99]
     have hnv1:1≤nv (ja4 s):=by
      rw[hms,List.cons_append,je5,if_neg h118];omega
     unfold fdLe endZ;rw[q3,Bool.not_true,cond_false];cases(!hasZ (ja4 s) 100&&decide (digZ n.natAbs k=rep1 48 k))with
     | true=>rw[cond_true];omega
     | false=>
      rw[cond_false];have g1:=jl5 (ja4 s) (digZ n.natAbs k) 0;refine⟨?_,by omega⟩;rw[hms,List.cons_append,jg6,hm0,cond_false];have:=(jl5 (mkGo dr (false || (dr !=0&&c==dr)) r++tm) (bif mk1 dr false c==99 then(digZ n.natAbs k).tail else digZ n.natAbs k) (0+1)).1;omega
theorem jmw{l:J}(hl:IsB (pS l)∧(pS l).length≤32)(h:pN l=true)(n:Int):IsB (pS l)∧(pS l).length≤32∧pdGo (ja4 (pS l))=pD l∧0≤pW l∧pW l≤32∧fdOK (pS l) (pW l) (pD l).toNat n=true:=by
 have hv:=jdh h;have hnp:=jhz h;have hS:pS l=exZ l:=by rw[pS,if_pos hv]
 have hW:pW l=(exZ l).length-cntZ (exZ l) 86:=by rw[pW,if_pos hv,hnp.nch];rfl
 have hD:pD l=pdGo (ja4 (exZ l)):=by rw[pD,if_pos h]
 obtain⟨g1,g2⟩:=hl;have hc:=cnt_le (exZ l) 86;rw[hS]at g1 g2 ⊢;rw[hW];exact⟨g1,g2,hD.symm,by omega,by omega,field_ok hnp _ _⟩
def edE(l:J)(q:Int):Int:=if pN l=true then(if 0≤q∧q≤9 then 0 else 1)else 30
def edS(l:J)(n q:Int):J:=if pN l=true∧0≤q∧q≤9 then jft (pS l) (pW l) (pD l).toNat (cuN n q (pQ l) (pD l) (pG l))else []
def edF(l:J)(n q:Int):Bool:=if pN l=true∧0≤q∧q≤9 then cuF n q (pQ l) (pD l) (pG l)else false
def rdD(c:Int):Int:=bif unK c then unD c else bif decide (c≥48) &&decide (c≤57)then c-48 else 0
def rdGo:J→J→Int→Int
 | [],_,a=>a
 | m::r,s,a=>bif m==118 then rdGo r s a else rdGo r s.tail (bif m==100 || m==99 then a*10+rdD (s.headD 0)else a)
theorem rd_rng(c:Int):0≤rdD c∧rdD c≤9:=by
 unfold rdD;cases h:unK c with
 | true=>
  have e:unD c=idxZ punchedZ c%10:=by rw[unD,h,if_pos rfl]
  rw[cond_true,e];omega
 | false=>
  rw[cond_false];cases h1:decide (c≥48) <;>cases h2:decide (c≤57) <;>simp at h1 h2<;>simp<;>omega
theorem pu_rng(d:Int)(m:Bool):0≤puZ d m∧puZ d m<256:=by
 unfold puZ;split
 ·have:∀x∈punchedZ,0≤x∧x<256:=by decide
  rw[List.getD_eq_getElem?_getD];cases h:punchedZ[(if m=true then d+10 else d).toNat]? with
  | none=>simp
  | some x=>exact this x (List.mem_of_getElem? h)
 ·simp
theorem hd_isB{l:J}(h:IsB l):0≤l.headD 0∧l.headD 0<256:=by
 cases l with
 | nil=>simp
 | cons a r=>exact h a (List.mem_cons_self ..)
theorem tl_isB{l:J}(h:IsB l):IsB l.tail:=fun x hx=>h x (List.mem_of_mem_tail hx)
theorem jhn{a:Int}{l:J}(ha:0≤a∧a<256)(h:IsB l):IsB (a::l):=fun x hx=>by
 rcases List.mem_cons.1 hx with rfl | hx
 ·exact ha
 ·exact h x hx
theorem fm_rng{c d:Int}(m:Bool)(h:0≤d∧d<256):0≤fmZ c d m∧fmZ c d m<256:=by
 unfold fmZ;split
 ·omega
 ·split
  ·exact pu_rng _ _
  ·exact h
theorem sg_rng(c:Int)(m:Bool):0≤sgZ c m∧sgZ c m<256:=by
 unfold sgZ;split
 ·omega
 ·split
  ·split<;>omega
  ·split<;>omega
theorem ss_rng{c:Int}(dr:Int)(m:Bool)(h:0≤c∧c<256):0≤ssZ c dr m∧ssZ c dr m<256:=by
 unfold ssZ;have:=sg_rng c m;cases(dr !=0&&c==dr) <;>cases hasZ [67,82,68,66] c<;>cases m<;>simp<;>omega
theorem ji1{le fill dr:Int}{neg:Bool}(hf:0≤fill∧fill<256):∀(ms sp ds:J)(o:Int),IsB sp→IsB ds→IsB (fdGo le fill dr neg ms sp ds o)
 | [],_,_,_,_,_=>IsB.nil
 | m::r,sp,ds,o,hs,hd=>by
  rw[fdGo];have h1:=hd_isB hs;have h2:=hd_isB hd;cases m==100 with
  | true=>exact jhn (fm_rng _ h2) (ji1 hf _ _ _ _ (tl_isB hs) (tl_isB hd))
  | false=>
   cases m==99 with
   | true=>exact jhn (by cases decide (o<le) <;>simp only[cond_true,cond_false] <;>omega) (ji1 hf _ _ _ _ (tl_isB hs) (tl_isB hd))
   | false=>
    cases m==105 with
    | true=>exact jhn (by cases sp.headD 0==66<;>cases decide (o<le) <;>simp only[cond_true,cond_false] <;>omega) (ji1 hf _ _ _ _ (tl_isB hs) hd)
    | false=>
     cases m !=118 with
     | true=>exact jhn (ss_rng _ _ h1) (ji1 hf _ _ _ _ (tl_isB hs) hd)
     | false=>exact ji1 hf _ _ _ _ (tl_isB hs) hd
theorem fl_rng(sp:J):0≤fdFl sp∧fdFl sp<256:=by unfold fdFl;split<;>omega
theorem field_isB{sp:J}(h:IsB sp)(w:Int)(k:Nat)(n:Int):IsB (jft sp w k n):=by
 have h1:IsB (jg5 sp w k n):=ji1 (fl_rng sp) _ _ _ _ h (jij (jfz _ _));unfold jft;cases fdBl sp w k n with
 | true=>exact rep_isB _ _ (fl_rng sp)
 | false=>
  cases fdDr sp !=0 with
  | true=>
   intro x hx;rcases List.mem_or_eq_of_mem_set hx with hx | rfl
   ·exact h1 x hx
   ·exact sg_rng _ _
  | false=>exact h1
theorem jha:∀(ms s:J)(a:Int)(k:Nat),0≤a→a<tenZ k→(k:Int)+pdGo ms≤9→0≤rdGo ms s a∧rdGo ms s a<1000000000
 | [],s,a,k,h0,h1,h2=>by
  have:=tenZ_le9 (n:=k) (by simp only[pdGo]at h2;omega);rw[rdGo];omega
 | m::r,s,a,k,h0,h1,h2=>by
  have nn:=pd_nn r;rw[pdGo]at h2;rw[rdGo];cases h:(m==118)with
  | true=>
   have q:isP 118=false:=by decide
   rw[eq_of_beq h,q,cond_false,Int.zero_add]at h2;exact jha r s a k h0 h1 h2
  | false=>
   rw[cond_false];cases hP:(m==100 || m==99)with
   | true=>
    have hP:isP m=true:=hP;rw[hP,cond_true]at h2;have rr:=rd_rng (s.headD 0);have tp:tenZ (k+1)=tenZ k*10:=by rw[tenZ_add];rfl
    rw[cond_true];exact jha r _ _ (k+1) (by omega) (by omega) (by omega)
   | false=>
    have hP:isP m=false:=hP;rw[hP,cond_false,Int.zero_add]at h2;exact jha r _ a k h0 h1 h2
def rdA(l t:J):Int:=rdGo (ja4 (pS l)) t 0
def fdN(l:J)(n:Int):J:=jft (pS l) (pW l) (pD l).toNat n
def rdV(l t:J):Int×Int:=if pN l=true then(if(t.length:Int)=pW l then(if fdN l (rdA l t)=t then(rdA l t,0)else if pG l=true∧rdA l t>0∧fdN l (0-rdA l t)=t then(0-rdA l t,0)else(0,31))else(0,31))else(0,30)
theorem pN_nv{l:J}(h:pN l=true):pW l=nv (ja4 (pS l)):=by
 have h1:=jhb (pS l);have h2:pS l=exZ l:=by rw[pS,if_pos (jdh h)]
 have hW:pW l=(exZ l).length-cntZ (exZ l) 86:=by rw[pW,if_pos (jdh h),(jhz h).nch];rfl
 rw[h2]at h1 ⊢;rw[hW];omega
def onGo:J→J→Bool
 | _,[]=>true
 | [],_::_=>false
 | c::r,b::s=>oneZ c b&&onGo r s
def hoZ(l t:J):Bool:=if vOK l=true then(if pN l=true then decide ((rdV l t).2=0)else(decide ((t.length:Int)=pW l) &&onGo (pS l) t))else false
def flZ(l t:J):J:=if(t.length:Int)>pW l then t.take (pW l).toNat else t++rep1 32 (pW l-t.length).toNat
def fiE(l:J):Int:=if vOK l=true∧pN l=false then 0 else 30
def fiS(l t:J):J:=if vOK l=true∧pN l=false then flZ l t else []
def fiF(l t:J):Bool:=if vOK l=true∧pN l=false then hoZ l (flZ l t)else false
def zeS(l:J):J:=if vOK l=true then(if pN l=true then fdN l 0 else rep1 32 (pW l).toNat)else []
theorem pCh{l:J}(h:vOK l=true)(hn:pN l=false):pW l=(pS l).length:=by
 have hc:jgt (exZ l)=true:=by
  simp only[vOK,jaf,Bool.or_eq_true]at h;simp only[pN]at hn;rcases h with⟨h1,h2 | h2⟩
  ·exact h2
  ·rw[h1,h2]at hn;cases hn
 rw[pW,pS,if_pos h,if_pos h,hc];rfl
theorem jki{s:Y}:0≤pW (bz s)∧pW (bz s)≤32:=by
 have:=jm9 s;have hc:=cnt_le (exZ (bz s)) 86;unfold pW;split
 ·split<;>omega
 ·omega
end Go.Px
end
noncomputable section
namespace Go.Px
open Go Go.Ab Go.Proofs
inductive Rw where
 | nil
 | own (d:F) (m cap:Nat)
def Rw.v(q:Nat):Rw→Value
 | .nil=> .slice none 0 0
 | .own _ m cap=> .slice (some ⟨q,0,some 1⟩) m cap
def Rw.b:Rw→Option Blk
 | .nil=>none
 | .own d _ _=>some ⟨d,5,true⟩
def Rw.z:Rw→J
 | .nil=> []
 | .own d m _=>zc d m
def Rw.ok:Rw→Bool
 | .nil=>true
 | .own d m cap=>jc6 d m cap
def Rw.is:Rw→Bool
 | .nil=>false
 | .own _ _ _=>true
def G15:Env:=Env.nil
theorem ok_G15:ja0 Tryz.prog G15:=jav
theorem w32{n:Int}(h: -2147483648≤n∧n≤2147483647):IntKind.wrap .i32 n=n:=by
 rw[IntKind.wrap_i32];omega
def rpZ(n c:Int):Int×Bool:=if c<48∨c>57∨(n=0∧c=48)then(0,false)else(10*n+(c-48),decide (10*n+(c-48)≤32))
def s113(n:Int)(c:R32):Bool×Value:=(decide (0≤n∧n≤32∧0≤c.n∧c.n≤2147483647),.tuple ⟨[.int .i64 (rpZ n c.n).1,.bool (rpZ n c.n).2]⟩)
def jy(b c e:Int)(a d:IntKind):Int:=a.wrap (b*c)+a.wrap (d.wrap (e-48))
def bp(a:Int):Value:= .int .i64 (IntKind.i64.wrap a)
theorem v113(n:Int)(c:R32)(R:Value→Prop):jaz Tryz.prog G15 noL Tryz.f185 [Enc.enc n,Enc.enc c] (fun _=>none) 0 (fun v _ _=>R v)=(br (decide (R32.n c<48)) (decide (R32.n c>57) || (n==0 || true)) (decide (R32.n c<48) || (decide (R32.n c>57) || n==0&&R32.n c==48)) (R (gx [] (ak 0) (B false))) (R (gx [] (bp (jy 10 n (R32.n c) .i64 .i32)) (B (decide (IntKind.i64.wrap (jy 10 n (R32.n c) .i64 .i32)≤32)))))):=by kernel_rfl
theorem ok113:jan Tryz.prog 185 (sp2 s113):=by
 refine jdg ok_G15 hmix (.m Tryz.func185) jaj jag fun n c hc=> ?_
 rw[ja5,v113];delta br gx jy bp ak;have hc:(0≤n∧n≤32∧0≤c.n∧c.n≤2147483647):=jab hc
 try dsimp only[s113]
 obtain⟨c⟩:=c;simp only at hc ⊢;refine c_t (by simp) (cond_intro (fun h=> ?_) (fun h=> ?_))
 ·have h:c<48∨c>57∨(n=0∧c=48):=by simpa using h
  simp[rpZ,h]
 ·have h:¬(c<48∨c>57∨(n=0∧c=48)):=by
   intro q;have:(decide (c<48) || (decide (c>57) || n==0&&c==48))=true:=by simpa using q
   rw[this]at h;cases h
  rw[w64 (n:=10*n) (by omega),w32 (n:=c-48) (by omega),w64 (n:=c-48) (by omega),w64 (by omega)];simp[rpZ,h]
def G16:Env:=Env.nil.add 221 (sp2 s141)
theorem ok_G16:ja0 Tryz.prog G16:=jak jav ok141
def V114_0:Blk×Int×Int×Rw×Int→F:=fun(b,c,n,o,i)=> [o.v 400,.int .i32 c,I n,I i]
def B114_0:Blk×Int×Int×Rw×Int→O:=fun(b,c,n,o,i)=> [some b,o.b]
def S114_0:LSpecA (Blk×Int×Int×Rw×Int) where
 live:=[0,1,31,32]
 mid:=[7,400]
 n:=420
 ap:=[(.tmp 0,400)]
 dec vs bs:=match vs,bs with
  | [.slice none 0 0,.int .i32 c,.int .i64 n,.int .i64 i],[some b,none]=>some (b,c,n,.nil,i)
  | [.slice (some ⟨400,0,some 1⟩) m cap,.int .i32 c,.int .i64 n,.int .i64 i],[some b,some ⟨d,5,true⟩]=>some (b,c,n,.own d m cap,i)
  | _,_=>none
 pre:=fun(b,c,n,o,i)=>o.ok&& ((o.is || decide (i<n)) && (jay b.c&&decide (0≤i∧i≤n∧n≤32∧0≤c∧c<128∧o.z.length+(n-i).toNat≤1000)))
 fin:=fun(b,c,n,o,i) Z=>∀d' m' cap',jc6 d' m' cap'=true→zc d' m'=o.z++rep1 c (n-i).toNat→Z (.exit 0) [.slice (some ⟨400,0,some 1⟩) m' cap',.int .i32 c,I n,I n] [some b,some ⟨d',5,true⟩]
def ip:Value:= .slice none 0 0
def bw(a:List (Prod Nat Nat))(b:F):Bool:=jas a b&&true&&true
def cu(a:Bool)(b:Exit→F→O→Prop)(d:O)(c:F):Prop:=bif a then b .normal c d else False
def iz(d:Bool)(e:Exit→F→O→Prop)(l:O)(a j:F)(b c:Nat)(k:Option Blk)(f g h i:Value):Prop:=jbm a b c 1=true→cu (d&&true) e (k::l) (f::g::h::i::j)
def dq(a b c:Nat):Option Addr:=some (.mk a b (some c))
def dv(a b c d:Nat):Value:= .slice (dq a b 1) c d
def d9(a:List (Prod Nat Nat))(b:F):Option Blk:=some (.mk (rlbL a b) 5 true)
def kf(a:Int):Value:= .int .u8 (IntKind.u8.wrap a)
def ly(c d:F)(a b:Nat):Bool:=jas [(a,b)] c&& (jas [(a,b)] d&&true)
theorem r114_0n(b:Blk)(c:Int)(n:Int)(i:Int)(jk:Tmps)(R:Exit→F→O→Prop):(jb6 Tryz.prog G16 noL Tryz.f186.ntmps (jbb Tryz.f186 0) (tl S114_0.live (V114_0 (b,c,n,.nil,i)) jk) (ml S114_0.mid (B114_0 (b,c,n,.nil,i))) S114_0.n fun e t' m' _=>S114_0.out R e t' m')=(bif au i n then∀a:Nat,∀d:F,iz (ly b.c (kf c::d) 425 400) R [d9 [(425,400)] (kf c::d)] d [] a 1 (some (.mk (rlbL [(425,400)] b.c) b.ty b.own)) (dv 400 0 1 a) (.int .i32 c) (ak n) (bp (i+1))else bif bw [] b.c then R (.exit 0) [ip,.int .i32 c,ak n,ak i] [some (.mk (rlbL [] b.c) b.ty b.own),none]else False):=by kernel_rfl
def c9(a:Bool)(b:Prop):Prop:=bif a then b else False
def ft(a b d:Bool)(c e:Prop):Prop:=bif a then c9 b c else c9 d e
def fv(b:F)(a:Nat):F:=b.take (a*1)
def f8(a:F)(b c d:Nat):Bool:=a.length.beq (b*1) &&c.ble b&&b.ble 9223372036854775807&&true&&jcj (c+1) d
theorem r114_0o(b:Blk)(c:Int)(n:Int)(d:F)(m:Nat)(cap:Nat)(i:Int)(jk:Tmps)(R:Exit→F→O→Prop):(jb6 Tryz.prog G16 noL Tryz.f186.ntmps (jbb Tryz.f186 0) (tl S114_0.live (V114_0 (b,c,n,.own d m cap,i)) jk) (ml S114_0.mid (B114_0 (b,c,n,.own d m cap,i))) S114_0.n fun e t' m' _=>S114_0.out R e t' m')=(ft (au i n) (f8 d cap m 1) (ly b.c d 400 400&&true) (∀a:Nat,∀e:F,iz (ly b.c (fv d m++ [kf c]++e) 425 400) R [d9 [(425,400)] (fv d m++ [kf c]++e)] e [] a (m+1) (some (.mk (rlbL [(425,400)] b.c) b.ty b.own)) (dv 400 0 (m+1) a) (.int .i32 c) (ak n) (bp (i+1))) (R (.exit 0) [dv 400 0 m cap,.int .i32 c,ak n,ak i] [some (.mk (rlbL [(400,400)] b.c) b.ty b.own),d9 [(400,400)] d])):=by kernel_rfl
theorem l114_0:LOKf Tryz.prog (oneL 0 S114_0.hA) Tryz.f186:=by
 refine jcb (h:=S114_0.hA) (by kernel_rfl) (jbu ok_G16 hmix (by kernel_rfl) (jbf _) S114_0 V114_0 B114_0 (fun(b,c,n,o,i)=>(n-i).toNat) ?_ ?_ ?_)
 ·intro vs bs s h;simp only[S114_0]at h;split at h
  all_goals first | (cases h;exact⟨rfl,rfl⟩) | cases h | (split at h<;>first | (rename_i hq;cases h;have hq:=jah hq;subst hq;exact⟨rfl,rfl⟩) | cases h)
 ·exact fun⟨b,c,n,o,i⟩ hp=>by
   simp only[S114_0,jaf]at hp;cases o with
   | nil=>simp[V114_0,B114_0,S114_0,jaw,jbt,idsL,ids,Rw.v,Rw.b,jao hp.2.2.1]
   | own d m cap=>simp[V114_0,B114_0,S114_0,jaw,jbt,idsL,ids,Rw.v,Rw.b,jao hp.2.2.1,jao (jat.1 hp.1).plain]
 ·intro⟨b,c,n,o,i⟩ jk Z hp hf;simp only[S114_0]at hp hf;cases o with
  | nil=>
   rw[r114_0n];delta ak ip bw cu iz bp dq dv d9 kf ly au;simp only[jaf,jae]at hp;obtain⟨-,hi,hb,hp⟩:=hp;have hi:i<n:=jab hi;simp only[Rw.z,List.length_nil]at hp;have eb:∀ps,rlbL ps b.c=b.c:=fun ps=>rlbL_plain ps hb
   have gb:∀ps,jas ps b.c=true:=fun ps=>goodL_plain hb
   refine c_t (jaa hi) (fun cap1 tail ht=> ?_);rw[w8 (n:=c) (by omega)];have hh:=jfx [c] ht;have h1:RowP (.int .u8 c::tail) 1 cap1:=hh.1;have h2:zc (.int .u8 c::tail) 1=[c]:=hh.2;refine c_t (by simp[h1.good,gb]) ?_;rw[h1.rlb,eb,w64 (by omega)];refine⟨(b,c,n,.own _ 1 cap1,i+1),rfl,rfl,by simp only[S114_0,jaf,jae];exact⟨jat.2 h1,rfl,hb,by omega,by omega,by omega,by omega,by omega,by simp only[Rw.z,h2,List.length_cons,List.length_nil];omega⟩,by simp only;omega,?_⟩;intro d' m' cap' g1 g2;refine hf d' m' cap' g1 ?_;rw[g2];simp only[Rw.z];rw[h2,show(n-i).toNat=(n-(i+1)).toNat+1 by omega,←rep1_succ];rfl
  | own d m cap=>
   rw[r114_0o];delta c9 ft d9 ak dq dv cu iz bp kf fv ly f8 au;simp only[jaf,jae]at hp;obtain⟨hr,-,hb,hp⟩:=hp;simp only[Rw.z]at hp;have eb:∀ps,rlbL ps b.c=b.c:=fun ps=>rlbL_plain ps hb
   have gb:∀ps,jas ps b.c=true:=fun ps=>goodL_plain hb
   have hr:=jat.1 hr;have hzl:=ja6 hr;apply cond_intro<;>intro h
   ·have h:=jab h;rw[w8 (n:=c) (by omega)];refine c_t (hr.ask (k:=1) (by omega)) (fun cap1 tail ht=> ?_);obtain⟨h1,h2⟩:=hr.app1 c ht;refine c_t (by rw[h1.good,gb];rfl) ?_;rw[h1.rlb,eb,w64 (by omega)];have hl1:(zc (List.take (m*1) d++ [Value.int IntKind.u8 c]++tail) (m+1)).length=m+1:=ja6 h1;refine⟨(b,c,n,.own _ (m+1) cap1,i+1),rfl,rfl,by simp only[S114_0,jaf,jae];exact⟨jat.2 h1,rfl,hb,by omega,by omega,by omega,by omega,by omega,by simp only[Rw.z,hl1];omega⟩,by simp only;omega,?_⟩;intro d' m' cap' g1 g2;refine hf d' m' cap' g1 ?_;rw[g2];simp only[Rw.z];rw[h2,show(n-i).toNat=(n-(i+1)).toNat+1 by omega,←rep1_succ,List.append_assoc]
   ·have h:=jac h;refine c_t (by rw[hr.good,gb];rfl) ?_;rw[hr.rlb,eb];obtain rfl:i=n:=by omega
    exact hf d m cap (jat.2 hr) (by simp[Rw.z,rep1])
def G17:Env:=(Env.nil.add 185 (sp2 s113)).addG 186 (inlQ Tryz.prog G16 (oneL 0 S114_0.hA) Tryz.f186)
theorem ok_G17:ja0 Tryz.prog G17:=jau (jak jav ok113) (jbd ok_G16 hmix (.m Tryz.func186) l114_0)
theorem dec_cases{s:Y}{p:Int}(h0:0≤p)(h:p<s.size):(jai s p.toNat<128→decO s p.toNat=((jai s p.toNat).toNat,1))∧(128≤jai s p.toNat→128≤(decO s p.toNat).1∧(decO s p.toNat).1≤2147483647∧1≤(decO s p.toNat).2):=by
 rw[decO_eq];have hs:p.toNat<s.size:=by omega
 have e:jai s p.toNat=((s[p.toNat]'hs).toNat:Int):=by
  have hl:p.toNat<s.data.toList.length:=by rw[Array.length_toList];exact hs
  simp only[jai,List.getElem?_eq_getElem hl];rfl
 rw[e];refine⟨fun h=> ?_,fun h=> ?_⟩
 ·rw[decode_ascii s _ hs (by omega)];rfl
 ·have:=decode_high s _ hs (by omega);exact⟨this.1,decode_le s _,this.2⟩
theorem jm1{c:Int}(h:hasZ kL c=true):0≤c∧c<128:=by
 have:∀x∈kL,0≤x∧x<128:=by decide
 exact this c (jbk.1 h)
theorem jkb:∀(l:J)(n m:Int)(out:J),xpGo l 0 n out=xpGo l 0 m out
 | [],_,_,_=>rfl
 | c::r,n,m,out=>by
  simp only[xpGo];rfl
theorem xp_high{c:Int}(h:128≤c)(r:J)(st n:Int)(out:J):xpGo (c::r) st n out=([],false):=by
 have hu:upZ c=c:=by unfold upZ;rw[if_neg (by omega)]
 have hk:¬hasZ kL c=true:=fun q=>by have:=jm1 q;omega
 have hd:¬jg4 c=true:=fun q=>by have:=jab q;omega
 rw[xpGo];split
 ·rw[if_neg (by omega),if_neg (fun q=>hd q.1)]
 ·rw[if_neg (by omega),if_neg (by omega),hu,if_neg (fun q=>hk q.1)]
theorem dec_step{s:Y}{p:Int}(h0:0≤p)(h:p<s.size):0≤((decO s p.toNat).1:Int)∧((decO s p.toNat).1:Int)≤2147483647∧1≤((decO s p.toNat).2:Int)∧
  ∀st n out,xpGo ((bz s).drop p.toNat) st n out=xpGo (((decO s p.toNat).1:Int)::(bz s).drop (p+((decO s p.toNat).2:Int)).toNat) st n out:=by
 obtain⟨h1,h2⟩:=dec_cases h0 h;have hb:=jho s p.toNat;by_cases hc:jai s p.toNat<128
 ·have e:=h1 hc;rw[e];simp only;rw[Int.toNat_of_nonneg hb.1];refine⟨hb.1,by omega,by omega,fun st n out=> ?_⟩;rw[jd2 h0 h];rfl
 ·obtain⟨q1,q2,q3⟩:=h2 (by omega);refine⟨by omega,by omega,by omega,fun st n out=> ?_⟩;rw[jd2 h0 h,xp_high (by omega),xp_high (by omega)]
theorem x1{c st n:Int}{r out:J}(h:st=1)(hc:c=41)(hn:0<n):xpGo (c::r) st n out=xpGo r 2 n out:=by rw[xpGo,if_pos h,if_pos hc,if_pos hn]
theorem x2{c st n:Int}{r out:J}(h:st=1)(hc:c=41)(hn:¬0<n):xpGo (c::r) st n out=([],false):=by rw[xpGo,if_pos h,if_pos hc,if_neg hn]
theorem x34{c st n:Int}{r out:J}(h:st=1)(hc:¬c=41):xpGo (c::r) st n out=if(rpZ n c).2=true then xpGo r 1 (rpZ n c).1 out else([],false):=by
 rw[xpGo,if_pos h,if_neg hc,rpZ];by_cases q:c<48∨c>57∨(n=0∧c=48)
 ·rw[if_pos q,if_neg,if_neg (by simp)];simp only[jg4,jae];omega
 ·rw[if_neg q];simp only[jg4,jae];by_cases q2:10*n+(c-48)≤32
  ·rw[if_pos (by omega),if_pos q2]
  ·rw[if_neg (by omega),if_neg q2]
theorem rp_rng{n c:Int}(hn:0≤n)(h:(rpZ n c).2=true):0≤(rpZ n c).1∧(rpZ n c).1≤32:=by
 unfold rpZ at h ⊢;split at h
 ·cases h
 ·rename_i q;rw[if_neg q];simp only[jae]at h ⊢;omega
theorem x5{c st n:Int}{r out:J}(h:¬st=1)(hc:c=41∨st=2∧c=40):xpGo (c::r) st n out=([],false):=by rw[xpGo,if_neg h,if_pos hc]
theorem x6{c st n:Int}{r out:J}(h:¬st=1)(hc:¬(c=41∨st=2∧c=40))(h2:c=40):xpGo (c::r) st n out=xpGo r 1 0 out:=by rw[xpGo,if_neg h,if_neg hc,if_pos h2]
theorem x7{c st n:Int}{r out:J}(h:¬st=1)(hc:¬(c=41∨st=2∧c=40))(h2:¬c=40):xpGo (c::r) st n out=if hasZ kL (upZ c)=true∧(out.length:Int)+(if st=2 then n else 1)≤32 then xpGo r 0 0 (out++rep1 (upZ c) (if st=2 then n else 1).toNat)else([],false):=by rw[xpGo,if_neg h,if_neg hc,if_neg h2]
theorem put_gate{u k:Int}{L:Nat}(hu:0≤u∧u≤2147483647)(hk:1≤k∧k≤32)(hL:L≤32):
  (decide (u≥128) || decide (0≤IntKind.wrap IntKind.u8 u∧IntKind.wrap IntKind.u8 u<256) && (decide (idxZ (bz (ByteArray.mk #[57,86,90,42,89,84,73,82,83,43,45,36,44,46,47,66,67,68,65,88])) (IntKind.wrap IntKind.u8 u)<0) || true))=true∧
  (decide (u≥128) || (decide (idxZ (bz (ByteArray.mk #[57,86,90,42,89,84,73,82,83,43,45,36,44,46,47,66,67,68,65,88])) (IntKind.wrap IntKind.u8 u)<0) || decide (IntKind.wrap IntKind.i64 (natO L+k)>32)))= !(decide (hasZ kL u=true∧(L:Int)+k≤32)):=by
 have eb:bz (ByteArray.mk #[57,86,90,42,89,84,73,82,83,43,45,36,44,46,47,66,67,68,65,88])=kL:=by kernel_rfl
 rw[eb,jb1,w64 (by omega)];by_cases h:u≥128
 ·have hh:¬(hasZ kL u=true∧(L:Int)+k≤32):=fun q=>by have:=jm1 q.1;omega
  rw[jaa h,jad hh];exact⟨rfl,rfl⟩
 ·rw[w8 (by omega),jad h,jaa (show 0≤u∧u<256 by omega)];refine⟨by simp,?_⟩;have hi:=jet u kL;rw[←jbk]at hi;by_cases h1:hasZ kL u=true
  ·rw[h1]at hi ⊢;have hi:=hi.2.2 rfl;rw[jad (show¬idxZ kL u<0 by omega)];by_cases h2:(L:Int)+k≤32
   ·rw[jad (show¬(L:Int)+k>32 by omega),jaa ⟨rfl,h2⟩];rfl
   ·rw[jaa (show(L:Int)+k>32 by omega),jad (fun q=>h2 q.2)];rfl
  ·have hn:idxZ kL u<0:=by
    have:¬0≤idxZ kL u:=fun q=>h1 (hi.2.1 q)
    omega
   rw[jaa hn,jad (show¬(hasZ kL u=true∧(L:Int)+k≤32)from fun q=>h1 q.1)];rfl
theorem jje{u k:Int}{p:Int}{s:Y}(hu:0≤u∧u≤2147483647)(hk:1≤k∧k≤32){A:Prop}{Q:Nat→Nat→F→Prop}
  (h1:¬(hasZ kL u=true∧((([]:J).length:Nat):Int)+k≤32)→A)
  (h2:hasZ kL u=true∧((([]:J).length:Nat):Int)+k≤32→ ∀d' m' cap',RowP d' m' cap'→zc d' m'=[]++rep1 u k.toNat→Q m' cap' d'):
  bif decide (u≥128) || decide (0≤IntKind.wrap IntKind.u8 u∧IntKind.wrap IntKind.u8 u<256) && (decide (idxZ (bz (ByteArray.mk #[57,86,90,42,89,84,73,82,83,43,45,36,44,46,47,66,67,68,65,88])) (IntKind.wrap IntKind.u8 u)<0) || true)then
   bif decide (u≥128) || (decide (idxZ (bz (ByteArray.mk #[57,86,90,42,89,84,73,82,83,43,45,36,44,46,47,66,67,68,65,88])) (IntKind.wrap IntKind.u8 u)<0) || decide (IntKind.wrap IntKind.i64 (natO 0+k)>32))then A
   else
    bif LSpec.pre (LSpecA.toLSpec S114_0) (Blk.mk [Value.string s,Value.int IntKind.i64 p] 4611686018427387904 true,u,k,Rw.nil,0)then
     ∀(d':F)(m' cap':Nat),jc6 d' m' cap'=true→zc d' m'=Rw.z Rw.nil++rep1 u (Int.toNat (k-0))→
      bif jaw 420 d'&&true then∀(_:Tmps),bif jas [(400,200)] d'&&true&&true then Q m' cap' d' else False else False
    else False
  else False:=by
 obtain⟨g1,g2⟩:=put_gate (L:=0) hu hk (by omega);refine c_t g1 ?_;rw[g2];by_cases hq:hasZ kL u=true∧((0:Nat):Int)+k≤32
 ·rw[jaa hq];have hkl:=jm1 hq.1;refine c_f rfl (c_t ?_ fun d' m' cap' r1 r2=> ?_)
  ·simp only[S114_0,jaf,jae,Rw.ok,Rw.is,Rw.z,List.length_nil,Bool.false_or,true_and,jay,plain];exact⟨by omega,jaa (by omega)⟩
  ·have r1:=jat.1 r1;refine c_t (by rw[jbl r1.plain];rfl) fun x=>c_t (by rw[r1.good];rfl) ?_
   exact h2 hq d' m' cap' r1 (by rw[r2,Int.sub_zero];rfl)
 ·rw[jad hq];exact c_t rfl (h1 hq)
theorem jjd{u k:Int}{p:Int}{s:Y}{d:F}{m cap:Nat}(hr:RowP d m cap)(hm:m≤32)(hu:0≤u∧u≤2147483647)(hk:1≤k∧k≤32){A:Prop}{Q:Nat→Nat→F→Prop}
  (h1:¬(hasZ kL u=true∧((zc d m).length:Int)+k≤32)→A)
  (h2:hasZ kL u=true∧((zc d m).length:Int)+k≤32→ ∀d' m' cap',RowP d' m' cap'→zc d' m'=zc d m++rep1 u k.toNat→Q m' cap' d'):
  bif decide (u≥128) || decide (0≤IntKind.wrap IntKind.u8 u∧IntKind.wrap IntKind.u8 u<256) && (decide (idxZ (bz (ByteArray.mk #[57,86,90,42,89,84,73,82,83,43,45,36,44,46,47,66,67,68,65,88])) (IntKind.wrap IntKind.u8 u)<0) || true)then
   bif decide (u≥128) || (decide (idxZ (bz (ByteArray.mk #[57,86,90,42,89,84,73,82,83,43,45,36,44,46,47,66,67,68,65,88])) (IntKind.wrap IntKind.u8 u)<0) || decide (IntKind.wrap IntKind.i64 (natO m+k)>32))then
    bif jas [] d&&true&&true then A else False
   else
    bif jas [(200,400)] d&&true&&true&& (jaw 420 d&&true)then
     bif LSpec.pre (LSpecA.toLSpec S114_0) (Blk.mk [Value.string s,Value.int IntKind.i64 p] 4611686018427387904 true,u,k,Rw.own d m cap,0)then
      ∀(d':F)(m' cap':Nat),jc6 d' m' cap'=true→zc d' m'=Rw.z (Rw.own d m cap)++rep1 u (Int.toNat (k-0))→
       bif jaw 420 d'&&true then∀(_:Tmps),bif jas [(400,200)] d'&&true&&true then Q m' cap' d' else False else False
     else False
    else False
  else False:=by
 obtain⟨g1,g2⟩:=put_gate (L:=m) hu hk (by omega);rw[ja6 hr]at h1 h2;have hzl:=ja6 hr;refine c_t g1 ?_;rw[g2,hr.good,hr.good,jbl hr.plain];by_cases hq:hasZ kL u=true∧(m:Int)+k≤32
 ·rw[jaa hq];have hkl:=jm1 hq.1;refine c_f rfl (c_t rfl (c_t ?_ fun d' m' cap' r1 r2=> ?_))
  ·simp only[S114_0,jaf,jae,Rw.ok,Rw.is,Rw.z,Bool.true_or,true_and,jay,plain];exact⟨jat.2 hr,jaa (by omega)⟩
  ·have r1:=jat.1 r1;refine c_t (by rw[jbl r1.plain];rfl) fun x=>c_t (by rw[r1.good];rfl) ?_
   exact h2 hq d' m' cap' r1 (by rw[r2,Int.sub_zero];rfl)
 ·rw[jad hq];exact c_t rfl (c_t rfl (h1 hq))
def V80_0:Y×Bool×Rw×Int×Int×Bool×Y×Int→F:=fun(r,rb,o,st,n,f,s,p)=> [.string r,.bool rb,o.v 200,.int .i64 st,.int .i64 n,.bool f,.pointer (some ⟨7,0,some 0⟩)]
def B80_0:Y×Bool×Rw×Int×Int×Bool×Y×Int→O:=fun(r,rb,o,st,n,f,s,p)=> [some ⟨[.string s,.int .i64 p],itTy,true⟩,o.b]
def S80_0:LSpecA (Y×Bool×Rw×Int×Int×Bool×Y×Int) where
 live:=[2,3,4,5,6,7,11]
 mid:=[7,200]
 n:=210
 ap:=[(.tmp 4,200)]
 dec vs bs:=match vs,bs with
  | [.string r,.bool rb,.slice none 0 0,.int .i64 st,.int .i64 n,.bool f,.pointer (some ⟨7,0,some 0⟩)],[some ⟨[.string s,.int .i64 p],ty,true⟩,none]=>match Nat.beq ty itTy with | true=>some (r,rb,.nil,st,n,f,s,p) | false=>none
  | [.string r,.bool rb,.slice (some ⟨200,0,some 1⟩) m cap,.int .i64 st,.int .i64 n,.bool f,.pointer (some ⟨7,0,some 0⟩)],[some ⟨[.string s,.int .i64 p],ty,true⟩,some ⟨d,5,true⟩]=>match Nat.beq ty itTy with | true=>some (r,rb,.own d m cap,st,n,f,s,p) | false=>none
  | _,_=>none
 pre:=fun(r,rb,o,st,n,f,s,p)=>o.ok&& (f&&decide (0≤p∧s.size≤9223372036854775807∧(st=0∨st=1∨(st=2∧0<n))∧0≤n∧n≤32∧o.z.length≤32))
 fin:=fun(r,rb,o,st,n,f,s,p) Z=>(xpGo ((bz s).drop p.toNat) st n o.z=([],false)→(∀st' n' f' p',Z .ret [.string ⟨#[]⟩,.bool false,.slice none 0 0,.int .i64 st',.int .i64 n',.bool f',.pointer (some ⟨7,0,some 0⟩)] [some ⟨[.string s,.int .i64 p'],itTy,true⟩,none])∧(∀d' m' cap' st' n' f' p',jc6 d' m' cap'=true→Z .ret [.string ⟨#[]⟩,.bool false,.slice (some ⟨200,0,some 1⟩) m' cap',.int .i64 st',.int .i64 n',.bool f',.pointer (some ⟨7,0,some 0⟩)] [some ⟨[.string s,.int .i64 p'],itTy,true⟩,some ⟨d',5,true⟩])∧(∀d' st' n' f' p',jay d'=true→Z .ret [.string ⟨#[]⟩,.bool false,.slice none 0 0,.int .i64 st',.int .i64 n',.bool f',.pointer (some ⟨7,0,some 0⟩)] [some ⟨[.string s,.int .i64 p'],itTy,true⟩,some ⟨d',5,true⟩]))∧(∀st' n' f' p',xpGo ((bz s).drop p.toNat) st n o.z=([],decide (st'=0))→Z (.exit 0) [.string r,.bool rb,.slice none 0 0,.int .i64 st',.int .i64 n',.bool f',.pointer (some ⟨7,0,some 0⟩)] [some ⟨[.string s,.int .i64 p'],itTy,true⟩,none])∧(∀d' m' cap' st' n' f' p',jc6 d' m' cap'=true→xpGo ((bz s).drop p.toNat) st n o.z=(zc d' m',decide (st'=0))→Z (.exit 0) [.string r,.bool rb,.slice (some ⟨200,0,some 1⟩) m' cap',.int .i64 st',.int .i64 n',.bool f',.pointer (some ⟨7,0,some 0⟩)] [some ⟨[.string s,.int .i64 p'],itTy,true⟩,some ⟨d',5,true⟩])
def jw(a b:Bool)(c d:Prop):Prop:=bif a then bif b then c else d else False
def im(a b:Int):Bool:=decide (a≤b)
def f9(a b:Int):Bool:=decide (a≥b)
def gp(a b c:Int):Bool:=f9 a b&&im a c
def gm(a:Y)(b:Int):Int:=((decO a b.toNat).fst:Int)
def gz(a b:Int):Bool:=f9 a b || true
def px(b:Y)(a c:Int)(d e f g:Prop):Prop:=bif a==2 then jw (gz (gm b c) 97) (gp (gm b c) 97 122) d e else jw (gz (gm b c) 97) (gp (gm b c) 97 122) f g
def km(a b c d e f:Int):Bool:=decide (a≤b∧b≤c∧d≤e∧e≤f)
def al(a:Y):Int:=(a.size:Int)
def nq(b:Y)(a c e:Int)(d f g h i j k l m:Prop):Prop:=bif im 0 a then bif decide (a<al b)then br (c==1) true (c==1&&gm b a==41) d (bif c==1 then c9 (km 0 e 32 0 (gm b a) 2147483647) f else bif gm b a==41 || (c==2 || true)then bif gm b a==41 || c==2&&gm b a==40 then g else bif gm b a==40 then h else px b c a i j k l else False)else m else False
def ar(a:Nat):Value:= .pointer (dq a 0 0)
def lg(c:Bool)(b:F)(a:Nat)(d:Prop):Prop:=bif jaw a b&&c then Tmps→d else False
def jf(a b:Nat):Value:= .slice (dq 200 0 1) a b
def lh(a:Y)(b:Int):Blk:= .mk [.string a,.int .i64 (b+((decO a b.toNat).snd:Int))] 4611686018427387904 true
def j8(a:Int):Nat:=Int.toNat (a-0)
def oy(k:Bool)(d j:Y)(i:Exit→F→O→Prop)(e f g l m:Int)(h:Px.Rw):Prop:=bif S114_0.toLSpec.pre (lh d e,(f,(g,(h,(0:Int)))))then∀a:F,∀b:Nat,∀c:Nat,jc6 a b c=true→zc a b=Rw.z h++rep1 f (j8 g)→lg true a 420 (cu (jas [(400,200)] a&&true&&true) i [some (lh d e),d9 [(400,200)] a] [.string j,.bool k,jf b c,ak l,ak m,.bool true,ar 7])else False
def m9(a:Y)(b:Int):O:=[some (lh a b),none]
def mc(c:Bool)(a:Int)(b:Value):F:=[.bool false,ip,ak a,b,.bool c,ar 7]
def am:Y:=⟨#[]⟩
def je:Value:= .string am
def il(a b:Int):Int:=IntKind.i64.wrap (a+b)
def mt(a:Int):Bool:=decide (idxZ (bz ⟨#[57,86,90,42,89,84,73,82,83,43,45,36,44,46,47,66,67,68,65,88]⟩) (IntKind.u8.wrap a)<0)
def gv(a b:Int):Bool:=decide (0≤a∧a<b)
def m5(l:Bool)(i k:Y)(f:Exit→F→O→Prop)(d e g h j:Int):Prop:=bif f9 d 128 || gv (IntKind.u8.wrap d) 256&& (mt d || true)then bif f9 d 128 || (mt d || decide (il (natO 0) e>32))then f .ret (je::mc false g (ak h)) (m9 i j)else oy l i k f j d e g h Rw.nil else False
def bq:Value:= .string am
def nr(a h:Bool)(e g:Y)(b:Exit→F→O→Prop)(c f:Int)(d:Value):Prop:=bif !a then b .ret (bq::mc a c d) (m9 e f)else b .normal [.string g,.bool h,ip,ak c,d,.bool a,ar 7] (m9 e f)
theorem r80_0n(r:Y)(rb:Bool)(st:Int)(n:Int)(f:Bool)(s:Y)(p:Int)(jk:Tmps)(R:Exit→F→O→Prop):(jb6 Tryz.prog G17 noL Tryz.f127.ntmps (jbb Tryz.f127 0) (tl S80_0.live (V80_0 (r,rb,.nil,st,n,f,s,p)) jk) (ml S80_0.mid (B80_0 (r,rb,.nil,st,n,f,s,p))) S80_0.n fun e t' m' _=>S80_0.out R e t' m')=(nq s p st n (nr (dw n 0) rb s r R 2 p (ak n)) (nr (rpZ n (gm s p)).snd rb s r R st p (I (rpZ n (gm s p)).fst)) (R .ret (bq::mc false st (ak n)) (m9 s p)) (nr f rb s r R 1 p (ak 0)) (m5 rb s r R (IntKind.i32.wrap (gm s p-32)) n 0 n p) (m5 rb s r R (gm s p) n 0 n p) (m5 rb s r R (IntKind.i32.wrap (gm s p-32)) 1 st n p) (m5 rb s r R (gm s p) 1 st n p) (R (.exit 0) [S r,B rb,ip,ak st,ak n,B f,ar 7] [some (.mk [S s,ak p] 4611686018427387904 true),none])):=by kernel_rfl
def e8:List (Prod Nat Nat):=[(200,200)]
def nc(o:Bool)(k n:Y)(h:Exit→F→O→Prop)(d f i j l:Int)(g:F)(e m:Nat):Prop:=bif f9 d 128 || gv (IntKind.u8.wrap d) 256&& (mt d || true)then bif f9 d 128 || (mt d || decide (il (natO e) f>32))then bif jas [] g&&true&&true then h .ret (je::mc false i (ak j)) [some (lh k l),d9 [] g]else False else bif jas [(200,400)] g&&true&&true&& (jaw 420 (rlbL [(200,400)] g) &&true)then oy o k n h l d f i j (Rw.own (rlbL [(200,400)] g) e m)else False else False
def kg(a:Bool)(d:Exit→F→O→Prop)(i:O)(b:List (Prod Nat Nat))(c g l:F)(h:Option Blk)(e f j k:Value):Prop:=bif a then bif bw b c then d .ret (e::f::g) (h::i)else False else cu (bw b c) d (h::i) (j::k::l)
def ns(a k:Bool)(h j:Y)(b:Exit→F→O→Prop)(f i:Int)(c:F)(d e:Nat)(g:Value):Prop:=kg (!a) b [d9 e8 c] e8 c [jf d e,ak f,g,.bool a,ar 7] [jf d e,ak f,g,.bool a,ar 7] (some (lh h i)) bq (.bool false) (.string j) (.bool k)
theorem r80_0o(r:Y)(rb:Bool)(d:F)(m:Nat)(cap:Nat)(st:Int)(n:Int)(f:Bool)(s:Y)(p:Int)(jk:Tmps)(R:Exit→F→O→Prop):(jb6 Tryz.prog G17 noL Tryz.f127.ntmps (jbb Tryz.f127 0) (tl S80_0.live (V80_0 (r,rb,.own d m cap,st,n,f,s,p)) jk) (ml S80_0.mid (B80_0 (r,rb,.own d m cap,st,n,f,s,p))) S80_0.n fun e t' m' _=>S80_0.out R e t' m')=(nq s p st n (ns (dw n 0) rb s r R 2 p d m cap (ak n)) (ns (rpZ n (gm s p)).snd rb s r R st p d m cap (I (rpZ n (gm s p)).fst)) (bif bw e8 d then R .ret [bq,B false,jf m cap,ak st,ak n,B false,ar 7] [some (lh s p),d9 e8 d]else False) (ns f rb s r R 1 p d m cap (ak 0)) (nc rb s r R (IntKind.i32.wrap (gm s p-32)) n 0 n p d m cap) (nc rb s r R (gm s p) n 0 n p d m cap) (nc rb s r R (IntKind.i32.wrap (gm s p-32)) 1 st n p d m cap) (nc rb s r R (gm s p) 1 st n p d m cap) (bif bw e8 d then R (.exit 0) [S r,B rb,jf m cap,ak st,ak n,B f,ar 7] [some (.mk [S s,ak p] 4611686018427387904 true),d9 e8 d]else False)):=by kernel_rfl
theorem l80_0:LOKf Tryz.prog (oneL 0 S80_0.hA) Tryz.f127:=by
 refine jcb (h:=S80_0.hA) (by kernel_rfl) (jbu ok_G17 hmix (by kernel_rfl) (jbf _) S80_0 V80_0 B80_0 (fun(r,rb,o,st,n,f,s,p)=>(s.size-p).toNat) ?_ ?_ ?_)
 ·intro vs bs s h;simp only[S80_0]at h;split at h
  all_goals first | (cases h;exact⟨rfl,rfl⟩) | cases h | (split at h<;>first | (rename_i hq;cases h;have hq:=jah hq;subst hq;exact⟨rfl,rfl⟩) | cases h)
 ·exact fun⟨r,rb,o,st,n,f,s,p⟩ hp=>by
   simp only[S80_0,jaf]at hp;cases o with
   | nil=>simp[V80_0,B80_0,S80_0,jaw,jbt,idsL,ids,Rw.v,Rw.b]
   | own d m cap=>simp[V80_0,B80_0,S80_0,jaw,jbt,idsL,ids,Rw.v,Rw.b,jao (jat.1 hp.1).plain]
 ·intro⟨r,rb,o,st,n,f,s,p⟩ jk Z hp hf;simp only[S80_0]at hp hf;cases o with
  | nil=>
   rw[r80_0n];delta br jw im f9 gp gm gz px c9 km al nq ak dq ar ip lg cu jf d9 lh j8 oy m9 mc am je il mt gv m5 bq nr dw;simp only[jaf,jae]at hp;obtain⟨-,rfl,hp⟩:=hp;simp only[Rw.z]at hp hf;refine c_t (jaa hp.1) (cond_intro (fun h=> ?_) (fun h=> ?_))
   ·have h:=jab h;obtain⟨k1,k2,k3,k4⟩:=dec_step hp.1 h;simp only[k4]at hf;clear k4;generalize ((decO s p.toNat).1:Int)=c at k1 k2 hf ⊢;generalize ((decO s p.toNat).2:Int)=k at k3 hf ⊢;have mu:(s.size-(p+k)).toNat<(s.size-p).toNat:=by omega
    refine c_t (by simp) (cond_intro (fun a=> ?_) (fun a=> ?_))
    ·have a:st=1∧c=41:=by simpa using a
     apply cond_intro<;>intro b
     ·have b:¬0<n:=by simpa using b
      exact(hf.1 (x2 a.1 a.2 b)).1 _ _ _ _
     ·have b:0<n:=by simpa using b
      rw[x1 a.1 a.2 b]at hf;rw[jaa b];exact⟨(r,rb,.nil,2,n,true,s,p+k),rfl,rfl,by simp only[S80_0,jaf,jae];exact⟨rfl,trivial,by omega,hp.2.1,.inr (.inr ⟨trivial,b⟩),by omega,by omega,Nat.zero_le _⟩,mu,hf⟩
    ·refine cond_intro (fun b=>c_t (jaa ⟨by omega,by omega,k1,k2⟩) ?_) (fun b=> ?_)
     ·have b:st=1:=by simpa using b
      have a:¬c=41:=fun q=>by rw[b,q]at a;cases a
      rw[x34 b a]at hf;apply cond_intro<;>intro g
      ·have g:(rpZ n c).2=false:=by simpa using g
       rw[if_neg (by rw[g];simp)]at hf;exact(hf.1 rfl).1 _ _ _ _
      ·have g:(rpZ n c).2=true:=by simpa using g
       have gr:=rp_rng hp.2.2.2.1 g;rw[if_pos g]at hf;rw[g,b];exact⟨(r,rb,.nil,1,(rpZ n c).1,true,s,p+k),rfl,rfl,by simp only[S80_0,jaf,jae];exact⟨rfl,trivial,by omega,hp.2.1,.inr (.inl trivial),by omega,by omega,Nat.zero_le _⟩,mu,hf⟩
     ·have b:¬st=1:=by simpa using b
      have hst:st=0∨st=2∧0<n:=by omega
      refine c_t (by simp) (cond_intro (fun g=> ?_) (fun g=> ?_))
      ·have g:c=41∨st=2∧c=40:=by simpa using g
       exact(hf.1 (x5 b g)).1 _ _ _ _
      ·have g:¬(c=41∨st=2∧c=40):=by
        intro q;have:(c==41 || st==2&&c==40)=true:=by simpa using q
        rw[this]at g;cases g
       refine cond_intro (fun q=>c_f rfl (?_)) (fun q=> ?_)
       ·have q:c=40:=by simpa using q
        rw[x6 b g q]at hf;exact⟨(r,rb,.nil,1,0,true,s,p+k),rfl,rfl,by simp only[S80_0,jaf,jae];exact⟨rfl,trivial,by omega,hp.2.1,.inr (.inl trivial),by omega,by omega,Nat.zero_le _⟩,mu,hf⟩
       ·have q:¬c=40:=by simpa using q
        rw[x7 b g q]at hf;apply cond_intro<;>intro v
        ·have v:st=2:=by simpa using v
         rw[if_pos v]at hf;refine c_t (by simp) (cond_intro (fun y=> ?_) (fun y=> ?_))
         ·have y:97≤c∧c≤122:=by simpa using y
          have hu:upZ c=c-32:=by unfold upZ;rw[if_pos y]
          rw[hu]at hf;rw[w32 (by omega)];refine jje ?_ ?_ (fun e=> ?_) (fun e d' m' cap' r1 r2=> ?_)
          ·omega
          ·omega
          ·rw[if_neg e]at hf;exact(hf.1 rfl).1 _ _ _ _
          ·rw[r1.rlb];rw[if_pos e,←r2,jkb _ 0 n]at hf;have hl:=ja6 r1;have hl2:=congrArg List.length r2;simp only[List.length_append,rep1,List.length_replicate]at hl2;simp only[List.length_nil]at e hl2;exact⟨(r,rb,.own d' m' cap',0,n,true,s,p+k),rfl,rfl,by simp only[S80_0,jaf,jae];exact⟨jat.2 r1,trivial,by omega,hp.2.1,.inl trivial,hp.2.2.2.1,hp.2.2.2.2.1,by simp only[Rw.z,hl];omega⟩,mu,hf⟩
         ·have y:¬(97≤c∧c≤122):=by
           intro q;have:(decide (c≥97) &&decide (c≤122))=true:=by simpa using q
           rw[this]at y;cases y
          have hu:upZ c=c:=by unfold upZ;rw[if_neg y]
          rw[hu]at hf;refine jje ?_ ?_ (fun e=> ?_) (fun e d' m' cap' r1 r2=> ?_)
          ·omega
          ·omega
          ·rw[if_neg e]at hf;exact(hf.1 rfl).1 _ _ _ _
          ·rw[r1.rlb];rw[if_pos e,←r2,jkb _ 0 n]at hf;have hl:=ja6 r1;have hl2:=congrArg List.length r2;simp only[List.length_append,rep1,List.length_replicate]at hl2;simp only[List.length_nil]at e hl2;exact⟨(r,rb,.own d' m' cap',0,n,true,s,p+k),rfl,rfl,by simp only[S80_0,jaf,jae];exact⟨jat.2 r1,trivial,by omega,hp.2.1,.inl trivial,hp.2.2.2.1,hp.2.2.2.2.1,by simp only[Rw.z,hl];omega⟩,mu,hf⟩
        ·have v:¬st=2:=by simpa using v
         have v0:st=0:=by omega
         rw[if_neg v]at hf;refine c_t (by simp) (cond_intro (fun y=> ?_) (fun y=> ?_))
         ·have y:97≤c∧c≤122:=by simpa using y
          have hu:upZ c=c-32:=by unfold upZ;rw[if_pos y]
          rw[hu]at hf;rw[w32 (by omega),v0];refine jje ?_ ?_ (fun e=> ?_) (fun e d' m' cap' r1 r2=> ?_)
          ·omega
          ·omega
          ·rw[if_neg e]at hf;exact(hf.1 rfl).1 _ _ _ _
          ·rw[r1.rlb];rw[if_pos e,←r2,jkb _ 0 n]at hf;have hl:=ja6 r1;have hl2:=congrArg List.length r2;simp only[List.length_append,rep1,List.length_replicate]at hl2;simp only[List.length_nil]at e hl2;exact⟨(r,rb,.own d' m' cap',0,n,true,s,p+k),rfl,rfl,by simp only[S80_0,jaf,jae];exact⟨jat.2 r1,trivial,by omega,hp.2.1,.inl trivial,hp.2.2.2.1,hp.2.2.2.2.1,by simp only[Rw.z,hl];omega⟩,mu,hf⟩
         ·have y:¬(97≤c∧c≤122):=by
           intro q;have:(decide (c≥97) &&decide (c≤122))=true:=by simpa using q
           rw[this]at y;cases y
          have hu:upZ c=c:=by unfold upZ;rw[if_neg y]
          rw[hu]at hf;rw[v0];refine jje ?_ ?_ (fun e=> ?_) (fun e d' m' cap' r1 r2=> ?_)
          ·omega
          ·omega
          ·rw[if_neg e]at hf;exact(hf.1 rfl).1 _ _ _ _
          ·rw[r1.rlb];rw[if_pos e,←r2,jkb _ 0 n]at hf;have hl:=ja6 r1;have hl2:=congrArg List.length r2;simp only[List.length_append,rep1,List.length_replicate]at hl2;simp only[List.length_nil]at e hl2;exact⟨(r,rb,.own d' m' cap',0,n,true,s,p+k),rfl,rfl,by simp only[S80_0,jaf,jae];exact⟨jat.2 r1,trivial,by omega,hp.2.1,.inl trivial,hp.2.2.2.1,hp.2.2.2.2.1,by simp only[Rw.z,hl];omega⟩,mu,hf⟩
   ·have h:=jac h;rw[jg1 (by omega)]at hf;exact hf.2.1 st n _ p rfl
  | own d m cap=>
   rw[r80_0o];delta br jw im f9 gp gm gz px c9 km al nq d9 e8 ak dq ar jf bw lg cu lh j8 oy ip mc am je il mt gv nc kg bq ns dw;simp only[jaf,jae]at hp;obtain⟨hR,rfl,hp⟩:=hp;have hr:=jat.1 hR;have hzl:=ja6 hr;simp only[Rw.z]at hp hf;have hL:(Rw.own d m cap).z.length≤32:=by simp only[Rw.z];exact hp.2.2.2.2.2
   have hm:m≤32:=by have:=hp.2.2.2.2.2;omega
   simp only[hr.rlb];have hg:∀ps,(jas ps d&&true&&true)=true:=fun ps=>by rw[hr.good];rfl
   refine c_t (jaa hp.1) (cond_intro (fun h=> ?_) (fun h=> ?_))
   ·have h:=jab h;obtain⟨k1,k2,k3,k4⟩:=dec_step hp.1 h;simp only[k4]at hf;clear k4;generalize ((decO s p.toNat).1:Int)=c at k1 k2 hf ⊢;generalize ((decO s p.toNat).2:Int)=k at k3 hf ⊢;have mu:(s.size-(p+k)).toNat<(s.size-p).toNat:=by omega
    refine c_t (by simp) (cond_intro (fun a=> ?_) (fun a=> ?_))
    ·have a:st=1∧c=41:=by simpa using a
     refine cond_intro (fun b=>c_t (hg _) ?_) (fun b=>c_t (hg _) ?_)
     ·have b:¬0<n:=by simpa using b
      exact(hf.1 (x2 a.1 a.2 b)).2.1 d m cap _ _ _ _ hR
     ·have b:0<n:=by simpa using b
      rw[x1 a.1 a.2 b]at hf;rw[jaa b];exact⟨(r,rb,.own d m cap,2,n,true,s,p+k),rfl,rfl,by simp only[S80_0,jaf,jae];exact⟨hR,trivial,by omega,hp.2.1,.inr (.inr ⟨trivial,b⟩),by omega,by omega,hL⟩,mu,hf⟩
    ·refine cond_intro (fun b=>c_t (jaa ⟨by omega,by omega,k1,k2⟩) ?_) (fun b=> ?_)
     ·have b:st=1:=by simpa using b
      have a:¬c=41:=fun q=>by rw[b,q]at a;cases a
      rw[x34 b a]at hf;refine cond_intro (fun g=>c_t (hg _) ?_) (fun g=>c_t (hg _) ?_)
      ·have g:(rpZ n c).2=false:=by simpa using g
       rw[if_neg (by rw[g];simp)]at hf;exact(hf.1 rfl).2.1 d m cap _ _ _ _ hR
      ·have g:(rpZ n c).2=true:=by simpa using g
       have gr:=rp_rng hp.2.2.2.1 g;rw[if_pos g]at hf;rw[g,b];exact⟨(r,rb,.own d m cap,1,(rpZ n c).1,true,s,p+k),rfl,rfl,by simp only[S80_0,jaf,jae];exact⟨hR,trivial,by omega,hp.2.1,.inr (.inl trivial),by omega,by omega,hL⟩,mu,hf⟩
     ·have b:¬st=1:=by simpa using b
      have hst:st=0∨st=2∧0<n:=by omega
      refine c_t (by simp) (cond_intro (fun g=>c_t (hg _) ?_) (fun g=> ?_))
      ·have g:c=41∨st=2∧c=40:=by simpa using g
       exact(hf.1 (x5 b g)).2.1 d m cap _ _ _ _ hR
      ·have g:¬(c=41∨st=2∧c=40):=by
        intro q;have:(c==41 || st==2&&c==40)=true:=by simpa using q
        rw[this]at g;cases g
       refine cond_intro (fun q=>c_f rfl (c_t (hg _) ?_)) (fun q=> ?_)
       ·have q:c=40:=by simpa using q
        rw[x6 b g q]at hf;exact⟨(r,rb,.own d m cap,1,0,true,s,p+k),rfl,rfl,by simp only[S80_0,jaf,jae];exact⟨hR,trivial,by omega,hp.2.1,.inr (.inl trivial),by omega,by omega,hL⟩,mu,hf⟩
       ·have q:¬c=40:=by simpa using q
        rw[x7 b g q]at hf;apply cond_intro<;>intro v
        ·have v:st=2:=by simpa using v
         rw[if_pos v]at hf;refine c_t (by simp) (cond_intro (fun y=> ?_) (fun y=> ?_))
         ·have y:97≤c∧c≤122:=by simpa using y
          have hu:upZ c=c-32:=by unfold upZ;rw[if_pos y]
          rw[hu]at hf;rw[w32 (by omega)];refine jjd hr hm ?_ ?_ (fun e=> ?_) (fun e d' m' cap' r1 r2=> ?_)
          ·omega
          ·omega
          ·rw[if_neg e]at hf;exact(hf.1 rfl).2.2 d _ _ _ _ hr.plain
          ·rw[r1.rlb];rw[if_pos e,←r2,jkb _ 0 n]at hf;have hl:=ja6 r1;have hl2:=congrArg List.length r2;simp only[List.length_append,rep1,List.length_replicate]at hl2;simp only[hzl]at e hl2;exact⟨(r,rb,.own d' m' cap',0,n,true,s,p+k),rfl,rfl,by simp only[S80_0,jaf,jae];exact⟨jat.2 r1,trivial,by omega,hp.2.1,.inl trivial,hp.2.2.2.1,hp.2.2.2.2.1,by simp only[Rw.z,hl];omega⟩,mu,hf⟩
         ·have y:¬(97≤c∧c≤122):=by
           intro q;have:(decide (c≥97) &&decide (c≤122))=true:=by simpa using q
           rw[this]at y;cases y
          have hu:upZ c=c:=by unfold upZ;rw[if_neg y]
          rw[hu]at hf;refine jjd hr hm ?_ ?_ (fun e=> ?_) (fun e d' m' cap' r1 r2=> ?_)
          ·omega
          ·omega
          ·rw[if_neg e]at hf;exact(hf.1 rfl).2.2 d _ _ _ _ hr.plain
          ·rw[r1.rlb];rw[if_pos e,←r2,jkb _ 0 n]at hf;have hl:=ja6 r1;have hl2:=congrArg List.length r2;simp only[List.length_append,rep1,List.length_replicate]at hl2;simp only[hzl]at e hl2;exact⟨(r,rb,.own d' m' cap',0,n,true,s,p+k),rfl,rfl,by simp only[S80_0,jaf,jae];exact⟨jat.2 r1,trivial,by omega,hp.2.1,.inl trivial,hp.2.2.2.1,hp.2.2.2.2.1,by simp only[Rw.z,hl];omega⟩,mu,hf⟩
        ·have v:¬st=2:=by simpa using v
         have v0:st=0:=by omega
         rw[if_neg v]at hf;refine c_t (by simp) (cond_intro (fun y=> ?_) (fun y=> ?_))
         ·have y:97≤c∧c≤122:=by simpa using y
          have hu:upZ c=c-32:=by unfold upZ;rw[if_pos y]
          rw[hu]at hf;rw[w32 (by omega),v0];refine jjd hr hm ?_ ?_ (fun e=> ?_) (fun e d' m' cap' r1 r2=> ?_)
          ·omega
          ·omega
          ·rw[if_neg e]at hf;exact(hf.1 rfl).2.2 d _ _ _ _ hr.plain
          ·rw[r1.rlb];rw[if_pos e,←r2,jkb _ 0 n]at hf;have hl:=ja6 r1;have hl2:=congrArg List.length r2;simp only[List.length_append,rep1,List.length_replicate]at hl2;simp only[hzl]at e hl2;exact⟨(r,rb,.own d' m' cap',0,n,true,s,p+k),rfl,rfl,by simp only[S80_0,jaf,jae];exact⟨jat.2 r1,trivial,by omega,hp.2.1,.inl trivial,hp.2.2.2.1,hp.2.2.2.2.1,by simp only[Rw.z,hl];omega⟩,mu,hf⟩
         ·have y:¬(97≤c∧c≤122):=by
           intro q;have:(decide (c≥97) &&decide (c≤122))=true:=by simpa using q
           rw[this]at y;cases y
          have hu:upZ c=c:=by unfold upZ;rw[if_neg y]
          rw[hu]at hf;rw[v0];refine jjd hr hm ?_ ?_ (fun e=> ?_) (fun e d' m' cap' r1 r2=> ?_)
          ·omega
          ·omega
          ·rw[if_neg e]at hf;exact(hf.1 rfl).2.2 d _ _ _ _ hr.plain
          ·rw[r1.rlb];rw[if_pos e,←r2,jkb _ 0 n]at hf;have hl:=ja6 r1;have hl2:=congrArg List.length r2;simp only[List.length_append,rep1,List.length_replicate]at hl2;simp only[hzl]at e hl2;exact⟨(r,rb,.own d' m' cap',0,n,true,s,p+k),rfl,rfl,by simp only[S80_0,jaf,jae];exact⟨jat.2 r1,trivial,by omega,hp.2.1,.inl trivial,hp.2.2.2.1,hp.2.2.2.2.1,by simp only[Rw.z,hl];omega⟩,mu,hf⟩
   ·have h:=jac h;rw[jg1 (by omega)]at hf;exact c_t (hg _) (hf.2.2 d m cap st n _ p hR rfl)
def s80(s:Y):Bool×Value:=(decide (s.size≤9223372036854775807),.tuple ⟨[.string (sz (xpGo (bz s) 0 0 []).1),.bool (exOK (bz s))]⟩)
def li(a:Prop):Prop:=Int→Bool→Int→a
def kp(b c:Bool)(a:F)(d:Value)(e:Value→Prop):Prop:=bif jaw 210 a&&b then Tmps→aq c d e else False
def o2(b:Y)(a:Int)(c:Nat):Value:=gx [] (.string (bif a==0 then b else b)) (.bool (a==0&&decide (natO c>0)))
def fk(a:Y):J:=(bz a).drop (Int.toNat 0)
def gy(b:F)(a:Nat)(c:Prop):Prop:=bif jaw a b&&true then Tmps→c else False
theorem v80(s:Y)(R:Value→Prop):jaz Tryz.prog G17 (oneL 0 S80_0.hA) Tryz.f127 [Enc.enc s] (fun _=>none) 0 (fun v _ _=>R v)=(bif S80_0.toLSpec.pre (am,(false,(Rw.nil,((0:Int),((0:Int),(true,(s,(0:Int))))))))then(xpGo (fk s) 0 0 (Rw.z Rw.nil)=(([]:J),false)→(Int→li (Tmps→R (gx [] bq (B false))))∧(∀a:F,∀b:Nat,∀c:Nat,Int→li (jc6 a b c=true→gy a 210 (R (gx [] bq (B false)))))∧(∀a:F,Int→li (jay a=true→gy a 210 (R (gx [] bq (B false))))))∧(∀a:Int,li (xpGo (fk s) 0 0 (Rw.z Rw.nil)=(([]:J),decide (a=0))→Tmps→aq (a==0 || true) (o2 ByteArray.empty a 0) R))∧(∀a:F,∀b:Nat,∀c:Nat,∀d:Int,li (jc6 a b c=true→xpGo (fk s) 0 0 (Rw.z Rw.nil)=(zc a b,decide (d=0))→kp true (jbe a 0 b&& (d==0 || true)) a (o2 (ja8 a 0 b) d b) R))else False):=by kernel_rfl
theorem ok80:jan Tryz.prog 127 (sp1 s80):=by
 refine jck ok_G17 hmix (.m Tryz.func127) l80_0 jag fun s hc=> ?_
 rw[ja5,v80];delta li aq kp gx o2 fk gy am bq;have hc:(s.size≤9223372036854775807):=jab hc
 try dsimp only[s80]
 refine c_t ?_ ⟨fun h=> ?_,fun st' n' f' p' h x=> ?_,fun d' m' cap' st' n' f' p' hr h=> ?_⟩
 ·simp only[S80_0,Rw.ok,Rw.z,Bool.true_and];exact jaa ⟨by omega,by omega,.inl trivial,by omega,by omega,by simp⟩
 ·have h:xpGo (bz s) 0 0 []=([],false):=h;have e:exOK (bz s)=false:=by simp[exOK,h]
  rw[h,e];exact⟨fun _ _ _ _ _=>rfl,fun d' m' cap' _ _ _ _ hr=>c_t (by rw[jbl (jat.1 hr).plain];rfl) fun _=>rfl,fun d' _ _ _ _ hp=>c_t (by rw[jbl hp];rfl) fun _=>rfl⟩
 ·have h:xpGo (bz s) 0 0 []=([],decide (st'=0)):=h;have e:exOK (bz s)=false:=by simp[exOK,h]
  rw[h,e];refine c_t (by simp) ?_;rw[jb1];have e1:(bif st'==0 then ByteArray.empty else ByteArray.empty)=sz []:=by cases st'==0<;>rfl
  have e2:(st'==0&&decide (((0:Nat):Int)>0))=false:=by simp
  rw[e1,e2]
 ·have h:xpGo (bz s) 0 0 []=(zc d' m',decide (st'=0)):=h;have hr:=jat.1 hr;have hl:=ja6 hr;refine c_t (by rw[jbl hr.plain];rfl) fun x=>c_t (by rw[hr.str.1];simp) ?_
  rw[hr.str.2,jb1];have e1:(bif st'==0 then sz (zc d' m')else sz (zc d' m'))=sz (zc d' m'):=by cases st'==0<;>rfl
  have e2:exOK (bz s)=(st'==0&&decide ((m':Int)>0)):=by
   rw[exOK,h];simp only;rw[Bool.eq_iff_iff];simp only[jaf,jae,beq_iff_eq,Bool.not_eq_true',List.isEmpty_eq_false_iff];constructor
   ·rintro ⟨a,b⟩;have:=List.length_pos_iff.2 b;exact⟨a,by omega⟩
   ·rintro ⟨a,b⟩;exact⟨a,fun q=>by rw[q]at hl;simp at hl;omega⟩
  rw[e1,e2,h]
end Go.Px
end
noncomputable section
namespace Go.Px
open Go Go.Ab Go.Proofs Go.Shelf
theorem c280:jbq Tryz.prog 118:=cal Tryz.func118 (by kernel_rfl) (by kernel_rfl)
def jb9:J→Int→Int
 | [],_=> -1
 | b::l,c=>if jb9 l c= -1 then(if b=c then 0 else -1)else jb9 l c+1
theorem jeg(c:Int):∀l:J,(jb9 l c= -1∧ ∀j,j<l.length→l.getD j 0≠c)∨(∃i:Nat,i<l.length∧jb9 l c=i∧l.getD i 0=c∧ ∀j,i<j→j<l.length→l.getD j 0≠c)
 | []=> .inl ⟨rfl,fun j h=>by simp at h⟩
 | b::l=>by
  rcases jeg c l with⟨e,h⟩ | ⟨i,hi,e,hc,h⟩
  ·simp only[jb9,e,if_true];by_cases hb:b=c
   ·rw[if_pos hb];refine .inr ⟨0,by simp,rfl,by simpa using hb,fun j h1 h2=> ?_⟩;obtain⟨j,rfl⟩:∃k,j=k+1:=⟨j-1,by omega⟩
    simpa using h j (by simpa using h2)
   ·rw[if_neg hb];refine .inl ⟨rfl,fun j h1=> ?_⟩;cases j with
    | zero=>simpa using hb
    | succ j=>simpa using h j (by simpa using h1)
  ·simp only[jb9];rw[if_neg (by omega),e];refine .inr ⟨i+1,by simpa using hi,by omega,by simpa using hc,fun j h1 h2=> ?_⟩;obtain⟨j,rfl⟩:∃k,j=k+1:=⟨j-1,by omega⟩
   simpa using h j (by omega) (by simpa using h2)
theorem last_zl(s:Y)(c:Int):Lib.lastIndexByte s c=jb9 (bz s) c:=by
 have hd:∀j,j<s.size→((s.data[j]!).toNat:Int)=(bz s).getD j 0:=fun j hj=>by
  have hj':j<s.data.size:=hj;rw[getElem!_pos s.data j hj'];simp only[bz,List.getD_eq_getElem?_getD,List.getElem?_map,Array.getElem?_toList];rw[Array.getElem?_eq_getElem hj'];rfl
 rcases Lib.lastIndexByte_spec s c with⟨e,h⟩ | ⟨i,hi,e,hc,h⟩ <;>rcases jeg c (bz s)with⟨e',h'⟩ | ⟨i',hi',e',hc',h'⟩
 ·rw[e,e']
 ·rw[jam]at hi';exact absurd hc' (by rw[←hd i' hi'];exact h i' hi')
 ·rw[hd i hi]at hc;exact absurd hc (h' i (by rw[jam];exact hi))
 ·rw[jam]at hi' h';rw[hd i hi]at hc;rw[e,e'];rcases Nat.lt_trichotomy i i' with q | q | q
  ·exact absurd hc' (by rw[←hd i' hi'];exact h i' q hi')
  ·rw[q]
  ·exact absurd hc (h' i q hi)
theorem jjj(l:J)(c:Int): -1≤jb9 l c∧jb9 l c<l.length:=by
 rcases jeg c l with⟨e,_⟩ | ⟨i,hi,e,_⟩ <;>omega
def s280(s:Y)(c:U8):Bool×Value:=(decide (s.size≤1000),.int .i64 (jb9 (bz s) c.n))
theorem ok280:jan Tryz.prog 118 (sp2 s280):=jda c280 fun s c hc w _=>by
 refine(Any.strings_LastIndexByte Tryz.lays149 s c.n (by have:s.size≤1000:=jab hc;omega) w).mono fun e w' ⟨h1,h2⟩=>⟨?_,jch h2⟩
 rw[h1,last_zl];rfl
structure VwP (d:F)(m:Nat):Prop where
 bytes:jbx d=true
 len:d.length=m
 rng:IsB (d.map iv)
def vwOK(d:F)(m:Nat):Bool:=jbx d&& (Nat.beq d.length m&& (d.map iv).all fun c=>decide (0≤c∧c<256))
theorem jcx{d:F}{m:Nat}:vwOK d m=true↔VwP d m:=by
 simp only[vwOK,jaf,Nat.beq_eq,List.all_eq_true,jae];exact⟨fun⟨a,b,c⟩=>⟨a,b,c⟩,fun⟨a,b,c⟩=>⟨a,b,c⟩⟩
theorem isBytes_plain{d:F}(h:jbx d=true):jay d=true:=by
 rw[←jmg h];exact jhl _
theorem VwP.plain{d:F}{m:Nat}(h:VwP d m):jay d=true:=isBytes_plain h.bytes
theorem jlp(s:Y):VwP (Lib.strCells s) s.size∧zc (Lib.strCells s) s.size=bz s:=by
 rw[strCells_eq]
 have e:(cz (bz s)).map iv=bz s:=by
  rw[cz,List.map_map];have:(iv∘fun n:Int=>Value.int .u8 n)=id:=by funext n;rfl
  rw[this,List.map_id]
 refine⟨⟨jei _,by simp,by rw[e];exact jdb s⟩,?_⟩;rw[zc,List.take_of_length_le (by simp),e]
theorem VwP.zlen{d:F}{m:Nat}(h:VwP d m):(zc d m).length=m:=by
 simp only[zc,List.length_map,List.length_take,h.len];omega
theorem at_bytes:∀{d:F}{j:Nat},jbx d=true→j<d.length→jbc .u8 d j=true∧jaq d j=(d.map iv).getD j 0
 | .int .u8 n::r,0,_,_=>⟨rfl,rfl⟩
 | .int .u8 n::r,j+1,h,hj=>by
  have:=at_bytes (d:=r) (j:=j) (by simpa[jbx]using h) (by simpa using hj);simpa[jbc,jaq]using this
theorem VwP.at{d:F}{m:Nat}(h:VwP d m){j:Int}(h0:0≤j)(hj:j<m):jbc .u8 d j.toNat=true∧(0≤jaq d j.toNat∧jaq d j.toNat<256)∧(zc d m).drop j.toNat=jaq d j.toNat::(zc d m).drop (j+1).toNat:=by
 have hl:=h.len;obtain⟨q1,q2⟩:=at_bytes h.bytes (j:=j.toNat) (by omega);refine⟨q1,?_,?_⟩
 ·rw[q2,List.getD_eq_getElem?_getD];cases hh:(d.map iv)[j.toNat]? with
  | none=>simp
  | some c=>exact h.rng c (List.mem_of_getElem? hh)
 have e:zc d m=d.map iv:=by rw[zc,List.take_of_length_le (by omega)]
 rw[e,q2,jgd _ _ (by rw[List.length_map];omega),show(j+1).toNat=j.toNat+1 by omega]
theorem VwP.good{d:F}{m:Nat}(h:VwP d m)(ps:List (Nat×Nat)):(jas ps d&&true&&true)=true:=by rw[goodL_plain h.plain];rfl
theorem VwP.rlb{d:F}{m:Nat}(h:VwP d m)(ps:List (Nat×Nat)):rlbL ps d=d:=rlbL_plain ps h.plain
theorem VwP.end{d:F}{m:Nat}(h:VwP d m){j:Int}(hj:(m:Int)≤j):(zc d m).drop j.toNat=[]:=List.drop_eq_nil_of_le (by rw[h.zlen];omega)
def k5:J:=[44,46,47,66,86]
theorem idx_neg(l:J)(c:Int):decide (idxZ l c<0)= !hasZ l c:=by
 have:=jet c l;rw[←jbk]at this;cases h:hasZ l c with
 | true=>rw[h]at this;have:=this.2.2 rfl;simp;omega
 | false=>
  rw[h]at this;have:¬0≤idxZ l c:=fun q=>by have:=this.2.1 q;cases this
  simp;omega
theorem ch_at{i:Int}(h0:0≤i)(h:i<4):∃c,jaq [Value.int IntKind.u8 36,Value.int IntKind.u8 83,Value.int IntKind.u8 43,Value.int IntKind.u8 45] (0+i.toNat*1)=c∧
  jbc IntKind.u8 [Value.int IntKind.u8 36,Value.int IntKind.u8 83,Value.int IntKind.u8 43,Value.int IntKind.u8 45] (0+i.toNat*1)=true∧
  oneB (Utf8.encode c)=true∧(bz (Utf8.encode c)).getD 0 0=c∧(0<c∧c<128)∧List.drop i.toNat [36,83,43,45]=c::List.drop (i+1).toNat [36,83,43,45]:=by
 have:i=0∨i=1∨i=2∨i=3:=by omega
 rcases this with rfl | rfl | rfl | rfl
 ·exact⟨36,rfl,rfl,by kernel_rfl,by kernel_rfl,by omega,rfl⟩
 ·exact⟨83,rfl,rfl,by kernel_rfl,by kernel_rfl,by omega,rfl⟩
 ·exact⟨43,rfl,rfl,by kernel_rfl,by kernel_rfl,by omega,rfl⟩
 ·exact⟨45,rfl,rfl,by kernel_rfl,by kernel_rfl,by omega,rfl⟩
theorem jfa(c:Int):∀{l:J},c∈l→0≤idxZ l c∧idxZ l c<l.length
 | b::l,h=>by
  simp only[idxZ];by_cases hb:b=c
  ·rw[if_pos hb];simp only[List.length_cons];omega
  ·rw[if_neg hb];have:=jfa c (l:=l) (by rcases List.mem_cons.1 h with q | q;exact absurd q.symm hb;exact q);rw[if_neg (by omega)];simp only[List.length_cons];omega
theorem jjo(c:Int):∀{l:J},c∈l→idxZ l c≤jb9 l c
 | b::l,h=>by
  simp only[idxZ,jb9];have:=jjj l c;by_cases hl:c∈l
  ·have ih:=jjo c hl;have i1:=jfa c hl;rw[if_neg (show¬jb9 l c= -1 by omega)];split
   ·omega
   ·split<;>omega
  ·have hb:b=c:=by rcases List.mem_cons.1 h with q | q;exact q.symm;exact absurd q hl
   rw[if_pos hb,if_pos hb];split<;>omega
theorem jj4{l:J}{c:Int}(h:¬(cntZ l c:Int)<2):c∈l:=by
 have:0<cntZ l c:=by omega
 unfold cntZ at this;obtain⟨x,hx⟩:=List.exists_mem_of_length_pos this;obtain⟨h1,h2⟩:=List.mem_filter.1 hx;exact eq_of_beq h2▸h1
def drP(c:Int)(l:J):Bool:=l.all fun x=>x==c || hasZ k5 x
def drC(b:J)(c:Int):Bool:= !hasZ (b.take (idxZ b c).toNat) 86&&drP c ((b.take (jb9 b c+1).toNat).drop (idxZ b c).toNat)
def je0:J→J→Int→Int→Bool×Int×Int
 | [],_,d,f=>(true,d,f)
 | c::r,b,d,f=>bif decide ((cntZ b c:Int)<2)then je0 r b d f else bif d !=0 then(false,0,0)else bif drC b c then je0 r b c (idxZ b c)else(false,0,0)
def G20:Env:=(((Env.nil.add 221 (sp2 s141)).add 253 (sp2 s157)).add 189 (sp2 s132)).add 118 (sp2 s280)
theorem ok_G20:ja0 Tryz.prog G20:=jak (jak (jak (jak jav ok141) ok157) ok132) ok280
def V131_2:Y×Bool×Int×Int×Int×Y×Int×Int×Bool×F×Nat×Nat×Int×Int→F:=fun(b,r,c,L4,i,s,dr,f,cr,d,m,cap,L,j)=> [.pointer (some ⟨3,0,some 0⟩),S b,B r,C8 c,.slice (some ⟨300,0,some 1⟩) 4 4,I L4,I i,.slice (some ⟨390,0,some 1⟩) m cap,I L,I j]
def B131_2:Y×Bool×Int×Int×Int×Y×Int×Int×Bool×F×Nat×Nat×Int×Int→O:=fun(b,r,c,L4,i,s,dr,f,cr,d,m,cap,L,j)=> [some ⟨[S s,B true,I 0,I 0,I 0,B false,.slice none 0 0,C8 dr,I f,B cr,C8 32,I 0],132,true⟩,some ⟨[C8 36,C8 83,C8 43,C8 45],5,false⟩,some ⟨d,5,false⟩]
def S131_2:LSpecA (Y×Bool×Int×Int×Int×Y×Int×Int×Bool×F×Nat×Nat×Int×Int) where
 live:=[0,1,4,6,14,15,16,58,59,60]
 mid:=[3,300,390]
 n:=400
 ap:=[(.tmp 58,390)]
 dec vs bs:=match vs,bs with | [.pointer (some ⟨3,0,some 0⟩),.string b,.bool r,.int .u8 c,.slice (some ⟨300,0,some 1⟩) 4 4,.int .i64 L4,.int .i64 i,.slice (some ⟨390,0,some 1⟩) m cap,.int .i64 L,.int .i64 j],[some ⟨[.string s,.bool true,.int .i64 0,.int .i64 0,.int .i64 0,.bool false,.slice none 0 0,.int .u8 dr,.int .i64 f,.bool cr,.int .u8 32,.int .i64 0],132,true⟩,some ⟨[.int .u8 36,.int .u8 83,.int .u8 43,.int .u8 45],5,false⟩,some ⟨d,5,false⟩]=>some (b,r,c,L4,i,s,dr,f,cr,d,m,cap,L,j) | _,_=>none
 pre:=fun(b,r,c,L4,i,s,dr,f,cr,d,m,cap,L,j)=>vwOK d m&&decide (0≤j∧j≤m∧m≤100∧L=m)
 fin:=fun(b,r,c,L4,i,s,dr,f,cr,d,m,cap,L,j) Z=>(bif drP c ((zc d m).drop j.toNat)then Z (.exit 2) [.pointer (some ⟨3,0,some 0⟩),S b,B r,C8 c,.slice (some ⟨300,0,some 1⟩) 4 4,I L4,I i,.slice (some ⟨390,0,some 1⟩) m cap,I L,I m] [some ⟨[S s,B true,I 0,I 0,I 0,B false,.slice none 0 0,C8 dr,I f,B cr,C8 32,I 0],132,true⟩,some ⟨[C8 36,C8 83,C8 43,C8 45],5,false⟩,some ⟨d,5,false⟩]else∀j',Z .ret [.pointer (some ⟨3,0,some 0⟩),S b,B false,C8 c,.slice (some ⟨300,0,some 1⟩) 4 4,I L4,I i,.slice (some ⟨390,0,some 1⟩) m cap,I L,I j'] [some ⟨[S s,B true,I 0,I 0,I 0,B false,.slice none 0 0,C8 dr,I f,B cr,C8 32,I 0],132,true⟩,some ⟨[C8 36,C8 83,C8 43,C8 45],5,false⟩,some ⟨d,5,false⟩])
def dp(a:Int)(b:Nat):Bool:=ct a (b:Int)
def jg(h:Exit→F→O→Prop)(a b:Int)(f:IntKind)(l:O)(d:List (Prod Nat Nat))(e j:F)(c i:Nat)(k:Option Blk)(g:Prop):Prop:=ft (au a b) (dp a c) (bw d e) (c9 (jbc f e (e7 a)) g) (h (.exit i) j (k::l))
def fp(b f l:Bool)(a:Y)(c d e j k m n:Int)(h i:Nat)(g:Option Addr):Option Blk:=some (.mk [.string a,.bool b,ak c,ak d,ak e,.bool f,.slice g h i,bm j,ak k,.bool l,bm m,ak n] 132 true)
def lz(a:Bool)(b:Y)(c d:Int):Option Blk:=fp true false a b 0 0 0 c d 32 0 0 0 none
def nw(a b c:Int)(d:F):F:=bm a::dv 300 0 4 4::ak b::ak c::d
def d8(a b:Int):F:=[ak a,bp (b+1)]
def dm(d e:Int)(a b c:Nat):F:=dv a 0 b c::d8 d e
def dy(d e:Int)(a b c:Nat):F:=[dv a 0 b c,ak d,ak e]
def jo(b:List (Prod Nat Nat))(c:F)(a:Nat):Option Blk:=some (.mk (rlbL ((a,a)::b) c) 5 false)
def nd:F:=[bm 36,bm 83,bm 43,bm 45]
def lj:Option Blk:=some (.mk nd 5 false)
def cq(c:Int)(a:F)(b d:Nat):Int:=jaq a (b+c.toNat*d)
def cm(a b c:Bool):Bool:=bif a then b else c
def fx(a:Y)(c:F)(b:Value):F:=ar 3:: .string a::b::c
theorem r131_2(b:Y)(r:Bool)(c:Int)(L4:Int)(i:Int)(s:Y)(dr:Int)(f:Int)(cr:Bool)(d:F)(m:Nat)(cap:Nat)(L:Int)(j:Int)(jk:Tmps)(R:Exit→F→O→Prop):(jb6 Tryz.prog G20 noL Tryz.f188.ntmps (jbb Tryz.f188 2) (tl S131_2.live (V131_2 (b,r,c,L4,i,s,dr,f,cr,d,m,cap,L,j)) jk) (ml S131_2.mid (B131_2 (b,r,c,L4,i,s,dr,f,cr,d,m,cap,L,j))) S131_2.n fun e t' m' _=>S131_2.out R e t' m')=(jg R j L .u8 [lj,jo [] d 390] [(390,390)] d (fx b (nw c L4 i (dy L j 390 m cap)) (B r)) m 2 (lz cr s dr f) (bif cm (cq j d 0 1 !=c) (ct (cq j d 0 1) 256&&true) true then kg (cq j d 0 1 !=c&&decide (idxZ (bz ⟨#[44,46,47,66,86]⟩) (cq j d 0 1)<0)) R [lj,jo [] d 390] [(390,390)] d (B false::nw c L4 i (dy L j 390 m cap)) (B r::nw c L4 i (dm L j 390 m cap)) (lz cr s dr f) (ar 3) (S b) (ar 3) (S b)else False)):=by kernel_rfl
theorem l131_2:∀t m n K,S131_2.hA t m n K→Ab.Sem Tryz.prog Tryz.f188.ntmps (.loop (jbb Tryz.f188 2)) t m n K:=by
 refine jbu ok_G20 hmix (by kernel_rfl) (jbf _) S131_2 V131_2 B131_2 (fun(b,r,c,L4,i,s,dr,f,cr,d,m,cap,L,j)=>(m-j).toNat) ?_ ?_ ?_
 ·intro vs bs s h;simp only[S131_2]at h;split at h
  all_goals first | (cases h;exact⟨rfl,rfl⟩) | cases h | (split at h<;>first | (rename_i hq;cases h;have hq:=jah hq;subst hq;exact⟨rfl,rfl⟩) | cases h)
 ·exact fun⟨b,r,c,L4,i,s,dr,f,cr,d,m,cap,L,j⟩ hp=>by
   simp only[S131_2,jaf]at hp;simp[V131_2,B131_2,S131_2,jaw,jbt,idsL,ids,jao (jcx.1 hp.1).plain]
 ·intro⟨b,r,c,L4,i,s,dr,f,cr,d,m,cap,L,j⟩ jk Z hp hf;rw[r131_2];delta c9 ft e7 bw ct dp au jg cu kg dq ar ak bm fp lz dv nw bp d8 dm dy jo nd lj cq cm fx;simp only[S131_2]at hp hf;simp only[jaf,jae]at hp;obtain⟨hv,hp⟩:=hp;have hV:=hv;have hv:=jcx.1 hv;have k:bz ⟨#[44,46,47,66,86]⟩=k5:=rfl;rw[k,Nat.mul_one,Nat.zero_add];simp only[hv.rlb];apply cond_intro<;>intro h
  ·have h:=jab h;obtain⟨a1,a2,a3⟩:=hv.at hp.1 (by omega);rw[a3]at hf;rw[jaa a2,idx_neg];have e:drP c (jaq d j.toNat::List.drop (j+1).toNat (zc d m))=((jaq d j.toNat==c || hasZ k5 (jaq d j.toNat)) &&drP c (List.drop (j+1).toNat (zc d m))):=rfl;rw[e]at hf;refine c_t (jaa (by omega)) (c_t a1 (c_t (by cases(jaq d j.toNat !=c) <;>rfl) (cond_intro (fun q=>c_t (hv.good _) ?_) (fun q=>c_t (hv.good _) ?_))))
   ·have q':(jaq d j.toNat==c || hasZ k5 (jaq d j.toNat))=false:=by
     simp only[jaf,bne_iff_ne,Bool.not_eq_true']at q;rw[q.2,Bool.or_false];simpa using q.1
    rw[q',Bool.false_and,cond_false]at hf;exact hf j
   ·have q':(jaq d j.toNat==c || hasZ k5 (jaq d j.toNat))=true:=by
     cases h1:(jaq d j.toNat==c)with
     | true=>rfl
     | false=>
      have h2:(jaq d j.toNat !=c)=true:=by rw[bne,h1];rfl
      rw[h2,Bool.true_and,Bool.not_eq_false']at q;rw[q];rfl
    rw[q',Bool.true_and]at hf;rw[w64 (by omega)];exact⟨(b,r,c,L4,i,s,dr,f,cr,d,m,cap,L,j+1),rfl,rfl,by simp only[S131_2,jaf,jae];exact⟨hV,by omega⟩,by simp only;omega,hf⟩
  ·have h:=jac h;rw[hv.end (by omega),drP,List.all_nil,cond_true]at hf;obtain rfl:j=m:=by omega
   exact c_t (hv.good _) hf
theorem lk131:LOK Tryz.prog (oneL 2 S131_2.hA) Tryz.f188.ntmps (jbb Tryz.f188 0):=lok_one (by kernel_rfl) l131_2
def V131_0:Y×Bool×Int×Int×Y×Int×Int×Bool→F:=fun(b,r,L4,i,s,dr,f,cr)=> [.pointer (some ⟨3,0,some 0⟩),S b,B r,.slice (some ⟨300,0,some 1⟩) 4 4,I L4,I i]
def B131_0:Y×Bool×Int×Int×Y×Int×Int×Bool→O:=fun(b,r,L4,i,s,dr,f,cr)=> [some ⟨[S s,B true,I 0,I 0,I 0,B false,.slice none 0 0,C8 dr,I f,B cr,C8 32,I 0],132,true⟩,some ⟨[C8 36,C8 83,C8 43,C8 45],5,false⟩]
def S131_0:LSpecA (Y×Bool×Int×Int×Y×Int×Int×Bool) where
 live:=[0,1,4,14,15,16]
 mid:=[3,300]
 n:=310
 ap:=[(.tmp 14,300)]
 dec vs bs:=match vs,bs with | [.pointer (some ⟨3,0,some 0⟩),.string b,.bool r,.slice (some ⟨300,0,some 1⟩) 4 4,.int .i64 L4,.int .i64 i],[some ⟨[.string s,.bool true,.int .i64 0,.int .i64 0,.int .i64 0,.bool false,.slice none 0 0,.int .u8 dr,.int .i64 f,.bool cr,.int .u8 32,.int .i64 0],132,true⟩,some ⟨[.int .u8 36,.int .u8 83,.int .u8 43,.int .u8 45],5,false⟩]=>some (b,r,L4,i,s,dr,f,cr) | _,_=>none
 pre:=fun(b,r,L4,i,s,dr,f,cr)=>decide (L4=4∧0≤i∧i≤4∧b.size≤100∧0≤dr∧dr<256)
 fin:=fun(b,r,L4,i,s,dr,f,cr) Z=>(bif (je0 (List.drop i.toNat [36,83,43,45]) (bz b) dr f).1 then∀dr' f',je0 (List.drop i.toNat [36,83,43,45]) (bz b) dr f=(true,dr',f')→Z (.exit 0) [.pointer (some ⟨3,0,some 0⟩),S b,B r,.slice (some ⟨300,0,some 1⟩) 4 4,I L4,I 4] [some ⟨[S s,B true,I 0,I 0,I 0,B false,.slice none 0 0,C8 (dr'),I (f'),B cr,C8 32,I 0],132,true⟩,some ⟨[C8 36,C8 83,C8 43,C8 45],5,false⟩]else∀i' dr' f',Z .ret [.pointer (some ⟨3,0,some 0⟩),S b,B false,.slice (some ⟨300,0,some 1⟩) 4 4,I L4,I i'] [some ⟨[S s,B true,I 0,I 0,I 0,B false,.slice none 0 0,C8 (dr'),I (f'),B cr,C8 32,I 0],132,true⟩,some ⟨[C8 36,C8 83,C8 43,C8 45],5,false⟩])
def gn(a b:Bool)(c d:Prop):Prop:=bif a then c9 b c else d
def ez(a b c d e:Int):Bool:=decide (a≤b∧b≤c∧d≤e)
def md(d:Bool)(a b c:Int)(e f:Prop):Prop:=bif ez 0 a b b c then bif d then e else f else False
def fw(a b c:Bool)(d e:Prop):Prop:=bif a&&b then bif c then d else e else False
def go(c:Y)(a b:Nat):F:=rlbL [(a,b)] (Lib.strCells c)
def l0(c g h:Bool)(a:Y)(b d e f:Nat)(i:Prop):Prop:=a.size.ble b=true→fw c (jaw d (go a e f) &&g) h i False
def jb(a:Int):Int:=jaq nd (e7 a)
def nx(a:Bool)(b d:Y)(c:Int):O:=[fp true false a b 0 0 0 (jb c) (idxZ (bz d) (jb c)) 32 0 0 0 none,lj]
def kr(a:Y)(b:Int):Y:=a.extract (idxZ (bz a) (jb b)).toNat (il (jb9 (bz a) (jb b)) 1).toNat
def jp(a:F)(b:Nat):J:=(zc a b).drop (Int.toNat 0)
def jz(a:Y):Int:=(bz a).getD 0 (0:Int)
def jc(a:Y)(b:UInt8):Bool:=hasZ (bz a) (jz ⟨#[b]⟩)
def ic(a:Y):Bool:=decide (a.size≤1000)
theorem r131_0(b:Y)(r:Bool)(L4:Int)(i:Int)(s:Y)(dr:Int)(f:Int)(cr:Bool)(jk:Tmps)(R:Exit→F→O→Prop):(jb6 Tryz.prog G20 (oneL 2 S131_2.hA) Tryz.f188.ntmps (jbb Tryz.f188 0) (tl S131_0.live (V131_0 (b,r,L4,i,s,dr,f,cr)) jk) (ml S131_0.mid (B131_0 (b,r,L4,i,s,dr,f,cr))) S131_0.n fun e t' m' _=>S131_0.out R e t' m')=(gn (au i L4) (ct i 4) (bif jbc .u8 nd (e7 i)then bif oneB (Utf8.encode (jb i))then bif decide ((cntZ (bz b) (jz (Utf8.encode (jb i))):Int)<2)then R .normal (fx b (dm L4 i 300 4 4) (B r)) [lz cr s dr f,lj]else bif dr !=0 then R .ret (fx b (dy L4 i 300 4 4) (B false)) [lz cr s dr f,lj]else bif ct (jb i) 256 then bif ic b then md (jc (b.extract 0 (idxZ (bz b) (jb i)).toNat) 86) 0 (idxZ (bz b) (jb i)) (al b) (R .ret (fx b (dy L4 i 300 4 4) (B false)) (nx cr s b i)) (bif ez 0 (idxZ (bz b) (jb i)) (il (jb9 (bz b) (jb i)) 1) (il (jb9 (bz b) (jb i)) 1) (al b)then∀a:Nat,l0 (bw [(355,390)] (Lib.strCells (kr b i))) true (S131_2.toLSpec.pre (b,(r,(jb i,(L4,(i,(s,(jb i,(idxZ (bz b) (jb i),(cr,(go (kr b i) 355 390,((kr b i).size,(a,(natO (kr b i).size,(0:Int))))))))))))))) (kr b i) a 400 355 390 (bif drP (jb i) (jp (go (kr b i) 355 390) (kr b i).size)then gy (go (kr b i) 355 390) 400 (R .normal (fx b (dm L4 i 300 4 4) (B r)) (nx cr s b i))else Int→gy (go (kr b i) 355 390) 400 (R .ret (fx b (dy L4 i 300 4 4) (B false)) (nx cr s b i)))else False)else False else False else False else False) (R (.exit 0) (fx b (dy L4 i 300 4 4) (B r)) [lz cr s dr f,lj])):=by kernel_rfl
theorem l131_0:∀t m n K,S131_0.hA t m n K→Ab.Sem Tryz.prog Tryz.f188.ntmps (.loop (jbb Tryz.f188 0)) t m n K:=by
 refine jbu ok_G20 hmix (by kernel_rfl) lk131 S131_0 V131_0 B131_0 (fun(b,r,L4,i,s,dr,f,cr)=>(4-i).toNat) ?_ ?_ ?_
 ·intro vs bs s h;simp only[S131_0]at h;split at h
  all_goals first | (cases h;exact⟨rfl,rfl⟩) | cases h | (split at h<;>first | (rename_i hq;cases h;have hq:=jah hq;subst hq;exact⟨rfl,rfl⟩) | cases h)
 ·exact fun⟨b,r,L4,i,s,dr,f,cr⟩ hp=>by
   simp[V131_0,B131_0,S131_0,jaw,jbt,idsL,ids]
 ·intro⟨b,r,L4,i,s,dr,f,cr⟩ jk Z hp hf;rw[r131_0];delta c9 gn bm nd lj ak fp lz dq ar fx dv dy ez md fw go l0 gy e7 jb nx il kr bp d8 dm jp bw al jz jc ic ct au;simp only[S131_0]at hp hf;simp only[jae]at hp;have hL4:=hp.1;apply cond_intro<;>intro h
  ·have h:=jab h;obtain⟨c,c1,c2,c3,c4,c5,c6⟩:=ch_at hp.2.1 (by omega);rw[c1,c2,c4,c3,w64 (n:=i+1) (by omega)];rw[c6,je0]at hf;clear c1 c2 c3 c4 c6;refine c_t (jaa (by omega)) (c_t rfl (c_t rfl (cond_intro (fun q=> ?_) (fun q=> ?_))))
   ·rw[q,cond_true]at hf;exact⟨(b,r,L4,i+1,s,dr,f,cr),rfl,rfl,by simp only[S131_0,jae];omega,by simp only;omega,hf⟩
   ·rw[q,cond_false]at hf;have q:=jac q;have hm:=jj4 q;have i1:=jfa c hm;have i2:=jjo c hm;have i3:=jjj (bz b) c;rw[jam]at i1 i3;refine cond_intro (fun e=> ?_) (fun e=>c_t (jaa (by omega)) (c_t (jaa (by omega)) (c_t (jaa (by omega)) ?_)))
    ·rw[e]at hf;exact hf i dr f
    ·rw[e,cond_false]at hf;have k6:(bz ⟨#[86]⟩).getD 0 0=86:=rfl;have ex:bz (b.extract 0 (idxZ (bz b) c).toNat)=(bz b).take (idxZ (bz b) c).toNat:=by rw[jb7];simp
     have ex2:bz (b.extract (idxZ (bz b) c).toNat (jb9 (bz b) c+1).toNat)=((bz b).take (jb9 (bz b) c+1).toNat).drop (idxZ (bz b) c).toNat:=jb7 _ _ _;rw[k6,ex,w64 (n:=jb9 (bz b) c+1) (by omega)];refine cond_intro (fun e=> ?_) (fun e=>c_t (jaa (by omega)) (fun cap hcap=> ?_))
     ·rw[drC,e]at hf;exact hf i _ _
     ·obtain⟨v1,v2⟩:=jlp (b.extract (idxZ (bz b) c).toNat (jb9 (bz b) c+1).toNat);have v3:=jcx.2 v1
      have hsz:(b.extract (idxZ (bz b) c).toNat (jb9 (bz b) c+1).toNat).size≤100:=by
       rw[←jam,ex2,List.length_drop,List.length_take,jam];omega
      have g1:=v1.good;have g2:=v1.rlb;have g3:=jbl v1.plain;rw[ex2]at v2;rw[drC,e,Bool.not_false,Bool.true_and,←v2]at hf;simp only[g2];clear ex2;generalize b.extract (idxZ (bz b) c).toNat (jb9 (bz b) c+1).toNat=y at*;generalize Lib.strCells y=d at*;refine c_t (by rw[g1,g3];rfl) (c_t ?_ (cond_intro (fun a=>c_t (by rw[g3];rfl) fun x=> ?_) (fun a j'=>c_t (by rw[g3];rfl) fun x=> ?_)))
      ·simp only[S131_2,jaf,jae];exact⟨v3,by omega,by omega,hsz,jb1 _⟩
      ·have a:drP c (zc d y.size)=true:=a;rw[a,cond_true]at hf;exact⟨(b,r,L4,i+1,s,c,idxZ (bz b) c,cr),rfl,rfl,by simp only[S131_0,jae];omega,by simp only;omega,hf⟩
      ·have a:drP c (zc d y.size)=false:=a;rw[a]at hf;exact hf i _ _
  ·have h:=jac h;obtain rfl:i=4:=by omega
   subst hL4;exact hf dr f rfl
theorem fn131:Fn1 Tryz.prog 188 Tryz.f188:= .m Tryz.func188
theorem lok131:LOKf Tryz.prog (oneL 0 S131_0.hA) Tryz.f188:=jcb (by kernel_rfl) l131_0
def G21:Env:=Env.nil.add 221 (sp2 s141)
theorem ok_G21:ja0 Tryz.prog G21:=jak jav ok141
def G22:Env:=Env.nil.addG 255 (inlQ Tryz.prog G21 noL Tryz.f255)
theorem ok_G22:ja0 Tryz.prog G22:=jau jav (jbd ok_G21 hmix (.m Tryz.func255) jaj)
def ci(l:J):F:=l.map fun n=> .int .i64 n
@[simp] theorem ci_length (l:J):(ci l).length=l.length:=by simp[ci]
theorem ci_append(a b:J):ci (a++b)=ci a++ci b:=by simp[ci]
theorem ci_plain:∀l:J,jay (ci l)=true
 | []=>rfl
 | c::r=>by simpa[ci,jay,plain]using ci_plain r
def je9:F→Bool
 | []=>true
 | .int .i64 _::r=>je9 r
 | _=>false
theorem ci_isInts:∀l:J,je9 (ci l)=true
 | []=>rfl
 | c::r=>by simpa[ci,je9]using ci_isInts r
theorem jn7:∀{l:F},je9 l=true→ci (l.map iv)=l
 | [],_=>rfl
 | .int .i64 n::r,h=>by
  have:=jn7 (l:=r) (by simpa[je9]using h);simp only[ci]at this;simp only[List.map_cons,ci,iv,this]
def jbv(c:F)(n cap:Nat):Bool:=je9 (c.take n) && (jay c&& (Nat.beq c.length cap&& (Nat.ble n cap&&Nat.ble cap 9223372036854775807)))
structure RowI (c:F)(n cap:Nat):Prop where
 bytes:je9 (c.take n)=true
 plain:jay c=true
 len:c.length=cap
 le:n≤cap
 cap:cap≤9223372036854775807
theorem jar{c:F}{n cap:Nat}:jbv c n cap=true↔RowI c n cap:=by
 simp only[jbv,jaf,Nat.ble_eq,Nat.beq_eq];exact⟨fun⟨h1,h2,h3,h4,h5⟩=>⟨h1,h2,h3,h4,h5⟩,fun⟨h1,h2,h3,h4,h5⟩=>⟨h1,h2,h3,h4,h5⟩⟩
theorem jbg{c:F}{n cap:Nat}(h:RowI c n cap):(zc c n).length=n:=by
 have h1:=h.len;have h2:=h.le;simp only[zc,List.length_map,List.length_take];omega
theorem RowI.eq{c:F}{n cap:Nat}(h:RowI c n cap):c=ci (zc c n)++c.drop n:=by
 rw[zc,jn7 h.bytes,List.take_append_drop]
theorem RowI.take{c:F}{n cap:Nat}(h:RowI c n cap):c.take n=ci (zc c n):=(jn7 h.bytes).symm
theorem rowI_mk(L:J){tail:F}{cap:Nat}(ht:jay tail=true)(hl:L.length+tail.length=cap)(hc:cap≤9223372036854775807):RowI (ci L++tail) L.length cap∧zc (ci L++tail) L.length=L:=by
 have e:(ci L++tail).take L.length=ci L:=by rw[List.take_append_of_le_length (by simp),List.take_of_length_le (by simp)]
 refine⟨⟨by rw[e];exact ci_isInts L,plainL_append.2 ⟨ci_plain L,ht⟩,by simp[hl],by omega,hc⟩,?_⟩;show List.map iv ((ci L++tail).take L.length)=L;rw[e];simp only[ci,List.map_map];have:(iv∘fun n:Int=>Value.int .i64 n)=id:=by funext n;rfl
 rw[this,List.map_id]
theorem RowI.app{c:F}{n cap:Nat}(h:RowI c n cap)(M:J){tail:F}{cap':Nat}(ht:jbm tail cap' (n+M.length) 1=true):
  RowI (c.take n++ci M++tail) (n+M.length) cap'∧zc (c.take n++ci M++tail) (n+M.length)=zc c n++M:=by
 obtain⟨t1,t2,t3,t4⟩:=je3 ht;have hz:=jbg h;have:=rowI_mk (zc c n++M) (tail:=tail) (cap:=cap') t1 (by simp only[List.length_append,hz];omega) t4;simp only[List.length_append,hz,ci_append]at this;rw[h.take];exact this
theorem RowI.app1{c:F}{n cap:Nat}(h:RowI c n cap)(x:Int){tail:F}{cap':Nat}(ht:jbm tail cap' (n+1) 1=true):
  RowI (c.take (n*1)++ [.int .i64 x]++tail) (n+1) cap'∧zc (c.take (n*1)++ [.int .i64 x]++tail) (n+1)=zc c n++ [x]:=by
 rw[Nat.mul_one];exact h.app [x] ht
theorem RowI.ask{c:F}{n cap:Nat}(h:RowI c n cap){k:Nat}(hk:n+k≤1000000):
  (Nat.beq c.length (cap*1) &&Nat.ble n cap&&Nat.ble cap 9223372036854775807&&true&&jcj (n+k) 8)=true:=by
 have h1:=h.len;have h2:=h.le;have h3:=h.cap;simp only[jcj,jaf,Nat.ble_eq,Nat.beq_eq,Nat.mul_one];exact⟨⟨⟨⟨h1,h2⟩,h3⟩,trivial⟩,by omega,by omega⟩
theorem jfh(M:J){tail:F}{cap':Nat}(ht:jbm tail cap' M.length 1=true):RowI (ci M++tail) M.length cap'∧zc (ci M++tail) M.length=M:=by
 obtain⟨t1,t2,t3,t4⟩:=je3 ht;exact rowI_mk M t1 (by omega) t4
theorem RowI.good{c:F}{n cap:Nat}(h:RowI c n cap)(ps:List (Nat×Nat)):jas ps c=true:=goodL_plain h.plain
theorem RowI.rlb{c:F}{n cap:Nat}(h:RowI c n cap)(ps:List (Nat×Nat)):rlbL ps c=c:=rlbL_plain ps h.plain
def Rw.bi:Rw→Option Blk
 | .nil=>none
 | .own d _ _=>some ⟨d,221,true⟩
def Rw.oki:Rw→Bool
 | .nil=>true
 | .own d m cap=>jbv d m cap
theorem jg7{b:Bool}{P Q P' Q':Prop}(h:bif b then P else Q)(h1:P→P')(h2:Q→Q'):bif b then P' else Q':=by
 cases b
 ·exact h2 h
 ·exact h1 h
theorem jk6(l:J)(c:Int):decide (idxZ l c≥0)=hasZ l c:=by
 have:=idx_neg l c;rw[Bool.eq_iff_iff,jae]at*;cases h:hasZ l c with
 | true=>
  rw[h]at this;have h2:¬idxZ l c<0:=fun q=>by have:=this.1 q;cases this
  simp;omega
 | false=>
  rw[h]at this;have h2:idxZ l c<0:=this.2 rfl;simp;omega
def roP(dr f c i:Int):Int:=bif hasZ [57,89,84,73,82] c then 0 else bif c==90 || (c==42 || (c==dr&&i !=f))then 1 else bif c==86 then 2 else bif c==36 then 5 else bif c==83 || (c==43 || c==45)then 4 else 3
def jbh(dr f:Int):J→Int→J
 | [],_=> []
 | c::r,i=>roP dr f c i::jbh dr f r (i+1)
structure PlS where
 pts:Int
 bh:Bool
 w:Int
 dg:Int
 q:Int
 fm:Int
def plGo:J→PlS→Bool×PlS
 | [],a=>(true,a)
 | r::rs,a=>bif r==2 then plGo rs ⟨a.pts+1,a.bh,a.w,a.dg,a.q,a.fm⟩else bif r==0 then plGo rs ⟨a.pts,a.bh,a.w+1,a.dg+1,a.q+a.pts,a.fm+1⟩
  else bif r==1 then(bif decide (a.fm>0)then(false,a)else plGo rs ⟨a.pts,a.bh || decide (a.pts>0),a.w+1,a.dg+1,a.q+a.pts,a.fm⟩)else plGo rs ⟨a.pts,a.bh,a.w+1,a.dg,a.q,a.fm⟩
def V133_0:Y×Bool×Int×Bool×F×Nat×Nat×Int×Int×Y×Int×Int×Int×Rw×Int×Int×Bool×Int→F:=fun(b,r,pts,bh,d,m,cap,L,i,s,w,dg,q,o,dr,f,cr,fm)=> [.pointer (some ⟨3,0,some 0⟩),S b,B r,I (pts),B (bh),.slice (some ⟨400,0,some 1⟩) m cap,I L,I (i)]
def B133_0:Y×Bool×Int×Bool×F×Nat×Nat×Int×Int×Y×Int×Int×Int×Rw×Int×Int×Bool×Int→O:=fun(b,r,pts,bh,d,m,cap,L,i,s,w,dg,q,o,dr,f,cr,fm)=> [some ⟨[.string s,.bool true,.int .i64 (w),.int .i64 (dg),.int .i64 (q),.bool false,o.v 401,.int .u8 dr,.int .i64 f,.bool cr,.int .u8 32,.int .i64 (fm)],132,true⟩,some ⟨d,5,false⟩,o.bi]
def S133_0:LSpecA (Y×Bool×Int×Bool×F×Nat×Nat×Int×Int×Y×Int×Int×Int×Rw×Int×Int×Bool×Int) where
 live:=[0,1,4,5,6,11,12,13]
 mid:=[3,400,401]
 n:=410
 ap:=[(.tmp 11,400),(.cell 3 6,401)]
 dec vs bs:=match vs,bs with
  | [.pointer (some ⟨3,0,some 0⟩),.string b,.bool r,.int .i64 pts,.bool bh,.slice (some ⟨400,0,some 1⟩) m cap,.int .i64 L,.int .i64 i],[some ⟨[.string s,.bool true,.int .i64 w,.int .i64 dg,.int .i64 q,.bool false,.slice none 0 0,.int .u8 dr,.int .i64 f,.bool cr,.int .u8 32,.int .i64 fm],132,true⟩,some ⟨d,5,false⟩,none]=>some (b,r,pts,bh,d,m,cap,L,i,s,w,dg,q,.nil,dr,f,cr,fm)
  | [.pointer (some ⟨3,0,some 0⟩),.string b,.bool r,.int .i64 pts,.bool bh,.slice (some ⟨400,0,some 1⟩) m cap,.int .i64 L,.int .i64 i],[some ⟨[.string s,.bool true,.int .i64 w,.int .i64 dg,.int .i64 q,.bool false,.slice (some ⟨401,0,some 1⟩) m2 cap2,.int .u8 dr,.int .i64 f,.bool cr,.int .u8 32,.int .i64 fm],132,true⟩,some ⟨d,5,false⟩,some ⟨d2,221,true⟩]=>some (b,r,pts,bh,d,m,cap,L,i,s,w,dg,q,.own d2 m2 cap2,dr,f,cr,fm)
  | _,_=>none
 pre:=fun(b,r,pts,bh,d,m,cap,L,i,s,w,dg,q,o,dr,f,cr,fm)=>o.oki&& (vwOK d m&&decide (0≤i∧i≤m∧m≤100∧L=m∧0≤pts∧pts≤i∧0≤w∧w≤i∧0≤dg∧dg≤i∧0≤fm∧fm≤i∧0≤q∧q≤i*100∧o.z.length≤i))
 fin:=fun(b,r,pts,bh,d,m,cap,L,i,s,w,dg,q,o,dr,f,cr,fm) Z=>(bif (plGo (jbh dr f ((zc d m).drop i.toNat) i) ⟨pts,bh,w,dg,q,fm⟩).1 then(o.is=false→(zc d m).drop i.toNat=[]→Z (.exit 0) [.pointer (some ⟨3,0,some 0⟩),S b,B r,I (pts),B (bh),.slice (some ⟨400,0,some 1⟩) m cap,I L,I (m)] [some ⟨[.string s,.bool true,.int .i64 (w),.int .i64 (dg),.int .i64 (q),.bool false,.slice none 0 0,.int .u8 dr,.int .i64 f,.bool cr,.int .u8 32,.int .i64 (fm)],132,true⟩,some ⟨d,5,false⟩,none])∧ ∀pts' bh' w' dg' q' fm' d' m' cap',jbv d' m' cap'=true→zc d' m'=o.z++jbh dr f ((zc d m).drop i.toNat) i→plGo (jbh dr f ((zc d m).drop i.toNat) i) ⟨pts,bh,w,dg,q,fm⟩=(true,⟨pts',bh',w',dg',q',fm'⟩)→Z (.exit 0) [.pointer (some ⟨3,0,some 0⟩),S b,B r,I (pts'),B (bh'),.slice (some ⟨400,0,some 1⟩) m cap,I L,I (m)] [some ⟨[.string s,.bool true,.int .i64 (w'),.int .i64 (dg'),.int .i64 (q'),.bool false,.slice (some ⟨401,0,some 1⟩) m' cap',.int .u8 dr,.int .i64 f,.bool cr,.int .u8 32,.int .i64 (fm')],132,true⟩,some ⟨d,5,false⟩,some ⟨d',221,true⟩]else∀pts' bh' i' w' dg' q' fm' d' m' cap',jbv d' m' cap'=true→Z .ret [.pointer (some ⟨3,0,some 0⟩),S b,B false,I (pts'),B (bh'),.slice (some ⟨400,0,some 1⟩) m cap,I L,I (i')] [some ⟨[.string s,.bool true,.int .i64 (w'),.int .i64 (dg'),.int .i64 (q'),.bool false,.slice (some ⟨401,0,some 1⟩) m' cap',.int .u8 dr,.int .i64 f,.bool cr,.int .u8 32,.int .i64 (fm')],132,true⟩,some ⟨d,5,false⟩,some ⟨d',221,true⟩])
def kh(b:Bool)(a c d:Int)(e f g:Nat):F:=ak a:: .bool b::dy c d e f g
def c7(a c:Int)(b:F):Bool:=cq a b 0 1==c
def ny(b d e:Int)(a:F)(c f g h i j:Prop):Prop:=bif jbc .u8 a (e7 b)then bif ct (cq b a 0 1) 256 then bif decide (idxZ (bz ⟨#[57,89,84,73,82]⟩) (cq b a 0 1)≥0)then c else br (c7 b 90 a) (c7 b 42 a || (c7 b d a || true)) (c7 b 90 a || (c7 b 42 a || c7 b d a&&b !=e)) f (bif c7 b 86 a then g else bif c7 b 36 a then h else jw (c7 b 83 a || (c7 b 43 a || true)) (c7 b 83 a || (c7 b 43 a || c7 b 45 a)) i j)else False else False
def ll(a:Bool)(b c:Int)(d e:Nat):F:= .bool a::dm b c 400 d e
def jq(a:List (Prod Nat Nat))(b:F):Option Blk:=some (.mk (rlbL a b) 221 true)
def j0(b c:F)(a:Nat):O:=[jo [(a,401)] b 400,jq [(400,400),(a,401)] c]
def jr(c:List (Prod Nat Nat))(d e:F)(a b:Nat):Bool:=jas ((a,b)::c) d&& (jas ((a,b)::c) e&&true)
def n5(c:Int)(b d:F)(a:Nat):Bool:=jr [(a,401)] b (ak c::d) 400 400
def me(f n:Bool)(m:Y)(e:Exit→F→O→Prop)(a g h:Int)(b:F)(d i j k:Nat)(l:Option Blk)(o:Value):Prop:=∀c:F,iz (n5 a b c d) e (j0 b (ak a::c) d) c (ll f g h i j) k 1 l (ar 3) (.string m) (.bool n) o
def ie:Option Addr:=dq 401 0 1
def jh(a:Bool)(b:Y)(c d e f g h:Int)(i j:Nat):Option Blk:=fp true false a b c d e f g 32 h i j ie
theorem r133_0n(b:Y)(r:Bool)(pts:Int)(bh:Bool)(d:F)(m:Nat)(cap:Nat)(L:Int)(i:Int)(s:Y)(w:Int)(dg:Int)(q:Int)(dr:Int)(f:Int)(cr:Bool)(fm:Int)(jk:Tmps)(R:Exit→F→O→Prop):(jb6 Tryz.prog G22 noL Tryz.f190.ntmps (jbb Tryz.f190 0) (tl S133_0.live (V133_0 (b,r,pts,bh,d,m,cap,L,i,s,w,dg,q,.nil,dr,f,cr,fm)) jk) (ml S133_0.mid (B133_0 (b,r,pts,bh,d,m,cap,L,i,s,w,dg,q,.nil,dr,f,cr,fm))) S133_0.n fun e t' m' _=>S133_0.out R e t' m')=(ft (au i L) (dp i m) (bw [(400,400)] d) (ny i dr f d (∀a:Nat,me bh r b R 0 L i d 434 m cap a (fp true false cr s (bk w 1) (bk dg 1) (bk q pts) dr f 32 (bk fm 1) 1 a ie) (ak pts)) (∀a:Nat,∀c:F,jbm c a 1 1=true→(bif dw fm 0 then bif n5 1 d c 457&&true then R .ret (fx b (kh bh pts L i 400 m cap) (B false)) (jh cr s w dg q dr f fm 1 a::j0 d (ak 1::c) 457)else False else br bh true (n5 1 d c 457&&true) (R .normal (fx b (ak pts::B (bh || dw pts 0)::dm L i 400 m cap) (B r)) (fp true false cr s (bk w 1) (bk dg 1) (bk q pts) dr f 32 fm 1 a ie::j0 d (ak 1::c) 457)) False)) (∀a:Nat,me bh r b R 2 L i d 460 m cap a (jh cr s w dg q dr f fm 1 a) (bp (pts+1))) (∀a:Nat,me bh r b R 5 L i d 463 m cap a (fp true false cr s (bk w 1) dg q dr f 32 fm 1 a ie) (ak pts)) (∀a:Nat,me bh r b R 4 L i d 474 m cap a (fp true false cr s (bk w 1) dg q dr f 32 fm 1 a ie) (ak pts)) (∀a:Nat,me bh r b R 3 L i d 474 m cap a (fp true false cr s (bk w 1) dg q dr f 32 fm 1 a ie) (ak pts))) (R (.exit 0) (fx b (kh bh pts L i 400 m cap) (B r)) [fp true false cr s w dg q dr f 32 fm 0 0 none,jo [] d 400,none])):=by kernel_rfl
def l4(a:F)(b c:Nat)(d:Prop):Prop:=bif f8 a b c 8 then d else False
def jn(c:Int)(b d:F)(a:Nat):F:=fv b a++ [ak c]++d
def lb(b c:F)(a:Nat):Bool:=jr [(a,401)] b c 400 400
theorem r133_0o(b:Y)(r:Bool)(pts:Int)(bh:Bool)(d:F)(m:Nat)(cap:Nat)(L:Int)(i:Int)(s:Y)(w:Int)(dg:Int)(q:Int)(d2:F)(m2:Nat)(cap2:Nat)(dr:Int)(f:Int)(cr:Bool)(fm:Int)(jk:Tmps)(R:Exit→F→O→Prop):(jb6 Tryz.prog G22 noL Tryz.f190.ntmps (jbb Tryz.f190 0) (tl S133_0.live (V133_0 (b,r,pts,bh,d,m,cap,L,i,s,w,dg,q,.own d2 m2 cap2,dr,f,cr,fm)) jk) (ml S133_0.mid (B133_0 (b,r,pts,bh,d,m,cap,L,i,s,w,dg,q,.own d2 m2 cap2,dr,f,cr,fm))) S133_0.n fun e t' m' _=>S133_0.out R e t' m')=(ft (au i L) (dp i m) (lb d d2 401&&true) (ny i dr f d (l4 d2 cap2 m2 (∀a:Nat,∀c:F,iz (lb d (jn 0 d2 c m2) 434) R (j0 d (jn 0 d2 c m2) 434) c (ll bh L i m cap) a (m2+1) (fp true false cr s (bk w 1) (bk dg 1) (bk q pts) dr f 32 (bk fm 1) (m2+1) a ie) (ar 3) (S b) (B r) (ak pts))) (l4 d2 cap2 m2 (∀a:Nat,∀c:F,jbm c a (m2+1) 1=true→(bif dw fm 0 then bif lb d (jn 1 d2 c m2) 457&&true then R .ret (fx b (kh bh pts L i 400 m cap) (B false)) (fp true false cr s w dg q dr f 32 fm (m2+1) a ie::j0 d (jn 1 d2 c m2) 457)else False else br bh true (lb d (jn 1 d2 c m2) 457&&true) (R .normal (fx b (ak pts::B (bh || dw pts 0)::dm L i 400 m cap) (B r)) (fp true false cr s (bk w 1) (bk dg 1) (bk q pts) dr f 32 fm (m2+1) a ie::j0 d (jn 1 d2 c m2) 457)) False))) (l4 d2 cap2 m2 (∀a:Nat,∀c:F,iz (lb d (jn 2 d2 c m2) 460) R (j0 d (jn 2 d2 c m2) 460) c (ll bh L i m cap) a (m2+1) (fp true false cr s w dg q dr f 32 fm (m2+1) a ie) (ar 3) (S b) (B r) (bp (pts+1)))) (l4 d2 cap2 m2 (∀a:Nat,∀c:F,iz (lb d (jn 5 d2 c m2) 463) R (j0 d (jn 5 d2 c m2) 463) c (ll bh L i m cap) a (m2+1) (fp true false cr s (bk w 1) dg q dr f 32 fm (m2+1) a ie) (ar 3) (S b) (B r) (ak pts))) (l4 d2 cap2 m2 (∀a:Nat,∀c:F,iz (lb d (jn 4 d2 c m2) 474) R (j0 d (jn 4 d2 c m2) 474) c (ll bh L i m cap) a (m2+1) (fp true false cr s (bk w 1) dg q dr f 32 fm (m2+1) a ie) (ar 3) (S b) (B r) (ak pts))) (l4 d2 cap2 m2 (∀a:Nat,∀c:F,iz (lb d (jn 3 d2 c m2) 474) R (j0 d (jn 3 d2 c m2) 474) c (ll bh L i m cap) a (m2+1) (fp true false cr s (bk w 1) dg q dr f 32 fm (m2+1) a ie) (ar 3) (S b) (B r) (ak pts)))) (R (.exit 0) (fx b (kh bh pts L i 400 m cap) (B r)) (jh cr s w dg q dr f fm m2 cap2::j0 d d2 401))):=by kernel_rfl
theorem l133_0:LOKf Tryz.prog (oneL 0 S133_0.hA) Tryz.f190:=by
 refine jcb (h:=S133_0.hA) (by kernel_rfl) (jbu ok_G22 hmix (by kernel_rfl) (jbf _) S133_0 V133_0 B133_0 (fun(b,r,pts,bh,d,m,cap,L,i,s,w,dg,q,o,dr,f,cr,fm)=>(m-i).toNat) ?_ ?_ ?_)
 ·intro vs bs s h;simp only[S133_0]at h;split at h
  all_goals first | (cases h;exact⟨rfl,rfl⟩) | cases h | (split at h<;>first | (rename_i hq;cases h;have hq:=jah hq;subst hq;exact⟨rfl,rfl⟩) | cases h)
 ·exact fun⟨b,r,pts,bh,d,m,cap,L,i,s,w,dg,q,o,dr,f,cr,fm⟩ hp=>by
   simp only[S133_0,jaf]at hp;have hv:=jcx.1 hp.2.1;cases o with
   | nil=>simp[V133_0,B133_0,S133_0,jaw,jbt,idsL,ids,Rw.v,Rw.bi,jao hv.plain]
   | own d2 m2 cap2=>simp[V133_0,B133_0,S133_0,jaw,jbt,idsL,ids,Rw.v,Rw.bi,jao hv.plain,jao (jar.1 hp.1).plain]
 ·intro⟨b,r,pts,bh,d,m,cap,L,i,s,w,dg,q,o,dr,f,cr,fm⟩ jk Z hp hf;simp only[S133_0]at hp hf;cases o with
  | nil=>
   rw[r133_0n];delta c9 ft jo ak bm fp dq ar fx dv dy kh br jw cq c7 ct e7 ny cu iz bp d8 dm ll jq j0 jr n5 me ie bk jh dw bw dp au;simp only[jaf,jae]at hp;obtain⟨-,hV,hp⟩:=hp;have hv:=jcx.1 hV;simp only[Rw.z,List.length_nil]at hp hf;have k1:bz ⟨#[57,89,84,73,82]⟩=[57,89,84,73,82]:=rfl;have e0:0+i.toNat*1=i.toNat:=by omega
   rw[k1,e0];apply cond_intro<;>intro h
   ·have h:=jab h;obtain⟨a1,a2,a3⟩:=hv.at hp.1 (by omega);rw[a3]at hf;rw[a1,w64 (n:=i+1) (by omega)];generalize jaq d i.toNat=c at*;refine c_t (jaa (by omega)) (c_t rfl (c_t (jaa a2) ?_));rw[jk6];refine cond_intro (fun q0=> ?_) (fun q0=>c_t (by simp) (cond_intro (fun q1=> ?_) (fun q1=>cond_intro (fun q2=> ?_) (fun q2=>cond_intro (fun q3=> ?_) (fun q3=>c_t (by simp) (cond_intro (fun q4=> ?_) (fun q4=> ?_)))))))
    ·have e:roP dr f c i=0:=by
      unfold roP;rw[q0];rfl
     rw[jbh,e]at hf;intro cap1 tail ht;obtain⟨h1,h2⟩:RowI (Value.int IntKind.i64 0::tail) 1 cap1∧zc (Value.int IntKind.i64 0::tail) 1=[0]:=jfh [0] ht;have hl1:=jbg h1;generalize Value.int IntKind.i64 0::tail=d' at*;refine c_t (by rw[goodL_plain hv.plain,goodL_plain h1.plain];rfl) ?_;rw[hv.rlb,rlbL_plain _ h1.plain];rw[w64 (n:=w+1) (by omega)];rw[w64 (n:=dg+1) (by omega)];rw[w64 (n:=q+pts) (by omega)];rw[w64 (n:=fm+1) (by omega)];exact⟨(b,r,pts,bh,d,m,cap,L,i+1,s,w+1,dg+1,q+pts,.own d' (1) cap1,dr,f,cr,fm+1),rfl,rfl,by simp only[S133_0,jaf,jae];exact⟨jar.2 h1,hV,by simp only[Rw.z,hl1];omega⟩,by simp only;omega,by simp only[S133_0];refine jg7 hf ?_ (fun g=>g);rintro ⟨-,g⟩;exact⟨fun q=>(by cases q),fun pts' bh' w' dg' q' fm' d'' m'' cap'' g1 g2 g3=>g pts' bh' w' dg' q' fm' d'' m'' cap'' g1 (by rw[g2];simp[Rw.z,h2]) g3⟩⟩
    ·have e:roP dr f c i=1:=by
      unfold roP;rw[q0,q1];rfl
     rw[jbh,e]at hf;intro cap1 tail ht;obtain⟨h1,h2⟩:RowI (Value.int IntKind.i64 1::tail) 1 cap1∧zc (Value.int IntKind.i64 1::tail) 1=[1]:=jfh [1] ht;have hl1:=jbg h1;generalize Value.int IntKind.i64 1::tail=d' at*;have e2:plGo (1::jbh dr f (List.drop (i+1).toNat (zc d m)) (i+1)) ⟨pts,bh,w,dg,q,fm⟩=bif decide (fm>0)then(false,⟨pts,bh,w,dg,q,fm⟩)else plGo (jbh dr f (List.drop (i+1).toNat (zc d m)) (i+1)) ⟨pts,bh || decide (pts>0),w+1,dg+1,q+pts,fm⟩:=rfl;rw[e2]at hf;refine cond_intro (fun z=>c_t (by rw[goodL_plain hv.plain,goodL_plain h1.plain];rfl) ?_) (fun z=>c_t (by simp) ?_)
     ·rw[hv.rlb,rlbL_plain _ h1.plain];rw[z,cond_true]at hf;exact hf _ _ _ _ _ _ _ d' _ _ (jar.2 h1)
     ·rw[z,cond_false]at hf;refine c_t (by rw[goodL_plain hv.plain,goodL_plain h1.plain];rfl) ?_;rw[hv.rlb,rlbL_plain _ h1.plain];rw[w64 (n:=w+1) (by omega)];rw[w64 (n:=dg+1) (by omega)];rw[w64 (n:=q+pts) (by omega)];exact⟨(b,r,pts,bh || decide (pts>0),d,m,cap,L,i+1,s,w+1,dg+1,q+pts,.own d' (1) cap1,dr,f,cr,fm),rfl,rfl,by simp only[S133_0,jaf,jae];exact⟨jar.2 h1,hV,by simp only[Rw.z,hl1];omega⟩,by simp only;omega,by simp only[S133_0];refine jg7 hf ?_ (fun g=>g);rintro ⟨-,g⟩;exact⟨fun q=>(by cases q),fun pts' bh' w' dg' q' fm' d'' m'' cap'' g1 g2 g3=>g pts' bh' w' dg' q' fm' d'' m'' cap'' g1 (by rw[g2];simp[Rw.z,h2]) g3⟩⟩
    ·have e:roP dr f c i=2:=by
      unfold roP;rw[q0,q1,q2];rfl
     rw[jbh,e]at hf;intro cap1 tail ht;obtain⟨h1,h2⟩:RowI (Value.int IntKind.i64 2::tail) 1 cap1∧zc (Value.int IntKind.i64 2::tail) 1=[2]:=jfh [2] ht;have hl1:=jbg h1;generalize Value.int IntKind.i64 2::tail=d' at*;refine c_t (by rw[goodL_plain hv.plain,goodL_plain h1.plain];rfl) ?_;rw[hv.rlb,rlbL_plain _ h1.plain];rw[w64 (n:=pts+1) (by omega)];exact⟨(b,r,pts+1,bh,d,m,cap,L,i+1,s,w,dg,q,.own d' (1) cap1,dr,f,cr,fm),rfl,rfl,by simp only[S133_0,jaf,jae];exact⟨jar.2 h1,hV,by simp only[Rw.z,hl1];omega⟩,by simp only;omega,by simp only[S133_0];refine jg7 hf ?_ (fun g=>g);rintro ⟨-,g⟩;exact⟨fun q=>(by cases q),fun pts' bh' w' dg' q' fm' d'' m'' cap'' g1 g2 g3=>g pts' bh' w' dg' q' fm' d'' m'' cap'' g1 (by rw[g2];simp[Rw.z,h2]) g3⟩⟩
    ·have e:roP dr f c i=5:=by
      unfold roP;rw[q0,q1,q2,q3];rfl
     rw[jbh,e]at hf;intro cap1 tail ht;obtain⟨h1,h2⟩:RowI (Value.int IntKind.i64 5::tail) 1 cap1∧zc (Value.int IntKind.i64 5::tail) 1=[5]:=jfh [5] ht;have hl1:=jbg h1;generalize Value.int IntKind.i64 5::tail=d' at*;refine c_t (by rw[goodL_plain hv.plain,goodL_plain h1.plain];rfl) ?_;rw[hv.rlb,rlbL_plain _ h1.plain];rw[w64 (n:=w+1) (by omega)];exact⟨(b,r,pts,bh,d,m,cap,L,i+1,s,w+1,dg,q,.own d' (1) cap1,dr,f,cr,fm),rfl,rfl,by simp only[S133_0,jaf,jae];exact⟨jar.2 h1,hV,by simp only[Rw.z,hl1];omega⟩,by simp only;omega,by simp only[S133_0];refine jg7 hf ?_ (fun g=>g);rintro ⟨-,g⟩;exact⟨fun q=>(by cases q),fun pts' bh' w' dg' q' fm' d'' m'' cap'' g1 g2 g3=>g pts' bh' w' dg' q' fm' d'' m'' cap'' g1 (by rw[g2];simp[Rw.z,h2]) g3⟩⟩
    ·have e:roP dr f c i=4:=by
      unfold roP;rw[q0,q1,q2,q3,q4];rfl
     rw[jbh,e]at hf;intro cap1 tail ht;obtain⟨h1,h2⟩:RowI (Value.int IntKind.i64 4::tail) 1 cap1∧zc (Value.int IntKind.i64 4::tail) 1=[4]:=jfh [4] ht;have hl1:=jbg h1;generalize Value.int IntKind.i64 4::tail=d' at*;refine c_t (by rw[goodL_plain hv.plain,goodL_plain h1.plain];rfl) ?_;rw[hv.rlb,rlbL_plain _ h1.plain];rw[w64 (n:=w+1) (by omega)];exact⟨(b,r,pts,bh,d,m,cap,L,i+1,s,w+1,dg,q,.own d' (1) cap1,dr,f,cr,fm),rfl,rfl,by simp only[S133_0,jaf,jae];exact⟨jar.2 h1,hV,by simp only[Rw.z,hl1];omega⟩,by simp only;omega,by simp only[S133_0];refine jg7 hf ?_ (fun g=>g);rintro ⟨-,g⟩;exact⟨fun q=>(by cases q),fun pts' bh' w' dg' q' fm' d'' m'' cap'' g1 g2 g3=>g pts' bh' w' dg' q' fm' d'' m'' cap'' g1 (by rw[g2];simp[Rw.z,h2]) g3⟩⟩
    ·have e:roP dr f c i=3:=by
      unfold roP;rw[q0,q1,q2,q3,q4];rfl
     rw[jbh,e]at hf;intro cap1 tail ht;obtain⟨h1,h2⟩:RowI (Value.int IntKind.i64 3::tail) 1 cap1∧zc (Value.int IntKind.i64 3::tail) 1=[3]:=jfh [3] ht;have hl1:=jbg h1;generalize Value.int IntKind.i64 3::tail=d' at*;refine c_t (by rw[goodL_plain hv.plain,goodL_plain h1.plain];rfl) ?_;rw[hv.rlb,rlbL_plain _ h1.plain];rw[w64 (n:=w+1) (by omega)];exact⟨(b,r,pts,bh,d,m,cap,L,i+1,s,w+1,dg,q,.own d' (1) cap1,dr,f,cr,fm),rfl,rfl,by simp only[S133_0,jaf,jae];exact⟨jar.2 h1,hV,by simp only[Rw.z,hl1];omega⟩,by simp only;omega,by simp only[S133_0];refine jg7 hf ?_ (fun g=>g);rintro ⟨-,g⟩;exact⟨fun q=>(by cases q),fun pts' bh' w' dg' q' fm' d'' m'' cap'' g1 g2 g3=>g pts' bh' w' dg' q' fm' d'' m'' cap'' g1 (by rw[g2];simp[Rw.z,h2]) g3⟩⟩
   ·have h:=jac h;rw[hv.end (by omega),jbh,plGo,cond_true]at hf;obtain rfl:i=m:=by omega
    refine c_t (by rw[goodL_plain hv.plain];rfl) ?_;rw[hv.rlb];exact hf.1 rfl rfl
  | own d2 m2 cap2=>
   rw[r133_0o];delta c9 ft jq jo j0 ak bm fp dq ie jh ar fx dv dy kh br jw cq c7 ct e7 ny f8 l4 cu iz bk bp d8 dm ll fv jn jr lb dw dp au;simp only[jaf,jae]at hp;obtain⟨hR,hV,hp⟩:=hp;have hv:=jcx.1 hV;have hr:=jar.1 hR;have hzl:=jbg hr;simp only[Rw.z,hzl]at hp hf;have k1:bz ⟨#[57,89,84,73,82]⟩=[57,89,84,73,82]:=rfl;have e0:0+i.toNat*1=i.toNat:=by omega
   rw[k1,e0];apply cond_intro<;>intro h
   ·have h:=jab h;obtain⟨a1,a2,a3⟩:=hv.at hp.1 (by omega);rw[a3]at hf;rw[a1,w64 (n:=i+1) (by omega)];generalize jaq d i.toNat=c at*;refine c_t (jaa (by omega)) (c_t rfl (c_t (jaa a2) ?_));rw[jk6];refine cond_intro (fun q0=> ?_) (fun q0=>c_t (by simp) (cond_intro (fun q1=> ?_) (fun q1=>cond_intro (fun q2=> ?_) (fun q2=>cond_intro (fun q3=> ?_) (fun q3=>c_t (by simp) (cond_intro (fun q4=> ?_) (fun q4=> ?_)))))))
    ·have e:roP dr f c i=0:=by
      unfold roP;rw[q0];rfl
     rw[jbh,e]at hf;refine c_t (hr.ask (k:=1) (by omega)) (fun cap1 tail ht=> ?_);obtain⟨h1,h2⟩:=hr.app1 0 ht;have hl1:=jbg h1;generalize List.take (m2*1) d2++ [Value.int IntKind.i64 0]++tail=d' at*;refine c_t (by rw[goodL_plain hv.plain,goodL_plain h1.plain];rfl) ?_;rw[hv.rlb,rlbL_plain _ h1.plain];rw[w64 (n:=w+1) (by omega)];rw[w64 (n:=dg+1) (by omega)];rw[w64 (n:=q+pts) (by omega)];rw[w64 (n:=fm+1) (by omega)];exact⟨(b,r,pts,bh,d,m,cap,L,i+1,s,w+1,dg+1,q+pts,.own d' (m2+1) cap1,dr,f,cr,fm+1),rfl,rfl,by simp only[S133_0,jaf,jae];exact⟨jar.2 h1,hV,by simp only[Rw.z,hl1];omega⟩,by simp only;omega,by simp only[S133_0];refine jg7 hf ?_ (fun g=>g);rintro ⟨-,g⟩;exact⟨fun q=>(by cases q),fun pts' bh' w' dg' q' fm' d'' m'' cap'' g1 g2 g3=>g pts' bh' w' dg' q' fm' d'' m'' cap'' g1 (by rw[g2];simp[Rw.z,h2]) g3⟩⟩
    ·have e:roP dr f c i=1:=by
      unfold roP;rw[q0,q1];rfl
     rw[jbh,e]at hf;refine c_t (hr.ask (k:=1) (by omega)) (fun cap1 tail ht=> ?_);obtain⟨h1,h2⟩:=hr.app1 1 ht;have hl1:=jbg h1;generalize List.take (m2*1) d2++ [Value.int IntKind.i64 1]++tail=d' at*;have e2:plGo (1::jbh dr f (List.drop (i+1).toNat (zc d m)) (i+1)) ⟨pts,bh,w,dg,q,fm⟩=bif decide (fm>0)then(false,⟨pts,bh,w,dg,q,fm⟩)else plGo (jbh dr f (List.drop (i+1).toNat (zc d m)) (i+1)) ⟨pts,bh || decide (pts>0),w+1,dg+1,q+pts,fm⟩:=rfl;rw[e2]at hf;refine cond_intro (fun z=>c_t (by rw[goodL_plain hv.plain,goodL_plain h1.plain];rfl) ?_) (fun z=>c_t (by simp) ?_)
     ·rw[hv.rlb,rlbL_plain _ h1.plain];rw[z,cond_true]at hf;exact hf _ _ _ _ _ _ _ d' _ _ (jar.2 h1)
     ·rw[z,cond_false]at hf;refine c_t (by rw[goodL_plain hv.plain,goodL_plain h1.plain];rfl) ?_;rw[hv.rlb,rlbL_plain _ h1.plain];rw[w64 (n:=w+1) (by omega)];rw[w64 (n:=dg+1) (by omega)];rw[w64 (n:=q+pts) (by omega)];exact⟨(b,r,pts,bh || decide (pts>0),d,m,cap,L,i+1,s,w+1,dg+1,q+pts,.own d' (m2+1) cap1,dr,f,cr,fm),rfl,rfl,by simp only[S133_0,jaf,jae];exact⟨jar.2 h1,hV,by simp only[Rw.z,hl1];omega⟩,by simp only;omega,by simp only[S133_0];refine jg7 hf ?_ (fun g=>g);rintro ⟨-,g⟩;exact⟨fun q=>(by cases q),fun pts' bh' w' dg' q' fm' d'' m'' cap'' g1 g2 g3=>g pts' bh' w' dg' q' fm' d'' m'' cap'' g1 (by rw[g2];simp[Rw.z,h2]) g3⟩⟩
    ·have e:roP dr f c i=2:=by
      unfold roP;rw[q0,q1,q2];rfl
     rw[jbh,e]at hf;refine c_t (hr.ask (k:=1) (by omega)) (fun cap1 tail ht=> ?_);obtain⟨h1,h2⟩:=hr.app1 2 ht;have hl1:=jbg h1;generalize List.take (m2*1) d2++ [Value.int IntKind.i64 2]++tail=d' at*;refine c_t (by rw[goodL_plain hv.plain,goodL_plain h1.plain];rfl) ?_;rw[hv.rlb,rlbL_plain _ h1.plain];rw[w64 (n:=pts+1) (by omega)];exact⟨(b,r,pts+1,bh,d,m,cap,L,i+1,s,w,dg,q,.own d' (m2+1) cap1,dr,f,cr,fm),rfl,rfl,by simp only[S133_0,jaf,jae];exact⟨jar.2 h1,hV,by simp only[Rw.z,hl1];omega⟩,by simp only;omega,by simp only[S133_0];refine jg7 hf ?_ (fun g=>g);rintro ⟨-,g⟩;exact⟨fun q=>(by cases q),fun pts' bh' w' dg' q' fm' d'' m'' cap'' g1 g2 g3=>g pts' bh' w' dg' q' fm' d'' m'' cap'' g1 (by rw[g2];simp[Rw.z,h2]) g3⟩⟩
    ·have e:roP dr f c i=5:=by
      unfold roP;rw[q0,q1,q2,q3];rfl
     rw[jbh,e]at hf;refine c_t (hr.ask (k:=1) (by omega)) (fun cap1 tail ht=> ?_);obtain⟨h1,h2⟩:=hr.app1 5 ht;have hl1:=jbg h1;generalize List.take (m2*1) d2++ [Value.int IntKind.i64 5]++tail=d' at*;refine c_t (by rw[goodL_plain hv.plain,goodL_plain h1.plain];rfl) ?_;rw[hv.rlb,rlbL_plain _ h1.plain];rw[w64 (n:=w+1) (by omega)];exact⟨(b,r,pts,bh,d,m,cap,L,i+1,s,w+1,dg,q,.own d' (m2+1) cap1,dr,f,cr,fm),rfl,rfl,by simp only[S133_0,jaf,jae];exact⟨jar.2 h1,hV,by simp only[Rw.z,hl1];omega⟩,by simp only;omega,by simp only[S133_0];refine jg7 hf ?_ (fun g=>g);rintro ⟨-,g⟩;exact⟨fun q=>(by cases q),fun pts' bh' w' dg' q' fm' d'' m'' cap'' g1 g2 g3=>g pts' bh' w' dg' q' fm' d'' m'' cap'' g1 (by rw[g2];simp[Rw.z,h2]) g3⟩⟩
    ·have e:roP dr f c i=4:=by
      unfold roP;rw[q0,q1,q2,q3,q4];rfl
     rw[jbh,e]at hf;refine c_t (hr.ask (k:=1) (by omega)) (fun cap1 tail ht=> ?_);obtain⟨h1,h2⟩:=hr.app1 4 ht;have hl1:=jbg h1;generalize List.take (m2*1) d2++ [Value.int IntKind.i64 4]++tail=d' at*;refine c_t (by rw[goodL_plain hv.plain,goodL_plain h1.plain];rfl) ?_;rw[hv.rlb,rlbL_plain _ h1.plain];rw[w64 (n:=w+1) (by omega)];exact⟨(b,r,pts,bh,d,m,cap,L,i+1,s,w+1,dg,q,.own d' (m2+1) cap1,dr,f,cr,fm),rfl,rfl,by simp only[S133_0,jaf,jae];exact⟨jar.2 h1,hV,by simp only[Rw.z,hl1];omega⟩,by simp only;omega,by simp only[S133_0];refine jg7 hf ?_ (fun g=>g);rintro ⟨-,g⟩;exact⟨fun q=>(by cases q),fun pts' bh' w' dg' q' fm' d'' m'' cap'' g1 g2 g3=>g pts' bh' w' dg' q' fm' d'' m'' cap'' g1 (by rw[g2];simp[Rw.z,h2]) g3⟩⟩
    ·have e:roP dr f c i=3:=by
      unfold roP;rw[q0,q1,q2,q3,q4];rfl
     rw[jbh,e]at hf;refine c_t (hr.ask (k:=1) (by omega)) (fun cap1 tail ht=> ?_);obtain⟨h1,h2⟩:=hr.app1 3 ht;have hl1:=jbg h1;generalize List.take (m2*1) d2++ [Value.int IntKind.i64 3]++tail=d' at*;refine c_t (by rw[goodL_plain hv.plain,goodL_plain h1.plain];rfl) ?_;rw[hv.rlb,rlbL_plain _ h1.plain];rw[w64 (n:=w+1) (by omega)];exact⟨(b,r,pts,bh,d,m,cap,L,i+1,s,w+1,dg,q,.own d' (m2+1) cap1,dr,f,cr,fm),rfl,rfl,by simp only[S133_0,jaf,jae];exact⟨jar.2 h1,hV,by simp only[Rw.z,hl1];omega⟩,by simp only;omega,by simp only[S133_0];refine jg7 hf ?_ (fun g=>g);rintro ⟨-,g⟩;exact⟨fun q=>(by cases q),fun pts' bh' w' dg' q' fm' d'' m'' cap'' g1 g2 g3=>g pts' bh' w' dg' q' fm' d'' m'' cap'' g1 (by rw[g2];simp[Rw.z,h2]) g3⟩⟩
   ·have h:=jac h;rw[hv.end (by omega),jbh,plGo,cond_true]at hf;obtain rfl:i=m:=by omega
    refine c_t (by rw[goodL_plain hv.plain,goodL_plain hr.plain];rfl) ?_;rw[hv.rlb,rlbL_plain _ hr.plain];exact hf.2 pts bh w dg q fm d2 m2 cap2 hR (by simp) rfl
theorem fn133:Fn1 Tryz.prog 190 Tryz.f190:= .m Tryz.func190
def G23:Env:=Env.nil.add 221 (sp2 s141)
theorem ok_G23:ja0 Tryz.prog G23:=jak jav ok141
theorem at_ints:∀{d:F}{n j:Nat},je9 (d.take n)=true→j<n→n≤d.length→jbc .i64 d j=true∧jaq d j=(d.map iv).getD j 0
 | .int .i64 k::r,n+1,0,_,_,_=>⟨rfl,rfl⟩
 | .int .i64 k::r,n+1,j+1,h,hj,hn=>by
  have:=at_ints (d:=r) (n:=n) (j:=j) (by simpa[je9]using h) (by omega) (by simpa using hn);simpa[jbc,jaq]using this
 | [],n+1,j,_,hj,hn=>by simp at hn
 | .bool _::r,n+1,j,h,_,_ | .string _::r,n+1,j,h,_,_ | .float _ _::r,n+1,j,h,_,_ | .complex _ _ _::r,n+1,j,h,_,_ | .pointer _::r,n+1,j,h,_,_ | .slice _ _ _::r,n+1,j,h,_,_
 | .agg _::r,n+1,j,h,_,_ | .tuple _::r,n+1,j,h,_,_ | .iface _ _::r,n+1,j,h,_,_ | .func _ _ _::r,n+1,j,h,_,_ | .map _::r,n+1,j,h,_,_ | .chan _::r,n+1,j,h,_,_ | .nilFunc::r,n+1,j,h,_,_ | .nilIface::r,n+1,j,h,_,_=>by
  simp[je9]at h
 | .int .i8 _::r,n+1,j,h,_,_ | .int .i16 _::r,n+1,j,h,_,_ | .int .i32 _::r,n+1,j,h,_,_ | .int .u8 _::r,n+1,j,h,_,_ | .int .u16 _::r,n+1,j,h,_,_ | .int .u32 _::r,n+1,j,h,_,_ | .int .u64 _::r,n+1,j,h,_,_=>by
  simp[je9]at h
theorem RowI.at{d:F}{m cap:Nat}(h:RowI d m cap){j:Int}(h0:0≤j)(hj:j<m):jbc .i64 d j.toNat=true∧(zc d m).drop j.toNat=jaq d j.toNat::(zc d m).drop (j+1).toNat:=by
 have hl:=h.len;have hle:=h.le;obtain⟨q1,q2⟩:=at_ints h.bytes (j:=j.toNat) (by omega) (by omega);refine⟨q1,?_⟩;rw[jgd (zc d m) _ (by rw[jbg h];omega),show(j+1).toNat=j.toNat+1 by omega,q2];congr 1;simp only[zc,List.getD_eq_getElem?_getD,List.getElem?_map,List.getElem?_take];rw[if_pos (by omega)]
theorem RowI.end{d:F}{m cap:Nat}(h:RowI d m cap){j:Int}(hj:(m:Int)≤j):(zc d m).drop j.toNat=[]:=List.drop_eq_nil_of_le (by rw[jbg h];omega)
def loGo(f:Int):J→Int→Int→Int
 | [],_,a=>a
 | r::rs,i,a=>loGo f rs (i+1) (bif r==0 || (r==1 || i==f)then imin a i else a)
def hiGo(f:Int):J→Int→Int→Int
 | [],_,a=>a
 | r::rs,i,a=>hiGo f rs (i+1) (bif r==0 || (r==1 || i==f)then imax a i else a)
def stP(f lo hi:Int):J→Int→Bool
 | [],_=>true
 | r::rs,i=> !((r==4 || r==5) && (i !=f&& (decide (i>lo) &&decide (i<hi)))) &&stP f lo hi rs (i+1)
def siGo:J→J→Int
 | c::cs,r::rs=>(bif r==4 || hasZ [84,73,82] c then 1 else 0)+siGo cs rs
 | _,_=>0
def V134_0:Y×Bool×Int×Int×Nat×Nat×Int×Int×Y×Int×Int×Int×F×Nat×Nat×Int×Int×Bool×Int→F:=fun(b,r,lo,hi,m3,cap3,L,i,s,w,dg,q,d2,m2,cap2,dr,f,cr,fm)=> [.pointer (some ⟨3,0,some 0⟩),S b,B r,I lo,I hi,.slice (some ⟨401,0,some 1⟩) m3 cap3,I L,I i]
def B134_0:Y×Bool×Int×Int×Nat×Nat×Int×Int×Y×Int×Int×Int×F×Nat×Nat×Int×Int×Bool×Int→O:=fun(b,r,lo,hi,m3,cap3,L,i,s,w,dg,q,d2,m2,cap2,dr,f,cr,fm)=> [some ⟨[.string s,.bool true,.int .i64 w,.int .i64 dg,.int .i64 q,.bool false,.slice (some ⟨401,0,some 1⟩) m2 cap2,.int .u8 dr,.int .i64 f,.bool cr,.int .u8 32,.int .i64 fm],132,true⟩,some ⟨d2,221,true⟩]
def S134_0:LSpecA (Y×Bool×Int×Int×Nat×Nat×Int×Int×Y×Int×Int×Int×F×Nat×Nat×Int×Int×Bool×Int) where
 live:=[0,1,4,5,6,16,17,18]
 mid:=[3,401]
 n:=520
 ap:=[]
 dec vs bs:=match vs,bs with | [.pointer (some ⟨3,0,some 0⟩),.string b,.bool r,.int .i64 lo,.int .i64 hi,.slice (some ⟨401,0,some 1⟩) m3 cap3,.int .i64 L,.int .i64 i],[some ⟨[.string s,.bool true,.int .i64 w,.int .i64 dg,.int .i64 q,.bool false,.slice (some ⟨401,0,some 1⟩) m2 cap2,.int .u8 dr,.int .i64 f,.bool cr,.int .u8 32,.int .i64 fm],132,true⟩,some ⟨d2,221,true⟩]=>some (b,r,lo,hi,m3,cap3,L,i,s,w,dg,q,d2,m2,cap2,dr,f,cr,fm) | _,_=>none
 pre:=fun(b,r,lo,hi,m3,cap3,L,i,s,w,dg,q,d2,m2,cap2,dr,f,cr,fm)=>jbv d2 m2 cap2&&decide (0≤i∧i≤m2∧m2≤1000∧L=m2∧m3=m2)
 fin:=fun(b,r,lo,hi,m3,cap3,L,i,s,w,dg,q,d2,m2,cap2,dr,f,cr,fm) Z=>∀lo' hi',loGo f ((zc d2 m2).drop i.toNat) i lo=lo'→hiGo f ((zc d2 m2).drop i.toNat) i hi=hi'→Z (.exit 0) [.pointer (some ⟨3,0,some 0⟩),S b,B r,I lo',I hi',.slice (some ⟨401,0,some 1⟩) m3 cap3,I L,I m2] [some ⟨[.string s,.bool true,.int .i64 w,.int .i64 dg,.int .i64 q,.bool false,.slice (some ⟨401,0,some 1⟩) m2 cap2,.int .u8 dr,.int .i64 f,.bool cr,.int .u8 32,.int .i64 fm],132,true⟩,some ⟨d2,221,true⟩]
theorem r134_0(b:Y)(r:Bool)(lo:Int)(hi:Int)(m3:Nat)(cap3:Nat)(L:Int)(i:Int)(s:Y)(w:Int)(dg:Int)(q:Int)(d2:F)(m2:Nat)(cap2:Nat)(dr:Int)(f:Int)(cr:Bool)(fm:Int)(jk:Tmps)(R:Exit→F→O→Prop):(jb6 Tryz.prog G23 noL Tryz.f191.ntmps (jbb Tryz.f191 0) (tl S134_0.live (V134_0 (b,r,lo,hi,m3,cap3,L,i,s,w,dg,q,d2,m2,cap2,dr,f,cr,fm)) jk) (ml S134_0.mid (B134_0 (b,r,lo,hi,m3,cap3,L,i,s,w,dg,q,d2,m2,cap2,dr,f,cr,fm))) S134_0.n fun e t' m' _=>S134_0.out R e t' m')=(jg R i L .i64 [jq [] d2] [] d2 (fx b (ak lo::ak hi::dy L i 401 m3 cap3) (B r)) m3 0 (jh cr s w dg q dr f fm m2 cap2) (br (c7 i 0 d2) (c7 i 1 d2 || true) (c7 i 0 d2 || (c7 i 1 d2 || i==f)) (cu (bw [] d2) R [jh cr s w dg q dr f fm m2 cap2,jq [] d2] (fx b (I (imin lo i)::I (imax hi i)::dm L i 401 m3 cap3) (B r))) (cu (bw [] d2) R [jh cr s w dg q dr f fm m2 cap2,jq [] d2] (fx b (ak lo::ak hi::dm L i 401 m3 cap3) (B r))))):=by kernel_rfl
theorem l134_0:∀t m n K,S134_0.hA t m n K→Ab.Sem Tryz.prog Tryz.f191.ntmps (.loop (jbb Tryz.f191 0)) t m n K:=by
 refine jbu ok_G23 hmix (by kernel_rfl) (jbf _) S134_0 V134_0 B134_0 (fun(b,r,lo,hi,m3,cap3,L,i,s,w,dg,q,d2,m2,cap2,dr,f,cr,fm)=>(m2-i).toNat) ?_ ?_ ?_
 ·intro vs bs s h;simp only[S134_0]at h;split at h
  all_goals first | (cases h;exact⟨rfl,rfl⟩) | cases h | (split at h<;>first | (rename_i hq;cases h;have hq:=jah hq;subst hq;exact⟨rfl,rfl⟩) | cases h)
 ·exact fun⟨b,r,lo,hi,m3,cap3,L,i,s,w,dg,q,d2,m2,cap2,dr,f,cr,fm⟩ hp=>by
   simp only[S134_0,jaf]at hp;have hr:=jar.1 hp.1;simp[V134_0,B134_0,S134_0,jaw,jbt,idsL,ids,jao hr.plain]
 ·intro⟨b,r,lo,hi,m3,cap3,L,i,s,w,dg,q,d2,m2,cap2,dr,f,cr,fm⟩ jk Z hp hf;rw[r134_0];delta c9 ft e7 bw ct dp au jg br cu dq ar fx bp ak d8 dv dm jq bm fp ie jh cq c7 dy;simp only[S134_0]at hp hf;simp only[jaf,jae]at hp;obtain⟨hR,hp⟩:=hp;have hr:=jar.1 hR;have hzl:=jbg hr;have e0:0+i.toNat*1=i.toNat:=by omega
  rw[e0];simp only[hr.rlb];have hg:∀ps,(jas ps d2&&true&&true)=true:=fun ps=>by rw[hr.good];rfl
  apply cond_intro<;>intro h
  ·have h:=jab h;obtain⟨a1,a3⟩:=hr.at hp.1 (by omega);rw[a3,loGo,hiGo]at hf;rw[a1,w64 (n:=i+1) (by omega)];generalize jaq d2 i.toNat=c at*;refine c_t (jaa (by omega)) (c_t rfl (c_t (by simp) (cond_intro (fun z=>c_t (hg _) ?_) (fun z=>c_t (hg _) ?_))))
   ·rw[z,cond_true,cond_true]at hf;exact⟨(b,r,imin lo i,imax hi i,m3,cap3,L,i+1,s,w,dg,q,d2,m2,cap2,dr,f,cr,fm),rfl,rfl,by simp only[S134_0,jaf,jae];exact⟨hR,by omega⟩,by simp only;omega,hf⟩
   ·rw[z,cond_false,cond_false]at hf;exact⟨(b,r,lo,hi,m3,cap3,L,i+1,s,w,dg,q,d2,m2,cap2,dr,f,cr,fm),rfl,rfl,by simp only[S134_0,jaf,jae];exact⟨hR,by omega⟩,by simp only;omega,hf⟩
  ·have h:=jac h;rw[hr.end (by omega),loGo,hiGo]at hf;obtain rfl:i=m2:=by omega
   exact c_t (hg _) (hf lo hi rfl rfl)
def V134_2:Y×Bool×Int×Int×Nat×Nat×Int×Int×Y×Int×Int×Int×F×Nat×Nat×Int×Int×Bool×Int→F:=fun(b,r,lo,hi,m3,cap3,L,i,s,w,dg,q,d2,m2,cap2,dr,f,cr,fm)=> [.pointer (some ⟨3,0,some 0⟩),S b,B r,I lo,I hi,.slice (some ⟨401,0,some 1⟩) m3 cap3,I L,I i]
def B134_2:Y×Bool×Int×Int×Nat×Nat×Int×Int×Y×Int×Int×Int×F×Nat×Nat×Int×Int×Bool×Int→O:=fun(b,r,lo,hi,m3,cap3,L,i,s,w,dg,q,d2,m2,cap2,dr,f,cr,fm)=> [some ⟨[.string s,.bool true,.int .i64 w,.int .i64 dg,.int .i64 q,.bool false,.slice (some ⟨401,0,some 1⟩) m2 cap2,.int .u8 dr,.int .i64 f,.bool cr,.int .u8 32,.int .i64 fm],132,true⟩,some ⟨d2,221,true⟩]
def S134_2:LSpecA (Y×Bool×Int×Int×Nat×Nat×Int×Int×Y×Int×Int×Int×F×Nat×Nat×Int×Int×Bool×Int) where
 live:=[0,1,4,5,6,47,48,49]
 mid:=[3,401]
 n:=560
 ap:=[]
 dec vs bs:=match vs,bs with | [.pointer (some ⟨3,0,some 0⟩),.string b,.bool r,.int .i64 lo,.int .i64 hi,.slice (some ⟨401,0,some 1⟩) m3 cap3,.int .i64 L,.int .i64 i],[some ⟨[.string s,.bool true,.int .i64 w,.int .i64 dg,.int .i64 q,.bool false,.slice (some ⟨401,0,some 1⟩) m2 cap2,.int .u8 dr,.int .i64 f,.bool cr,.int .u8 32,.int .i64 fm],132,true⟩,some ⟨d2,221,true⟩]=>some (b,r,lo,hi,m3,cap3,L,i,s,w,dg,q,d2,m2,cap2,dr,f,cr,fm) | _,_=>none
 pre:=fun(b,r,lo,hi,m3,cap3,L,i,s,w,dg,q,d2,m2,cap2,dr,f,cr,fm)=>jbv d2 m2 cap2&&decide (0≤i∧i≤m2∧m2≤1000∧L=m2∧m3=m2)
 fin:=fun(b,r,lo,hi,m3,cap3,L,i,s,w,dg,q,d2,m2,cap2,dr,f,cr,fm) Z=>(bif stP f lo hi ((zc d2 m2).drop i.toNat) i then Z (.exit 2) [.pointer (some ⟨3,0,some 0⟩),S b,B r,I lo,I hi,.slice (some ⟨401,0,some 1⟩) m3 cap3,I L,I m2] [some ⟨[.string s,.bool true,.int .i64 w,.int .i64 dg,.int .i64 q,.bool false,.slice (some ⟨401,0,some 1⟩) m2 cap2,.int .u8 dr,.int .i64 f,.bool cr,.int .u8 32,.int .i64 fm],132,true⟩,some ⟨d2,221,true⟩]else∀i',Z .ret [.pointer (some ⟨3,0,some 0⟩),S b,B false,I lo,I hi,.slice (some ⟨401,0,some 1⟩) m3 cap3,I L,I i'] [some ⟨[.string s,.bool true,.int .i64 w,.int .i64 dg,.int .i64 q,.bool false,.slice (some ⟨401,0,some 1⟩) m2 cap2,.int .u8 dr,.int .i64 f,.bool cr,.int .u8 32,.int .i64 fm],132,true⟩,some ⟨d2,221,true⟩])
theorem r134_2(b:Y)(r:Bool)(lo:Int)(hi:Int)(m3:Nat)(cap3:Nat)(L:Int)(i:Int)(s:Y)(w:Int)(dg:Int)(q:Int)(d2:F)(m2:Nat)(cap2:Nat)(dr:Int)(f:Int)(cr:Bool)(fm:Int)(jk:Tmps)(R:Exit→F→O→Prop):(jb6 Tryz.prog G23 noL Tryz.f191.ntmps (jbb Tryz.f191 2) (tl S134_2.live (V134_2 (b,r,lo,hi,m3,cap3,L,i,s,w,dg,q,d2,m2,cap2,dr,f,cr,fm)) jk) (ml S134_2.mid (B134_2 (b,r,lo,hi,m3,cap3,L,i,s,w,dg,q,d2,m2,cap2,dr,f,cr,fm))) S134_2.n fun e t' m' _=>S134_2.out R e t' m')=(jg R i L .i64 [jq [] d2] [] d2 (fx b (ak lo::ak hi::dy L i 401 m3 cap3) (B r)) m3 2 (jh cr s w dg q dr f fm m2 cap2) (bif cm (c7 i 4 d2) (bif i !=f then dw i lo || true else true) (bif c7 i 5 d2 then bif i !=f then dw i lo || true else true else true)then kg (cm (c7 i 4 d2) (i !=f&& (dw i lo&&au i hi)) (c7 i 5 d2&& (i !=f&& (dw i lo&&au i hi)))) R [jq [] d2] [] d2 (B false::ak lo::ak hi::dy L i 401 m3 cap3) (B r::ak lo::ak hi::dm L i 401 m3 cap3) (jh cr s w dg q dr f fm m2 cap2) (ar 3) (S b) (ar 3) (S b)else False)):=by kernel_rfl
theorem l134_2:∀t m n K,S134_2.hA t m n K→Ab.Sem Tryz.prog Tryz.f191.ntmps (.loop (jbb Tryz.f191 2)) t m n K:=by
 refine jbu ok_G23 hmix (by kernel_rfl) (jbf _) S134_2 V134_2 B134_2 (fun(b,r,lo,hi,m3,cap3,L,i,s,w,dg,q,d2,m2,cap2,dr,f,cr,fm)=>(m2-i).toNat) ?_ ?_ ?_
 ·intro vs bs s h;simp only[S134_2]at h;split at h
  all_goals first | (cases h;exact⟨rfl,rfl⟩) | cases h | (split at h<;>first | (rename_i hq;cases h;have hq:=jah hq;subst hq;exact⟨rfl,rfl⟩) | cases h)
 ·exact fun⟨b,r,lo,hi,m3,cap3,L,i,s,w,dg,q,d2,m2,cap2,dr,f,cr,fm⟩ hp=>by
   simp only[S134_2,jaf]at hp;have hr:=jar.1 hp.1;simp[V134_2,B134_2,S134_2,jaw,jbt,idsL,ids,jao hr.plain]
 ·intro⟨b,r,lo,hi,m3,cap3,L,i,s,w,dg,q,d2,m2,cap2,dr,f,cr,fm⟩ jk Z hp hf;rw[r134_2];delta c9 ft e7 bw ct dp au jg cu kg dq ar ak bm fp ie jh bp d8 dv dm dy jq cm dw cq c7 fx;simp only[S134_2]at hp hf;simp only[jaf,jae]at hp;obtain⟨hR,hp⟩:=hp;have hr:=jar.1 hR;have hzl:=jbg hr;have e0:0+i.toNat*1=i.toNat:=by omega
  rw[e0];simp only[hr.rlb];have hg:∀ps,(jas ps d2&&true&&true)=true:=fun ps=>by rw[hr.good];rfl
  apply cond_intro<;>intro h
  ·have h:=jab h;obtain⟨a1,a3⟩:=hr.at hp.1 (by omega);rw[a3,stP]at hf;rw[a1,w64 (n:=i+1) (by omega)];generalize jaq d2 i.toNat=c at*;have e:(bif c==4 then i !=f&& (decide (i>lo) &&decide (i<hi))else c==5&& (i !=f&& (decide (i>lo) &&decide (i<hi))))=((c==4 || c==5) && (i !=f&& (decide (i>lo) &&decide (i<hi)))):=by cases c==4<;>rfl
   rw[e];refine c_t (jaa (by omega)) (c_t rfl (c_t (by simp) (cond_intro (fun z=>c_t (hg _) ?_) (fun z=>c_t (hg _) ?_))))
   ·rw[z,Bool.not_true,Bool.false_and,cond_false]at hf;exact hf i
   ·rw[z,Bool.not_false,Bool.true_and]at hf;exact⟨(b,r,lo,hi,m3,cap3,L,i+1,s,w,dg,q,d2,m2,cap2,dr,f,cr,fm),rfl,rfl,by simp only[S134_2,jaf,jae];exact⟨hR,by omega⟩,by simp only;omega,hf⟩
  ·have h:=jac h;rw[hr.end (by omega),stP,cond_true]at hf;obtain rfl:i=m2:=by omega
   exact c_t (hg _) hf
def V135_0:Y×Int×Int×F×Nat×Nat×Int×Int×Y×Int×Int×Int×F×Nat×Nat×Int×Int×Bool×Int→F:=fun(b,r,n,d,m,cap,L,i,s,w,dg,q,d2,m2,cap2,dr,f,cr,fm)=> [.pointer (some ⟨3,0,some 0⟩),S b,I r,I n,.slice (some ⟨600,0,some 1⟩) m cap,I L,I i]
def B135_0:Y×Int×Int×F×Nat×Nat×Int×Int×Y×Int×Int×Int×F×Nat×Nat×Int×Int×Bool×Int→O:=fun(b,r,n,d,m,cap,L,i,s,w,dg,q,d2,m2,cap2,dr,f,cr,fm)=> [some ⟨[.string s,.bool true,.int .i64 w,.int .i64 dg,.int .i64 q,.bool false,.slice (some ⟨401,0,some 1⟩) m2 cap2,.int .u8 dr,.int .i64 f,.bool cr,.int .u8 32,.int .i64 fm],132,true⟩,some ⟨d,5,false⟩,some ⟨d2,221,true⟩]
def S135_0:LSpecA (Y×Int×Int×F×Nat×Nat×Int×Int×Y×Int×Int×Int×F×Nat×Nat×Int×Int×Bool×Int) where
 live:=[0,1,4,5,9,10,11]
 mid:=[3,600,401]
 n:=610
 ap:=[(.tmp 9,600)]
 dec vs bs:=match vs,bs with | [.pointer (some ⟨3,0,some 0⟩),.string b,.int .i64 r,.int .i64 n,.slice (some ⟨600,0,some 1⟩) m cap,.int .i64 L,.int .i64 i],[some ⟨[.string s,.bool true,.int .i64 w,.int .i64 dg,.int .i64 q,.bool false,.slice (some ⟨401,0,some 1⟩) m2 cap2,.int .u8 dr,.int .i64 f,.bool cr,.int .u8 32,.int .i64 fm],132,true⟩,some ⟨d,5,false⟩,some ⟨d2,221,true⟩]=>some (b,r,n,d,m,cap,L,i,s,w,dg,q,d2,m2,cap2,dr,f,cr,fm) | _,_=>none
 pre:=fun(b,r,n,d,m,cap,L,i,s,w,dg,q,d2,m2,cap2,dr,f,cr,fm)=>jbv d2 m2 cap2&& (vwOK d m&&decide (0≤i∧i≤m∧m2=m∧m≤1000∧L=m∧0≤n∧n≤i))
 fin:=fun(b,r,n,d,m,cap,L,i,s,w,dg,q,d2,m2,cap2,dr,f,cr,fm) Z=>∀n',n+siGo ((zc d m).drop i.toNat) ((zc d2 m2).drop i.toNat)=n'→Z (.exit 0) [.pointer (some ⟨3,0,some 0⟩),S b,I r,I n',.slice (some ⟨600,0,some 1⟩) m cap,I L,I m] [some ⟨[.string s,.bool true,.int .i64 w,.int .i64 dg,.int .i64 q,.bool false,.slice (some ⟨401,0,some 1⟩) m2 cap2,.int .u8 dr,.int .i64 f,.bool cr,.int .u8 32,.int .i64 fm],132,true⟩,some ⟨d,5,false⟩,some ⟨d2,221,true⟩]
theorem r135_0(b:Y)(r:Int)(n:Int)(d:F)(m:Nat)(cap:Nat)(L:Int)(i:Int)(s:Y)(w:Int)(dg:Int)(q:Int)(d2:F)(m2:Nat)(cap2:Nat)(dr:Int)(f:Int)(cr:Bool)(fm:Int)(jk:Tmps)(R:Exit→F→O→Prop):(jb6 Tryz.prog G23 noL Tryz.f192.ntmps (jbb Tryz.f192 0) (tl S135_0.live (V135_0 (b,r,n,d,m,cap,L,i,s,w,dg,q,d2,m2,cap2,dr,f,cr,fm)) jk) (ml S135_0.mid (B135_0 (b,r,n,d,m,cap,L,i,s,w,dg,q,d2,m2,cap2,dr,f,cr,fm))) S135_0.n fun e t' m' _=>S135_0.out R e t' m')=(ft (au i L) (dp i m) (jr [] d d2 600 600&&true) (bif jbc .u8 d (e7 i)then fw (dp i m2) (jbc .i64 d2 (e7 i) && (c7 i 4 d2 || ct (cq i d 0 1) 256&&true)) (c7 i 4 d2 || decide (idxZ (bz ⟨#[84,73,82]⟩) (cq i d 0 1)≥0)) (cu (jr [] d d2 600 600&&true) R [jh cr s w dg q dr f fm m2 cap2,jo [] d 600,jq [(600,600)] d2] (fx b (bp (n+1)::dm L i 600 m cap) (ak r))) (cu (jr [] d d2 600 600&&true) R [jh cr s w dg q dr f fm m2 cap2,jo [] d 600,jq [(600,600)] d2] (fx b (ak n::dm L i 600 m cap) (ak r)))else False) (R (.exit 0) (fx b (ak n::dy L i 600 m cap) (ak r)) [jh cr s w dg q dr f fm m2 cap2,jo [] d 600,jq [(600,600)] d2])):=by kernel_rfl
theorem l135_0:LOKf Tryz.prog (oneL 0 S135_0.hA) Tryz.f192:=by
 refine jcb (h:=S135_0.hA) (by kernel_rfl) (jbu ok_G23 hmix (by kernel_rfl) (jbf _) S135_0 V135_0 B135_0 (fun(b,r,n,d,m,cap,L,i,s,w,dg,q,d2,m2,cap2,dr,f,cr,fm)=>(m-i).toNat) ?_ ?_ ?_)
 ·intro vs bs s h;simp only[S135_0]at h;split at h
  all_goals first | (cases h;exact⟨rfl,rfl⟩) | cases h | (split at h<;>first | (rename_i hq;cases h;have hq:=jah hq;subst hq;exact⟨rfl,rfl⟩) | cases h)
 ·exact fun⟨b,r,n,d,m,cap,L,i,s,w,dg,q,d2,m2,cap2,dr,f,cr,fm⟩ hp=>by
   simp only[S135_0,jaf]at hp;have hr:=jar.1 hp.1;simp[V135_0,B135_0,S135_0,jaw,jbt,idsL,ids,jao hr.plain,jao (jcx.1 hp.2.1).plain]
 ·intro⟨b,r,n,d,m,cap,L,i,s,w,dg,q,d2,m2,cap2,dr,f,cr,fm⟩ jk Z hp hf;rw[r135_0];delta c9 ft jq jo ak bm fp dq ie jh ar fx dv dy fw cu bp d8 dm jr cq c7 ct e7 dp au;simp only[S135_0]at hp hf;simp only[jaf,jae]at hp;obtain⟨hR,hV,hp⟩:=hp;have hr:=jar.1 hR;have hzl:=jbg hr;have hv:=jcx.1 hV;have e0:0+i.toNat*1=i.toNat:=by omega
  rw[e0];simp only[hr.rlb,hv.rlb];have hg:∀ps,(jas ps d&& (jas ps d2&&true) &&true)=true:=fun ps=>by rw[hr.good,goodL_plain hv.plain];rfl
  have k:bz ⟨#[84,73,82]⟩=[84,73,82]:=rfl;rw[k];apply cond_intro<;>intro h
  ·have h:=jab h;obtain⟨a1,a3⟩:=hr.at hp.1 (by omega);obtain⟨b1,b2,b3⟩:=hv.at hp.1 (by omega);rw[a3,b3,siGo]at hf;rw[a1,b1,w64 (n:=i+1) (by omega),jk6];generalize jaq d2 i.toNat=c at*;generalize jaq d i.toNat=x at*;refine c_t (jaa (by omega)) (c_t rfl (c_t (by rw[jaa (show 0≤i∧i<(m2:Int)by omega),jaa b2];simp) (cond_intro (fun z=>c_t (hg _) ?_) (fun z=>c_t (hg _) ?_))))
   ·rw[z,cond_true,←Int.add_assoc]at hf;rw[w64 (n:=n+1) (by omega)];exact⟨(b,r,n+1,d,m,cap,L,i+1,s,w,dg,q,d2,m2,cap2,dr,f,cr,fm),rfl,rfl,by simp only[S135_0,jaf,jae];exact⟨hR,hV,by omega⟩,by simp only;omega,hf⟩
   ·rw[z,cond_false,Int.zero_add]at hf;exact⟨(b,r,n,d,m,cap,L,i+1,s,w,dg,q,d2,m2,cap2,dr,f,cr,fm),rfl,rfl,by simp only[S135_0,jaf,jae];exact⟨hR,hV,by omega⟩,by simp only;omega,hf⟩
  ·have h:=jac h;rw[hv.end (by omega),siGo,Int.add_zero]at hf;obtain rfl:i=m:=by omega
   exact c_t (hg _) (hf n rfl);intro _ _ _ _ h1;cases h1
theorem lok134:LOKf Tryz.prog (twoL 0 S134_0.hA 2 S134_2.hA) Tryz.f191:=jgb (by kernel_rfl) (by kernel_rfl) l134_0 l134_2
def G24:Env:=Env.nil.add 221 (sp2 s141)
theorem ok_G24:ja0 Tryz.prog G24:=jak jav ok141
def G25:Env:=((((((Env.nil.add 189 (sp2 s132)).add 187 (sp2 s130)).add 128 (sp2 s102)).addG 188 (inlQ Tryz.prog G20 (oneL 0 S131_0.hA) Tryz.f188)).addG 190 (inlQ Tryz.prog G22 (oneL 0 S133_0.hA) Tryz.f190)).addG 191 (inlQ Tryz.prog G23 (twoL 0 S134_0.hA 2 S134_2.hA) Tryz.f191)).addG 192 (inlQ Tryz.prog G24 (oneL 0 S135_0.hA) Tryz.f192)
theorem ok_G25:ja0 Tryz.prog G25:=jau (jau (jau (jau (jak (jak (jak jav ok132) ok130) ok102) (jbd ok_G20 hmix fn131 lok131)) (jbd ok_G22 hmix fn133 l133_0)) (jbd ok_G23 hmix (.m Tryz.func191) lok134)) (jbd ok_G24 hmix (.m Tryz.func192) l135_0)
def look(m:Lk):Value→O
 | Value.tuple ⟨[Value.pointer (some a),_]⟩=>match m a.block with
  | some b=>match b.c[6]? with
   | some (Value.slice (some a') _ _)=> [some b,m a'.block]
   | _=> [some b]
  | none=> []
 | _=> []
def nD(b:J):Bool×Int×Int:=je0 [36,83,43,45] b 0 (-1)
def nR(b:J):J:=jbh (nD b).2.1 (nD b).2.2 b 0
def nP(b:J):Bool×PlS:=plGo (nR b) ⟨0,false,0,0,0,0⟩
def nPok(b:J):Bool:=(nP b).1&& (decide ((nP b).2.pts≤1) && (decide ((nP b).2.dg≥1) && (decide ((nP b).2.dg≤9) && !((nP b).2.bh&&decide ((nP b).2.fm>0)))))
def nS(b:J):Bool:=stP (nD b).2.2 (loGo (nD b).2.2 (nR b) 0 b.length) (hiGo (nD b).2.2 (nR b) 0 (-1)) (nR b) 0
def nG(b:J)(cr:Bool):Int:=siGo b (nR b)+(bif cr then 1 else 0)
def nSt(b:J):Bool:=hasZ b 42&&hasZ b 90 || (hasZ b 42 || hasZ b 90) && (nD b).2.1 !=0
def numQ(b:J)(cr:Bool):Bool:= !anyZ b [65,88,67,68] && ((nD b).1&& (!nSt b&& (nPok b&& (nS b&&decide (nG b cr≤1)))))
def jkp(s:Y)(cr:Bool)(x m cap:Nat):F:=
 [.string s,.bool true,.int .i64 ((nP (jal (bz s))).2.w+(bif cr then 2 else 0)),.int .i64 (nP (jal (bz s))).2.dg,.int .i64 (nP (jal (bz s))).2.q,.bool (nG (jal (bz s)) cr==1),
  .slice (some ⟨x,0,some 1⟩) m cap,.int .u8 (nD (jal (bz s))).2.1,.int .i64 (nD (jal (bz s))).2.2,.bool cr,.int .u8 (bif hasZ (jal (bz s)) 42 then 42 else 32),.int .i64 (nP (jal (bz s))).2.fm]
def jlw(s:Y)(cr:Bool):J:=nR (jal (bz s))++(bif cr then [4,4]else [])
theorem jhw(dr f:Int):∀(l:J)(i:Int),(jbh dr f l i).length=l.length
 | [],_=>rfl
 | c::r,i=>by simp[jbh,jhw dr f r]
theorem jmq:∀(a b:J),0≤siGo a b∧siGo a b≤a.length
 | [],_=>by simp[siGo]
 | _::_,[]=>by simp[siGo];omega
 | c::cs,r::rs=>by
  have:=jmq cs rs;rw[siGo,List.length_cons];cases(r==4 || hasZ [84,73,82] c) <;>simp only[cond_true,cond_false] <;>omega
theorem jix:∀(l:J)(a:PlS),(a.w≤(plGo l a).2.w∧(plGo l a).2.w≤a.w+l.length)∧(a.dg≤(plGo l a).2.dg∧(plGo l a).2.dg≤a.dg+l.length)∧(a.fm≤(plGo l a).2.fm∧(plGo l a).2.fm≤a.fm+l.length)
 | [],a=>by simp[plGo]
 | r::rs,a=>by
  rw[plGo,List.length_cons];cases r==2 with
  | true=>have:=jix rs ⟨a.pts+1,a.bh,a.w,a.dg,a.q,a.fm⟩;simp only[cond_true]at this ⊢;omega
  | false=>
   cases r==0 with
   | true=>have:=jix rs ⟨a.pts,a.bh,a.w+1,a.dg+1,a.q+a.pts,a.fm+1⟩;simp only[cond_true,cond_false]at this ⊢;omega
   | false=>
    cases r==1 with
    | true=>
     cases decide (a.fm>0)with
     | true=>simp only[cond_true,cond_false];omega
     | false=>have:=jix rs ⟨a.pts,a.bh || decide (a.pts>0),a.w+1,a.dg+1,a.q+a.pts,a.fm⟩;simp only[cond_true,cond_false]at this ⊢;omega
    | false=>have:=jix rs ⟨a.pts,a.bh,a.w+1,a.dg,a.q,a.fm⟩;simp only[cond_false]at this ⊢;omega
theorem jiq{s:J}{cr:Bool}(h:crZ s=cr):jal s=bif cr then s.take (s.length-2)else s:=by
 unfold jal;rw[h];cases cr<;>rfl
theorem cr_suf(l:J):(sufZ l [67,82] || sufZ l [68,66])=crZ l:=by
 unfold sufZ crZ;rw[Bool.eq_iff_iff];simp only[Bool.or_eq_true,jaf,jae,List.length_cons,List.length_nil];constructor
 ·rintro (⟨a,b⟩ | ⟨a,b⟩)
  ·exact⟨a,.inl b⟩
  ·exact⟨a,.inr b⟩
 ·rintro ⟨a,b | b⟩
  ·exact .inl ⟨a,b⟩
  ·exact .inr ⟨a,b⟩
theorem asc_take{l:J}(h:asc l=true)(n:Nat):asc (l.take n)=true:=by
 simp only[asc,List.all_eq_true]at h ⊢;exact fun x hx=>h x (List.mem_of_mem_take hx)
def jj(a:Value→O→Prop):Prop:=a (gx [] (.pointer none) (.bool false)) []
def o3(d:Bool)(a c:Y)(e:Prop)(b:Value→O→Prop):Prop:=bif ic a&& (ic ⟨#[65,88,67,68]⟩ && (asc (bz a) &&asc (bz ⟨#[65,88,67,68]⟩)))then bif anyZ (bz a) (bz ⟨#[65,88,67,68]⟩)then jj b else bif S131_0.toLSpec.pre (a,(false,(natO 4,((0:Int),(c,((0:Int),(-(1:Int),d)))))))then bif (je0 [36,83,43,45] (bz a) 0 (-1)).fst then e else Int→Int→Int→Tmps→jj b else False else False
def ji(a b c d:Bool)(e f:Prop):Prop:=bif bif a then b else c then bif d then e else f else False
def ku(b c:F)(a:Nat):Bool:=jaw a b&& (jaw a c&&true)
def mf(c:Y)(a b:Int):J:=jbh a b (jp (go c 344 400) c.size) 0
def o4(j:Bool)(a i:Y)(b g:Int)(k:Prop)(h:Value→O→Prop):Prop:=je0 [36,83,43,45] (bz a) 0 (-1)=(true,(b,g))→Tmps→ji (jc a 42) (jc a 90 || (jc a 42 || (jc a 90 || true))) (jc a 42 || (jc a 90 || true)) (cm (jc a 42) (jc a 90 || (bif jc a 42 then b !=0 else jc a 90&&b !=0)) (bif jc a 42 then b !=0 else jc a 90&&b !=0)) (jj h) (∀c:Nat,l0 (bw [(344,400)] (Lib.strCells a)) true (S133_0.toLSpec.pre (a,(false,((0:Int),(false,(go a 344 400,(a.size,(c,(natO a.size,((0:Int),(i,((0:Int),((0:Int),((0:Int),(Rw.nil,(b,(g,(j,(0:Int))))))))))))))))))) a c 410 344 400 (bif (plGo (mf a b g) (PlS.mk 0 false 0 0 0 0)).fst then(Rw.is Rw.nil=false→jp (go a 344 400) a.size=([]:J)→lg true (go a 344 400) 410 (jj h))∧k else li (Int→Int→Int→Int→(∀d:F,∀e:Nat,∀f:Nat,jbv d e f=true→(bif ku (go a 344 400) d 410 then Tmps→jj h else False)))))
def j1(a:F):F:=rlbL [] (rlbL [] a)
def ki(a:F):F:=rlbL [(569,600)] (j1 a)
def j2(b:F)(a:Nat):Bool:=jaw a (rlbL [] b) &&true
def o5(k:Bool)(b e:Y)(f g h i j l:Int)(a:F)(c d:Nat)(p:Prop)(q:Value→O→Prop):Prop:=bif bw [] a&&j2 a 520 then bif S134_0.toLSpec.pre (b,(false,(al b,(-(1:Int),(c,(d,(natO c,((0:Int),(e,(f,(g,(h,(rlbL [] a,(c,(d,(i,(j,(k,l))))))))))))))))))then∀m:Int,∀n:Int,loGo j (jp (rlbL [] a) c) 0 (al b)=m→hiGo j (jp (rlbL [] a) c) 0 (-1)=n→(bif j2 a 520 then Tmps→fw (bw [] (rlbL [] a)) (jaw 560 (j1 a) &&true) (S134_2.toLSpec.pre (b,(false,(m,(n,(c,(d,(natO c,((0:Int),(e,(f,(g,(h,(j1 a,(c,(d,(i,(j,(k,l))))))))))))))))))) (bif Px.stP j m n (jp (j1 a) c) 0 then lg true (j1 a) 560 (∀o:Nat,l0 (ly (Lib.strCells b) (j1 a) 569 600&&true) (jaw 610 (ki a) &&true) (S135_0.toLSpec.pre (b,((0:Int),((0:Int),(go b 569 600,(b.size,(o,(natO b.size,((0:Int),(e,(f,(g,(h,(ki a,(c,(d,(i,(j,(k,l))))))))))))))))))) b o 610 569 600 p)else Int→lg true (j1 a) 560 (jj q)) False else False)else False else False
def lm(a:Nat):Value:=gx [] (ar a) (.bool true)
def o6(f:Y)(e g h i j k l m:Int)(a:F)(b c n:Nat)(d:Value→O→Prop):Prop:=bif (ki a).length.beq (b*1) &&c.ble b&&b.ble 9223372036854775807&&true&&jcj (c+2) 8 then∀q:Nat,∀r:F,jbm r q (c+2) 1=true→d (lm 3) [fp true (bk e 1==1) true f (bk g 2) h i j k l m (c+2) q (dq n 0 1),some (.mk ((ki a).take (c*1)++ [ak 4,ak 4]++r) 221 true)]else False
def fq(a:Y)(b:Int):Int:=IntKind.i64.wrap (al a-b)
def gk(a:Y)(b:Int):Y:=a.extract 0 (fq a b).toNat
def ax(a:Y):Bool:=decide (a.size≤9223372036854775807)
theorem v103(s:Y)(R:Value→O→Prop):(jaz Tryz.prog G25 noL Tryz.f129 [S s] (fun _=>none) 0 (fun v m _=>R v (look m v)))=(fw (ax s) (sufZ (bz s) (bz ⟨#[67,82]⟩) || ax s&&true) (sufZ (bz s) (bz ⟨#[67,82]⟩) || sufZ (bz s) (bz ⟨#[68,66]⟩)) (bif ez 0 0 (fq s 2) (fq s 2) (al s)then o3 true (gk s 2) s (∀a:Int,∀b:Int,o4 true (gk s 2) s a b (∀d:Int,∀e:Bool,∀f:Int,∀g:Int,∀h:Int,∀i:Int,∀j:F,∀k:Nat,∀l:Nat,jbv j k l=true→zc j k=Rw.z Rw.nil++mf (gk s 2) a b→plGo (mf (gk s 2) a b) (PlS.mk 0 false 0 0 0 0)=(true,PlS.mk d e f g h i)→(bif ku (go (gk s 2) 344 400) j 410 then Tmps→ji (im d 1) (cm (f9 g 1) (bif im g 9 then e || true else true) true) true (!(im d 1&& (f9 g 1&& (im g 9&&cm e (!dw i 0) (!false))))) (jj R) (o5 true (gk s 2) s f g h a b i j k l (∀p:Int,0+siGo (jp (go (gk s 2) 569 600) (gk s 2).size) (jp (ki j) k)=p→(bif ku (go (gk s 2) 569 600) (ki j) 610 then Tmps→(bif decide (bk p 1>1)then jj R else bif jc (gk s 2) 42 then o6 s p f g h a b 42 i j l k 644 R else o6 s p f g h a b 32 i j l k 640 R)else False)) R)else False)) R) R else False) (o3 false s s (∀a:Int,∀b:Int,o4 false s s a b (∀d:Int,∀e:Bool,∀f:Int,∀g:Int,∀h:Int,∀i:Int,∀j:F,∀k:Nat,∀l:Nat,jbv j k l=true→zc j k=Rw.z Rw.nil++mf s a b→plGo (mf s a b) (PlS.mk 0 false 0 0 0 0)=(true,PlS.mk d e f g h i)→(bif ku (go s 344 400) j 410 then Tmps→ji (im d 1) (cm (f9 g 1) (bif im g 9 then e || true else true) true) true (!(im d 1&& (f9 g 1&& (im g 9&&cm e (!dw i 0) (!false))))) (jj R) (o5 false s s f g h a b i j k l (∀p:Int,0+siGo (jp (go s 569 600) s.size) (jp (ki j) k)=p→(bif ku (go s 569 600) (ki j) 610 then Tmps→(bif dw p 1 then jj R else bif jc s 42 then R (lm 3) [fp true (p==1) false s f g h a b 42 i k l ie,some (.mk (ki j) 221 true)]else R (lm 3) [fp true (p==1) false s f g h a b 32 i k l ie,some (.mk (ki j) 221 true)])else False)) R)else False)) R) R)):=by kernel_rfl
theorem w103(s:Y)(hs:s.size≤32)(ha:asc (bz s)=true)(R:Value→O→Prop)
    (hn:numQ (jal (bz s)) (crZ (bz s))=false→R (.tuple ⟨[.pointer none,.bool false]⟩) [])
    (hy:numQ (jal (bz s)) (crZ (bz s))=true→ ∀(x m cap:Nat)(d:F),RowI d m cap→zc d m=jlw s (crZ (bz s))→
      R (.tuple ⟨[.pointer (some ⟨3,0,some 0⟩),.bool true]⟩) [some ⟨jkp s (crZ (bz s)) x m cap,132,true⟩,some ⟨d,221,true⟩]):
    jea Tryz.prog G25 noL Tryz.f129 [.string s] (fun _=>none) 0 (fun v m _=>R v (look m v)):=by
  rw[jea,v103];delta fw gx jj ic o3 ji go l0 li ku lg jp mf bw cm jz jc o4 j1 ki ly j2 al o5 ak bm fp dq ie ar lm dw im f9 bk o6 fq gk ez ax;have k67:bz ⟨#[67,82]⟩=[67,82]:=rfl;have k68:bz ⟨#[68,66]⟩=[68,66]:=rfl;rw[k67,k68,cr_suf];refine c_t (by rw[jaa (show s.size≤9223372036854775807 by omega)];simp) (cond_intro (fun hcr=> ?_) (fun hcr=> ?_))
  · rw [hcr] at hn hy;have hb:=jiq hcr
    have h2:2≤s.size:=by
      have:2≤(bz s).length:=by
        simp only[crZ,jaf,jae]at hcr;exact hcr.1
      rwa [jam]at this
    rw[w64 (n:=(s.size:Int)-2) (by omega)];refine c_t (jaa (by omega)) ?_
    have hb:bz (s.extract 0 ((s.size:Int)-2).toNat)=jal (bz s):=by
      rw[hb,jb7,cond_true,jam,List.drop_zero];congr 1;omega
    have hay:asc (bz (s.extract 0 ((s.size:Int)-2).toNat))=true:=by
      rw[hb,jiq hcr];exact asc_take ha _
    have hys:(s.extract 0 ((s.size:Int)-2).toNat).size≤32:=by
      rw[←jam,hb,jiq hcr,cond_true,List.length_take,jam];omega
    generalize s.extract 0 ((s.size:Int)-2).toNat=y at*;have k1:bz ⟨#[65,88,67,68]⟩=[65,88,67,68]:=rfl;have k2:(bz ⟨#[42]⟩).getD 0 0=42:=rfl;have k3:(bz ⟨#[90]⟩).getD 0 0=90:=rfl;rw[k1,k2,k3];have ey:=hb;refine c_t (by rw[jaa (show y.size≤1000 by omega),hay];rfl) (cond_intro (fun hA=>hn (by rw[←hb];simp only[numQ,hA,Bool.not_true,Bool.false_and])) (fun hA=>c_t ?_ (cond_intro (fun hB dr' f' hD x=> ?_) (fun hB _ _ _ _=>hn (by rw[←hb,numQ,nD,hB,hA];rfl)))))
    · simp only [S131_0, jae];exact⟨jb1 4,by omega,by omega,by omega,by omega,by omega⟩
    have hD':nD (bz y)=(true,dr',f'):=hD;have e1:(nD (bz y)).1=true:=by rw[hD']
    have e2:(nD (bz y)).2.1=dr':=by rw[hD']
    have e3:(nD (bz y)).2.2=f':=by rw[hD']
    have eS:(bif hasZ (bz y) 42 then hasZ (bz y) 90 || bif hasZ (bz y) 42 then dr' !=0 else hasZ (bz y) 90&&dr' !=0 else bif hasZ (bz y) 42 then dr' !=0 else hasZ (bz y) 90&&dr' !=0)=nSt (bz y):=by
      rw[nSt,e2];cases hasZ (bz y) 42<;>cases hasZ (bz y) 90<;>cases dr' !=0<;>rfl
    rw[eS];refine c_t (by simp) (cond_intro (fun hC=>hn (by rw[←hb,numQ,hA,e1,hC];rfl)) (fun hC cap _=> ?_));obtain⟨v1,v2⟩:=jlp y;have v3:=jcx.2 v1;have g1:=v1.good;have g2:=v1.rlb;have g3:=jbl v1.plain;have g4:∀ps,jas ps (Lib.strCells y)=true:=fun ps=>goodL_plain v1.plain
    simp only[g2];generalize Lib.strCells y=d0 at*;simp only[Int.toNat_zero,List.drop_zero,v2];have eR:jbh dr' f' (bz y) 0=nR (bz y):=by rw[nR,e2,e3]
    rw[eR];have eP:plGo (nR (bz y)) ⟨0,false,0,0,0,0⟩=nP (bz y):=rfl;rw[eP];have hl:=jhw dr' f' (bz y) 0;rw[eR,jam]at hl;refine c_t (by rw[g1,g3];rfl) (c_t ?_ (cond_intro (fun hE=>⟨fun _ hnil=>c_t (by rw[g3];rfl) fun _=> ?_,fun pts' bh' w' dg' q' fm' d' m' cap' r1 r2 r3=> ?_⟩) (fun hE _ _ _ _ _ _ _ d' m' cap' r1=>c_t (by rw[g3,jbl (jar.1 r1).plain];rfl) fun _=>hn (by rw[←hb,numQ,hA,e1,hC,nPok,hE];rfl))))
    · simp only [S133_0, Rw.oki, Rw.z, List.length_nil, Bool.true_and, jaf, jae];exact⟨v3,jaa ⟨by omega,by omega,by omega,jb1 _,by omega,by omega,by omega,by omega,by omega,by omega,by omega,by omega,by omega,by omega,by omega⟩⟩
    · have:nP (bz y)=(true,⟨0,false,0,0,0,0⟩):=by
        rw[nP,nR,hnil];rfl
      exact hn (by rw[←hb,numQ,hA,e1,hC,nPok,this];rfl)
    have r1:=jar.1 r1;have hz:=jbg r1;have r2:zc d' m'=nR (bz y):=r2;have pr:=jix (nR (bz y)) ⟨0,false,0,0,0,0⟩;rw[eP,r3]at pr;simp only at pr;have hm:m'=y.size:=by rw[←hz,r2,hl]
    refine c_t (by rw[g3,jbl r1.plain];rfl) fun _=>c_t (by cases decide (pts'≤1) <;>cases decide (dg'≥1) <;>cases decide (dg'≤9) <;>simp) ?_
    have ePok:(decide (pts'≤1) && (decide (dg'≥1) && (decide (dg'≤9) &&bif bh' then !decide (fm'>0)else !false)))=nPok (bz y):=by
      rw[nPok,r3];cases bh'<;>rfl
    rw[ePok];refine cond_intro (fun hF=>hn (by rw[←hb,numQ,hA,e1,hC];rw[Bool.not_eq_true']at hF;rw[hF];rfl)) (fun hF=> ?_);have hF:nPok (bz y)=true:=by simpa using hF
    have gd:∀ps,rlbL ps d'=d':=r1.rlb;have gg:∀ps,jas ps d'=true:=r1.good;have gi:=jbl r1.plain;simp only[gd,r2];refine c_t (by rw[gg,gi];rfl) (c_t ?_ (fun lo' hi' h1 h2=>c_t (by rw[gi];rfl) fun _=>c_t (by rw[gg,gi];rfl) (c_t ?_ ?_)))
    · simp only [S134_0, jaf, jae];exact⟨jar.2 r1,by omega,by omega,by omega,jb1 _,trivial⟩
    · simp only [S134_2, jaf, jae];exact⟨jar.2 r1,by omega,by omega,by omega,jb1 _,trivial⟩
    have eSt:stP f' lo' hi' (nR (bz y)) 0=nS (bz y):=by rw[nS,e3,jam,h1,h2]
    rw[eSt];refine cond_intro (fun hG=> ?_) (fun hG _=>c_t (by rw[gi];rfl) fun _=>hn (by rw[←hb,numQ,hA,e1,hC,hF,hG];rfl));refine c_t (by rw[gi];rfl) fun _ cap2 _=>c_t (by rw[g4,gg,gi,g3];rfl) (c_t ?_ (fun n' h3=>c_t (by rw[gi,g3];rfl) fun _=> ?_))
    · simp only [S135_0, jaf, jae];exact⟨jar.2 r1,v3,by omega,by omega,hm,by omega,jb1 _,by omega,by omega⟩
    have sr:=jmq (bz y) (nR (bz y));rw[jam]at sr;rw[Int.zero_add]at h3;rw[w64 (n:=n'+1) (by omega),w64 (n:=w'+2) (by omega)];have eN:nG (bz y) true=n'+1:=by rw[nG,h3];rfl
    refine cond_intro (fun hH => hn (by rw [← hb, numQ, hA, e1, hC, hF, hG, eN]; have : ¬ n' + 1 ≤ 1 := by have := jab hH; omega
                                        rw[jad this];rfl)) (fun hH=> ?_)
    have hq:numQ (jal (bz s)) true=true:=by
      rw[←hb,numQ,hA,e1,hC,hF,hG,eN];have:n'+1≤1:=by have:=jac hH;omega
      rw[jaa this];rfl
    have eF:∀x k c,jkp s true x k c=[Value.string s,Value.bool true,Value.int IntKind.i64 (w'+2),Value.int IntKind.i64 dg',Value.int IntKind.i64 q',Value.bool (n'+1==1),Value.slice (some ⟨x,0,some 1⟩) k c,Value.int IntKind.u8 dr',Value.int IntKind.i64 f',Value.bool true,Value.int IntKind.u8 (bif hasZ (bz y) 42 then 42 else 32),Value.int IntKind.i64 fm']:=fun x k c=>by
      rw[jkp,←hb,r3,e2,e3,eN];rfl
    have hf:=hy hq;simp only[eF,jlw,←hb]at hf;apply cond_intro<;>intro hI
    · rw [hI] at hf;refine c_t (r1.ask (k:=2) (by omega)) (fun cap3 tail ht=> ?_);obtain⟨a1,a2⟩:=r1.app [4,4] ht;rw[Nat.mul_one];exact hf _ _ _ _ a1 (a2.trans (by rw[r2];rfl))
    · rw [hI] at hf;refine c_t (r1.ask (k:=2) (by omega)) (fun cap3 tail ht=> ?_);obtain⟨a1,a2⟩:=r1.app [4,4] ht;rw[Nat.mul_one];exact hf _ _ _ _ a1 (a2.trans (by rw[r2];rfl))
  · rw [hcr] at hn hy;have hb:bz s=jal (bz s):=by rw[jiq hcr];rfl
    have hay:=ha;have k1:bz ⟨#[65,88,67,68]⟩=[65,88,67,68]:=rfl;have k2:(bz ⟨#[42]⟩).getD 0 0=42:=rfl;have k3:(bz ⟨#[90]⟩).getD 0 0=90:=rfl;rw[k1,k2,k3];have ey:=hb;refine c_t (by rw[jaa (show s.size≤1000 by omega),hay];rfl) (cond_intro (fun hA=>hn (by rw[←hb];simp only[numQ,hA,Bool.not_true,Bool.false_and])) (fun hA=>c_t ?_ (cond_intro (fun hB dr' f' hD x=> ?_) (fun hB _ _ _ _=>hn (by rw[←hb,numQ,nD,hB,hA];rfl)))))
    · simp only [S131_0, jae];exact⟨jb1 4,by omega,by omega,by omega,by omega,by omega⟩
    have hD':nD (bz s)=(true,dr',f'):=hD;have e1:(nD (bz s)).1=true:=by rw[hD']
    have e2:(nD (bz s)).2.1=dr':=by rw[hD']
    have e3:(nD (bz s)).2.2=f':=by rw[hD']
    have eS:(bif hasZ (bz s) 42 then hasZ (bz s) 90 || bif hasZ (bz s) 42 then dr' !=0 else hasZ (bz s) 90&&dr' !=0 else bif hasZ (bz s) 42 then dr' !=0 else hasZ (bz s) 90&&dr' !=0)=nSt (bz s):=by
      rw[nSt,e2];cases hasZ (bz s) 42<;>cases hasZ (bz s) 90<;>cases dr' !=0<;>rfl
    rw[eS];refine c_t (by simp) (cond_intro (fun hC=>hn (by rw[←hb,numQ,hA,e1,hC];rfl)) (fun hC cap _=> ?_));obtain⟨v1,v2⟩:=jlp s;have v3:=jcx.2 v1;have g1:=v1.good;have g2:=v1.rlb;have g3:=jbl v1.plain;have g4:∀ps,jas ps (Lib.strCells s)=true:=fun ps=>goodL_plain v1.plain
    simp only[g2];generalize Lib.strCells s=d0 at*;simp only[Int.toNat_zero,List.drop_zero,v2];have eR:jbh dr' f' (bz s) 0=nR (bz s):=by rw[nR,e2,e3]
    rw[eR];have eP:plGo (nR (bz s)) ⟨0,false,0,0,0,0⟩=nP (bz s):=rfl;rw[eP];have hl:=jhw dr' f' (bz s) 0;rw[eR,jam]at hl;refine c_t (by rw[g1,g3];rfl) (c_t ?_ (cond_intro (fun hE=>⟨fun _ hnil=>c_t (by rw[g3];rfl) fun _=> ?_,fun pts' bh' w' dg' q' fm' d' m' cap' r1 r2 r3=> ?_⟩) (fun hE _ _ _ _ _ _ _ d' m' cap' r1=>c_t (by rw[g3,jbl (jar.1 r1).plain];rfl) fun _=>hn (by rw[←hb,numQ,hA,e1,hC,nPok,hE];rfl))))
    · simp only [S133_0, Rw.oki, Rw.z, List.length_nil, Bool.true_and, jaf, jae];exact⟨v3,jaa ⟨by omega,by omega,by omega,jb1 _,by omega,by omega,by omega,by omega,by omega,by omega,by omega,by omega,by omega,by omega,by omega⟩⟩
    · have:nP (bz s)=(true,⟨0,false,0,0,0,0⟩):=by
        rw[nP,nR,hnil];rfl
      exact hn (by rw[←hb,numQ,hA,e1,hC,nPok,this];rfl)
    have r1:=jar.1 r1;have hz:=jbg r1;have r2:zc d' m'=nR (bz s):=r2;have pr:=jix (nR (bz s)) ⟨0,false,0,0,0,0⟩;rw[eP,r3]at pr;simp only at pr;have hm:m'=s.size:=by rw[←hz,r2,hl]
    refine c_t (by rw[g3,jbl r1.plain];rfl) fun _=>c_t (by cases decide (pts'≤1) <;>cases decide (dg'≥1) <;>cases decide (dg'≤9) <;>simp) ?_
    have ePok:(decide (pts'≤1) && (decide (dg'≥1) && (decide (dg'≤9) &&bif bh' then !decide (fm'>0)else !false)))=nPok (bz s):=by
      rw[nPok,r3];cases bh'<;>rfl
    rw[ePok];refine cond_intro (fun hF=>hn (by rw[←hb,numQ,hA,e1,hC];rw[Bool.not_eq_true']at hF;rw[hF];rfl)) (fun hF=> ?_);have hF:nPok (bz s)=true:=by simpa using hF
    have gd:∀ps,rlbL ps d'=d':=r1.rlb;have gg:∀ps,jas ps d'=true:=r1.good;have gi:=jbl r1.plain;simp only[gd,r2];refine c_t (by rw[gg,gi];rfl) (c_t ?_ (fun lo' hi' h1 h2=>c_t (by rw[gi];rfl) fun _=>c_t (by rw[gg,gi];rfl) (c_t ?_ ?_)))
    · simp only [S134_0, jaf, jae];exact⟨jar.2 r1,by omega,by omega,by omega,jb1 _,trivial⟩
    · simp only [S134_2, jaf, jae];exact⟨jar.2 r1,by omega,by omega,by omega,jb1 _,trivial⟩
    have eSt:stP f' lo' hi' (nR (bz s)) 0=nS (bz s):=by rw[nS,e3,jam,h1,h2]
    rw[eSt];refine cond_intro (fun hG=> ?_) (fun hG _=>c_t (by rw[gi];rfl) fun _=>hn (by rw[←hb,numQ,hA,e1,hC,hF,hG];rfl));refine c_t (by rw[gi];rfl) fun _ cap2 _=>c_t (by rw[g4,gg,gi,g3];rfl) (c_t ?_ (fun n' h3=>c_t (by rw[gi,g3];rfl) fun _=> ?_))
    · simp only [S135_0, jaf, jae];exact⟨jar.2 r1,v3,by omega,by omega,hm,by omega,jb1 _,by omega,by omega⟩
    have sr:=jmq (bz s) (nR (bz s));rw[jam]at sr;rw[Int.zero_add]at h3;have eN:nG (bz s) false=n':=by rw[nG,h3];exact Int.add_zero _
    refine cond_intro (fun hH => hn (by rw [← hb, numQ, hA, e1, hC, hF, hG, eN]; have : ¬ n' ≤ 1 := by have := jab hH; omega
                                        rw[jad this];rfl)) (fun hH=> ?_)
    have hq:numQ (jal (bz s)) false=true:=by
      rw[←hb,numQ,hA,e1,hC,hF,hG,eN];have:n'≤1:=by have:=jac hH;omega
      rw[jaa this];rfl
    have eF:∀x k c,jkp s false x k c=[Value.string s,Value.bool true,Value.int IntKind.i64 w',Value.int IntKind.i64 dg',Value.int IntKind.i64 q',Value.bool (n'==1),Value.slice (some ⟨x,0,some 1⟩) k c,Value.int IntKind.u8 dr',Value.int IntKind.i64 f',Value.bool false,Value.int IntKind.u8 (bif hasZ (bz s) 42 then 42 else 32),Value.int IntKind.i64 fm']:=fun x k c=>by
      rw[jkp,←hb,r3,e2,e3,eN,cond_false,Int.add_zero]
    have hf:=hy hq;simp only[eF,jlw,←hb]at hf;apply cond_intro<;>intro hI
    · rw [hI] at hf;exact hf _ _ _ _ r1 (by rw[r2];simp)
    · rw [hI] at hf;exact hf _ _ _ _ r1 (by rw[r2];simp)
end Go.Px
end
section
namespace Go.Px
open Go Go.Ab Go.Proofs
theorem last_mem{l:J}{c:Int}:jb9 l c= -1↔c∉l:=by
 rcases jeg c l with⟨e,h⟩ | ⟨i,hi,e,hc,h⟩
 ·refine⟨fun _ hm=> ?_,fun _=>e⟩;obtain⟨j,hj,hv⟩:=List.mem_iff_getElem.1 hm;exact h j hj (by rw[List.getD_eq_getElem?_getD,List.getElem?_eq_getElem hj];exact hv)
 ·refine⟨fun q=>by omega,fun q=>absurd ?_ q⟩;rw[List.getD_eq_getElem?_getD,List.getElem?_eq_getElem hi]at hc;exact hc▸List.getElem_mem hi
def flg(s:J)(c:Int):Bool:=hasZ [36,83,43,45] c&&decide (2≤cntZ s c)
theorem jil(s:J)(dr:Int):∀(r:J)(i f l:Int),(df1 s dr r i f l).1=r.all fun c=>c==dr || !flg s c
 | [],_,_,_=>rfl
 | c::r,i,f,l=>by
  rw[df1,List.all_cons];cases h:c==dr with
  | true=>rw[cond_true,jil s dr r];rfl
  | false=>
   rw[cond_false];have e:(hasZ [36,83,43,45] c&&decide (2≤cntZ s c))=flg s c:=rfl;rw[e];cases flg s c with
   | true=>rfl
   | false=>rw[cond_false,jil s dr r];rfl
theorem jnc(s:J)(dr:Int):∀(r:J)(i f l:Int),0≤i→(df1 s dr r i f l).1=true→
  (df1 s dr r i f l).2.1=(if f<0 then(if dr∈r then i+idxZ r dr else f)else f)∧(df1 s dr r i f l).2.2=(if dr∈r then i+jb9 r dr else l)
 | [],i,f,l,_,_=>by simp[df1]
 | c::r,i,f,l,hi,h=>by
  rw[df1]at h ⊢;have hlr:=last_mem (l:=r) (c:=dr);cases hc:c==dr with
  | true=>
   have hc':c=dr:=eq_of_beq hc;rw[hc,cond_true]at h;rw[cond_true];obtain⟨q1,q2⟩:=jnc s dr r _ _ _ (by omega) h;rw[q1,q2,hc'];have h1:¬(if f<0 then i else f)<0:=by split<;>omega
   rw[if_neg h1,if_pos (List.mem_cons_self ..),if_pos (List.mem_cons_self ..),idxZ,if_pos rfl,jb9];refine⟨by split<;>omega,?_⟩;by_cases hm:dr∈r
   ·rw[if_pos hm,if_neg (fun q=>hlr.1 q hm)];omega
   ·rw[if_neg hm,if_pos (hlr.2 hm),if_pos rfl];omega
  | false=>
   have hc':¬c=dr:=by simpa using hc
   rw[hc,cond_false]at h;rw[cond_false];cases hf:(hasZ [36,83,43,45] c&&decide (2≤cntZ s c))with
   | true=>rw[hf]at h;cases h
   | false=>
    rw[hf,cond_false]at h;rw[cond_false];obtain⟨q1,q2⟩:=jnc s dr r _ _ _ (by omega) h
    have hmm:dr∈c::r↔dr∈r:=by
     rw[List.mem_cons];exact⟨fun q=>q.resolve_left fun e=>hc' e.symm,.inr⟩
    rw[q1,q2];simp only[hmm,idxZ,jb9,if_neg hc'];by_cases hm:dr∈r
    ·have i1:=jfa dr hm;rw[if_pos hm,if_pos hm,if_pos hm,if_pos hm,if_neg (show¬idxZ r dr= -1 by omega),if_neg (fun q=>hlr.1 q hm)];exact⟨by split<;>omega,by omega⟩
    ·rw[if_neg hm,if_neg hm,if_neg hm,if_neg hm];exact⟨rfl,rfl⟩
theorem d2_app(dr f:Int):∀(x y:J)(i:Int),d2Go dr f (x++y) i=(d2Go dr f x i&&d2Go dr f y (i+x.length))
 | [],y,i=>by simp[d2Go]
 | c::x,y,i=>by
  rw[List.cons_append,d2Go,d2Go,d2_app dr f x y,List.length_cons,Bool.and_assoc,Bool.and_assoc];congr 4;omega
theorem d2_before(dr f:Int):∀(r:J)(i:Int),i+r.length≤f→d2Go dr f r i= !hasZ r 86
 | [],_,_=>rfl
 | c::r,i,h=>by
  rw[List.length_cons]at h;rw[d2Go,d2_before dr f r (i+1) (by omega),jaa (show i<f by omega),jad (show¬i>f by omega)];simp only[hasZ,List.any_cons,Bool.true_and,Bool.false_and,Bool.not_false,Bool.not_or]
theorem d2_after(dr f:Int):∀(r:J)(i:Int),f<i→d2Go dr f r i=drP dr r
 | [],_,_=>rfl
 | c::r,i,h=>by
  rw[d2Go,d2_after dr f r (i+1) (by omega),jad (show¬i<f by omega),jaa (show i>f by omega)];simp only[drP,List.all_cons,Bool.true_and,Bool.false_and,Bool.not_false,Bool.not_and,Bool.not_not,bne];rfl
theorem take_split(b:J){f l:Nat}(h:f≤l):b.take l=b.take f++(b.take l).drop f:=by
 have:=List.take_append_drop f (b.take l);rw[List.take_take,Nat.min_eq_left h]at this;exact this.symm
theorem drop_take_cons(b:J){f l:Nat}(h:f<l)(hb:f<b.length):(b.take l).drop f=b.getD f 0::(b.take l).drop (f+1):=by
 rw[jgd (b.take l) f (by rw[List.length_take];omega)];congr 1;simp only[List.getD_eq_getElem?_getD,List.getElem?_take];rw[if_pos h]
theorem idx_get(c:Int):∀{l:J},c∈l→l.getD (idxZ l c).toNat 0=c
 | b::l,h=>by
  simp only[idxZ];by_cases hb:b=c
  ·rw[if_pos hb];simpa using hb
  ·rw[if_neg hb];have hm:c∈l:=by rcases List.mem_cons.1 h with q | q;exact absurd q.symm hb;exact q
   have:=jfa c hm;rw[if_neg (by omega),show(idxZ l c+1).toNat=(idxZ l c).toNat+1 by omega,List.getD_cons_succ];exact idx_get c hm
theorem last_get(c:Int){l:J}(h:c∈l):l.getD (jb9 l c).toNat 0=c:=by
 rcases jeg c l with⟨e,_⟩ | ⟨i,hi,e,hc,_⟩
 ·exact absurd h (last_mem.1 e)
 ·rw[e];exact hc
theorem take_snoc(b:J){l:Nat}(h:l<b.length):b.take (l+1)=b.take l++ [b.getD l 0]:=by
 rw[List.take_add_one,List.getD_eq_getElem?_getD,List.getElem?_eq_getElem h];rfl
theorem d2_drC{b:J}{c:Int}(h:c∈b):d2Go c (idxZ b c) (b.take (jb9 b c).toNat) 0=drC b c:=by
 have i1:=jfa c h;have i2:=jjo c h;have i3:=jjj b c;have g1:=idx_get c h;have g2:=last_get c h;obtain⟨f,hf⟩:∃f:Nat,idxZ b c=f:=⟨(idxZ b c).toNat,by omega⟩
 obtain⟨l,hl⟩:∃l:Nat,jb9 b c=l:=⟨(jb9 b c).toNat,by omega⟩
 unfold drC;rw[hf]at i1 i2 g1;rw[hl]at i2 i3 g2;rw[hf,hl];rw[Int.toNat_natCast]at g1 g2 ⊢;rw[Int.toNat_natCast];rw[show((l:Int)+1).toNat=l+1 by omega,take_snoc b (by omega),g2,List.drop_append_of_le_length (by rw[List.length_take];omega)];rw[take_split b (show f≤l by omega),d2_app,d2_before _ _ _ _ (by rw[List.length_take];omega)];congr 1
 ·rw[←take_split b (show f≤l by omega)];rw[List.length_take,Nat.min_eq_left (by omega)]
  have hs:drP c ((b.take l).drop f++ [c])=drP c ((b.take l).drop f):=by
   simp[drP]
  rw[hs];by_cases hfl:f<l
  ·rw[drop_take_cons b hfl (by omega),g1,d2Go,d2_after _ _ _ _ (by omega)];simp[drP]
  ·rw[List.drop_eq_nil_of_le (by rw[List.length_take];omega)];rfl
theorem jj0{b:J}{d f:Int}:∀{cs:J},(∀c∈cs,(cntZ b c:Int)<2)→je0 cs b d f=(true,d,f)
 | [],_=>rfl
 | c::cs,h=>by
  rw[je0,jaa (h c (List.mem_cons_self ..)),cond_true];exact jj0 fun x hx=>h x (List.mem_cons_of_mem _ hx)
theorem drf_many{b:J}{d f:Int}(hd:d≠0):∀{cs:J},(∃c∈cs,¬(cntZ b c:Int)<2)→(je0 cs b d f).1=false
 | c::cs,h=>by
  rw[je0];cases hc:decide ((cntZ b c:Int)<2)with
  | true=>
   rw[cond_true];refine drf_many hd ?_;obtain⟨x,hx,hxc⟩:=h;rcases List.mem_cons.1 hx with rfl | hx
   ·exact absurd (jab hc) hxc
   ·exact⟨x,hx,hxc⟩
  | false=>
   rw[cond_false];have:(d !=0)=true:=by simpa using hd
   rw[this];rfl
 | [],⟨_,h,_⟩=>by cases h
theorem drf_two{b:J}{d f:Int}:∀{cs:J}{c1 c2:Int},(∀c∈cs,c≠0)→c1∈cs→c2∈cs→c1≠c2→ ¬(cntZ b c1:Int)<2→ ¬(cntZ b c2:Int)<2→(je0 cs b d f).1=false
 | c::cs,c1,c2,h0,m1,m2,hne,h1,h2=>by
  rw[je0];cases hc:decide ((cntZ b c:Int)<2)with
  | true=>
   have hc:=jab hc;rw[cond_true];refine drf_two (fun x hx=>h0 x (List.mem_cons_of_mem _ hx)) ?_ ?_ hne h1 h2
   ·rcases List.mem_cons.1 m1 with rfl | q
    ·exact absurd hc h1
    ·exact q
   ·rcases List.mem_cons.1 m2 with rfl | q
    ·exact absurd hc h2
    ·exact q
  | false=>
   rw[cond_false];cases d !=0 with
   | true=>rfl
   | false=>
    rw[cond_false];cases drC b c with
    | false=>rfl
    | true=>
     rw[cond_true];refine drf_many (h0 c (List.mem_cons_self ..)) ?_;by_cases e:c1=c
     ·rcases List.mem_cons.1 m2 with q | q
      ·exact absurd (e.trans q.symm) hne
      ·exact⟨c2,q,h2⟩
     ·rcases List.mem_cons.1 m1 with q | q
      ·exact absurd q e
      ·exact⟨c1,q,h1⟩
theorem drf_one{b:J}{f:Int}:∀{cs:J}{c:Int},cs.Nodup→c∈cs→ ¬(cntZ b c:Int)<2→(∀x∈cs,x≠c→(cntZ b x:Int)<2)→je0 cs b 0 f=bif drC b c then(true,c,idxZ b c)else(false,0,0)
 | x::cs,c,hn,hm,h1,h2=>by
  have hn':=List.nodup_cons.1 hn;rw[je0];by_cases e:x=c
  ·subst e;rw[jad h1,cond_false];have:((0:Int) !=0)=false:=rfl;rw[this,cond_false];cases drC b x with
   | false=>rfl
   | true=>
    rw[cond_true,cond_true];exact jj0 fun y hy=>h2 y (List.mem_cons_of_mem _ hy) fun q=>hn'.1 (q▸hy)
  ·rw[jaa (h2 x (List.mem_cons_self ..) e),cond_true];exact drf_one hn'.2 (by rcases List.mem_cons.1 hm with q | q;exact absurd q.symm e;exact q) h1 fun y hy=>h2 y (List.mem_cons_of_mem _ hy)
theorem jge(s:J):∀r:J,drGo s r=0∨(flg s (drGo s r)=true∧drGo s r∈r)
 | []=> .inl rfl
 | c::r=>by
  rw[drGo];split
  ·rename_i h;exact .inr ⟨by simp only[flg,jaf,jae];exact h,List.mem_cons_self ..⟩
  ·rcases jge s r with h | ⟨h1,h2⟩
   ·exact .inl h
   ·exact .inr ⟨h1,List.mem_cons_of_mem _ h2⟩
theorem jlg(s:J){c:Int}(hf:flg s c=true):∀r:J,c∈r→drGo s r≠0
 | x::r,h=>by
  rw[drGo];split
  ·rename_i h;have:hasZ [36,83,43,45] x=true:=h.1;rw[has_dr]at this;omega
  ·rename_i hx;rcases List.mem_cons.1 h with rfl | h
   ·simp only[flg,jaf,jae]at hf;exact absurd hf hx
   ·exact jlg s hf r h
theorem jla{s:J}{c:Int}(h:c∈ [36,83,43,45]):flg s c=true↔ ¬(cntZ s c:Int)<2:=by
 simp only[flg,jaf,jae,jbk];exact⟨fun q=>by omega,fun q=>⟨h,by omega⟩⟩
theorem jgp{s:J}{c:Int}(h:flg s c=true):c∈ [36,83,43,45]∧ ¬(cntZ s c:Int)<2:=by
 simp only[flg,jaf,jae,jbk]at h;exact⟨h.1,by omega⟩
theorem nD_law(b:J):(nD b).1=jdo b∧(jdo b=true→(nD b).2.1=drZ b∧(nD b).2.2=if drZ b=0 then -1 else idxZ b (drZ b)):=by
 have h4:∀c∈ [36,83,43,(45:Int)],c≠0:=by decide
 by_cases hd:drZ b=0
 ·have hn:nD b=(true,0,-1):=jj0 fun c hc=>by
   cases hq:decide ((cntZ b c:Int)<2)with
   | true=>exact jab hq
   | false=>
    have hf:=(jla hc).2 (jac hq);exact absurd hd (jlg b hf b (jj4 (jgp hf).2))
  have hz:jdo b=true:=by rw[jdo,hd];rfl
  rw[hn,hz,hd];exact⟨rfl,fun _=>⟨rfl,rfl⟩⟩
 ·obtain⟨hf,hm⟩:=(jge b b).resolve_left hd;have hf:flg b (drZ b)=true:=hf;have hm:drZ b∈b:=hm;obtain⟨m1,m2⟩:=jgp hf
  have hz:jdo b=((df1 b (drZ b) b 0 (-1) (-1)).1&&d2Go (drZ b) (df1 b (drZ b) b 0 (-1) (-1)).2.1 (b.take (df1 b (drZ b) b 0 (-1) (-1)).2.2.toNat) 0):=by
   have:(drZ b==0)=false:=by simpa using hd
   rw[jdo,this,Bool.false_or]
  by_cases ho:∃x∈ [36,83,43,(45:Int)],x≠drZ b∧ ¬(cntZ b x:Int)<2
  ·obtain⟨x,x1,x2,x3⟩:=ho;have e1:(nD b).1=false:=drf_two h4 x1 m1 x2 x3 m2
   have e2:(df1 b (drZ b) b 0 (-1) (-1)).1=false:=by
    rw[jil,List.all_eq_false];refine⟨x,jj4 x3,?_⟩;rw[(jla x1).2 x3];simpa using x2
   rw[hz,e1,e2];exact⟨rfl,fun q=>by cases q⟩
  ·have ho:∀x∈ [36,83,43,(45:Int)],x≠drZ b→(cntZ b x:Int)<2:=fun x x1 x2=>by
    cases hq:decide ((cntZ b x:Int)<2)with
    | true=>exact jab hq
    | false=>exact absurd ⟨x,x1,x2,jac hq⟩ ho
   have e1:nD b=bif drC b (drZ b)then(true,drZ b,idxZ b (drZ b))else(false,0,0):=drf_one (by decide) m1 m2 ho
   have e2:(df1 b (drZ b) b 0 (-1) (-1)).1=true:=by
    rw[jil,List.all_eq_true];intro x _;by_cases q:x=drZ b
    ·rw[q];simp
    ·have:flg b x=false:=by
      cases hh:flg b x with
      | false=>rfl
      | true=>obtain⟨a1,a2⟩:=jgp hh;exact absurd (ho x a1 q) a2
     rw[this];simp
   obtain⟨q1,q2⟩:=jnc b (drZ b) b 0 (-1) (-1) (by omega) e2;rw[if_pos (by omega),if_pos hm,Int.zero_add]at q1;rw[if_pos hm,Int.zero_add]at q2;rw[hz,e1,e2,q1,q2,d2_drC hm,Bool.true_and];cases drC b (drZ b)with
   | false=>exact⟨rfl,fun q=>by cases q⟩
   | true=>exact⟨rfl,fun _=>⟨rfl,by rw[if_neg hd];rfl⟩⟩
def rmk(r:Int):Int:=[100,99,118,105,115,109].getD r.toNat 0
theorem ro_rng(d f c i:Int):0≤roP d f c i∧roP d f c i≤5:=by
 unfold roP;cases hasZ [57,89,84,73,82] c<;>cases(c==90 || (c==42 || (c==d&&i !=f))) <;>cases c==86<;>cases c==36<;>cases(c==83 || (c==43 || c==45)) <;>simp
theorem jk7(d:Int):∀x y:J,idxZ (x++y) d=if d∈x then idxZ x d else if d∈y then x.length+idxZ y d else -1
 | [],y=>by
  simp only[List.nil_append,List.not_mem_nil,if_false,List.length_nil];split
  ·omega
  ·rename_i h;have h:¬0≤idxZ y d:=fun q=>h ((jet d y).2.1 q)
   have:=(jet d y).1;omega
 | c::x,y=>by
  have ih:=jk7 d x y;rw[List.cons_append,idxZ,idxZ];by_cases hc:c=d
  ·rw[if_pos hc,if_pos hc,if_pos (by rw[hc];exact List.mem_cons_self ..)]
  ·rw[if_neg hc,if_neg hc,ih]
   have hm:d∈c::x↔d∈x:=by
    rw[List.mem_cons];exact⟨fun q=>q.resolve_left fun e=>hc e.symm,.inr⟩
   simp only[hm];by_cases hx:d∈x
   ·rw[if_pos hx,if_pos hx]
   ·rw[if_neg hx,if_neg hx];by_cases hy:d∈y
    ·have:=jfa d hy;rw[if_pos hy,if_pos hy,if_neg (by omega)];simp only[List.length_cons];omega
    ·rw[if_neg hy,if_neg hy,if_pos rfl]
structure DrP (b:J)(d f:Int):Prop where
 zero:∀c∈b,c≠0
 at_:d=0∧f= -1∨d≠0∧d∈b∧f=idxZ b d∧d∈ [36,83,43,(45:Int)]
theorem DrP.eq{b pre r:J}{c d f:Int}(h:DrP b d f)(hb:b=pre++c::r):(c=d∧(pre.length:Int)≠f↔c=d∧d≠0∧d∈pre)∧((pre.length:Int)=f↔c=d∧d∉pre):=by
 have hc0:=h.zero c (by rw[hb];simp);rcases h.at_ with⟨rfl,rfl⟩ | ⟨h1,h2,h3,_⟩
 ·exact⟨⟨fun q=>absurd q.1 hc0,fun q=>absurd q.1 hc0⟩,⟨fun q=>by omega,fun q=>absurd q.1 hc0⟩⟩
 ·rw[hb,jk7]at h3;by_cases hp:d∈pre
  ·rw[if_pos hp]at h3;have:=jfa d hp;exact⟨⟨fun q=>⟨q.1,h1,hp⟩,fun q=>⟨q.1,by omega⟩⟩,⟨fun q=>by omega,fun q=>absurd hp q.2⟩⟩
  ·rw[if_neg hp]at h3;rw[hb]at h2;have hd:d∈c::r:=by rcases List.mem_append.1 h2 with q | q;exact absurd q hp;exact q
   rw[if_pos hd,idxZ]at h3;by_cases hc:c=d
   ·rw[if_pos hc]at h3;exact⟨⟨fun q=>absurd h3 (by omega),fun q=>absurd q.2.2 hp⟩,⟨fun _=>⟨hc,hp⟩,fun _=>by omega⟩⟩
   ·rw[if_neg hc]at h3;have hr:d∈r:=by rcases List.mem_cons.1 hd with q | q;exact absurd q.symm hc;exact q
    have:=jfa d hr;rw[if_neg (by omega)]at h3;exact⟨⟨fun q=>absurd q.1 hc,fun q=>absurd q.1 hc⟩,⟨fun q=>by omega,fun q=>absurd q.1 hc⟩⟩
theorem mk_ro{b pre r:J}{c d f:Int}(h:DrP b d f)(hb:b=pre++c::r):rmk (roP d f c pre.length)=mk1 d (d !=0&&decide (d∈pre)) c:=by
 have e:(c==90 || (c==42 || (c==d&& (pre.length:Int) !=f)))=(hasZ [90,42] c || (d !=0&& (c==d&& (d !=0&&decide (d∈pre))))):=by
  have:=(h.eq hb).1;rw[Bool.eq_iff_iff];simp only[Bool.or_eq_true,jaf,beq_iff_eq,bne_iff_ne,jae,jbk,List.mem_cons,List.not_mem_nil,or_false];rw[this];constructor
  ·rintro (q | q | ⟨q1,q2,q3⟩)
   ·exact .inl (.inl q)
   ·exact .inl (.inr q)
   ·exact .inr ⟨q2,q1,q2,q3⟩
  ·rintro ((q | q) | ⟨q2,q1,_,q3⟩)
   ·exact .inl q
   ·exact .inr (.inl q)
   ·exact .inr (.inr ⟨q1,q2,q3⟩)
 have e2:(c==83 || (c==43 || c==45))=hasZ [83,43,45] c:=by
  rw[Bool.eq_iff_iff];simp only[Bool.or_eq_true,beq_iff_eq,jbk,List.mem_cons,List.not_mem_nil,or_false]
 unfold roP mk1;rw[e,e2];cases hasZ [57,89,84,73,82] c<;>cases(hasZ [90,42] c || (d !=0&& (c==d&& (d !=0&&decide (d∈pre))))) <;>cases c==86<;>cases c==36<;>cases hasZ [83,43,45] c<;>rfl
theorem roles_marks{b:J}{d f:Int}(h:DrP b d f):∀r pre:J,b=pre++r→(jbh d f r pre.length).map rmk=mkGo d (d !=0&&decide (d∈pre)) r
 | [],_,_=>rfl
 | c::r,pre,hb=>by
  rw[jbh,List.map_cons,mkGo,mk_ro h hb];congr 1;have ih:=roles_marks h r (pre++ [c]) (by rw[hb];simp);have e:((pre++ [c]).length:Int)=pre.length+1:=by simp
  have e2:(d !=0&&decide (d∈pre++ [c]))=(d !=0&&decide (d∈pre) || (d !=0&&c==d)):=by
   rw[Bool.eq_iff_iff];simp only[Bool.or_eq_true,jaf,beq_iff_eq,bne_iff_ne,jae,List.mem_append,List.mem_cons,List.not_mem_nil,or_false];constructor
   ·rintro ⟨q,q2 | q2⟩
    ·exact .inl ⟨q,q2⟩
    ·exact .inr ⟨q,q2.symm⟩
   ·rintro (⟨q,q2⟩ | ⟨q,q2⟩)
    ·exact⟨q,.inl q2⟩
    ·exact⟨q,.inr q2.symm⟩
  rw[e,e2]at ih;exact ih
def okR(rs:J):Prop:=∀r∈rs,0≤r∧r≤5
theorem roles_ok(d f:Int):∀(l:J)(i:Int),okR (jbh d f l i)
 | [],_=>fun r h=>by cases h
 | c::l,i=>fun r h=>by
  rw[jbh]at h;rcases List.mem_cons.1 h with rfl | h
  ·exact ro_rng _ _ _ _
  ·exact roles_ok d f l _ r h
theorem jc2{r:Int}(h:0≤r∧r≤5):r=0∨r=1∨r=2∨r=3∨r=4∨r=5:=by omega
def qgo:J→Int→Int
 | [],_=>0
 | m::r,p=>bif m==118 then qgo r (p+1)else(bif isP m then p else 0)+qgo r p
theorem jmu:∀(rs:J)(a:PlS),okR rs→0≤a.pts→0≤a.fm→
  (plGo rs a).1=(ldGo (rs.map rmk) (decide (a.fm>0)) a.bh (decide (a.pts>0)) a.dg).1∧
  ((plGo rs a).1 = true → (plGo rs a).2.dg = (ldGo (rs.map rmk) (decide (a.fm>0)) a.bh (decide (a.pts>0)) a.dg).2.2.2 ∧ (plGo rs a).2.bh = (ldGo (rs.map rmk) (decide (a.fm>0)) a.bh (decide (a.pts>0)) a.dg).2.2.1 ∧
   decide ((plGo rs a).2.fm>0)=(ldGo (rs.map rmk) (decide (a.fm>0)) a.bh (decide (a.pts>0)) a.dg).2.1∧(plGo rs a).2.pts=a.pts+cntZ (rs.map rmk) 118∧(plGo rs a).2.w=a.w+nv (rs.map rmk)∧
   (plGo rs a).2.q=a.q+qgo (rs.map rmk) a.pts∧(plGo rs a).2.fm=a.fm+cntZ (rs.map rmk) 100)
 | [],a,_,_,_=>by simp[plGo,ldGo,cntZ,nv,qgo]
 | r::rs,a,hok,hp,hf=>by
  have hr:=hok r (List.mem_cons_self ..);have hrs:okR rs:=fun x hx=>hok x (List.mem_cons_of_mem _ hx)
  have i1:=jmu rs ⟨a.pts+1,a.bh,a.w,a.dg,a.q,a.fm⟩ hrs (by simp only;omega) hf;have i2:=jmu rs ⟨a.pts,a.bh,a.w+1,a.dg+1,a.q+a.pts,a.fm+1⟩ hrs hp (by simp only;omega);have i3:=jmu rs ⟨a.pts,a.bh || decide (a.pts>0),a.w+1,a.dg+1,a.q+a.pts,a.fm⟩ hrs hp hf;have i4:=jmu rs ⟨a.pts,a.bh,a.w+1,a.dg,a.q,a.fm⟩ hrs hp hf
  have cc:∀(m x:Int),(cntZ (m::rs.map rmk) x:Int)=(if m=x then 1 else 0)+cntZ (rs.map rmk) x:=fun m x=>by
   unfold cntZ;rw[List.filter_cons];by_cases h:m=x
   ·rw[if_pos (by simpa using h),if_pos h,List.length_cons];omega
   ·rw[if_neg (by simpa using h),if_neg h];omega
  have cn:∀m:Int,(nv (m::rs.map rmk):Int)=(if m=118 then 0 else 1)+nv (rs.map rmk):=fun m=>by
   rw[je5];split<;>omega
  rw[List.map_cons,cc,cc,cn];rcases jc2 hr with rfl | rfl | rfl | rfl | rfl | rfl
  ·have e:rmk 0=100:=rfl;rw[e];simp only[jaa (show a.fm+1>0 by omega)]at i2;refine⟨i2.1,fun h=> ?_⟩;obtain⟨q1,q2,q3,q4,q5,q6,q7⟩:=i2.2 h;refine⟨q1,q2,q3,?_,?_,?_,?_⟩
   ·exact q4.trans (by simp)
   ·exact q5.trans (by simp;omega)
   ·refine q6.trans ?_;show a.q+a.pts+qgo (rs.map rmk) a.pts=a.q+(a.pts+qgo (rs.map rmk) a.pts)
    omega
   ·exact q7.trans (by simp;omega)
  ·have e:rmk 1=99:=rfl;rw[e];have e1:plGo (1::rs) a=bif decide (a.fm>0)then(false,a)else plGo rs ⟨a.pts,a.bh || decide (a.pts>0),a.w+1,a.dg+1,a.q+a.pts,a.fm⟩:=rfl;have e2:ldGo (99::rs.map rmk) (decide (a.fm>0)) a.bh (decide (a.pts>0)) a.dg=bif decide (a.fm>0)then(false,false,false,0)else ldGo (rs.map rmk) (decide (a.fm>0)) (a.bh || decide (a.pts>0)) (decide (a.pts>0)) (a.dg+1):=rfl;rw[e1,e2];cases hd:decide (a.fm>0)with
   | true=>exact⟨rfl,fun h=>by cases h⟩
   | false=>
    simp only[hd]at i3;refine⟨i3.1,fun h=> ?_⟩;obtain⟨q1,q2,q3,q4,q5,q6,q7⟩:=i3.2 h;refine⟨q1,q2,q3,?_,?_,?_,?_⟩
    ·exact q4.trans (by simp)
    ·exact q5.trans (by simp;omega)
    ·refine q6.trans ?_;show a.q+a.pts+qgo (rs.map rmk) a.pts=a.q+(a.pts+qgo (rs.map rmk) a.pts)
     omega
    ·exact q7.trans (by simp)
  ·have e:rmk 2=118:=rfl;rw[e];simp only[jaa (show a.pts+1>0 by omega)]at i1;refine⟨i1.1,fun h=> ?_⟩;obtain⟨q1,q2,q3,q4,q5,q6,q7⟩:=i1.2 h;refine⟨q1,q2,q3,?_,?_,q6,?_⟩
   ·exact q4.trans (by simp;omega)
   ·exact q5.trans (by simp)
   ·exact q7.trans (by simp)
  all_goals
   refine⟨i4.1,fun h=> ?_⟩;obtain⟨q1,q2,q3,q4,q5,q6,q7⟩:=i4.2 h;refine⟨q1,q2,q3,?_,?_,?_,?_⟩
   ·exact q4.trans (by simp[rmk])
   ·exact q5.trans (by simp[rmk];omega)
   ·refine q6.trans ?_;show a.q+qgo (rs.map rmk) a.pts=a.q+(0+qgo (rs.map rmk) a.pts)
    omega
   ·exact q7.trans (by simp[rmk])
theorem ro_isJ{b pre r:J}{c d f:Int}(h:DrP b d f)(hb:b=pre++c::r):(rmk (roP d f c pre.length)==100 || (rmk (roP d f c pre.length)==99 || c==d))=(roP d f c pre.length==0 || (roP d f c pre.length==1 || (pre.length:Int)==f)):=by
 obtain⟨h1,h2⟩:=h.eq hb;have hr:=ro_rng d f c pre.length
 have e100:(rmk (roP d f c pre.length)==100)=(roP d f c pre.length==0):=by
  rcases jc2 hr with q | q | q | q | q | q<;>rw[q] <;>rfl
 have e99:(rmk (roP d f c pre.length)==99)=(roP d f c pre.length==1):=by
  rcases jc2 hr with q | q | q | q | q | q<;>rw[q] <;>rfl
 rw[e100,e99];by_cases hf:(pre.length:Int)=f
 ·obtain⟨q1,_⟩:=h2.1 hf;have a1:((pre.length:Int)==f)=true:=by simpa using hf
  have a2:(c==d)=true:=by simpa using q1
  rw[a1,a2]
 ·have a1:((pre.length:Int)==f)=false:=by simpa using hf
  rw[a1];by_cases hc:c=d
  ·-- then a leader
   by_cases h0:(roP d f c pre.length==0)=true
   ·rw[h0];rfl
   ·have hl:roP d f c pre.length=1:=by
     have e:(c==90 || (c==42 || (c==d&& (pre.length:Int) !=f)))=true:=by
      have a3:((pre.length:Int) !=f)=true:=by simpa using hf
      have a2:(c==d)=true:=by simpa using hc
      rw[a2,a3];simp
     unfold roP at h0 ⊢;rw[e]at h0 ⊢;cases hq:hasZ [57,89,84,73,82] c with
     | true=>rw[hq]at h0;exact absurd rfl h0
     | false=>rfl
    rw[hl];simp
  ·have a2:(c==d)=false:=by simpa using hc
   rw[a2]
theorem st_in{b:J}{d f x:Int}(h:DrP b d f):∀(r pre:J)(lo hi:Int),b=pre++r→
  stIn d x r ((jbh d f r pre.length).map rmk) pre.length (decide (lo<x)) (decide (hi>x))=(decide (loGo f (jbh d f r pre.length) pre.length lo<x),decide (hiGo f (jbh d f r pre.length) pre.length hi>x))
 | [],pre,lo,hi,_=>by simp[stIn,jbh,loGo,hiGo]
 | c::r,pre,lo,hi,hb=>by
  have ih:=fun lo hi=>st_in (x:=x) h r (pre++ [c]) lo hi (by rw[hb];simp)
  have e:((pre++ [c]).length:Int)=pre.length+1:=by simp
  rw[e]at ih;rw[jbh,List.map_cons,stIn,loGo,hiGo,ro_isJ h hb];cases(roP d f c pre.length==0 || (roP d f c pre.length==1 || (pre.length:Int)==f))with
  | false=>rw[cond_false,cond_false,cond_false,ih]
  | true=>
   rw[cond_true,cond_true,cond_true,←ih]
   have e1:(decide (lo<x) || decide ((pre.length:Int)<x))=decide (imin lo pre.length<x):=by
    rw[Bool.eq_iff_iff];simp only[Bool.or_eq_true,jae];unfold imin;split<;>omega
   have e2:(decide (hi>x) || decide ((pre.length:Int)>x))=decide (imax hi pre.length>x):=by
    rw[Bool.eq_iff_iff];simp only[Bool.or_eq_true,jae];unfold imax;split<;>omega
   rw[e1,e2]
theorem ro_still{b pre r:J}{c d f:Int}(h:DrP b d f)(hb:b=pre++c::r):((roP d f c pre.length==4 || roP d f c pre.length==5) && (pre.length:Int) !=f)=(hasZ [36,83,43,45] c&& !(c==d)):=by
 obtain⟨h1,h2⟩:=h.eq hb;by_cases hc:c=d
 ·have a2:(c==d)=true:=by simpa using hc
  rw[a2,Bool.not_true,Bool.and_false];by_cases hf:(pre.length:Int)=f
  ·have a1:((pre.length:Int) !=f)=false:=by simpa using hf
   rw[a1,Bool.and_false]
  ·have a3:((pre.length:Int) !=f)=true:=by simpa using hf
   have e:(c==90 || (c==42 || (c==d&& (pre.length:Int) !=f)))=true:=by rw[a2,a3];simp
   unfold roP;rw[e];cases hasZ [57,89,84,73,82] c<;>rfl
 ·have a2:(c==d)=false:=by simpa using hc
  have hf:¬(pre.length:Int)=f:=fun q=>hc (h2.1 q).1
  have a3:((pre.length:Int) !=f)=true:=by simpa using hf
  rw[a2,a3,Bool.and_true,Bool.not_false,Bool.and_true];have e:(c==90 || (c==42 || (c==d&& (pre.length:Int) !=f)))=(c==90 || c==42):=by rw[a2];simp
  unfold roP;rw[e];by_cases m:c∈ [36,83,43,(45:Int)]
  ·have:c=36∨c=83∨c=43∨c=45:=by simpa using m
   rcases this with rfl | rfl | rfl | rfl<;>rfl
  ·have hm:hasZ [36,83,43,45] c=false:=by
    cases q:hasZ [36,83,43,45] c with
    | false=>rfl
    | true=>exact absurd (jbk.1 q) m
   rw[hm];simp only[List.mem_cons,List.not_mem_nil,or_false,not_or]at m;have b1:(c==36)=false:=by simpa using m.1
   have b2:(c==83 || (c==43 || c==45))=false:=by simp[m.2.1,m.2.2.1,m.2.2.2]
   rw[b1,b2];cases hasZ [57,89,84,73,82] c<;>cases(c==90 || c==42) <;>cases c==86<;>rfl
theorem st_law{b ms:J}{d f lo hi:Int}(h:DrP b d f)(hin:∀x:Int,0≤x→x≤b.length→stIn d x b ms 0 false false=(decide (lo<x),decide (hi>x))):∀(r pre:J),b=pre++r→
  stP f lo hi (jbh d f r pre.length) pre.length=stGo d b ms r pre.length
 | [],_,_=>rfl
 | c::r,pre,hb=>by
  have ih:=st_law h hin r (pre++ [c]) (by rw[hb];simp);have e:((pre++ [c]).length:Int)=pre.length+1:=by simp
  rw[e]at ih;have hl:(b.length:Int)=pre.length+1+r.length:=by rw[hb];simp;omega
  rw[jbh,stP,stGo,ih,hin _ (by omega) (by omega)];congr 1;have s:=ro_still h hb
  have e3:((roP d f c pre.length==4 || roP d f c pre.length==5) && ((pre.length:Int) !=f&& (decide ((pre.length:Int)>lo) &&decide ((pre.length:Int)<hi))))=(((roP d f c pre.length==4 || roP d f c pre.length==5) && (pre.length:Int) !=f) && (decide (lo<(pre.length:Int)) &&decide (hi>(pre.length:Int)))):=by
   rw[Bool.and_assoc]
  rw[e3,s];cases hasZ [36,83,43,45] c<;>cases(c==d) <;>rfl
theorem jde(c x:Int)(l:J):(cntZ (c::l) x:Int)=(if c=x then 1 else 0)+cntZ l x:=by
 unfold cntZ;rw[List.filter_cons];by_cases h:c=x
 ·rw[if_pos (by simpa using h),if_pos h,List.length_cons];omega
 ·rw[if_neg (by simpa using h),if_neg h];omega
theorem jhe(c x:Int)(l:J):hasZ (c::l) x=(c==x || hasZ l x):=rfl
def sgX(d x:Int)(pre r:J):Int:=if x=d then(if d∈pre then 0 else b2i (hasZ r x))else cntZ r x
theorem jja{d x c:Int}{pre r:J}:sgX d x pre (c::r)=(if c=x∧ ¬(x=d∧d∈pre)then 1 else 0)+sgX d x (pre++ [c]) r:=by
 unfold sgX;by_cases hx:x=d
 ·rw[if_pos hx,if_pos hx];by_cases hp:d∈pre
  ·have hp2:d∈pre++ [c]:=List.mem_append.2 (.inl hp);rw[if_pos hp,if_pos hp2,if_neg (fun q=>q.2 ⟨hx,hp⟩)];rfl
  ·rw[if_neg hp,jhe];by_cases hc:c=x
   ·have hp2:d∈pre++ [c]:=List.mem_append.2 (.inr (by rw[hc,hx];exact List.mem_singleton.2 rfl));rw[if_pos ⟨hc,fun q=>hp q.2⟩,if_pos hp2];have:(c==x)=true:=by simpa using hc
    rw[this];rfl
   ·have:(c==x)=false:=by simpa using hc
    have hp2:d∉pre++ [c]:=fun q=>by
     rcases List.mem_append.1 q with q | q
     ·exact hp q
     ·exact hc (by rw[hx];exact(List.mem_singleton.1 q).symm)
    rw[if_neg (fun q=>hc q.1),if_neg hp2,this,Bool.false_or];omega
 ·rw[if_neg hx,if_neg hx,jde];by_cases hc:c=x
  ·rw[if_pos hc,if_pos ⟨hc,fun q=>hx q.1⟩]
  ·rw[if_neg hc,if_neg (fun q=>hc q.1)]
theorem si_law{b:J}{d f:Int}(h:DrP b d f):∀(r pre:J),b=pre++r→
  siGo r (jbh d f r pre.length)=sgX d 83 pre r+sgX d 43 pre r+sgX d 45 pre r+cntZ r 84+cntZ r 73+cntZ r 82
 | [],pre,_=>by
  have:∀x,sgX d x pre []=0:=fun x=>by unfold sgX;split<;>(try split) <;>rfl
  rw[this,this,this];rfl
 | c::r,pre,hb=>by
  have ih:=si_law h r (pre++ [c]) (by rw[hb];simp);have e:((pre++ [c]).length:Int)=pre.length+1:=by simp
  rw[e]at ih;rw[jbh,siGo,ih,jja,jja,jja,jde,jde,jde]
  have key:(bif roP d f c pre.length==4 || hasZ [84,73,82] c then(1:Int)else 0)=(if c=83∧ ¬((83:Int)=d∧d∈pre)then 1 else 0)+(if c=43∧ ¬((43:Int)=d∧d∈pre)then 1 else 0)+(if c=45∧ ¬((45:Int)=d∧d∈pre)then 1 else 0)+(if c=84 then 1 else 0)+(if c=73 then 1 else 0)+(if c=82 then 1 else 0):=by
   obtain⟨h1,h2⟩:=h.eq hb;by_cases m:c=83∨c=43∨c=45
   ·-- a sign
    have hc0:c≠0:=by omega
    have hl:(c=d∧(pre.length:Int)≠f)↔(c=d∧d∈pre):=by
     rw[h1];exact⟨fun q=>⟨q.1,q.2.2⟩,fun q=>⟨q.1,by rw[←q.1];exact hc0,q.2⟩⟩
    by_cases hs:c=d∧d∈pre
    ·have hq:=hl.2 hs;have e1:(c==d&& (pre.length:Int) !=f)=true:=by simpa using hq
     have hr:roP d f c pre.length=1:=by
      unfold roP;rw[e1];rcases m with rfl | rfl | rfl<;>simp<;>rfl
     rw[hr];rcases m with rfl | rfl | rfl
     ·rw[if_neg (fun q=>q.2 hs)];rfl
     ·rw[if_neg (fun q=>by omega),if_neg (fun q=>q.2 hs)];rfl
     ·rw[if_neg (fun q=>by omega),if_neg (fun q=>by omega),if_neg (fun q=>q.2 hs)];rfl
    ·have hq:¬(c=d∧(pre.length:Int)≠f):=fun q=>hs (hl.1 q)
     have e1:(c==d&& (pre.length:Int) !=f)=false:=by
      cases q:(c==d&& (pre.length:Int) !=f)with
      | false=>rfl
      | true=>exact absurd (by simpa using q) hq
     have hr:roP d f c pre.length=4:=by
      unfold roP;rw[e1];rcases m with rfl | rfl | rfl<;>rfl
     rw[hr];rcases m with rfl | rfl | rfl
     ·rw[if_pos ⟨rfl,hs⟩];rfl
     ·rw[if_neg (fun q=>by omega),if_pos ⟨rfl,hs⟩];rfl
     ·rw[if_neg (fun q=>by omega),if_neg (fun q=>by omega),if_pos ⟨rfl,hs⟩];rfl
   ·have hr:(roP d f c pre.length==4)=false:=by
     have e2:(c==83 || (c==43 || c==45))=false:=by simp;omega
     unfold roP;rw[e2];cases hasZ [57,89,84,73,82] c<;>cases(c==90 || (c==42 || (c==d&& (pre.length:Int) !=f))) <;>cases c==86<;>cases c==36<;>rfl
    rw[hr,Bool.false_or,if_neg (fun q=>by omega),if_neg (fun q=>by omega),if_neg (fun q=>by omega)];by_cases k:c=84∨c=73∨c=82
    ·rcases k with rfl | rfl | rfl<;>rfl
    ·have:hasZ [84,73,82] c=false:=by
      cases q:hasZ [84,73,82] c with
      | false=>rfl
      | true=>rw[jbk]at q;simp at q;omega
     rw[this,if_neg (by omega),if_neg (by omega),if_neg (by omega)];rfl
  rw[key];omega
theorem cnt_app'(a b:J)(c:Int):(cntZ (a++b) c:Int)=cntZ a c+cntZ b c:=by rw[cnt_app];omega
theorem mk_118{dr:Int}(hd:dr=0∨hasZ [36,83,43,45] dr=true):∀(l:J)(seen:Bool),(cntZ (mkGo dr seen l) 118:Int)=cntZ l 86
 | [],_=>rfl
 | c::r,seen=>by
  have hm:=jly hd seen c;rw[mkGo,jde,jde,mk_118 hd r];by_cases h:c=86
  ·rw[if_pos h,if_pos (hm.2 h)]
  ·rw[if_neg h,if_neg fun e=>h (hm.1 e)]
theorem has_cnt{l:J}{c:Int}(h:(cntZ l c:Int)≤1):(cntZ l c:Int)=b2i (hasZ l c):=by
 induction l with
 | nil=>rfl
 | cons x l ih=>
  rw[jde]at h ⊢;rw[jhe];by_cases hx:x=c
  ·have:(x==c)=true:=by simpa using hx
   rw[if_pos hx]at h ⊢;rw[this,Bool.true_or];have:(cntZ l c:Int)=0:=by omega
   rw[this];rfl
  ·have:(x==c)=false:=by simpa using hx
   rw[if_neg hx]at h ⊢;rw[this,Bool.false_or,Int.zero_add];exact ih (by omega)
theorem q_law{dr:Int}(hd:dr=0∨hasZ [36,83,43,45] dr=true){l t:J}:∀(r pre:J)(seen:Bool),l=pre++r++t→(cntZ (pre++r) 86:Int)≤1→
  qgo (mkGo dr seen r) (cntZ pre 86)=pqGo l (mkGo dr seen r) pre.length
 | [],_,_,_,_=>rfl
 | c::r,pre,seen,hl,hc=>by
  have ih:=q_law hd (l:=l) (t:=t) r (pre++ [c]) (seen || (dr !=0&&c==dr)) (by rw[hl];simp) (by simpa using hc);have hm:=jly hd seen c;have e:((pre++ [c]).length:Int)=pre.length+1:=by simp
  have hk:(cntZ pre 86:Int)≤1:=by
   rw[cnt_app']at hc;omega
  have ht:l.take (pre.length:Int).toNat=pre:=by
   rw[hl,Int.toNat_natCast,List.append_assoc];simp
  rw[cnt_app',e]at ih
  have e1:(cntZ [c] 86:Int)=if c=86 then 1 else 0:=by
   have:=jde c 86 [];rw[this];have:(cntZ [] 86:Int)=0:=rfl;omega
  rw[e1]at ih;rw[mkGo,qgo,pqGo,ht,←ih];by_cases h:c=86
  ·have hm2:=hm.2 h;rw[hm2];have:isP 118=false:=rfl;rw[this,if_pos h];show qgo _ _=0+qgo _ _;rw[Int.zero_add]
  ·have hn:(mk1 dr seen c==118)=false:=by
    cases q:(mk1 dr seen c==118)with
    | false=>rfl
    | true=>exact absurd (hm.1 (eq_of_beq q)) h
   rw[hn,cond_false,if_neg h,Int.add_zero,has_cnt hk];cases isP (mk1 dr seen c) <;>cases hasZ pre 86<;>rfl
theorem pq_app(s:J):∀(a b:J)(i:Int),pqGo s (a++b) i=pqGo s a i+pqGo s b (i+a.length)
 | [],b,i=>by simp[pqGo]
 | m::a,b,i=>by
  rw[List.cons_append,pqGo,pqGo,pq_app s a b,List.length_cons];have:i+1+(a.length:Int)=i+((a.length+1:Nat):Int):=by omega
  rw[this];omega
theorem char_any{l:J}(h:(jal l).any (hasZ [65,88,67,68])=false):jgt l=false:=by
 cases hc:jgt l with
 | false=>rfl
 | true=>
  exfalso;simp only[jgt,jaf,List.all_eq_true,Bool.or_eq_true]at hc;obtain⟨h1,h2⟩:=hc
  have hcr:crZ l=false:=by
   cases q:crZ l with
   | false=>rfl
   | true=>
    exfalso;simp only[crZ,jaf,Bool.or_eq_true,jae]at q;rcases q.2 with q | q
    ·have hm:(67:Int)∈l.drop (l.length-2):=by rw[q];simp
     exact absurd (h1 _ (List.mem_of_mem_drop hm)) (by decide)
    ·have hm:(68:Int)∈l.drop (l.length-2):=by rw[q];simp
     exact absurd (h1 _ (List.mem_of_mem_drop hm)) (by decide)
  have hb:jal l=l:=by rw[jiq hcr];rfl
  rw[hb,List.any_eq_false]at h;rcases h2 with q | q
  ·exact h 65 (jbk.1 q) (by decide)
  ·exact h 88 (jbk.1 q) (by decide)
structure NumL (l:J):Prop where
 drP:DrP (jal l) (drZ (jal l)) (nD (jal l)).2.2
 d:(nD (jal l)).2.1=drZ (jal l)
 roles:(nR (jal l)).map rmk=mkGo (drZ (jal l)) false (jal l)
 ok:okR (nR (jal l))
 w:(nP (jal l)).2.w+(bif crZ l then 2 else 0)=l.length-cntZ l 86
 dg:(nP (jal l)).2.dg=pdGo (ja4 l)
 q:(nP (jal l)).2.q=pqGo l (ja4 l) 0
 g:nG (jal l) (crZ l)=jf5 l
 fm:(nP (jal l)).2.fm=cntZ (mkGo (drZ (jal l)) false (jal l)) 100
theorem num_law{l:J}(hz:∀c∈jal l,c≠0):numQ (jal l) (crZ l)=numV l∧(numV l=true→NumL l):=by
 cases hA:anyZ (jal l) [65,88,67,68]with
 | true=>
  have hA':(jal l).any (hasZ [65,88,67,68])=true:=hA;have e1:numQ (jal l) (crZ l)=false:=by rw[numQ,hA];rfl
  have e2:numV l=false:=by rw[numV,hA'];cases jgt l<;>rfl
  rw[e1,e2];exact⟨rfl,fun h=>by cases h⟩
 | false=>
  have hA':(jal l).any (hasZ [65,88,67,68])=false:=hA;have hch:=char_any hA';obtain⟨d1,d2⟩:=nD_law (jal l);cases hD:jdo (jal l)with
  | false=>
   have e1:numQ (jal l) (crZ l)=false:=by rw[numQ,d1,hD];simp
   have e2:numV l=false:=by rw[numV,hD];simp
   rw[e1,e2];exact⟨rfl,fun h=>by cases h⟩
  | true=>
   obtain⟨d2,d3⟩:=d2 hD
   have hP:DrP (jal l) (drZ (jal l)) (nD (jal l)).2.2:=by
    refine⟨hz,?_⟩;by_cases h0:drZ (jal l)=0
    ·rw[if_pos h0]at d3;exact .inl ⟨h0,d3⟩
    ·rw[if_neg h0]at d3;obtain⟨f1,f2⟩:=(jge (jal l) (jal l)).resolve_left h0;exact .inr ⟨h0,f2,d3,(jgp f1).1⟩
   have hd:drZ (jal l)=0∨hasZ [36,83,43,45] (drZ (jal l))=true:=(jih _ _).imp id And.left;have eR:nR (jal l)=jbh (drZ (jal l)) (nD (jal l)).2.2 (jal l) 0:=by rw[nR,d2]
   have hroles:(nR (jal l)).map rmk=mkGo (drZ (jal l)) false (jal l):=by
    have:=roles_marks hP (jal l) [] rfl;rw[eR];simpa using this
   have hok:okR (nR (jal l)):=by rw[eR];exact roles_ok _ _ _ _
   obtain⟨p1,p2⟩:=jmu (nR (jal l)) ⟨0,false,0,0,0,0⟩ hok (by simp only;omega) (by simp only;omega);simp only[hroles]at p1 p2;have z0:decide ((0:Int)>0)=false:=rfl;rw[z0]at p1 p2;rw[mk_118 hd]at p2;have p1:(nP (jal l)).1=(ldGo (mkGo (drZ (jal l)) false (jal l)) false false false 0).1:=p1
   have eSt:nSt (jal l)=(hasZ (jal l) 90&&hasZ (jal l) 42 || (hasZ (jal l) 90 || hasZ (jal l) 42) &&drZ (jal l) !=0):=by
    rw[nSt,d2];cases hasZ (jal l) 42<;>cases hasZ (jal l) 90<;>rfl
   have eS:nS (jal l)=jkf (jal l) (mkGo (drZ (jal l)) false (jal l)):=by
    have hin:∀x:Int,0≤x→x≤(jal l).length→stIn (drZ (jal l)) x (jal l) (mkGo (drZ (jal l)) false (jal l)) 0 false false=
      (decide (loGo (nD (jal l)).2.2 (nR (jal l)) 0 (jal l).length<x),decide (hiGo (nD (jal l)).2.2 (nR (jal l)) 0 (-1)>x)):=fun x h0 h1=>by
     have:=st_in (x:=x) hP (jal l) [] (jal l).length (-1) rfl;rw[jad (show¬((jal l).length:Int)<x by omega),jad (show¬(-1:Int)>x by omega)]at this;rw[←hroles,eR];exact this
    rw[nS,jkf];have:=st_law hP hin (jal l) [] rfl;rw[eR];rw[eR]at this;exact this
   have eG:nG (jal l) (crZ l)=jf5 l:=by
    have hs:=si_law hP (jal l) [] rfl
    have one:∀x∈ [36,83,43,(45:Int)],x≠drZ (jal l)→(cntZ (jal l) x:Int)≤1:=fun x hx hne=>by
     cases hq:decide ((cntZ (jal l) x:Int)<2)with
     | true=>have:=jab hq;omega
     | false=>
      have hf:=(jla hx).2 (jac hq);have hm:=jj4 (jgp hf).2;have h0:drZ (jal l)≠0:=jlg (jal l) hf (jal l) hm;have h0':(drZ (jal l)==0)=false:=by simpa using h0
      rw[jdo,h0',Bool.false_or,jaf,jil,List.all_eq_true]at hD;have:=hD.1 x hm;rw[hf]at this;simp only[Bool.not_true,Bool.or_false,beq_iff_eq]at this;exact absurd this hne
    have sx:∀x∈ [36,83,43,(45:Int)],sgX (drZ (jal l)) x [] (jal l)=b2i (hasZ (jal l) x):=fun x hx=>by
     unfold sgX;split
     ·simp
     ·rename_i hne;exact has_cnt (one x hx hne)
    rw[sx 83 (by simp),sx 43 (by simp),sx 45 (by simp)]at hs;rw[nG,jf5,eR];have hs':siGo (jal l) (jbh (drZ (jal l)) (nD (jal l)).2.2 (jal l) 0)=_:=hs;rw[hs'];cases crZ l<;>simp[b2i] <;>omega
   have eQ:numQ (jal l) (crZ l)=numV l:=by
    rw[numQ,numV,hA,hA',hch,d1,hD,eG,eS,eSt,jgl hA',jgy,nPok,p1];cases hl:(ldGo (mkGo (drZ (jal l)) false (jal l)) false false false 0).1 with
    | false=>cases hasZ (jal l) 90<;>cases hasZ (jal l) 42<;>cases drZ (jal l) !=0<;>simp
    | true=>
     obtain⟨g1,g2,g3,g4,g5,g6,g7⟩:=p2 (p1.trans hl);have g1:(nP (jal l)).2.dg=_:=g1;have g2:(nP (jal l)).2.bh=_:=g2;have g3:decide ((nP (jal l)).2.fm>0)=_:=g3;have g4:(nP (jal l)).2.pts=_:=g4;rw[g1,g2,g3,g4];simp only[Int.zero_add];generalize (ldGo (mkGo (drZ (jal l)) false (jal l)) false false false 0).2.2.2=dg;generalize (ldGo (mkGo (drZ (jal l)) false (jal l)) false false false 0).2.2.1=bh;generalize (ldGo (mkGo (drZ (jal l)) false (jal l)) false false false 0).2.1=fm;cases hasZ (jal l) 90<;>cases hasZ (jal l) 42<;>cases drZ (jal l) !=0<;>cases decide ((cntZ (jal l) 86:Int)≤1) <;>cases decide (dg≥1) <;>cases decide (dg≤9) <;>cases bh<;>cases fm<;>cases decide (jf5 l≤1) <;>cases jkf (jal l) (mkGo (drZ (jal l)) false (jal l)) <;>rfl
   refine⟨eQ,fun hV=> ?_⟩;have hN:=numV_iff.1 hV
   have hl:(ldGo (mkGo (drZ (jal l)) false (jal l)) false false false 0).1=true:=by
    have:=hN.ld;unfold jgy at this;cases h1:(hasZ (jal l) 90&&hasZ (jal l) 42)with
    | true=>rw[h1]at this;cases this
    | false=>
     rw[h1,cond_false]at this;cases h2:((hasZ (jal l) 90 || hasZ (jal l) 42) &&drZ (jal l) !=0)with
     | true=>rw[h2]at this;cases this
     | false=>
      rw[h2,cond_false]at this;simp only[jaf]at this;exact this.1
   obtain⟨g1,g2,g3,g4,g5,g6,g7⟩:=p2 (p1.trans hl);simp only[Int.zero_add]at g5 g6 g7;have eM:ja4 l=mkGo (drZ (jal l)) false (jal l)++(if crZ l=true then [115,115]else []):=rfl;refine⟨hP,d2,hroles,hok,?_,?_,?_,eG,g7⟩
   ·have:=jhb l;rw[eM,nv_app]at this;have h5:(nP (jal l)).2.w=_:=g5;rw[h5];cases hc:crZ l with
    | false=>rw[hc]at this;have e0:nv (if(false:Bool)=true then [115,115]else [])=0:=rfl;rw[e0]at this;simp only[cond_false];omega
    | true=>rw[hc]at this;have e0:nv (if(true:Bool)=true then [115,115]else [])=2:=rfl;rw[e0]at this;simp only[cond_true];omega
   ·have h1:(nP (jal l)).2.dg=_:=g1;rw[h1,jiz _ _ _ _ _ hl,eM,jmv];cases crZ l<;>simp[pdGo,isP]
   ·have h6:(nP (jal l)).2.q=_:=g6;rw[h6,eM,pq_app];obtain⟨t,h,ht⟩:=jex l;have:=q_law hd (l:=l) (t:=t) (jal l) [] false (by simpa using h) (by simpa using hN.one);have e0:((cntZ [] 86:Nat):Int)=0:=rfl;rw[e0]at this;have e1:(([]:J).length:Int)=0:=rfl;rw[e1]at this;rw[this];cases crZ l with
    | false=>simp[pqGo]
    | true=>simp[pqGo,isP]
end Go.Px
end
noncomputable section
namespace Go.Px
open Go Go.Ab Go.Proofs Go.Shelf
section
variable {P : Program} {G : Env} {L : Nat → Option jb8} {f : FuncId} {fn : Func}
theorem jjp{h:F→Lk→Nat→(Value→Lk→Nat→Prop)→Prop}(hG:ja0 P G)(hm:P.follows .mixedOrders=true)(hf:Fn1 P f fn)(hL:LOKf P L fn)
  (H : ∀ args m n K, h args m n K → ∃ (args' : F) (m0 : Lk) (n0 : Nat) (ρ : Nat → Nat) (R : Value → O → Prop), SubM m ρ m0 n0 ∧ (∀ ι : Nm, args'.map (ren fun j => ι (ρ j)) = args.map (ren ι)) ∧ args'.length ≤ fn.ntmps ∧ (∀ v ∈ args', ∀ j ∈ ids v, j<n0) ∧
   jea P G L fn args' m0 n0 (fun v' m' _=>R v' (look m' v'))∧
   ∀v' m',R v' (look m' v')→ ∃v mm nn σ,((∀k b,m k=some b→k<n)→NewM m n m' mm nn σ)∧(∀i∈ids v,n≤i∧i<nn)∧(∀ι' ι'':Nm,(∀i,n≤i→ι'' i=ι' (σ i))→ren ι'' v=ren ι' v')∧K v mm nn):jcw P f h:=by
 obtain⟨h1,h2,h3,h4⟩:=hf;cases hb:fn.body with
 | none=>rw[hb]at h2;cases h2
 | some c=>
  simp only[hb]at h4;simp only[LOKf,hb]at hL;refine⟨⟨fn,h1,h3,by rw[hb];rfl⟩,fun args m n K hh N w0 ι w hrel hwf hargs=> ?_⟩;obtain⟨args',m0,n0,ρ,R,hs,ha,hlen,hids,hd,hR⟩:=H _ _ _ _ hh;rw[jea]at hd;rw[←ha ι];refine(jd1 (N:=w.heap.size) (w0:=w) (ι:=fun j=>ι (ρ j)) hG hm h1 hb h4 hL hlen hd (hs.rel hrel) hs.lt hids).mono fun e w' ⟨v',m',n',ι',he,hv',_,_,hm',_,_⟩=> ?_
  obtain⟨v,mm,nn,σ,hn,hvi,hvr,hk⟩:=hR v' m' hv';have hn:=hn fun k b hk=>(hwf k b hk).1
  obtain⟨q1,q2⟩:=hn.rel hrel hwf hm';refine⟨v,mm,nn,_,?_,hk,hn.le,fun k hk=>nmJ_old hk,q1,q2,fun j hj=>(hvi j hj).2⟩;rw[he,hvr ι' _ fun i hi=>nmJ_new hi]
end
theorem ji9(m:Lk)(ρ:Nat→Nat)(n:Nat):SubM m ρ (fun _=>none) n:=⟨fun _ _ h=>(by cases h),fun _ _ h=>(by cases h)⟩
theorem new_none{m:Lk}{n:Nat}(hwf:∀k b,m k=some b→k<n)(m':Lk)(σ:Nat→Nat):NewM m n m' m n σ:=
 ⟨Nat.le_refl _,fun _ _=>rfl,fun j b h hj=>by have:=hwf j b hj;omega,fun j j' b b' h _ hj=>by have:=hwf j b hj;omega⟩
theorem new_one{m:Lk}{n:Nat}(hwf:∀k b,m k=some b→k<n){m':Lk}{a:Nat}{c:F}{ty:TypeId}(ha:m' a=some ⟨c,ty,true⟩)(hc:jay c=true)(hit:Nat.ble itTy ty=false):
  NewM m n m' (m.upd n ⟨c,ty,true⟩) (n+1) (fun _=>a):=by
 have hget:∀j b,n≤j→m.upd n ⟨c,ty,true⟩ j=some b→j=n∧b=⟨c,ty,true⟩:=fun j b hj h=>by
  by_cases e:j=n
  ·subst e;rw[Lk.upd_same]at h;cases h;exact⟨rfl,rfl⟩
  ·rw[Lk.upd_other _ _ e]at h;have:=hwf j b h;omega
 refine⟨by omega,fun j hj=>Lk.upd_other _ _ (by omega),fun j b hj h=> ?_,fun j j' b b' hj hj' h h' hne=> ?_⟩
 ·obtain⟨rfl,rfl⟩:=hget j b hj h;exact⟨by omega,fun i hi=>(by rw[jao hc]at hi;cases hi),rfl,hit,⟨c,ty,true⟩,ha,rfl,rfl,fun ι' ι'' _=>renMap_congr fun k hk=>by rw[jao hc]at hk;cases hk⟩
 ·have e1:=(hget j b hj h).1;have e2:=(hget j' b' hj' h').1;omega
theorem new_form{m:Lk}{n:Nat}(hwf:∀k b,m k=some b→k<n){m':Lk}{a x k cap:Nat}{A B d:F}{ty ty2:TypeId}(ha:m' a=some ⟨A++ .slice (some ⟨x,0,some 1⟩) k cap::B,ty,true⟩)
  (hx:m' x=some ⟨d,ty2,true⟩) (hA:jay A=true) (hB:jay B=true) (hd:jay d=true) (hit:Nat.ble itTy ty=false) (hit2:Nat.ble itTy ty2=false) (hne:a≠x):
  NewM m n m' ((m.upd n ⟨A++ .slice (some ⟨n+1,0,some 1⟩) k cap::B,ty,true⟩).upd (n+1) ⟨d,ty2,true⟩) (n+2) (fun j=>if j=n then a else x):=by
 have hget:∀j b,n≤j→((m.upd n ⟨A++ .slice (some ⟨n+1,0,some 1⟩) k cap::B,ty,true⟩).upd (n+1) ⟨d,ty2,true⟩) j=some b→
   (j=n∧b=⟨A++ .slice (some ⟨n+1,0,some 1⟩) k cap::B,ty,true⟩)∨(j=n+1∧b=⟨d,ty2,true⟩):=fun j b hj h=>by
  by_cases e:j=n+1
  ·subst e;rw[Lk.upd_same]at h;cases h;exact .inr ⟨rfl,rfl⟩
  ·rw[Lk.upd_other _ _ e]at h;by_cases e2:j=n
   ·subst e2;rw[Lk.upd_same]at h;cases h;exact .inl ⟨rfl,rfl⟩
   ·rw[Lk.upd_other _ _ e2]at h;have:=hwf j b h;omega
 have hids:∀y i,i∈idsL (A++Value.slice (some ⟨y,0,some 1⟩) k cap::B)→i=y:=fun y i hi=>by
  obtain⟨v,hv,hi⟩:=jax.1 hi;rcases List.mem_append.1 hv with hv | hv
  ·rw[jbi (ja2.1 hA v hv)]at hi;cases hi
  ·rcases List.mem_cons.1 hv with rfl | hv
   ·simpa[ids]using hi
   ·rw[jbi (ja2.1 hB v hv)]at hi;cases hi
 refine⟨by omega,fun j hj=>by rw[Lk.upd_other _ _ (by omega),Lk.upd_other _ _ (by omega)],fun j b hj h=> ?_,fun j j' b b' hj hj' h h' hn=> ?_⟩
 ·rcases hget j b hj h with⟨rfl,rfl⟩ | ⟨rfl,rfl⟩
  ·refine⟨by omega,fun i hi=>by have:=hids _ i hi;omega,rfl,hit,⟨A++ .slice (some ⟨x,0,some 1⟩) k cap::B,ty,true⟩,by rw[if_pos rfl];exact ha,rfl,rfl,fun ι' ι'' hι=> ?_⟩;rw[List.map_append,List.map_append,List.map_cons,List.map_cons];have e1:A.map (ren ι'')=A.map (ren ι'):=renMap_congr fun k hk=>by rw[jao hA]at hk;cases hk
   have e2:B.map (ren ι'')=B.map (ren ι'):=renMap_congr fun k hk=>by rw[jao hB]at hk;cases hk
   have e3:ι'' (j+1)=ι' x:=by rw[hι (j+1) (by omega),if_neg (by omega)]
   rw[e1,e2];simp[ren,ren1,e3]
  ·refine⟨by omega,fun i hi=>(by rw[jao hd]at hi;cases hi),rfl,hit2,⟨d,ty2,true⟩,(by rw[if_neg (by omega)];exact hx),rfl,rfl,fun ι' ι'' _=>renMap_congr fun k hk=>by rw[jao hd]at hk;cases hk⟩
 ·rcases hget j b hj h with⟨rfl,rfl⟩ | ⟨rfl,rfl⟩ <;>rcases hget j' b' hj' h' with⟨rfl,rfl⟩ | ⟨rfl,rfl⟩
  ·exact absurd rfl hn
  ·rw[if_pos rfl,if_neg (by omega)];exact hne
  ·rw[if_neg (by omega),if_pos rfl];exact hne.symm
  ·exact absurd rfl hn
theorem look_form{m:Lk}{a x k cap:Nat}{c d:F}{ty ty2:TypeId}(hc:c[6]?=some (.slice (some ⟨x,0,some 1⟩) k cap))
  (h:look m (.tuple ⟨[.pointer (some ⟨a,0,some 0⟩),.bool true]⟩)=[some ⟨c,ty,true⟩,some ⟨d,ty2,true⟩]):m a=some ⟨c,ty,true⟩∧m x=some ⟨d,ty2,true⟩:=by
 simp only[look]at h;cases ha:m a with
 | none=>rw[ha]at h;cases h
 | some b=>
  rw[ha]at h;simp only at h;split at h
  ·rename_i a' l' c' hc';simp only[List.cons.injEq,and_true]at h;obtain⟨h1,h2⟩:=h;cases h1;rw[hc]at hc';cases hc';exact⟨rfl,h2⟩
  ·cases h
def frm(l:J)(x k cap:Nat):F:=[.string (sz l),.bool true,.int .i64 (l.length-cntZ l 86),.int .i64 (pdGo (ja4 l)),.int .i64 (pqGo l (ja4 l) 0),.bool (jf5 l==1)]++
 .slice (some ⟨x,0,some 1⟩) k cap::[.int .u8 (drZ (jal l)),.int .i64 (nD (jal l)).2.2,.bool (crZ l),.int .u8 (fdFl l),.int .i64 (cntZ (mkGo (drZ (jal l)) false (jal l)) 100)]
def rolF(l:J):J:=nR (jal l)++(bif crZ l then [4,4]else [])
def allK(l:J):Bool:=l.all (hasZ kL)
theorem jis{l:J}(h:allK l=true):asc l=true∧ ∀c∈l,c≠0:=by
 simp only[allK,List.all_eq_true]at h;refine⟨?_,fun c hc=> ?_⟩
 ·simp only[asc,List.all_eq_true,jae];exact fun c hc=>(jm1 (h c hc)).2
 ·rintro rfl;exact absurd (h 0 hc) (by decide)
theorem body_sub{l:J}{c:Int}(h:c∈jal l):c∈l:=by
 unfold jal at h;split at h
 ·exact List.mem_of_mem_take h
 ·exact h
theorem star_body(l:J):hasZ (jal l) 42=hasZ l 42:=by
 obtain⟨t,h,ht⟩:=jex l
 have e:hasZ l 42=(hasZ (jal l) 42 || hasZ t 42):=by
  conv=>lhs;rw[h]
  simp[hasZ]
 rw[e];rcases ht with⟨rfl,_⟩ | ⟨rfl | rfl,_⟩
 ·simp[hasZ]
 ·have:hasZ [67,82] 42=false:=by decide
  rw[this,Bool.or_false]
 ·have:hasZ [68,66] 42=false:=by decide
  rw[this,Bool.or_false]
theorem form_frm{s:Y}(h:NumL (bz s))(x k cap:Nat):jkp s (crZ (bz s)) x k cap=frm (bz s) x k cap:=by
 have e:(bif hasZ (jal (bz s)) 42 then(42:Int)else 32)=fdFl (bz s):=by
  rw[star_body,fdFl];cases hasZ (bz s) 42<;>rfl
 rw[jkp,h.w,h.dg,h.q,h.g,h.d,h.fm,e,frm,jf3];rfl
def h103:F→Lk→Nat→(Value→Lk→Nat→Prop)→Prop:=fun args m n K=>match args with
 | [.string s]=>match cnd (decide (s.size≤32) &&allK (bz s))with
  | true=>bif numV (bz s)then∀(k cap:Nat)(d:F),jbv d k cap=true→zc d k=rolF (bz s)→K (.tuple ⟨[.pointer (some ⟨n,0,some 0⟩),.bool true]⟩) ((m.upd n ⟨frm (bz s) (n+1) k cap,132,true⟩).upd (n+1) ⟨d,221,true⟩) (n+2)
   else K (.tuple ⟨[.pointer none,.bool false]⟩) m n
  | false=>False
 | _=>False
def R103(s:Y)(v:Value)(bs:O):Prop:=(numV (bz s)=false∧v= .tuple ⟨[.pointer none,.bool false]⟩)∨(numV (bz s)=true∧v= .tuple ⟨[.pointer (some ⟨3,0,some 0⟩),.bool true]⟩∧ ∃x k cap d,RowI d k cap∧zc d k=rolF (bz s)∧bs=[some ⟨frm (bz s) x k cap,132,true⟩,some ⟨d,221,true⟩])
theorem w103'(s:Y)(hs:s.size≤32)(hk:allK (bz s)=true):jea Tryz.prog G25 noL Tryz.f129 [.string s] (fun _=>none) 0 (fun v m _=>R103 s v (look m v)):=by
 obtain⟨ha,h0⟩:=jis hk;obtain⟨q1,q2⟩:=num_law (l:=bz s) fun c hm=>h0 c (body_sub hm)
 have A1:numQ (jal (bz s)) (crZ (bz s))=false→R103 s (.tuple ⟨[.pointer none,.bool false]⟩) []:=fun hn=> .inl ⟨by rw[←q1];exact hn,rfl⟩
 have A2:numQ (jal (bz s)) (crZ (bz s))=true→ ∀(x m cap:Nat)(d:F),RowI d m cap→zc d m=jlw s (crZ (bz s))→
   R103 s (.tuple ⟨[.pointer (some ⟨3,0,some 0⟩),.bool true]⟩) [some ⟨jkp s (crZ (bz s)) x m cap,132,true⟩,some ⟨d,221,true⟩]:=fun hy x k cap d r1 r2=>by
  rw[q1]at hy;rw[form_frm (q2 hy)];exact .inr ⟨hy,rfl,x,k,cap,d,r1,r2,rfl⟩
 exact w103 s hs ha (R103 s) A1 A2
theorem h103_ok:jcw Tryz.prog 129 h103:=by
 refine jjp ok_G25 hmix (.m Tryz.func129) jaj fun args m n K h=> ?_
 unfold h103 at h;split at h
 case h_2=>exact h.elim
 rename_i s;split at h
 case h_2=>exact h.elim
 rename_i hc;simp only[cnd,jaf,jae]at hc;refine⟨[.string s],fun _=>none,0,id,R103 s,ji9 _ _ _,fun ι=>by simp[ren],jag,fun v hv j hj=> ?_,w103' s hc.1 hc.2,fun v' m' hR=> ?_⟩
 ·simp at hv;subst hv;simp[ids]at hj
 ·rcases hR with⟨hv,rfl⟩ | ⟨hv,rfl,x,k,cap,d,r1,r2,hbs⟩
  ·rw[hv]at h;exact⟨_,m,n,id,fun hwf=>new_none hwf _ _,by simp[ids,idsL],fun _ _ _=>by simp[ren,renL],h⟩
  ·rw[hv]at h;obtain⟨a1,a2⟩:=look_form (x:=x) (k:=k) (cap:=cap) rfl hbs;refine⟨_,_,_,fun j=>if j=n then 3 else x,fun hwf=>new_form hwf a1 a2 rfl rfl r1.plain rfl rfl ?_,?_,fun ι' ι'' hι=> ?_,h k cap d (jar.2 r1) r2⟩
   ·rintro rfl;rw[a1]at a2;cases a2
   ·intro i hi;have:i=n:=by simpa[ids,idsL]using hi
    omega
   ·have e:=hι n (Nat.le_refl _);simp only[if_true]at e;simp[ren,renL,ren1,e]
def G26:Env:=(((Env.nil.add 128 (sp2 s102)).add 124 (sp2 s89)).add 127 (sp1 s80)).addG 129 h103
theorem ok_G26:ja0 Tryz.prog G26:=jau (jak (jak (jak jav ok102) ok89) ok80) h103_ok
theorem jif{p:Int→Bool}:∀{l:J},l.dropWhile p=[]↔ ∀c∈l,p c=true
 | []=>by simp
 | c::l=>by
  rw[List.dropWhile_cons];cases h:p c with
  | true=>simp only[if_true];rw[jif (l:=l)];simp[h]
  | false=>simp[h]
theorem ji7{l cs:J}:jap l cs=[]↔ ∀c∈l,hasZ cs c=true:=by
 unfold jap;rw[jif];constructor
 ·intro h c hc;cases hq:hasZ cs c with
  | true=>rfl
  | false=>
   exfalso
   -- c stays in what is left
   have:∀r:J,c∈r→c∈r.dropWhile (hasZ cs):=by
    intro r
    induction r with
    | nil=>exact fun h=>by cases h
    | cons x r ih=>
     intro hx;rw[List.dropWhile_cons];cases hh:hasZ cs x with
     | false=>simpa using hx
     | true=>
      rw[if_pos rfl];rcases List.mem_cons.1 hx with rfl | hx
      ·rw[hq]at hh;cases hh
      ·exact ih hx
   have hm:=this l.reverse (by simpa using hc);have:=h c (by simpa using hm);rw[hq]at this;cases this
 ·intro h c hc;have:c∈l.reverse.dropWhile (hasZ cs):=by simpa using hc
  exact h c (by simpa using List.dropWhile_sublist _ |>.subset this)
theorem jmh:∀(l:J)(st n:Int)(out:J),allK out=true→allK (xpGo l st n out).1=true
 | [],_,_,_,h=>h
 | c::r,st,n,out,h=>by
  rw[xpGo];generalize (if st=2 then n else 1)=k;split
  ·split
   ·split
    ·exact jmh r _ _ _ h
    ·rfl
   ·split
    ·exact jmh r _ _ _ h
    ·rfl
  ·split
   ·rfl
   ·split
    ·exact jmh r _ _ _ h
    ·split
     ·rename_i hq;refine jmh r _ _ _ ?_;simp only[allK,List.all_append,jaf];refine⟨h,?_⟩;rw[List.all_eq_true];intro x hx;rw[List.eq_of_mem_replicate hx];exact hq.1
     ·rfl
theorem jn6(l:J):allK (exZ l)=true:=by
 unfold exZ;split
 ·exact jmh l 0 0 [] rfl
 ·rfl
def frmP(l:J)(x k cap:Nat):F:=[.string (sz (pS l)),.bool true,.int .i64 (pW l),.int .i64 (pD l),.int .i64 (pQ l),.bool (pG l)]++
 .slice (some ⟨x,0,some 1⟩) k cap::[.int .u8 (drZ (jal (pS l))),.int .i64 (nD (jal (pS l))).2.2,.bool (crZ (pS l)),.int .u8 (fdFl (pS l)),.int .i64 (cntZ (mkGo (drZ (jal (pS l))) false (jal (pS l))) 100)]
def chrP(l:J):F:=[.string (sz (pS l)),.bool false,.int .i64 (pW l),.int .i64 0,.int .i64 0,.bool false,.slice none 0 0,.int .u8 0,.int .i64 0,.bool false,.int .u8 0,.int .i64 0]
theorem frm_P{l:J}(h:pN l=true)(x k cap:Nat):frm (exZ l) x k cap=frmP l x k cap:=by
 have hv:=jdh h;have hc:=(jhz h).nch;unfold frm frmP;rw[pS,if_pos hv,pW,if_pos hv,if_neg (by rw[hc];simp),pD,if_pos h,pQ,if_pos h,pG,h,Bool.true_and]
def h70:F→Lk→Nat→(Value→Lk→Nat→Prop)→Prop:=fun args m n K=>match args with
 | [.string s]=>match cnd (decide (s.size≤9223372036854775807))with
  | true => bif vOK (bz s) then (bif pN (bz s) then ∀ (k cap : Nat) (d : F), jbv d k cap = true → zc d k = rolF (pS (bz s)) → K (.tuple ⟨[.pointer (some ⟨n, 0, some 0⟩), .bool true]⟩) ((m.upd n ⟨frmP (bz s) (n + 1) k cap, 132, true⟩).upd (n + 1) ⟨d, 221, true⟩) (n + 2)
    else K (.tuple ⟨[.pointer (some ⟨n,0,some 0⟩),.bool true]⟩) (m.upd n ⟨chrP (bz s),132,true⟩) (n+1))
   else K (.tuple ⟨[.pointer none,.bool false]⟩) m n
  | false=>False
 | _=>False
def h62:F→Lk→Nat→(Value→Lk→Nat→Prop)→Prop:=fun args m n K=>match args with
 | [.string s]=>match cnd (decide (s.size≤9223372036854775807))with
  | true=>bif pN (bz s)then∀(k cap:Nat)(d:F),jbv d k cap=true→zc d k=rolF (pS (bz s))→K (.tuple ⟨[.pointer (some ⟨n,0,some 0⟩),.bool true]⟩) ((m.upd n ⟨frmP (bz s) (n+1) k cap,132,true⟩).upd (n+1) ⟨d,221,true⟩) (n+2)
   else K (.tuple ⟨[.pointer none,.bool false]⟩) m n
  | false=>False
 | _=>False
def Rfm(c:Bool)(s:Y)(v:Value)(bs:O):Prop:=
 (pN (bz s)=true∧ ∃a x k cap d,v= .tuple ⟨[.pointer (some ⟨a,0,some 0⟩),.bool true]⟩∧RowI d k cap∧zc d k=rolF (pS (bz s))∧bs=[some ⟨frmP (bz s) x k cap,132,true⟩,some ⟨d,221,true⟩])∨
 (c=true∧vOK (bz s)=true∧pN (bz s)=false∧ ∃a,v= .tuple ⟨[.pointer (some ⟨a,0,some 0⟩),.bool true]⟩∧bs=[some ⟨chrP (bz s),132,true⟩])∨
 (pN (bz s)=false∧(c=true→vOK (bz s)=false)∧v= .tuple ⟨[.pointer none,.bool false]⟩)
theorem rfm_new{c:Bool}{s:Y}{v':Value}{m m':Lk}{n:Nat}{K:Value→Lk→Nat→Prop}(hR:Rfm c s v' (look m' v'))
  (h1:pN (bz s)=true→ ∀(k cap:Nat)(d:F),jbv d k cap=true→zc d k=rolF (pS (bz s))→K (.tuple ⟨[.pointer (some ⟨n,0,some 0⟩),.bool true]⟩) ((m.upd n ⟨frmP (bz s) (n+1) k cap,132,true⟩).upd (n+1) ⟨d,221,true⟩) (n+2))
  (h2:c=true→vOK (bz s)=true→pN (bz s)=false→K (.tuple ⟨[.pointer (some ⟨n,0,some 0⟩),.bool true]⟩) (m.upd n ⟨chrP (bz s),132,true⟩) (n+1))
  (h3:pN (bz s)=false→(c=true→vOK (bz s)=false)→K (.tuple ⟨[.pointer none,.bool false]⟩) m n):
  ∃v mm nn σ,((∀k b,m k=some b→k<n)→NewM m n m' mm nn σ)∧(∀i∈ids v,n≤i∧i<nn)∧(∀ι' ι'':Nm,(∀i,n≤i→ι'' i=ι' (σ i))→ren ι'' v=ren ι' v')∧K v mm nn:=by
 rcases hR with⟨hv,a,x,k,cap,d,rfl,r1,r2,hbs⟩ | ⟨hc,hv,hp,a,rfl,hbs⟩ | ⟨hv,hc,rfl⟩
 ·obtain⟨a1,a2⟩:=look_form (x:=x) (k:=k) (cap:=cap) rfl hbs;refine⟨_,_,_,fun j=>if j=n then a else x,fun hwf=>new_form hwf a1 a2 rfl rfl r1.plain rfl rfl ?_,?_,fun ι' ι'' hι=> ?_,h1 hv k cap d (jar.2 r1) r2⟩
  ·rintro rfl;rw[a1]at a2;cases a2
  ·intro i hi;have:i=n:=by simpa[ids,idsL]using hi
   omega
  ·have e:=hι n (Nat.le_refl _);simp only[if_true]at e;simp[ren,renL,ren1,e]
 ·have ha:m' a=some ⟨chrP (bz s),132,true⟩:=by
   simp only[look]at hbs;cases ha:m' a with
   | none=>rw[ha]at hbs;cases hbs
   | some b=>
    rw[ha]at hbs;simp only at hbs;split at hbs
    ·cases hbs
    ·cases hbs;rfl
  refine⟨_,_,_,fun j=>a,fun hwf=>new_one hwf ha rfl rfl,?_,fun ι' ι'' hι=> ?_,h2 hc hv hp⟩
  ·intro i hi;have:i=n:=by simpa[ids,idsL]using hi
   omega
  ·have e:=hι n (Nat.le_refl _);simp[ren,renL,ren1,e]
 ·exact⟨_,m,n,id,fun hwf=>new_none hwf _ _,by simp[ids,idsL],fun _ _ _=>by simp[ren,renL],h3 hv hc⟩
def dt(b:Bool)(a:Y)(c d:Prop):Prop:=bif ax a then bif b then c else d else False
def n6(d h:Bool)(i j k:Int)(e:J)(g l:Nat)(f:Value→O→Prop):Prop:=bif d then∀a:Nat,∀b:Nat,∀c:F,jbv c a b=true→zc c a=rolF e→f (lm g) [fp true h (crZ e) (sz e) i j k (drZ (jal e)) (nD (jal e)).snd.snd (fdFl e) (cntZ (mkGo (drZ (jal e)) false (jal e)) 100:Int) a b (dq l 0 1),some (.mk c 221 true)]else jj f
def iq(a:Y):Y:=sz (xpGo (bz a) 0 0 []).fst
def dx(a:Y):Int:=(a.size:Int)
def du(a b:Y):Bool:=a.toList==b.toList
def ig(a b:Y):Bool:=du (szO (jap (bz a) (bz b))) am
def ir(b:Yb)(a:UInt8):Bool:=ic ⟨(a::b).toArray⟩ &&asc (bz ⟨(a::b).toArray⟩)
theorem v70(s:Y)(R:Value→O→Prop):(jaz Tryz.prog G26 noL Tryz.f79 [S s] (fun _=>none) 0 (fun v m _=>R v (look m v)))=(dt (!exOK (bz s)) s (jj R) (fw (ic (iq s) &&ir [88,57] 65) (cm (ig (iq s) ⟨#[65,88,57]⟩) (ic (iq s) && (ic ⟨#[65,88]⟩ && (asc (bz (iq s)) &&asc (bz ⟨#[65,88]⟩))) &&true) true) (ig (iq s) ⟨#[65,88,57]⟩ &&anyZ (bz (iq s)) (bz ⟨#[65,88]⟩)) (R (lm 23) [fp false false false (iq s) (dx (iq s)) 0 0 0 0 0 0 0 0 none]) (bif decide ((iq s).size≤32) &&allK (bz (iq s))then n6 (Px.numV (bz (iq s))) (jf5 (bz (iq s))==1) (((bz (iq s)).length:Int)-(cntZ (bz (iq s)) 86:Int)) (pdGo (ja4 (bz (iq s)))) (pqGo (bz (iq s)) (ja4 (bz (iq s))) 0) (bz (iq s)) 20 21 R else False))):=by kernel_rfl
theorem w70(s:Y)(hs:s.size≤9223372036854775807):jea Tryz.prog G26 noL Tryz.f79 [.string s] (fun _=>none) 0 (fun v m _=>Rfm true s v (look m v)):=by
 rw[jea,v70];delta ax dt fw gx jj ak bm fp dq ar lm n6 iq dx du am ig cm ic ir;have hN:pN (bz s)=false→vOK (bz s)=false→Rfm true s (.tuple ⟨[.pointer none,.bool false]⟩) []:=fun h1 h2=> .inr (.inr ⟨h1,fun _=>h2,rfl⟩)
 refine c_t (jaa hs) (cond_intro (fun h=> ?_) (fun h=> ?_))
 ·have h:exOK (bz s)=false:=by simpa using h
  exact hN (by rw[pN,h];rfl) (by rw[vOK,h];rfl)
 have h:exOK (bz s)=true:=by simpa using h
 have e:(xpGo (bz s) 0 0 []).1=exZ (bz s):=by rw[exZ,if_pos h]
 obtain⟨x1,x2⟩:=jm9 s;have k1:bz ⟨#[65,88,57]⟩=[65,88,57]:=rfl;have k2:bz ⟨#[65,88]⟩=[65,88]:=rfl;rw[e,je1 x1,jgh,k1,k2,jcl,jfg,je1 (l:=jap (exZ (bz s)) [65,88,57])]
 rotate_left
 ·intro c hc;refine x1 c ?_;unfold jap at hc;have:=List.dropWhile_sublist _ |>.subset hc
  have:c∈(exZ (bz s)).reverse.dropWhile (hasZ [65,88,57]):=by simpa using this
  simpa using List.dropWhile_sublist _ |>.subset this
 have hk:=jis (jn6 (bz s));have k3:bz ⟨#[]⟩=[]:=rfl;rw[k3]
 have eC:(decide (jap (exZ (bz s)) [65,88,57]=[]) &&anyZ (exZ (bz s)) [65,88])=jgt (exZ (bz s)):=by
  rw[jgt,Bool.eq_iff_iff];simp only[jaf,jae,ji7,List.all_eq_true,anyZ,List.any_eq_true,Bool.or_eq_true,jbk];refine and_congr Iff.rfl ⟨?_,?_⟩
  ·rintro ⟨c,h1,h2⟩;simp at h2;rcases h2 with rfl | rfl
   ·exact .inl h1
   ·exact .inr h1
  ·rintro (h1 | h1)
   ·exact⟨65,h1,by simp⟩
   ·exact⟨88,h1,by simp⟩
 rw[eC];refine c_t ?_ (cond_intro (fun hc=> ?_) (fun hc=>c_t ?_ (cond_intro (fun hn k cap d r1 r2=> ?_) (fun hn=> ?_))))
 ·have a1:decide ((exZ (bz s)).length≤1000)=true:=jaa (by omega);rw[a1,hk.1];cases decide (jap (exZ (bz s)) [65,88,57]=[]) <;>rfl
 ·have hv:vOK (bz s)=true:=by rw[vOK,h,hc];rfl
  have hp:pN (bz s)=false:=by rw[pN,h,numV,hc];rfl
  refine .inr (.inl ⟨rfl,hv,hp,23,rfl,?_⟩);have e1:pS (bz s)=exZ (bz s):=by rw[pS,if_pos hv]
  have e2:pW (bz s)=(exZ (bz s)).length:=by rw[pW,if_pos hv,if_pos hc]
  rw[chrP,e1,e2]
 ·rw[jaa (show(exZ (bz s)).length≤32 by omega),jn6];rfl
 ·have hp:pN (bz s)=true:=by rw[pN,h,hn];rfl
  have e1:pS (bz s)=exZ (bz s):=by rw[pS,if_pos (jdh hp)]
  refine .inl ⟨hp,20,21,k,cap,d,rfl,jar.1 r1,by rw[e1];exact r2,?_⟩;rw[←frm_P hp];rfl
 ·exact hN (by rw[pN,h,hn];rfl) (by rw[vOK,h,hc,hn];rfl)
theorem jm3:jcw Tryz.prog 79 h70:=by
 refine jjp ok_G26 hmix (.m Tryz.func79) jaj fun args m n K h=> ?_
 unfold h70 at h;split at h
 case h_2=>exact h.elim
 rename_i s;split at h
 case h_2=>exact h.elim
 rename_i hc;have hc:s.size≤9223372036854775807:=jab hc;refine⟨[.string s],fun _=>none,0,id,Rfm true s,ji9 _ _ _,fun ι=>by simp[ren],jag,fun v hv j hj=> ?_,w70 s hc,fun v' m' hR=> ?_⟩
 ·simp at hv;subst hv;simp[ids]at hj
 ·refine rfm_new hR (fun hp=> ?_) (fun _ hv hp=> ?_) (fun hp hv=> ?_)
  ·rw[jdh hp,hp]at h;exact h
  ·rw[hv,hp]at h;exact h
  ·rw[hv rfl]at h;exact h
def G27:Env:=Env.nil.addG 79 h70
theorem ok_G27:ja0 Tryz.prog G27:=jau jav jm3
theorem v62(s:Y)(R:Value→O→Prop):(jaz Tryz.prog G27 noL Tryz.f181 [S s] (fun _=>none) 0 (fun v m _=>R v (look m v)))=(dt (vOK (bz s)) s (n6 (pN (bz s)) (pG (bz s)) (pW (bz s)) (pD (bz s)) (pQ (bz s)) (pS (bz s)) 4 5 R) (jj R)):=by kernel_rfl
theorem w62(s:Y)(hs:s.size≤9223372036854775807):jea Tryz.prog G27 noL Tryz.f181 [.string s] (fun _=>none) 0 (fun v m _=>Rfm false s v (look m v)):=by
 rw[jea,v62];delta ax dt gx jj ak bm fp dq ar lm n6;refine c_t (jaa hs) (cond_intro (fun h=>cond_intro (fun hn k cap d r1 r2=> ?_) (fun hn=> ?_)) (fun h=> ?_))
 ·exact .inl ⟨hn,4,5,k,cap,d,rfl,jar.1 r1,r2,rfl⟩
 ·exact .inr (.inr ⟨hn,fun q=>(by cases q),rfl⟩)
 ·refine .inr (.inr ⟨?_,fun q=>(by cases q),rfl⟩);cases hp:pN (bz s)with
  | false=>rfl
  | true=>rw[jdh hp]at h;cases h
theorem jm5:jcw Tryz.prog 181 h62:=by
 refine jjp ok_G27 hmix (.m Tryz.func181) jaj fun args m n K h=> ?_
 unfold h62 at h;split at h
 case h_2=>exact h.elim
 rename_i s;split at h
 case h_2=>exact h.elim
 rename_i hc;have hc:s.size≤9223372036854775807:=jab hc;refine⟨[.string s],fun _=>none,0,id,Rfm false s,ji9 _ _ _,fun ι=>by simp[ren],jag,fun v hv j hj=> ?_,w62 s hc,fun v' m' hR=> ?_⟩
 ·simp at hv;subst hv;simp[ids]at hj
 ·refine rfm_new hR (fun hp=> ?_) (fun q _ _=>by cases q) (fun hp _=> ?_)
  ·rw[hp]at h;exact h
  ·rw[hp]at h;exact h
def G28:Env:=(Env.nil.addG 79 h70).addG 181 h62
theorem ok_G28:ja0 Tryz.prog G28:=jau (jau jav jm3) jm5
end Go.Px
end
