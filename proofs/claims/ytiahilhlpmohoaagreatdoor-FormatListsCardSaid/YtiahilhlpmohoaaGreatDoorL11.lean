/-
  Part 1: the run and laws.
-/
import Derived.Test.YtiahilhlpmohoaaGreatDoorL1Ab1
import Derived.Test.YtiahilhlpmohoaaGreatDoorL1Ab2
import Derived.Test.YtiahilhlpmohoaaGreatDoorL1Ab3
import Derived.Test.YtiahilhlpmohoaaGreatDoorL1Ab4
import Derived.Test.YtiahilhlpmohoaaGreatDoorL1Ab5
import Derived.Test.YtiahilhlpmohoaaGreatDoorL1Ab6
import Derived.Test.YtiahilhlpmohoaaGreatDoorL1Ab7
import Derived.Test.YtiahilhlpmohoaaGreatDoorL1AbE
import Derived.Test.YtiahilhlpmohoaaGreatDoorL1Ab8
import Derived.Test.YtiahilhlpmohoaaGreatDoorL1Ab9
import Derived.Test.YtiahilhlpmohoaaGreatDoorL1Ab10
import Derived.Test.YtiahilhlpmohoaaGreatDoorL1Ab11
import Derived.Test.YtiahilhlpmohoaaGreatDoorL1Ab12
import Derived.Test.YtiahilhlpmohoaaGreatDoorL1Ab13
import Derived.Test.YtiahilhlpmohoaaGreatDoorL1Ab14
import Derived.Test.YtiahilhlpmohoaaGreatDoorL1AbW
import Derived.Test.YtiahilhlpmohoaaGreatDoorL1Ab15
import Derived.Test.YtiahilhlpmohoaaGreatDoorL1Ab16
import Derived.Test.YtiahilhlpmohoaaGreatDoorL1Ab17
import Derived.Test.YtiahilhlpmohoaaGreatDoorL1Ab18
import Derived.Test.YtiahilhlpmohoaaGreatDoorL1Ab19
import Derived.WalkKit
import Derived.ProofKit
import Derived.WideKeyArgs
import Derived.Test.YtiahilhlpmohoaaGreatDoorLays
import Derived.Laws.RangeAny
import Derived.Shelf.Strings.LastIndex
import Derived.Shelf.Strconv.Itoa3
import Derived.Shelf.Strconv.AppendUint10
import Derived.Lib.ItoaLen
import Derived.Shelf.Strconv.Atoi
import Derived.Lib.AtoiErrMem
import Derived.Laws.BitsLemmas
import Derived.Lib.Strings
import Derived.JoinedOf
import Derived.SevenTiedAt
import Derived.Test.YtiahilhlpmohoaaGreatDoorRows
import Derived.Test.YtiahilhlpmohoaaGreatDoorProg
import Derived.LaidEql
import Derived.Stop.Asserts
import Derived.RowKitTokens
import Derived.Shelf.Small.Strs
import Derived.Lay
import Derived.LaidHandle
import Derived.LaidSub
import Derived.Lib.LaidTab
import Derived.Lib.LaidU8
import Derived.LaidMore
import Derived.Deep.Slices
import Derived.Test.YtiahilhlpmohoaaGreatDoorLbys
import Derived.HandedShaped
import Derived.Shelf.Vars
set_option linter.unusedVariables false
set_option linter.unusedSimpArgs false
set_option linter.unusedSectionVars false
section
namespace Go.Px
open Go Go.Ab
def bz(s:Y):E:=s.data.toList.map fun b=>(b.toNat:Int)
def sz(l:E):Y:=⟨(l.map fun n=>UInt8.ofNat n.toNat).toArray⟩
def IsB(l:E):Prop:=∀c∈l,0≤c∧c<256
@[simp] theorem jax (s:Y):(bz s).length=s.size:=by
 unfold bz;rw[List.length_map,Array.length_toList];rfl
theorem jfo(s:Y)(i:Nat):jas s i=(bz s).getD i 0:=by
 simp only[jas,bz,List.getD_eq_getElem?_getD,List.getElem?_map]
theorem jj1(s:Y):IsB (bz s):=by
 intro c hc;simp only[bz,List.mem_map]at hc;obtain⟨b,_,rfl⟩:=hc;have:=b.toNat_lt;omega
theorem jjr(s:Y):sz (bz s)=s:=by
 simp only[sz,bz,List.map_map]
 have:((fun n:Int=>UInt8.ofNat n.toNat) ∘fun b:UInt8=>(b.toNat:Int))=id:=by
  funext b;simp
 rw[this];simp
theorem jji{l:E}(h:IsB l):bz (sz l)=l:=by
 simp only[sz,bz,List.map_map]
 have:∀n∈l,((fun b:UInt8=>(b.toNat:Int)) ∘fun n:Int=>UInt8.ofNat n.toNat) n=n:=by
  intro n hn;have:=h n hn;simp only[Function.comp,UInt8.toNat_ofNat'];omega
 rw[List.map_congr_left this];simp
theorem bz_inj{a b:Y}(h:bz a=bz b):a=b:=by rw[←jjr a,←jjr b,h]
theorem bz_append(a b:Y):bz (a++b)=bz a++bz b:=by
 simp[bz,ByteArray.data_append]
theorem jck(s:Y)(i j:Nat):bz (s.extract i j)=((bz s).take j).drop i:=by
 simp[bz,ByteArray.data_extract,List.map_drop,List.map_take,Array.toList_extract,List.extract_eq_take_drop,List.drop_take]
theorem sz_append(a b:E):sz (a++b)=sz a++sz b:=by
 apply ByteArray.ext;simp[sz,ByteArray.data_append]
theorem jd4(l:E):(sz l).size=l.length:=by simp[sz,ByteArray.size]
theorem jdu(a b:Y):(a.toList==b.toList)=decide (bz a=bz b):=by
 rw[ByteArray.toList_eq,ByteArray.toList_eq,Bool.eq_iff_iff,beq_iff_eq,jae];constructor
 ·intro h;simp[bz,h]
 ·intro h;have:=bz_inj h;rw[this]
theorem IsB.append{a b:E}(ha:IsB a)(hb:IsB b):IsB (a++b):=fun c hc=>by
 rcases List.mem_append.1 hc with h | h
 ·exact ha c h
 ·exact hb c h
theorem IsB.take{a:E}(ha:IsB a)(n:Nat):IsB (a.take n):=fun c hc=>ha c (List.mem_of_mem_take hc)
theorem IsB.drop{a:E}(ha:IsB a)(n:Nat):IsB (a.drop n):=fun c hc=>ha c (List.mem_of_mem_drop hc)
theorem IsB.nil:IsB []:=fun c hc=>by cases hc
theorem IsB.cons{c:Int}{a:E}(h:0≤c∧c<256)(ha:IsB a):IsB (c::a):=fun d hd=>by
 rcases List.mem_cons.1 hd with rfl | hd
 ·exact h
 ·exact ha d hd
def cz(l:E):U:=l.map fun n=> .int .u8 n
@[simp] theorem cz_length (l:E):(cz l).length=l.length:=by simp[cz]
theorem cz_append(a b:E):cz (a++b)=cz a++cz b:=by simp[cz]
theorem jgd:∀l:E,jav (cz l)=true
 | []=>rfl
 | c::r=>by simpa[cz,jav,plain]using jgd r
theorem jez:∀l:E,jbm (cz l)=true
 | []=>rfl
 | c::r=>by simpa[cz,jbm]using jez r
theorem cz_bytesL:∀l:E,jc6 (cz l)=l.map fun n=>UInt8.ofNat n.toNat
 | []=>rfl
 | c::r=>by
  have:=cz_bytesL r;simp only[cz]at this;simp only[cz,List.map_cons,jc6,this]
theorem bytesOf_cz(l:E)(tail:U):jb9 (cz l++tail) 0 l.length=sz l:=by
 simp only[jb9,List.drop_zero];rw[List.take_append_of_le_length (by simp),List.take_of_length_le (by simp),cz_bytesL];rfl
theorem bytesOK_cz(l:E)(tail:U):jcw (cz l++tail) 0 l.length=true:=by
 simp only[jcw,List.drop_zero,jaf,Nat.ble_eq,List.length_append,cz_length];rw[List.take_append_of_le_length (by simp),List.take_of_length_le (by simp)];exact⟨jez l,by omega⟩
theorem strCells_eq(s:Y):Lib.strCells s=cz (bz s):=by
 simp[Lib.strCells,cz,bz]
theorem jel(l:E)(i:Nat)(h:i<l.length):l.drop i=l.getD i 0::l.drop (i+1):=by
 rw[List.drop_eq_getElem_cons h];simp[List.getD_eq_getElem?_getD,h]
end Go.Px
end
section
namespace Go.Px
open Go Go.Ab Go.Proofs Go.Shelf
def punchedZ:E:=[123,65,66,67,68,69,70,71,72,73,125,74,75,76,77,78,79,80,81,82]
def pow10Z:E:=[1,10,100,1000,10000,100000,1000000,10000000,100000000,1000000000,10000000000,100000000000,1000000000000,10000000000000,100000000000000,1000000000000000,10000000000000000,100000000000000000,1000000000000000000,10000000000000000000]
def jjf:Nat→Option U
 | 3=>some (punchedZ.map fun n=> .int .u8 n)
 | 2=>some (pow10Z.map fun n=> .int .u64 n)
 | 0=>some [.iface 304 (.agg ⟨[.pointer (some ⟨10,157,none⟩)]⟩)]
 | _=>none
instance tabs:Tabs where
 row:=jjf
 plain:=fun b r h=>by
  match b,h with
  | 3,h=>cases h;rfl
  | 2,h=>cases h;rfl
  | 0,h=>cases h;rfl
theorem hmix:Tryz.prog.follows .mixedOrders=true:=by kernel_rfl
structure U8 where n:Int
structure R32 where n:Int
structure U64 where n:Int
instance:Enc U8 where
 enc a:= .int .u8 a.n
 dec | .int .u8 n=>some ⟨n⟩ | _=>none
 dec_some:=by
  intro v a h;split at h
  ·cases h;rfl
  ·cases h
 plain_enc _:=rfl
instance:Enc R32 where
 enc a:= .int .i32 a.n
 dec | .int .i32 n=>some ⟨n⟩ | _=>none
 dec_some:=by
  intro v a h;split at h
  ·cases h;rfl
  ·cases h
 plain_enc _:=rfl
instance:Enc U64 where
 enc a:= .int .u64 a.n
 dec | .int .u64 n=>some ⟨n⟩ | _=>none
 dec_some:=by
  intro v a h;split at h
  ·cases h;rfl
  ·cases h
 plain_enc _:=rfl
theorem pure_shelf{P:Program}{f:FuncId}{s:Ab.Spec}(hc:jbh P f)
  (h:∀args bs v,s args bs=some (true,v)→jav args=true∧ ∀w,TabsIn w.heap.size w→Calls P f args.toArray w fun e w'=>e= .returned v∧RowKit.Below w.heap.size w w'):jal P f s:=by
 refine⟨hc,fun args v N w0 lk ι w hrel hs hp=> ?_⟩;obtain⟨h1,h2⟩:=h _ _ _ hs;have hren:args.map (ren ι)=args:=by rw[←jbo,jbs _ h1]
 rw[hren];exact h2 w hrel.tabs
theorem jca{w w':World}(h:w'=w):RowKit.Below w.heap.size w w':=h▸RowKit.Below.refl _ _
section
variable {α β : Type} [Enc α] [Enc β] {P : Program} {f : FuncId}
theorem shelf1(hc:jbh P f){g:α→Bool×Value}(h:∀a,(g a).1=true→ ∀w,TabsIn w.heap.size w→Calls P f #[Enc.enc a] w fun e w'=>e= .returned (g a).2∧RowKit.Below w.heap.size w w'):jal P f (sp1 g):=by
 refine pure_shelf hc fun args bs v hs=> ?_
 simp only[sp1]at hs;split at hs
 ·split at hs
  ·rename_i ha;simp only[Option.some.injEq]at hs;obtain rfl:=Enc.dec_some ha;exact⟨by simp[jav,Enc.plain_enc],by have q:=h _ (by rw[hs]);rw[hs]at q;exact q⟩
  ·cases hs
 ·cases hs
theorem jdb(hc:jbh P f){g:α→β→Bool×Value}(h:∀a b,(g a b).1=true→ ∀w,TabsIn w.heap.size w→Calls P f #[Enc.enc a,Enc.enc b] w fun e w'=>e= .returned (g a b).2∧RowKit.Below w.heap.size w w'):jal P f (sp2 g):=by
 refine pure_shelf hc fun args bs v hs=> ?_
 simp only[sp2]at hs;split at hs
 ·split at hs
  ·rename_i ha hb;simp only[Option.some.injEq]at hs;obtain rfl:=Enc.dec_some ha;obtain rfl:=Enc.dec_some hb;exact⟨by simp[jav,Enc.plain_enc],by have q:=h _ _ (by rw[hs]);rw[hs]at q;exact q⟩
  ·cases hs
 ·cases hs
end
def idxZ:E→Int→Int
 | [],_=> -1
 | b::l,c=>if b=c then 0 else if idxZ l c= -1 then -1 else idxZ l c+1
def cntZ(l:E)(c:Int):Nat:=(l.filter (· ==c)).length
def sufZ(l p:E):Bool:=decide (p.length≤l.length∧l.drop (l.length-p.length)=p)
def hasZ(l:E)(c:Int):Bool:=l.any (· ==c)
def anyZ(l cs:E):Bool:=l.any (hasZ cs)
def jfq(l cs:E):E:=((l.reverse.dropWhile (hasZ cs)).reverse).dropWhile (hasZ cs)
def repZ(l:E):Nat→E
 | 0=> []
 | n+1=>l++repZ l n
def numZ:E→Int→Int
 | [],a=>a
 | c::r,a=>numZ r (a*10+(c-48))
def jg6(c:Int):Bool:=decide (48≤c∧c≤57)
abbrev zl(l:O):E:=l.map fun b=>(b.toNat:Int)
theorem jjp{a b:UInt8}:((a.toNat:Int)=b.toNat)↔a=b:=by
 rw[Int.natCast_inj,UInt8.toNat_inj]
theorem jja(c:UInt8):∀l:O,Lib.indexByte l c=idxZ (zl l) c.toNat
 | []=>rfl
 | b::l=>by
  simp only[Lib.indexByte,zl,List.map_cons,idxZ,jja c l,jjp,beq_iff_eq]
theorem jic(c:UInt8):∀l:O,l.contains c=hasZ (zl l) c.toNat
 | []=>rfl
 | b::l=>by
  have:=jic c l;simp only[hasZ,zl]at this;rw[List.contains_cons,this];simp only[hasZ,zl,List.map_cons,List.any_cons];congr 1;rw[Bool.eq_iff_iff,beq_iff_eq,beq_iff_eq,jjp];exact eq_comm
theorem jcl{l:E}{c:Int}:hasZ l c=true↔c∈l:=by simp[hasZ]
theorem jfx(c:Int):∀l:E,-1≤idxZ l c∧(0≤idxZ l c↔c∈l)
 | []=>by simp[idxZ]
 | b::l=>by
  obtain⟨h1,h2⟩:=jfx c l;simp only[idxZ,List.mem_cons];by_cases hb:b=c
  ·simp[hb]
  ·rw[if_neg hb];have hb':¬c=b:=fun h=>hb h.symm
   split
   ·rename_i h;rw[h]at h2;simp only[hb',false_or];exact⟨by omega,by rw[←h2]⟩
   ·exact⟨by omega,by simp only[hb',false_or];rw[←h2];omega⟩
theorem cnt_zl(c:UInt8):∀l:O,Lib.countByte l c=cntZ (zl l) c.toNat
 | []=>rfl
 | b::l=>by
  have ih:=cnt_zl c l;simp only[Lib.countByte,cntZ,zl]at ih;simp only[Lib.countByte,cntZ,zl,List.map_cons,List.count_cons,List.filter_cons,ih];by_cases hb:b=c
  ·simp[hb]
  ·have:((b.toNat:Int)==(c.toNat:Int))=false:=by simpa[jjp]using hb
   simp[hb,this]
theorem zl_inj{a b:O}(h:zl a=zl b):a=b:=by
 have:=bz_inj (a:=⟨a.toArray⟩) (b:=⟨b.toArray⟩) (by simpa[bz]using h);simpa using congrArg (fun s:Y=>s.data.toList) this
theorem suf_zl(s p:O):Lib.hasSuffix s p=sufZ (zl s) (zl p):=by
 rw[Bool.eq_iff_iff];simp only[Lib.hasSuffix,sufZ,List.isSuffixOf_iff_suffix,jae,List.length_map];constructor
 ·rintro ⟨t,rfl⟩;exact⟨by simp,by simp⟩
 ·rintro ⟨h1,h2⟩;rw[←List.map_drop]at h2;have e:=zl_inj h2;exact⟨s.take (s.length-p.length),(congrArg (s.take (s.length-p.length)++ ·) e.symm).trans (List.take_append_drop ..)⟩
theorem jey{p:UInt8→Bool}{q:Int→Bool}(h:∀b:UInt8,p b=q b.toNat):∀l:O,zl (l.dropWhile p)=(zl l).dropWhile q
 | []=>rfl
 | b::l=>by
  simp only[List.dropWhile_cons,zl,List.map_cons,h b];split
  ·exact jey h l
  ·rfl
theorem trim_zl(l cs:O):zl (Lib.trimS l cs)=jfq (zl l) (zl cs):=by
 have h:∀b:UInt8,cs.contains b=hasZ (zl cs) b.toNat:=fun b=>jic b cs
 simp only[Lib.trimS,Lib.trimLeftS,Lib.trimRightS,jfq];rw[jey (q:=hasZ (zl cs)) h];congr 1;rw[zl,List.map_reverse,←List.map_reverse];have:=jey (p:=(cs.contains ·)) (q:=hasZ (zl cs)) h l.reverse;rw[List.map_reverse];simp only[zl,List.map_reverse]at this ⊢;rw[this]
theorem rep_zl(l:O):∀n,zl (Lib.repeatL l n)=repZ (zl l) n
 | 0=>rfl
 | n+1=>by
  have:=rep_zl l n;simp only[zl]at this;simp[Lib.repeatL,repZ,zl,this]
theorem jg3(l:O):(⟨l.toArray⟩:Y)=sz (zl l):=by
 rw[←jjr ⟨l.toArray⟩];simp[bz]
theorem jig(s:Y):zl s.data.toList=bz s:=rfl
theorem cal {P : Program} {f : FuncId} {fn : Func} (h : P.funcs[f]? = some fn) (hn : (fn.name == "runtime.NumGoroutine") = false) (hb : fn.body.isSome = true) : jbh P f := ⟨fn, h, hn, by cases hf : fn.body with | none => rw [hf] at hb; cases hb | some c => rfl⟩
theorem c141:jbh Tryz.prog 221:=cal Tryz.func221 (by kernel_rfl) (by kernel_rfl)
theorem c157:jbh Tryz.prog 253:=cal Tryz.func253 (by kernel_rfl) (by kernel_rfl)
theorem c130:jbh Tryz.prog 187:=cal Tryz.func187 (by kernel_rfl) (by kernel_rfl)
theorem c132:jbh Tryz.prog 189:=cal Tryz.func189 (by kernel_rfl) (by kernel_rfl)
theorem c102:jbh Tryz.prog 128:=cal Tryz.func128 (by kernel_rfl) (by kernel_rfl)
theorem c89:jbh Tryz.prog 124:=cal Tryz.func124 (by kernel_rfl) (by kernel_rfl)
theorem c68:jbh Tryz.prog 183:=cal Tryz.func183 (by kernel_rfl) (by kernel_rfl)
def s141(s:Y)(c:U8):Bool×Value:=(decide (0≤c.n∧c.n<256),.int .i64 (idxZ (bz s) c.n))
theorem ok141:jal Tryz.prog 221 (sp2 s141):=jdb c141 fun s c hc w _=>by
 have hc:0≤c.n∧c.n<256:=jab hc;refine(Any.strings_IndexByte Tryz.lays137 s c.n w).mono fun e w' ⟨h1,h2⟩=>⟨?_,jca h2⟩
 rw[h1,jja];simp only[s141]
 have:((c.n.toNat.toUInt8.toNat:Nat):Int)=c.n:=by
  simp only[Nat.toUInt8,UInt8.toNat_ofNat'];omega
 rw[this,jig]
def oneB(s:Y):Bool:=Nat.beq s.size 1
theorem jfg{s:Y}(h:oneB s=true):∃c:UInt8,s=⟨#[c]⟩∧(c.toNat:Int)=(bz s).getD 0 0:=by
 have h:=jah h;have hl:s.data.toList.length=1:=by simpa using h
 match hm:s.data.toList,hl with
 | [c],_=>
  refine⟨c,?_,by simp[bz,hm]⟩;apply ByteArray.ext;apply Array.ext';simpa using hm
def s157(s t:Y):Bool×Value:=(oneB t,.int .i64 (cntZ (bz s) ((bz t).getD 0 0)))
theorem ok157:jal Tryz.prog 253 (sp2 s157):=jdb c157 fun s t hc w _=>by
 obtain⟨c,h1,h2⟩:=jfg hc;have e:Enc.enc t=Value.string ⟨#[c]⟩:=congrArg Value.string h1;rw[e];refine(Any.strings_Count_one Tryz.lays138 s c w).mono fun e w' ⟨h3,h4⟩=>⟨?_,jca h4⟩
 rw[h3,cnt_zl,h2];rfl
def s132(s t:Y):Bool×Value:=(oneB t,.bool (hasZ (bz s) ((bz t).getD 0 0)))
theorem ok132:jal Tryz.prog 189 (sp2 s132):=jdb c132 fun s t hc w _=>by
 obtain⟨c,h1,h2⟩:=jfg hc;have e:Enc.enc t=Value.string ⟨#[c]⟩:=congrArg Value.string h1;rw[e];refine(Any.strings_Contains_one Tryz.lays144 s c w).mono fun e w' ⟨h3,h4⟩=>⟨?_,jca h4⟩
 rw[h3];simp only[s132];rw[←h2];congr 2;rw[Bool.eq_iff_iff,jae,jja,(jfx _ _).2,jcl,jig]
def s130(s t:Y):Bool×Value:=(decide (s.size≤9223372036854775807),.bool (sufZ (bz s) (bz t)))
theorem ok130:jal Tryz.prog 187 (sp2 s130):=jdb c130 fun s t hc w _=>by
 refine(Any.strings_HasSuffix Tryz.lays100 s t w (jab hc)).mono fun e w' ⟨h3,h4⟩=>⟨?_,jca h4⟩
 rw[h3,suf_zl];rfl
def asc(l:E):Bool:=l.all fun c=>decide (c<128)
theorem jdh{s:Y}(h:asc (bz s)=true):∀(j:Nat) b,s.data.toList[j]?=some b→b.toNat<128:=fun j b hb=>by
 simp only[asc,bz,List.all_map,List.all_eq_true]at h;have:=h b (List.mem_of_getElem? hb);simp at this;omega
theorem info128:(Tryz.prog.info? (Tryz.lays150_ren.t 116)).map (fun i=>(i.zero,i.size))=some (some (.agg (Array.replicate 256 (.bool false))),256):=by kernel_rfl
theorem jhr:(Tryz.prog.info? (Tryz.lays160_ren.t 116)).map (fun i=>(i.zero,i.size))=some (some (.agg (Array.replicate 256 (.bool false))),256):=by kernel_rfl
theorem indexAny_zl(cs:O):∀l:O,(0≤Lib.indexAny l cs)↔anyZ (zl l) (zl cs)=true
 | []=>by simp[Lib.indexAny,anyZ]
 | b::l=>by
  have ih:=indexAny_zl cs l;have g:=Lib.indexAny_ge cs l;have hb:hasZ (zl cs) b.toNat=cs.contains b:=(jic b cs).symm;simp only[anyZ,zl,List.map_cons,List.any_cons]at ih hb ⊢;rw[hb];unfold Lib.indexAny;split
  ·simp_all
  ·rename_i hn;have hn:cs.contains b=false:=by simpa using hn
   rw[hn,Bool.false_or,←ih];split
   ·rename_i h;have h:=eq_of_beq h;constructor<;>intro<;>omega
   ·rename_i h;have h:Lib.indexAny l cs≠ -1:=by simpa using h
    constructor<;>intro<;>omega
def s102(s t:Y):Bool×Value:=(decide (s.size≤1000) && (decide (t.size≤1000) && (asc (bz s) &&asc (bz t))),.bool (anyZ (bz s) (bz t)))
theorem ok102:jal Tryz.prog 128 (sp2 s102):=jdb c102 fun s t hc w _=>by
 simp only[s102,jaf,jae]at hc;obtain⟨h1,h2,h3,h4⟩:=hc;refine(Any.strings_ContainsAny_laid Tryz.lays150 info128 s t w (by omega) (by omega) (jdh h3) (jdh h4)).mono fun e w' ⟨h5,h6⟩=>⟨?_,h6⟩
 rw[h5];simp only[s102];congr 2;rw[Bool.eq_iff_iff,Lib.containsAny,jae,indexAny_zl];rfl
theorem szO_ex:∃f:E→Y,f=sz:=⟨_,rfl⟩
noncomputable def szO : E → Y := Classical.choose szO_ex
theorem jeb(l:E):szO l=sz l:=by rw[szO,Classical.choose_spec szO_ex]
noncomputable def s89 (s t : Y) : Bool × Value := (decide (s.size ≤ 1000) && (decide (t.size ≤ 1000) && asc (bz t)), .string (szO (jfq (bz s) (bz t))))
theorem ok89:jal Tryz.prog 124 (sp2 s89):=jdb c89 fun s t hc w _=>by
 simp only[s89,jaf,jae]at hc;obtain⟨h1,h2,h3⟩:=hc;refine(Any.strings_Trim_laid Tryz.lays160 jhr s t w (by omega) (by omega) (jdh h3)).mono fun e w' ⟨h5,h6⟩=>⟨?_,h6⟩
 rw[h5,jg3,trim_zl];simp only[s89,jeb];rfl
end Go.Px
end
section
namespace Go.Px
open Go Go.Ab Go.Proofs
abbrev I(n:Int):Value:= .int .i64 n
abbrev B(b:Bool):Value:= .bool b
abbrev C8(n:Int):Value:= .int .u8 n
abbrev C64(n:Int):Value:= .int .u64 n
abbrev S(s:Y):Value:= .string s
def e0:Y:=⟨#[]⟩
theorem c_t{b:Bool}{P Q:Prop}(h:b=true)(hp:P):bif b then P else Q:=by rw[h];exact hp
theorem c_f{b:Bool}{P Q:Prop}(h:b=false)(hq:Q):bif b then P else Q:=by rw[h];exact hq
theorem w64{n:Int}(h: -9223372036854775808≤n∧n≤9223372036854775807):IntKind.wrap .i64 n=n:=by rw[IntKind.wrap_i64];omega
theorem w3{a b c d:Int}(ha:0≤a∧a≤1000)(hb:0≤b∧b≤1000)(hc:0≤c∧c≤1000)(hd:0≤d∧d≤1000):
  IntKind.wrap .i64 (IntKind.wrap .i64 (IntKind.wrap .i64 (a+b)+c)+d)=a+b+c+d:=by
 rw[w64 (n:=a+b) (by omega),w64 (n:=a+b+c) (by omega),w64 (by omega)]
theorem w8e(n:Int):IntKind.wrap .u8 n=n%256:=by
 simp[IntKind.wrap,IntKind.bits,IntKind.signed]
theorem w8{n:Int}(h:0≤n∧n<256):IntKind.wrap .u8 n=n:=by rw[w8e];omega
theorem jhy(s:Y)(i:Nat):0≤jas s i∧jas s i<256:=by
 rw[jfo,List.getD_eq_getElem?_getD];cases h:(bz s)[i]? with
 | none=>simp
 | some c=>exact jj1 s c (List.mem_of_getElem? h)
theorem jeg{s:Y}{i:Int}(h0:0≤i)(h:i<s.size):(bz s).drop i.toNat=jas s i.toNat::(bz s).drop (i+1).toNat:=by
 have:=jel (bz s) i.toNat (by rw[jax];omega);rw[this,jfo];congr 2;omega
theorem jdc{s:Y}{i:Int}(h:s.size≤i):(bz s).drop i.toNat=[]:=List.drop_eq_nil_of_le (by rw[jax];omega)
def upZ(c:Int):Int:=if 97≤c∧c≤122 then c-32 else c
def twoL(i:Nat)(h:jbr)(j:Nat)(h':jbr):Nat→Option jbr:=fun k=>match Nat.beq k i with | true=>some h | false=>match Nat.beq k j with | true=>some h' | false=>none
theorem lokf_two{P:Program}{fn:Func}{i j:Nat}{h h':jbr}(hij:Nat.beq j i=false)(hb:(match fn.body with | some c=>blks (twoL i h j h') c | none=> [])=[(i,.loop (ja9 fn i)),(j,.loop (ja9 fn j))])
  (hs:∀t m n K,h t m n K→Ab.Sem P fn.ntmps (.loop (ja9 fn i)) t m n K) (hs':∀t m n K,h' t m n K→Ab.Sem P fn.ntmps (.loop (ja9 fn j)) t m n K):LOKf P (twoL i h j h') fn:=by
 unfold LOKf;split
 ·rename_i c hc;simp only[hc]at hb;refine jf3 c fun p hp k hk=> ?_
  rw[hb]at hp;simp only[List.mem_cons,List.not_mem_nil,or_false]at hp;have e:Nat.beq i i=true:=by simp
  have e':Nat.beq j j=true:=by simp
  rcases hp with rfl | rfl
  ·simp only[twoL,e,Option.some.injEq]at hk;subst hk;exact hs
  ·simp only[twoL,hij,e',Option.some.injEq]at hk;subst hk;exact hs'
 ·trivial
theorem lok_one{P:Program}{nt:Nat}{c b:Code}{id:Nat}{h:jbr}(hb:blks (oneL id h) c=[(id,b)])(hs:∀t m n K,h t m n K→Ab.Sem P nt b t m n K):LOK P (oneL id h) nt c:=by
 refine jf3 c fun p hp h' hh=> ?_
 rw[hb]at hp;simp only[List.mem_singleton]at hp;subst hp
 have:h'=h:=by
  simp only[oneL]at hh;have e:Nat.beq id id=true:=by simp
  rw[e]at hh;simpa using hh.symm
 subst this;exact hs
theorem bz_take_at{s:Y}{i l:Int}(h0:0≤i)(h:i<l)(hl:l≤s.size):((bz s).take l.toNat).drop i.toNat=jas s i.toNat::((bz s).take l.toNat).drop (i+1).toNat:=by
 have hlen:((bz s).take l.toNat).length=l.toNat:=by rw[List.length_take,jax];omega
 have:=jel ((bz s).take l.toNat) i.toNat (by omega);rw[this,jfo]
 have e:((bz s).take l.toNat).getD i.toNat 0=(bz s).getD i.toNat 0:=by
  simp only[List.getD_eq_getElem?_getD];rw[List.getElem?_take,if_pos (by omega)]
 rw[e];congr 2;omega
theorem jjc(l:E)(c:Int):cntZ l c≤l.length:=List.length_filter_le ..
def iv:Value→Int
 | .int _ n=>n
 | _=>0
def zc(c:U)(n:Nat):E:=(c.take n).map iv
def jc7(c:U)(n cap:Nat):Bool:=jbm (c.take n) && (jav c&& (Nat.beq c.length cap&& (Nat.ble n cap&&Nat.ble cap 9223372036854775807)))
theorem jjh:∀{l:U},jbm l=true→cz (l.map iv)=l
 | [],_=>rfl
 | .int .u8 n::r,h=>by
  have:=jjh (l:=r) (by simpa[jbm]using h);simp only[cz]at this;simp only[List.map_cons,cz,iv,this]
structure RowP (c:U)(n cap:Nat):Prop where
 bytes:jbm (c.take n)=true
 plain:jav c=true
 len:c.length=cap
 le:n≤cap
 cap:cap≤9223372036854775807
theorem ja5{c:U}{n cap:Nat}:jc7 c n cap=true↔RowP c n cap:=by
 simp only[jc7,jaf,Nat.ble_eq,Nat.beq_eq];exact⟨fun⟨h1,h2,h3,h4,h5⟩=>⟨h1,h2,h3,h4,h5⟩,fun⟨h1,h2,h3,h4,h5⟩=>⟨h1,h2,h3,h4,h5⟩⟩
theorem jbw{c:U}{n cap:Nat}(h:RowP c n cap):(zc c n).length=n:=by
 have h1:=h.len;have h2:=h.le;simp only[zc,List.length_map,List.length_take];omega
theorem RowP.eq{c:U}{n cap:Nat}(h:RowP c n cap):c=cz (zc c n)++c.drop n:=by
 rw[zc,jjh h.bytes,List.take_append_drop]
theorem RowP.take{c:U}{n cap:Nat}(h:RowP c n cap):c.take n=cz (zc c n):=(jjh h.bytes).symm
theorem RowP.str{c:U}{n cap:Nat}(h:RowP c n cap):jcw c 0 n=true∧jb9 c 0 n=sz (zc c n):=by
 have hz:=jbw h;have e:=h.eq;have h1:=bytesOK_cz (zc c n) (c.drop n);have h2:=bytesOf_cz (zc c n) (c.drop n);rw[←e,hz]at h1 h2;exact⟨h1,h2⟩
theorem jd6{a b:U}:jav (a++b)=true↔jav a=true∧jav b=true:=by
 simp only[jay,List.mem_append];exact⟨fun h=>⟨fun v hv=>h v (.inl hv),fun v hv=>h v (.inr hv)⟩,fun⟨h1,h2⟩ v hv=>hv.elim (h1 v) (h2 v)⟩
theorem row_mk(L:E){tail:U}{cap:Nat}(ht:jav tail=true)(hl:L.length+tail.length=cap)(hc:cap≤9223372036854775807):RowP (cz L++tail) L.length cap∧zc (cz L++tail) L.length=L:=by
 have e:(cz L++tail).take L.length=cz L:=by rw[List.take_append_of_le_length (by simp),List.take_of_length_le (by simp)]
 refine⟨⟨by rw[e];exact jez L,jd6.2 ⟨jgd L,ht⟩,by simp[hl],by omega,hc⟩,?_⟩;show List.map iv ((cz L++tail).take L.length)=L;rw[e];simp only[cz,List.map_map];have:(iv∘fun n:Int=>Value.int .u8 n)=id:=by funext n;rfl
 rw[this,List.map_id]
theorem jch{tail:U}{cap need size:Nat}(h:ja1 tail cap need size=true):jav tail=true∧tail.length+need*size=cap*size∧need≤cap∧cap≤9223372036854775807:=by
 simp only[ja1,jaf,Nat.ble_eq,Nat.beq_eq]at h;exact⟨h.1.1.1,h.1.1.2,h.1.2,h.2⟩
theorem RowP.app{c:U}{n cap:Nat}(h:RowP c n cap)(M:E){tail:U}{cap':Nat}(ht:ja1 tail cap' (n+M.length) 1=true):
  RowP (c.take n++cz M++tail) (n+M.length) cap'∧zc (c.take n++cz M++tail) (n+M.length)=zc c n++M:=by
 obtain⟨t1,t2,t3,t4⟩:=jch ht;have hz:=jbw h;have:=row_mk (zc c n++M) (tail:=tail) (cap:=cap') t1 (by simp only[List.length_append,hz];omega) t4;simp only[List.length_append,hz,cz_append]at this;rw[h.take];exact this
theorem RowP.app1{c:U}{n cap:Nat}(h:RowP c n cap)(x:Int){tail:U}{cap':Nat}(ht:ja1 tail cap' (n+1) 1=true):
  RowP (c.take (n*1)++ [.int .u8 x]++tail) (n+1) cap'∧zc (c.take (n*1)++ [.int .u8 x]++tail) (n+1)=zc c n++ [x]:=by
 rw[Nat.mul_one];exact h.app [x] ht
theorem RowP.ask{c:U}{n cap:Nat}(h:RowP c n cap){k:Nat}(hk:n+k≤1000000):
  (Nat.beq c.length (cap*1) &&Nat.ble n cap&&Nat.ble cap 9223372036854775807&&true&&jb3 (n+k) 1)=true:=by
 have h1:=h.len;have h2:=h.le;have h3:=h.cap;simp only[jb3,jaf,Nat.ble_eq,Nat.beq_eq,Nat.mul_one];exact⟨⟨⟨⟨h1,h2⟩,h3⟩,trivial⟩,by omega,by omega⟩
theorem row_new(M:E){tail:U}{cap':Nat}(ht:ja1 tail cap' M.length 1=true):RowP (cz M++tail) M.length cap'∧zc (cz M++tail) M.length=M:=by
 obtain⟨t1,t2,t3,t4⟩:=jch ht;exact row_mk M t1 (by omega) t4
theorem RowP.good{c:U}{n cap:Nat}(h:RowP c n cap)(ps:List (Nat×Nat)):jat ps c=true:=goodL_plain h.plain
theorem RowP.rlb{c:U}{n cap:Nat}(h:RowP c n cap)(ps:List (Nat×Nat)):rlbL ps c=c:=rlbL_plain ps h.plain
theorem je2{d:U}{m cap:Nat}(hr:RowP d m cap)(hm:m≤100000)(x:Int)(ps:List (Nat×Nat))(K:Nat→U→Prop)
  (h:∀(cap':Nat)(d':U),RowP d' (m+1) cap'→zc d' (m+1)=zc d m++ [x]→K cap' d'):
  bif Nat.beq d.length (cap*1) &&Nat.ble m cap&&Nat.ble cap 9223372036854775807&&true&&jb3 (m+1) 1 then
   ∀(cap1:Nat)(tail:U),ja1 tail cap1 (m+1) 1=true→
    bif jat ps (List.take (m*1) d++ [.int .u8 x]++tail) &&true&&true then K cap1 (rlbL ps (List.take (m*1) d++ [.int .u8 x]++tail))else False
  else False:=by
 rw[hr.ask (k:=1) (by omega)];intro cap1 tail ht;obtain⟨h1,h2⟩:=hr.app1 x ht;rw[h1.good,h1.rlb];exact h cap1 _ h1 h2
theorem jbe{c:U}(h:jav c=true)(n:Nat):jaz n c=true:=by
 simp[jaz,jar h]
def G0:Env:=Env.nil
theorem ok_G0:jao Tryz.prog G0:=ja7
def s82(c:U8):Bool×Value:=(decide (0≤c.n∧c.n<256),.int .u8 (upZ c.n))
theorem fn82:Fn1 Tryz.prog 263 Tryz.f263:= .m Tryz.func263
def cu(a b c:Bool)(d e:Prop):Prop:=bif a || b then bif c then d else e else False
def gv(a:Int):Value:= .int .u8 (IntKind.u8.wrap a)
def bn(a b:Int):Bool:=decide (a≥b)
theorem v82(c:U8)(R:Value→Prop):ja4 Tryz.prog G0 noL Tryz.f263 [Enc.enc c] (fun _=>none) 0 (fun v _ _=>R v)=(cu (bn (U8.n c) 97) true (bn (U8.n c) 97&&decide (U8.n c≤122)) (R (gv (IntKind.u8.wrap (U8.n c-97)+65))) (R (.int .u8 (U8.n c)))):=by kernel_rfl
theorem ok82:jal Tryz.prog 263 (sp1 s82):=by
 refine jcr ok_G0 hmix fn82 jai jag fun c hc=> ?_
 rw[jb5,v82];delta cu gv bn;have hc:(0≤c.n∧c.n<256):=jab hc;dsimp only[s82];unfold upZ;refine c_t (by simp) ?_;apply cond_intro<;>intro h
 ·have h:97≤c.n∧c.n≤122:=by simpa using h
  rw[if_pos h,w8 (n:=c.n-97) (by omega),w8 (by omega),show c.n-97+65=c.n-32 by omega]
 ·have h:¬(97≤c.n∧c.n≤122):=by simpa using h
  rw[if_neg h]
def V40_0:Y×Int×Bool×Int→U:=fun(s,c,b,i)=> [S s,C8 c,B b,I i]
def B40_0:Y×Int×Bool×Int→F:=fun _=> []
def S40_0:LSpec (Y×Int×Bool×Int) where
 live:=[0,1,4,5]
 mid:=[]
 n:=60
 dec vs bs:=match vs,bs with | [.string s,.int .u8 c,.bool b,.int .i64 i],[]=>some (s,c,b,i) | _,_=>none
 pre:=fun(s,c,b,i)=>decide (0≤i∧i≤s.size∧s.size≤9223372036854775807)
 fin:=fun(s,c,b,i) Z=>(bif hasZ ((bz s).drop i.toNat) c then(∀i',Z .ret [S s,C8 c,B true,I i'] [])else Z (.exit 0) [S s,C8 c,B b,I s.size] [])
def ak(a:Int):Value:= .int .i64 a
def au(a:Int):Value:= .int .u8 a
def ek(a b:Bool)(c:Exit→U→F→Prop)(f:F)(e g:U)(d:Value):Prop:=bif a then bif b then c .ret (d::e) f else c .normal g f else False
def bm(a:Int):Int:=IntKind.i64.wrap (a+1)
def du(a:Int):Value:= .int .i64 (bm a)
def c9(a:Int):U:=[du a]
def b6(a:Y)(b c:Int):Bool:=jas a b.toNat==c
def av(a:Y):Int:=(a.size:Int)
def a7(b:Y)(a:Int):Bool:=decide (0≤a∧a<av b)
def cv(b:Y)(a:Int):Bool:=decide (a<av b)
theorem r40_0(s:Y)(c:Int)(b:Bool)(i:Int)(jk:Tmps)(R:Exit→U→F→Prop):(jbz Tryz.prog G0 noL Tryz.f203.ntmps (ja9 Tryz.f203 0) (tl S40_0.live (V40_0 (s,c,b,i)) jk) (ml S40_0.mid (B40_0 (s,c,b,i))) S40_0.n fun e t' m' _=>R e (List.map t' S40_0.live) (List.map m' S40_0.mid))=(bif cv s i then ek (a7 s i) (b6 s i c) R [] [au c,B true,ak i] (S s::au c::B b::c9 i) (S s)else R (.exit 0) [S s,au c,B b,ak i] []):=by kernel_rfl
theorem l40_0:LOKf Tryz.prog (oneL 0 S40_0.h) Tryz.f203:=by
 refine jbk (h:=S40_0.h) (by kernel_rfl) (jb0 ok_G0 hmix (by kernel_rfl) (ja6 _) S40_0 V40_0 B40_0 (fun(s,c,b,i)=>(s.size-i).toNat) ?_ ?_ ?_)
 ·intro vs bs s h;simp only[S40_0]at h;split at h
  all_goals first | (cases h;exact⟨rfl,rfl⟩) | cases h
 ·exact fun _ _ _ h=>h
 ·intro⟨s,c,b,i⟩ jk Z hp hf;rw[r40_0];delta ak au ek bm du c9 b6 av a7 cv;simp only[S40_0]at hp hf;simp only[jae]at hp;apply cond_intro<;>intro h
  ·have h:=jab h;rw[jeg hp.1 h]at hf;refine c_t (jaa (by omega)) ?_;simp only[hasZ,List.any_cons]at hf;apply cond_intro<;>intro hb
   ·rw[hb]at hf;exact hf i
   ·rw[hb,Bool.false_or]at hf;rw[w64 (by omega)];exact⟨(s,c,b,i+1),rfl,rfl,by simp only[S40_0,jae];omega,by simp only;omega,hf⟩
  ·have h:=jac h;rw[jdc (by omega)]at hf;obtain rfl:i=s.size:=by omega
   exact hf
def s40(s:Y)(c:U8):Bool×Value:=(decide (s.size≤9223372036854775807),.bool (hasZ (bz s) c.n))
theorem fn40:Fn1 Tryz.prog 203 Tryz.f203:= .m Tryz.func203
def er(a b:Bool)(c d:Prop):Prop:=bif a then bif b then c else d else False
def a0(b:Y)(a:Int):E:=(bz b).drop a.toNat
theorem v40(s:Y)(c:U8)(R:Value→Prop):ja4 Tryz.prog G0 (oneL 0 S40_0.h) Tryz.f203 [Enc.enc s,Enc.enc c] (fun _=>none) 0 (fun v _ _=>R v)=(er (S40_0.pre (s,(U8.n c,(false,(0:Int))))) (hasZ (a0 s 0) (U8.n c)) (Int→Tmps→R (B true)) (Tmps→R (B false))):=by kernel_rfl
theorem ok40:jal Tryz.prog 203 (sp2 s40):=by
 refine jil ok_G0 hmix fn40 l40_0 jag fun s c hc=> ?_
 rw[jb5,v40];delta er a0;have hc:(s.size≤9223372036854775807):=jab hc;dsimp only[s40];refine c_t (by simp only[S40_0,jae];omega) ?_;rw[show List.drop (Int.toNat 0) (bz s)=bz s from rfl];exact cond_intro (fun h _ _=>by rw[h]) (fun h _=>by rw[h])
def V75_0:Y×Int×Int×Int→U:=fun(s,c,n,i)=> [S s,C8 c,I n,I i]
def B75_0:Y×Int×Int×Int→F:=fun _=> []
def S75_0:LSpec (Y×Int×Int×Int) where
 live:=[0,1,5,6]
 mid:=[]
 n:=60
 dec vs bs:=match vs,bs with | [.string s,.int .u8 c,.int .i64 n,.int .i64 i],[]=>some (s,c,n,i) | _,_=>none
 pre:=fun(s,c,n,i)=>decide (0≤i∧i≤s.size∧s.size≤9223372036854775807∧0≤n∧n≤i)
 fin:=fun(s,c,n,i) Z=>Z (.exit 0) [S s,C8 c,I (n+cntZ ((bz s).drop i.toNat) c),I s.size] []
def jc(a c:Y)(g:Exit→U→F→Prop)(b d:Int)(h:U)(e f:Prop):Prop:=bif cv a b then bif a7 c b then bif b6 c b d then e else f else False else g (.exit 0) h []
def bq(a b:Int):Int:=IntKind.i64.wrap (a+b)
def bp(a b:Int):Value:= .int .i64 (bq a b)
def br(a b:Int):U:=[ak a,bp b 1]
def ar(a b:Int):U:=[ak a,ak b]
theorem r75_0(s:Y)(c:Int)(n:Int)(i:Int)(jk:Tmps)(R:Exit→U→F→Prop):(jbz Tryz.prog G0 noL Tryz.f201.ntmps (ja9 Tryz.f201 0) (tl S75_0.live (V75_0 (s,c,n,i)) jk) (ml S75_0.mid (B75_0 (s,c,n,i))) S75_0.n fun e t' m' _=>R e (List.map t' S75_0.live) (List.map m' S75_0.mid))=(jc s s R i c (S s::au c::ar n i) (R .normal (S s::au c::du n::c9 i) []) (R .normal (S s::au c::br n i) [])):=by kernel_rfl
theorem l75_0:LOKf Tryz.prog (oneL 0 S75_0.h) Tryz.f201:=by
 refine jbk (h:=S75_0.h) (by kernel_rfl) (jb0 ok_G0 hmix (by kernel_rfl) (ja6 _) S75_0 V75_0 B75_0 (fun(s,c,n,i)=>(s.size-i).toNat) ?_ ?_ ?_)
 ·intro vs bs s h;simp only[S75_0]at h;split at h
  all_goals first | (cases h;exact⟨rfl,rfl⟩) | cases h
 ·exact fun _ _ _ h=>h
 ·intro⟨s,c,n,i⟩ jk Z hp hf;rw[r75_0];delta b6 av a7 cv jc bq bp ak br au bm du c9 ar;simp only[S75_0]at hp hf;simp only[jae]at hp;apply cond_intro<;>intro h
  ·have h:=jab h;rw[jeg hp.1 h]at hf;refine c_t (jaa (by omega)) ?_;simp only[cntZ,List.filter_cons]at hf;apply cond_intro<;>intro hb
   ·rw[hb]at hf;rw[w64 (n:=n+1) (by omega),w64 (by omega)];refine⟨(s,c,n+1,i+1),rfl,rfl,by simp only[S75_0,jae];omega,by simp only;omega,?_⟩;simp only[S75_0,cntZ];simp only[if_true,List.length_cons]at hf;rw[show n+1+((List.filter (fun x=>x==c) (List.drop (Int.toNat (i+1)) (bz s))).length:Int)=n+((List.filter (fun x=>x==c) (List.drop (Int.toNat (i+1)) (bz s))).length+1:Nat)by omega];exact hf
   ·rw[hb]at hf;rw[w64 (by omega)];exact⟨(s,c,n,i+1),rfl,rfl,by simp only[S75_0,jae];omega,by simp only;omega,hf⟩
  ·have h:=jac h;rw[jdc (by omega)]at hf;obtain rfl:i=s.size:=by omega
   simp only[cntZ,List.filter_nil,List.length_nil]at hf;rw[show n+((0:Nat):Int)=n by omega]at hf;exact hf
def s75(s:Y)(c:U8):Bool×Value:=(decide (s.size≤9223372036854775807),.int .i64 (cntZ (bz s) c.n))
theorem fn75:Fn1 Tryz.prog 201 Tryz.f201:= .m Tryz.func201
def e6(a:Bool)(c:Value)(b:Value→Prop):Prop:=bif a then Tmps→b c else False
theorem v75(s:Y)(c:U8)(R:Value→Prop):ja4 Tryz.prog G0 (oneL 0 S75_0.h) Tryz.f201 [Enc.enc s,Enc.enc c] (fun _=>none) 0 (fun v _ _=>R v)=(e6 (S75_0.pre (s,(U8.n c,((0:Int),(0:Int))))) (I (0+(cntZ (a0 s 0) (U8.n c):Int))) R):=by kernel_rfl
theorem ok75:jal Tryz.prog 201 (sp2 s75):=by
 refine jil ok_G0 hmix fn75 l75_0 jag fun s c hc=> ?_
 rw[jb5,v75];delta e6 a0;have hc:(s.size≤9223372036854775807):=jab hc;dsimp only[s75];refine c_t (by simp only[S75_0,jae];omega) ?_;rw[show List.drop (Int.toNat 0) (bz s)=bz s from rfl,Int.zero_add];exact fun _=>rfl
def rep1(c:Int)(n:Nat):E:=List.replicate n c
theorem jgl(c:Int)(n:Nat):[c]++rep1 c n=rep1 c (n+1):=rfl
def V57_0:Int×Int×U×Nat×Nat×Int→U:=fun(c,n,d,m,cap,i)=> [C8 c,I n,.slice (some ⟨200,0,some 1⟩) m cap,I i]
def B57_0:Int×Int×U×Nat×Nat×Int→F:=fun(c,n,d,m,cap,i)=> [some ⟨d,5,true⟩]
def S57_0:LSpecA (Int×Int×U×Nat×Nat×Int) where
 live:=[0,1,5,6]
 mid:=[200]
 n:=210
 ap:=[(.tmp 5,200)]
 dec vs bs:=match vs,bs with | [.int .u8 c,.int .i64 n,.slice (some ⟨200,0,some 1⟩) m cap,.int .i64 i],[some ⟨d,5,true⟩]=>some (c,n,d,m,cap,i) | _,_=>none
 pre:=fun(c,n,d,m,cap,i)=>jc7 d m cap&&decide (0≤i∧i≤n∧n≤1000∧i=m)
 fin:=fun(c,n,d,m,cap,i) Z=>∀d' cap',jc7 d' n.toNat cap'=true→zc d' n.toNat=zc d m++rep1 c (n-i).toNat→Z (.exit 0) [C8 c,I n,.slice (some ⟨200,0,some 1⟩) n.toNat cap',I n] [some ⟨d',5,true⟩]
def bw(a:Bool)(b:Exit→U→F→Prop)(e:F)(d:U)(c:Nat):Prop:=bif a then b (.exit c) d e else False
def am(a b c d:Nat):Value:= .slice (some (.mk a b (some 1))) c d
def dv(c:U)(a b:Nat)(d:TypeId):Option Blk:=some (.mk (rlbL [(a,b)] c) d true)
def e9(c:U)(a b:Nat):Bool:=jat [(a,b)] c&&true&&true
def gq(a:U)(b c d:Nat):Bool:=a.length.beq (b*c) &&d.ble b&&b.ble 9223372036854775807
def jz(a:U)(b c d:Nat):Bool:=gq a b 1 c&&true&&jb3 (c+1) d
def ft(a:U)(b c d:Nat)(e:Prop):Prop:=bif jz a b c d then e else False
def ax(a:Bool)(b:Exit→U→F→Prop)(d:F)(c:U):Prop:=bif a then b .normal c d else False
def bk(a:U)(b:TypeId):F:=[some (.mk a b true)]
def dy(c d e:U)(a b:Nat):U:=c.take (a*b)++d++e
def ck(a:List (Prod Nat Nat))(b:U):Bool:=jat a b&&true&&true
def fu(a:U)(b c:Nat):Prop:=ja1 a b (c+1) 1=true
def al(a b:Int):Bool:=decide (a<b)
theorem r57_0(c:Int)(n:Int)(d:U)(m:Nat)(cap:Nat)(i:Int)(jk:Tmps)(R:Exit→U→F→Prop):(jbz Tryz.prog G0 noL Tryz.f209.ntmps (ja9 Tryz.f209 0) (tl S57_0.live (V57_0 (c,n,d,m,cap,i)) jk) (ml S57_0.mid (B57_0 (c,n,d,m,cap,i))) S57_0.n fun e t' m' _=>S57_0.out R e t' m')=(bif al i n then ft d cap m 1 (∀a:Nat,∀b:U,fu b a m→ax (ck [(216,200)] (dy d [au c] b m 1)) R (bk (rlbL [(216,200)] (dy d [au c] b m 1)) 5) (au c::ak n::am 200 0 (m+1) a::c9 i))else bw (e9 d 200 200) R [dv d 200 200 5] [au c,ak n,am 200 0 m cap,ak i] 0):=by kernel_rfl
theorem l57_0:LOKf Tryz.prog (oneL 0 S57_0.hA) Tryz.f209:=by
 refine jbk (h:=S57_0.hA) (by kernel_rfl) (jb1 ok_G0 hmix (by kernel_rfl) (ja6 _) S57_0 V57_0 B57_0 (fun(c,n,d,m,cap,i)=>(n-i).toNat) ?_ ?_ ?_)
 ·intro vs bs s h;simp only[S57_0]at h;split at h
  all_goals first | (cases h;exact⟨rfl,rfl⟩) | cases h
 ·exact fun⟨c,n,d,m,cap,i⟩ hp=>by
   simp only[S57_0,jaf]at hp;simp[V57_0,B57_0,S57_0,jaz,jbn,idsL,ids,jar (ja5.1 hp.1).plain]
 ·intro⟨c,n,d,m,cap,i⟩ jk Z hp hf;rw[r57_0];delta bw ak am au dv e9 gq jz ft ax bm du c9 bk dy ck fu al;simp only[S57_0]at hp hf;simp only[jaf,jae]at hp;obtain⟨hr,hp⟩:=hp;have hr:=ja5.1 hr;apply cond_intro<;>intro h
  ·have h:=jab h;refine c_t (hr.ask (by omega)) (fun cap1 tail ht=> ?_);obtain⟨h1,h2⟩:=hr.app1 c ht;refine c_t (by rw[h1.good];rfl) ?_;rw[h1.rlb,w64 (by omega)];refine⟨(c,n,_,m+1,cap1,i+1),rfl,rfl,by simp only[S57_0,jaf,jae];exact⟨ja5.2 h1,by omega⟩,by simp only;omega,?_⟩;intro d' cap' g1 g2;refine hf d' cap' g1 ?_;rw[g2,h2,show(n-i).toNat=(n-(i+1)).toNat+1 by omega,←jgl,List.append_assoc]
  ·have h:=jac h;refine c_t (by rw[hr.good];rfl) ?_;rw[hr.rlb];obtain rfl:i=n:=by omega
   have e:i.toNat=m:=by omega
   have:=hf d cap (by rw[e];exact ja5.2 hr) (by rw[e];simp[rep1]);rw[e]at this;exact this
def s57(c:U8)(n:Int):Bool×Value:=(decide (0≤n∧n≤1000),.string (sz (rep1 c.n n.toNat)))
theorem fn57:Fn1 Tryz.prog 209 Tryz.f209:= .m Tryz.func209
def dw(c:Bool)(b:U)(a:Nat)(d:Prop):Prop:=bif jaz a b&&c then Tmps→d else False
def az(a:Bool)(c:Value)(b:Value→Prop):Prop:=bif a then b c else False
theorem v57(c:U8)(n:Int)(R:Value→Prop):ja4 Tryz.prog G0 (oneL 0 S57_0.hA) Tryz.f209 [Enc.enc c,Enc.enc n] (fun _=>none) 0 (fun v _ _=>R v)=(bif S57_0.toLSpec.pre (U8.n c,(n,(([]:U),(0,(0,(0:Int))))))then∀a:U,∀b:Nat,jc7 a n.toNat b=true→zc a n.toNat=zc [] 0++rep1 (U8.n c) (Int.toNat (n-0))→dw true a 210 (az (jcw a 0 n.toNat) (S (jb9 a 0 n.toNat)) R)else False):=by kernel_rfl
theorem ok57:jal Tryz.prog 209 (sp2 s57):=by
 refine jil ok_G0 hmix fn57 l57_0 jag fun c n hc=> ?_
 rw[jb5,v57];delta dw az;have hc:(0≤n∧n≤1000):=jab hc;dsimp only[s57];refine c_t ?_ (fun d' cap' h1 h2=> ?_)
 ·simp only[S57_0,jaf,jae];exact⟨rfl,by omega⟩
 have h1:=ja5.1 h1;refine c_t (by rw[jbe h1.plain];rfl) (fun _=>c_t h1.str.1 ?_);rw[h1.str.2,h2,show(n-0).toNat=n.toNat by omega];rfl
def tenZ(n:Nat):Int:=10^n
def unK(c:Int):Bool:=hasZ punchedZ c
def unD(c:Int):Int:=if unK c then(idxZ punchedZ c)%10 else 0
def puZ(d:Int)(m:Bool):Int:=if 0≤d∧d≤9 then punchedZ.getD (if m then d+10 else d).toNat 0 else 0
def sgZ(c:Int)(m:Bool):Int:=if c=36 then 36 else if m then(if c=43 then 32 else 45)else if c=45 then 32 else 43
def fmZ(c d:Int)(m:Bool):Int:=if c=89∧d=48 then 32 else if c=84∨(c=73∧m=false)∨(c=82∧m=true)then puZ (d-48) m else d
def letZ(b:Int):Bool:=decide (65≤b∧b≤90∨97≤b∧b≤122)
def oneZ(c b:Int):Bool:=if c=88∨b=32 then true else if c=57 then jg6 b else letZ b
def G2:Env:=(Env.nil.add 203 (sp2 s40)).add 201 (sp2 s75)
theorem ok_G2:jao Tryz.prog G2:=jak (jak ja7 ok40) ok75
def drGo(s:E):E→Int
 | []=>0
 | c::r=>if hasZ [36,83,43,45] c=true∧2≤cntZ s c then c else drGo s r
def drZ(s:E):Int:=drGo s s
def je9(s:E):Bool:=s.all (fun c=>hasZ [65,88,57] c) && (hasZ s 65 || hasZ s 88)
def crZ(s:E):Bool:=decide (2≤s.length) && (decide (s.drop (s.length-2)=[67,82]) || decide (s.drop (s.length-2)=[68,66]))
theorem has_dr{c:Int}:hasZ [36,83,43,45] c=true↔c=36∨c=83∨c=43∨c=45:=by simp[jcl]
theorem jfn(l:E):List.drop (Int.toNat 0) l=l:=rfl
def V96_0:Y×Int×Int→U:=fun(s,b,i)=> [S s,C8 b,I i]
def B96_0:Y×Int×Int→F:=fun _=> []
def S96_0:LSpec (Y×Int×Int) where
 live:=[0,2,3]
 mid:=[]
 n:=60
 dec vs bs:=match vs,bs with | [.string s,.int .u8 b,.int .i64 i],[]=>some (s,b,i) | _,_=>none
 pre:=fun(s,b,i)=>decide (0≤i∧i≤s.size∧s.size≤9223372036854775807)
 fin:=fun(s,b,i) Z=>(bif drGo (bz s) ((bz s).drop i.toNat)==0 then Z (.exit 0) [S s,C8 b,I s.size] []else(∀i',Z .ret [S s,C8 (drGo (bz s) ((bz s).drop i.toNat)),I i'] []))
def b8(a b c:Bool)(d e:Prop):Prop:=bif a&&b then bif c then d else e else False
def j0(d e:Bool)(b c:Y)(h:Exit→U→F→Prop)(a:Int)(l:U)(i:Nat)(f g:Prop)(j k:Value):Prop:=bif cv b a then b8 (a7 c a) d e f g else h (.exit i) (.string b::j::k::l) []
def eu(d:Y)(e:Int)(c:O)(a b:UInt8):Bool:=hasZ (bz ⟨(a::b::c).toArray⟩) (jas d e.toNat)
def aw(a:Y):Bool:=decide (a.size≤9223372036854775807)
theorem r96_0(s:Y)(b:Int)(i:Int)(jk:Tmps)(R:Exit→U→F→Prop):(jbz Tryz.prog G2 noL Tryz.f205.ntmps (ja9 Tryz.f205 0) (tl S96_0.live (V96_0 (s,b,i)) jk) (ml S96_0.mid (B96_0 (s,b,i))) S96_0.n fun e t' m' _=>R e (List.map t' S96_0.live) (List.map m' S96_0.mid))=(j0 (bif eu s i [43,45] 36 83 then a7 s i&& (aw s&&true)else true) (eu s i [43,45] 36 83&&bn (cntZ (bz s) (jas s i.toNat):Int) 2) s s R i [] 0 (bif a7 s i then R .ret [S s,.int .u8 (jas s i.toNat),ak i] []else False) (R .normal (S s::au b::c9 i) []) (au b) (ak i)):=by kernel_rfl
theorem l96_0:LOKf Tryz.prog (oneL 0 S96_0.h) Tryz.f205:=by
 refine jbk (h:=S96_0.h) (by kernel_rfl) (jb0 ok_G2 hmix (by kernel_rfl) (ja6 _) S96_0 V96_0 B96_0 (fun(s,b,i)=>(s.size-i).toNat) ?_ ?_ ?_)
 ·intro vs bs s h;simp only[S96_0]at h;split at h
  all_goals first | (cases h;exact⟨rfl,rfl⟩) | cases h
 ·exact fun _ _ _ h=>h
 ·intro⟨s,b,i⟩ jk Z hp hf;rw[r96_0];delta b8 av a7 cv j0 ak au bm du c9 bn eu aw;simp only[S96_0]at hp hf;simp only[jae]at hp;apply cond_intro<;>intro h
  ·have h:=jab h;rw[jeg hp.1 h]at hf;have h1:decide (0≤i∧i<(s.size:Int))=true:=jaa (by omega);have h2:decide (s.size≤9223372036854775807)=true:=jaa (by omega);have k:bz ⟨#[36,83,43,45]⟩=[36,83,43,45]:=rfl;rw[k];refine c_t (by rw[h1,h2];cases hasZ [36,83,43,45] (jas s i.toNat) <;>rfl) ?_;rw[drGo]at hf;refine cond_intro (fun hd=>c_t h1 ?_) (fun hd=> ?_)
   ·simp only[jaf,jae]at hd
    have hne:(jas s i.toNat==0)=false:=by
     have:=has_dr.1 hd.1;simp only[beq_eq_false_iff_ne];omega
    rw[if_pos ⟨hd.1,by omega⟩,hne]at hf;exact hf i
   ·have hd':¬(hasZ [36,83,43,45] (jas s i.toNat)=true∧2≤cntZ (bz s) (jas s i.toNat)):=by
     rintro ⟨q1,q2⟩;rw[q1,Bool.true_and,decide_eq_false_iff_not]at hd;omega
    rw[if_neg hd']at hf;rw[w64 (by omega)];exact⟨(s,b,i+1),rfl,rfl,by simp only[S96_0,jae];omega,by simp only;omega,hf⟩
  ·have h:=jac h;rw[jdc (by omega)]at hf;obtain rfl:i=s.size:=by omega
   exact hf
def s96(s:Y):Bool×Value:=(decide (s.size≤9223372036854775807),.int .u8 (drZ (bz s)))
theorem fn96:Fn1 Tryz.prog 205 Tryz.f205:= .m Tryz.func205
theorem v96(s:Y)(R:Value→Prop):ja4 Tryz.prog G2 (oneL 0 S96_0.h) Tryz.f205 [Enc.enc s] (fun _=>none) 0 (fun v _ _=>R v)=(er (S96_0.pre (s,((0:Int),(0:Int)))) (drGo (bz s) (a0 s 0)==0) (Tmps→R (au 0)) (Int→Tmps→R (.int .u8 (drGo (bz s) (a0 s 0))))):=by kernel_rfl
theorem ok96:jal Tryz.prog 205 (sp1 s96):=by
 refine jcr ok_G2 hmix fn96 l96_0 jag fun s hc=> ?_
 rw[jb5,v96];delta er a0 au;have hc:(s.size≤9223372036854775807):=jab hc;dsimp only[s96];refine c_t (by simp only[S96_0,jae];omega) ?_;rw[jfn];refine cond_intro (fun h _=> ?_) (fun h _ _=>rfl);rw[drZ,eq_of_beq h]
def V73_0:Y×Bool×Int→U:=fun(s,b,i)=> [S s,B b,I i]
def B73_0:Y×Bool×Int→F:=fun _=> []
def S73_0:LSpec (Y×Bool×Int) where
 live:=[0,2,3]
 mid:=[]
 n:=60
 dec vs bs:=match vs,bs with | [.string s,.bool b,.int .i64 i],[]=>some (s,b,i) | _,_=>none
 pre:=fun(s,b,i)=>decide (0≤i∧i≤s.size∧s.size≤9223372036854775807)
 fin:=fun(s,b,i) Z=>(bif ((bz s).drop i.toNat).all (fun c=>hasZ [65,88,57] c)then Z (.exit 0) [S s,B b,I s.size] []else(∀i',Z .ret [S s,B false,I i'] []))
def b7(b:Bool)(a:Y)(d:U)(c:Value):U:= .string a:: .bool b::c::d
theorem r73_0(s:Y)(b:Bool)(i:Int)(jk:Tmps)(R:Exit→U→F→Prop):(jbz Tryz.prog G2 noL Tryz.f199.ntmps (ja9 Tryz.f199 0) (tl S73_0.live (V73_0 (s,b,i)) jk) (ml S73_0.mid (B73_0 (s,b,i))) S73_0.n fun e t' m' _=>R e (List.map t' S73_0.live) (List.map m' S73_0.mid))=(bif cv s i then ek (a7 s i) (!eu s i [57] 65 88) R [] [B false,ak i] (S s::B b::c9 i) (S s)else R (.exit 0) (b7 b s [] (ak i)) []):=by kernel_rfl
theorem l73_0:LOKf Tryz.prog (oneL 0 S73_0.h) Tryz.f199:=by
 refine jbk (h:=S73_0.h) (by kernel_rfl) (jb0 ok_G2 hmix (by kernel_rfl) (ja6 _) S73_0 V73_0 B73_0 (fun(s,b,i)=>(s.size-i).toNat) ?_ ?_ ?_)
 ·intro vs bs s h;simp only[S73_0]at h;split at h
  all_goals first | (cases h;exact⟨rfl,rfl⟩) | cases h
 ·exact fun _ _ _ h=>h
 ·intro⟨s,b,i⟩ jk Z hp hf;rw[r73_0];delta b7 ak ek bm du c9 eu av a7 cv;simp only[S73_0]at hp hf;simp only[jae]at hp;apply cond_intro<;>intro h
  ·have h:=jab h;rw[jeg hp.1 h,List.all_cons]at hf;have k:bz ⟨#[65,88,57]⟩=[65,88,57]:=rfl;rw[k];refine c_t (jaa (by omega)) ?_;apply cond_intro<;>intro hd
   ·simp only[Bool.not_eq_true']at hd;rw[hd]at hf;exact hf i
   ·simp only[Bool.not_eq_false']at hd;rw[hd,Bool.true_and]at hf;rw[w64 (by omega)];exact⟨(s,b,i+1),rfl,rfl,by simp only[S73_0,jae];omega,by simp only;omega,hf⟩
  ·have h:=jac h;rw[jdc (by omega)]at hf;obtain rfl:i=s.size:=by omega
   exact hf
def s73(s:Y):Bool×Value:=(decide (s.size≤9223372036854775807),.bool (je9 (bz s)))
theorem fn73:Fn1 Tryz.prog 199 Tryz.f199:= .m Tryz.func199
def ic(a:Value→Prop):Prop:=Int→Tmps→a (.bool false)
theorem v73(s:Y)(R:Value→Prop):ja4 Tryz.prog G2 (oneL 0 S73_0.h) Tryz.f199 [Enc.enc s] (fun _=>none) 0 (fun v _ _=>R v)=(er (S73_0.pre (s,(false,(0:Int)))) ((a0 s 0).all (fun a:Int=>hasZ [65,88,57] a)) (Tmps→az (aw s&& (hasZ (bz s) 65 || aw s&&true)) (B (hasZ (bz s) 65 || hasZ (bz s) 88)) R) (ic R)):=by kernel_rfl
theorem ok73:jal Tryz.prog 199 (sp1 s73):=by
 refine jcr ok_G2 hmix fn73 l73_0 jag fun s hc=> ?_
 rw[jb5,v73];delta er ic az aw a0;have hc:(s.size≤9223372036854775807):=jab hc;dsimp only[s73];refine c_t (by simp only[S73_0,jae];omega) ?_;rw[jfn];refine cond_intro (fun h _=>c_t (by rw[jaa hc];cases hasZ (bz s) 65<;>rfl) ?_) (fun h _ _=> ?_)
 ·simp only[je9,h,Bool.true_and]
 ·simp only[je9,h,Bool.false_and]
def s101(s:Y):Bool×Value:=(decide (s.size≤9223372036854775807),.bool (crZ (bz s)))
theorem fn101:Fn1 Tryz.prog 204 Tryz.f204:= .m Tryz.func204
def fx(a b:Y):Bool:=a.toList==b.toList
def gk(a:Y):Int:=IntKind.i64.wrap (av a-2)
def bv(a b:Int)(c:Nat):Bool:=decide (0≤a∧a≤b∧b≤(c:Int))
theorem v101(s:Y)(R:Value→Prop):ja4 Tryz.prog G2 noL Tryz.f204 [Enc.enc s] (fun _=>none) 0 (fun v _ _=>R v)=(az (bif bn (av s) 2 then bv (gk s) (av s) s.size&& (fx (s.extract (gk s).toNat s.size) ⟨#[67,82]⟩ || bv (gk s) (av s) s.size&&true)else true) (B (bn (av s) 2&& (fx (s.extract (gk s).toNat s.size) ⟨#[67,82]⟩ || fx (s.extract (gk s).toNat s.size) ⟨#[68,66]⟩))) R):=by kernel_rfl
theorem ok101:jal Tryz.prog 204 (sp1 s101):=by
 refine jcr ok_G2 hmix fn101 jai jag fun s hc=> ?_
 rw[jb5,v101];delta az fx av gk bn bv;have hc:(s.size≤9223372036854775807):=jab hc;dsimp only[s101];have e:((s.size:Int)-2).toNat=s.size-2:=by omega
 have ex:bz (s.extract (s.size-2) s.size)=(bz s).drop (s.size-2):=by rw[jck,List.take_of_length_le (by rw[jax];omega)]
 have k1:bz ⟨#[67,82]⟩=[67,82]:=rfl;have k2:bz ⟨#[68,66]⟩=[68,66]:=rfl;rw[w64 (by omega),e,jdu,jdu,ex,k1,k2];by_cases h2:2≤s.size
 ·have d1:decide ((s.size:Int)≥2)=true:=jaa (by omega);have d2:decide (0≤(s.size:Int)-2∧(s.size:Int)-2≤s.size∧(s.size:Int)≤s.size)=true:=jaa (by omega);rw[d1,d2];refine c_t (by simp) ?_;simp[crZ,h2]
 ·have d1:decide ((s.size:Int)≥2)=false:=jad (by omega);rw[d1];refine c_t rfl ?_;simp[crZ,h2]
def cdGo:E→Int→Int→Bool×Int×Int
 | [],n,i=>(true,n,i)
 | c::r,n,i=>if jg6 c=true then(if 1≤n*10+(c-48)∧n*10+(c-48)≤32 then cdGo r (n*10+(c-48)) (i+1)else(false,0,0))else(true,n,i)
def ctP(l:E)(i:Int):Prop:=(cdGo (l.drop i.toNat) 0 i).1=true∧1≤(cdGo (l.drop i.toNat) 0 i).2.1∧(cdGo (l.drop i.toNat) 0 i).2.2<l.length∧l.getD (cdGo (l.drop i.toNat) 0 i).2.2.toNat 0=41
instance (l:List Int)(i:Int):Decidable (ctP l i):=by unfold ctP;infer_instance
def ctZ(l:E)(i:Int):Int×Int:=if ctP l i then((cdGo (l.drop i.toNat) 0 i).2.1,(cdGo (l.drop i.toNat) 0 i).2.2+1)else(0,0)
theorem jge:∀(l:E)(n i:Int),0≤n∧n≤32→(cdGo l n i).1=true→0≤(cdGo l n i).2.1∧(cdGo l n i).2.1≤32∧i≤(cdGo l n i).2.2∧(cdGo l n i).2.2≤i+l.length
 | [],n,i,h,_=>by simp only[cdGo,List.length_nil];omega
 | c::r,n,i,h,hok=>by
  simp only[cdGo]at hok ⊢;split
  ·rename_i hd;rw[if_pos hd]at hok;split
   ·rename_i hq;rw[if_pos hq]at hok;have:=jge r _ _ (by omega) hok;simp only[List.length_cons];omega
   ·rename_i hq;rw[if_neg hq]at hok;cases hok
  ·simp only[List.length_cons];omega
def V81_0:Y×Int×Int×Int×Int→U:=fun(s,r1,r2,n,i)=> [S s,I r1,I r2,I n,I i]
def B81_0:Y×Int×Int×Int×Int→F:=fun _=> []
def S81_0:LSpec (Y×Int×Int×Int×Int) where
 live:=[0,4,5,6,7]
 mid:=[]
 n:=80
 dec vs bs:=match vs,bs with | [.string s,.int .i64 r1,.int .i64 r2,.int .i64 n,.int .i64 i],[]=>some (s,r1,r2,n,i) | _,_=>none
 pre:=fun(s,r1,r2,n,i)=>decide (0≤i∧i≤s.size∧s.size≤9223372036854775807∧0≤n∧n≤32)
 fin:=fun(s,r1,r2,n,i) Z=>(bif (cdGo ((bz s).drop i.toNat) n i).1 then Z (.exit 0) [S s,I r1,I r2,I (cdGo ((bz s).drop i.toNat) n i).2.1,I (cdGo ((bz s).drop i.toNat) n i).2.2] []else(∀n' i',Z .ret [S s,I 0,I 0,I n',I i'] []))
def gx(a b c d:Bool)(e f:Prop):Prop:=bif bif a then b else c then bif d then e else f else False
def kj(a b c:Bool)(e:Y)(d:Exit→U→F→Prop)(g i:Int)(j:Prop)(f h:Value):Prop:=bif a then cu b true (b || c) (d .ret [.string e,f,ak g,h,ak i] []) j else False
def jd(a b d:Int)(c:IntKind):Int:=IntKind.i64.wrap (IntKind.i64.wrap (a*b)+IntKind.i64.wrap (c.wrap (d-48)))
def aq(a b:Int):Bool:=decide (a>b)
theorem r81_0(s:Y)(r1:Int)(r2:Int)(n:Int)(i:Int)(jk:Tmps)(R:Exit→U→F→Prop):(jbz Tryz.prog G2 noL Tryz.f262.ntmps (ja9 Tryz.f262 0) (tl S81_0.live (V81_0 (s,r1,r2,n,i)) jk) (ml S81_0.mid (B81_0 (s,r1,r2,n,i))) S81_0.n fun e t' m' _=>R e (List.map t' S81_0.live) (List.map m' S81_0.mid))=(gx (cv s i) (a7 s i&& (bif bn (jas s i.toNat) 48 then a7 s i&&true else true)) true (cv s i&& (bn (jas s i.toNat) 48&&decide (jas s i.toNat≤57))) (kj (a7 s i) (al (jd n 10 (jas s i.toNat) .u8) 1) (aq (jd n 10 (jas s i.toNat) .u8) 32) s R 0 i (R .normal (S s::ak r1::ak r2::I (jd n 10 (jas s i.toNat) .u8)::c9 i) []) (ak 0) (I (jd n 10 (jas s i.toNat) .u8))) (R (.exit 0) (S s::ak r1::ak r2::ar n i) [])):=by kernel_rfl
theorem l81_0:LOKf Tryz.prog (oneL 0 S81_0.h) Tryz.f262:=by
 refine jbk (h:=S81_0.h) (by kernel_rfl) (jb0 ok_G2 hmix (by kernel_rfl) (ja6 _) S81_0 V81_0 B81_0 (fun(s,r1,r2,n,i)=>(s.size-i).toNat) ?_ ?_ ?_)
 ·intro vs bs s h;simp only[S81_0]at h;split at h
  all_goals first | (cases h;exact⟨rfl,rfl⟩) | cases h
 ·exact fun _ _ _ h=>h
 ·intro⟨s,r1,r2,n,i⟩ jk Z hp hf;rw[r81_0];delta gx ak ar cu kj jd bm du c9 aq al av a7 bn cv;simp only[S81_0]at hp hf;simp only[jae]at hp;have h1:i<(s.size:Int)→decide (0≤i∧i<(s.size:Int))=true:=fun h=>jaa (by omega)
  refine c_t ?_ ?_
  ·by_cases hi:i<(s.size:Int)
   ·rw[jaa hi,h1 hi];cases decide (jas s i.toNat≥48) <;>rfl
   ·rw[jad hi];rfl
  apply cond_intro<;>intro h
  ·simp only[jaf,jae]at h;obtain⟨hi,hd1,hd2⟩:=h;rw[jeg hp.1 hi]at hf;refine c_t (h1 hi) (c_t (by simp) ?_);have hdig:jg6 (jas s i.toNat)=true:=jaa (by omega);rw[cdGo,if_pos hdig]at hf;rw[w8 (n:=jas s i.toNat-48) (by omega),w64 (n:=jas s i.toNat-48) (by omega),w64 (n:=n*10) (by omega),w64 (n:=n*10+(jas s i.toNat-48)) (by omega)];apply cond_intro<;>intro hd
   ·simp only[Bool.or_eq_true,jae]at hd;rw[if_neg (by omega)]at hf;exact hf _ i
   ·simp only[Bool.or_eq_false_iff,decide_eq_false_iff_not]at hd;rw[if_pos (by omega)]at hf;rw[w64 (by omega)];exact⟨(s,r1,r2,_,i+1),rfl,rfl,by simp only[S81_0,jae];omega,by simp only;omega,hf⟩
  ·by_cases hi:i<(s.size:Int)
   ·rw[jaa hi,Bool.true_and]at h
    have hdig:¬jg6 (jas s i.toNat)=true:=by
     intro hq;have:=jab hq;rw[jaa (by omega),jaa (by omega)]at h;cases h
    rw[jeg hp.1 hi,cdGo,if_neg hdig]at hf;exact hf
   ·rw[jdc (by omega)]at hf;exact hf
def s81(s:Y)(i:Int):Bool×Value:=(decide (0≤i∧i≤s.size∧s.size≤9223372036854775807),.tuple ⟨[.int .i64 (ctZ (bz s) i).1,.int .i64 (ctZ (bz s) i).2]⟩)
theorem fn81:Fn1 Tryz.prog 262 Tryz.f262:= .m Tryz.func262
def ay(a:U):Value:= .tuple ⟨a⟩
def ir(a:Y)(b:Int):Prod Int Int:=(cdGo (a0 a b) 0 b).snd
def dp(a b:Int):Bool:=decide (0≤a∧a<b)
theorem v81(s:Y)(i:Int)(R:Value→Prop):ja4 Tryz.prog G2 (oneL 0 S81_0.h) Tryz.f262 [Enc.enc s,Enc.enc i] (fun _=>none) 0 (fun v _ _=>R v)=(er (S81_0.pre (s,((0:Int),((0:Int),((0:Int),i))))) (cdGo (a0 s i) 0 i).fst (Tmps→cu (al (ir s i).fst 1) (bn (ir s i).snd (av s) || dp (ir s i).snd (av s) &&true) (al (ir s i).fst 1 || (bn (ir s i).snd (av s) || jas s (ir s i).snd.toNat !=41)) (R (ay (ar 0 0))) (R (ay [I (ir s i).fst,bp (ir s i).snd 1]))) (Int→Int→Tmps→R (ay (ar 0 0)))):=by kernel_rfl
theorem ok81:jal Tryz.prog 262 (sp2 s81):=by
 refine jil ok_G2 hmix fn81 l81_0 jag fun s i hc=> ?_
 rw[jb5,v81];delta er ay ak ar cu bq bp a0 ir bn av al dp;have hc:(0≤i∧i≤s.size∧s.size≤9223372036854775807):=jab hc;dsimp only[s81];refine c_t (by simp only[S81_0,jae];omega) ?_;refine cond_intro (fun h _=> ?_) (fun h _ _ _=> ?_)
 ·have hr:=jge ((bz s).drop i.toNat) 0 i (by omega) h;rw[List.length_drop,jax]at hr
  have hP:ctP (bz s) i↔1≤(cdGo ((bz s).drop i.toNat) 0 i).2.1∧(cdGo ((bz s).drop i.toNat) 0 i).2.2<s.size∧jas s (cdGo ((bz s).drop i.toNat) 0 i).2.2.toNat=41:=by
   simp only[ctP,h,true_and,jax,jfo]
  have hz:ctZ (bz s) i=if ctP (bz s) i then((cdGo ((bz s).drop i.toNat) 0 i).2.1,(cdGo ((bz s).drop i.toNat) 0 i).2.2+1)else(0,0):=rfl
  rw[hz];generalize cdGo ((bz s).drop i.toNat) 0 i=q at*;refine c_t ?_ (cond_intro (fun hd=> ?_) (fun hd=> ?_))
  ·by_cases h1:q.2.2<s.size
   ·rw[jaa (p:=0≤q.2.2∧q.2.2<(s.size:Int)) (by omega)];simp
   ·rw[jaa (p:=q.2.2≥(s.size:Int)) (by omega)];simp
  ·have hn:¬ctP (bz s) i:=by
    rw[hP];simp only[Bool.or_eq_true,jae,bne_iff_ne,ne_eq]at hd;omega
   rw[if_neg hn]
  ·have hn:ctP (bz s) i:=by
    rw[hP];simp only[Bool.or_eq_false_iff,decide_eq_false_iff_not,bne_eq_false_iff_eq]at hd;omega
   have:=hP.1 hn;rw[if_pos hn,w64 (by omega)]
 ·have hn:¬ctP (bz s) i:=fun hq=>by rw[hq.1]at h;cases h
  rw[ctZ,if_neg hn]
def kL:E:=[57,86,90,42,89,84,73,82,83,43,45,36,44,46,47,66,67,68,65,88]
def xpGo:E→Int→Int→E→E×Bool
 | [],st,_,out=>(out,decide (st=0))
 | c::r,st,n,out=>
  if st=1 then
   (if c=41 then(if 0<n then xpGo r 2 n out else([],false))
   else if jg6 c=true∧ ¬(n=0∧c=48)∧10*n+(c-48)≤32 then xpGo r 1 (10*n+(c-48)) out else([],false))
  else if c=41∨st=2∧c=40 then([],false)
  else if c=40 then xpGo r 1 0 out
  else if hasZ kL (upZ c)=true∧(out.length:Int)+(if st=2 then n else 1)≤32 then xpGo r 0 0 (out++rep1 (upZ c) (if st=2 then n else 1).toNat)else([],false)
theorem xp_put{c:Int}{r:E}{st n:Int}{out:E}(hs:st=2∨st=0∧c≠40):
  xpGo (c::r) st n out=if hasZ kL (upZ c)=true∧(out.length:Int)+(if st=2 then n else 1)≤32 then xpGo r 0 0 (out++rep1 (upZ c) (if st=2 then n else 1).toNat)else([],false):=by
 rw[xpGo,if_neg (by omega)];by_cases h1:c=41
 ·subst h1;rw[if_pos (.inl rfl),if_neg (by intro h;exact absurd h.1 (by decide))]
 ·by_cases h2:c=40
  ·subst h2;have:st=2:=by omega
   subst this;rw[if_pos (.inr ⟨rfl,rfl⟩),if_neg (by intro h;exact absurd h.1 (by decide))]
  ·rw[if_neg (by omega),if_neg h2]
theorem xp_num:∀(l:E)(n i:Int)(out:E),0≤n∧n≤32→
  if(cdGo l n i).1=true∧1≤(cdGo l n i).2.1∧(l.drop ((cdGo l n i).2.2-i).toNat).head?=some 41 then xpGo l 1 n out=xpGo (l.drop ((cdGo l n i).2.2-i+1).toNat) 2 (cdGo l n i).2.1 out
  else(xpGo l 1 n out).2=false
 | [],n,i,out,_=>by
  rw[if_neg (by simp[cdGo])];rfl
 | c::r,n,i,out,h=>by
  by_cases hd:jg6 c=true
  ·have hd':=jab hd;by_cases hq:1≤n*10+(c-48)∧n*10+(c-48)≤32
   ·have e:cdGo (c::r) n i=cdGo r (n*10+(c-48)) (i+1):=by rw[cdGo,if_pos hd,if_pos hq]
    have e2:xpGo (c::r) 1 n out=xpGo r 1 (n*10+(c-48)) out:=by
     rw[xpGo,if_pos rfl,if_neg (by omega),if_pos ⟨hd,by omega,by omega⟩,show 10*n+(c-48)=n*10+(c-48)by omega]
    have ih:=xp_num r (n*10+(c-48)) (i+1) out (by omega);rw[e,e2];by_cases hk:(cdGo r (n*10+(c-48)) (i+1)).1=true
    ·have hr:=jge r _ (i+1) (by omega) hk;have e3:((cdGo r (n*10+(c-48)) (i+1)).2.2-i).toNat=((cdGo r (n*10+(c-48)) (i+1)).2.2-(i+1)).toNat+1:=by omega
     have e4:((cdGo r (n*10+(c-48)) (i+1)).2.2-i+1).toNat=((cdGo r (n*10+(c-48)) (i+1)).2.2-(i+1)+1).toNat+1:=by omega
     rw[e3,e4,List.drop_succ_cons,List.drop_succ_cons];exact ih
    ·rw[if_neg (fun q=>hk q.1)]at ih ⊢;exact ih
   ·have e:cdGo (c::r) n i=(false,0,0):=by rw[cdGo,if_pos hd,if_neg hq]
    rw[e,if_neg (by simp)];rw[xpGo,if_pos rfl,if_neg (by omega),if_neg (by omega)]
  ·have e:cdGo (c::r) n i=(true,n,i):=by rw[cdGo,if_neg hd]
   rw[e];simp only[Int.sub_self,Int.toNat_zero,List.drop_zero,List.head?_cons,Option.some.injEq,true_and,Int.zero_add,Int.toNat_one,List.drop_succ_cons];rw[xpGo,if_pos rfl];by_cases h41:c=41
   ·rw[if_pos h41];by_cases hn:0<n
    ·rw[if_pos hn,if_pos ⟨by omega,h41⟩]
    ·rw[if_neg hn,if_neg (by omega)]
   ·rw[if_neg h41,if_neg (show¬(jg6 c=true∧ ¬(n=0∧c=48)∧10*n+(c-48)≤32)from fun q=>hd q.1),if_neg (show¬(1≤n∧c=41)from fun q=>h41 q.2)]
theorem xp_ct(l:E)(i:Int)(out:E)(hi:0≤i)(hl:i≤l.length):
  if ctP l i then xpGo (l.drop i.toNat) 1 0 out=xpGo (l.drop (ctZ l i).2.toNat) 2 (ctZ l i).1 out∧1≤(ctZ l i).1∧(ctZ l i).1≤32∧i<(ctZ l i).2∧(ctZ l i).2≤l.length
  else(xpGo (l.drop i.toNat) 1 0 out).2=false∧ctZ l i=(0,0):=by
 have N:=xp_num (l.drop i.toNat) 0 i out (by omega);by_cases hk:(cdGo (l.drop i.toNat) 0 i).1=true
 ·have hr:=jge _ 0 i (by omega) hk;rw[List.length_drop]at hr;have e1:i.toNat+((cdGo (l.drop i.toNat) 0 i).2.2-i).toNat=(cdGo (l.drop i.toNat) 0 i).2.2.toNat:=by omega
  have e2:i.toNat+((cdGo (l.drop i.toNat) 0 i).2.2-i+1).toNat=((cdGo (l.drop i.toNat) 0 i).2.2+1).toNat:=by omega
  have hh:((l.drop i.toNat).drop ((cdGo (l.drop i.toNat) 0 i).2.2-i).toNat).head?=some 41↔(cdGo (l.drop i.toNat) 0 i).2.2<l.length∧l.getD (cdGo (l.drop i.toNat) 0 i).2.2.toNat 0=41:=by
   rw[List.drop_drop,e1,List.head?_drop,List.getD_eq_getElem?_getD];constructor
   ·intro h;have:=(List.getElem?_eq_some_iff.1 h).1;exact⟨by omega,by rw[h];rfl⟩
   ·rintro ⟨h1,h2⟩;rw[List.getElem?_eq_getElem (by omega)]at h2 ⊢;simpa using h2
  by_cases hP:ctP l i
  ·rw[if_pos hP];rw[if_pos ⟨hk,hP.2.1,hh.2 ⟨hP.2.2.1,hP.2.2.2⟩⟩,List.drop_drop,e2]at N;have hz:ctZ l i=((cdGo (l.drop i.toNat) 0 i).2.1,(cdGo (l.drop i.toNat) 0 i).2.2+1):=if_pos hP;have:=hP.2.1;have:=hP.2.2.1;rw[hz];exact⟨N,by simp only;omega,by simp only;omega,by simp only;omega,by simp only;omega⟩
  ·rw[if_neg hP];rw[if_neg (fun q=>hP ⟨hk,q.2.1,(hh.1 q.2.2).1,(hh.1 q.2.2).2⟩)]at N;exact⟨N,if_neg hP⟩
 ·have hP:¬ctP l i:=fun q=>hk q.1
  rw[if_neg hP];rw[if_neg (fun q=>hk q.1)]at N;exact⟨N,if_neg hP⟩
def G3:Env:=(((((Env.nil.add 263 (sp1 s82)).add 203 (sp2 s40)).add 209 (sp2 s57)).add 205 (sp1 s96)).add 204 (sp1 s101)).add 262 (sp2 s81)
theorem ok_G3:jao Tryz.prog G3:=jak (jak (jak (jak (jak (jak ja7 ok82) ok40) ok57) ok96) ok101) ok81
def V45_0:Y×Y×Int×Y×Int→U:=fun(s,r,e,o,i)=> [S s,S r,I e,S o,I i]
def B45_0:Y×Y×Int×Y×Int→F:=fun _=> []
def S45_0:LSpec (Y×Y×Int×Y×Int) where
 live:=[0,2,3,4,5]
 mid:=[]
 n:=80
 dec vs bs:=match vs,bs with | [.string s,.string r,.int .i64 e,.string o,.int .i64 i],[]=>some (s,r,e,o,i) | _,_=>none
 pre:=fun(s,r,e,o,i)=>decide (0≤i∧i≤s.size∧s.size≤9223372036854775807∧o.size≤32)
 fin:=fun(s,r,e,o,i) Z=>(bif (xpGo ((bz s).drop i.toNat) 0 0 (bz o)).2 then Z (.exit 0) [S s,S r,I e,S (sz (xpGo ((bz s).drop i.toNat) 0 0 (bz o)).1),I s.size] []else(∀o' i',Z .ret [S s,S e0,I 30,S o',I i'] []))
def e7:Value:= .string ⟨#[]⟩
def kl(a:Y)(b c:Int):Y:=sz (rep1 (upZ (jas a b.toNat)) c.toNat)
def fy(a b:Int):Int:=IntKind.i64.wrap (a+b)
def je:E:=bz ⟨#[57,86,90,42,89,84,73,82,83,43,45,36,44,46,47,66,67,68,65,88]⟩
def gm(c:Bool)(a b:Int)(d e:Prop):Prop:=bif dp a b then bif c then d else e else False
def ie(a:Y)(b:Int):Int:=(ctZ (bz a) (bm b)).snd
def jp(a:Y)(b:Int):Int:=(ctZ (bz a) (bm b)).fst
theorem r45_0(s:Y)(r:Y)(e:Int)(o:Y)(i:Int)(jk:Tmps)(R:Exit→U→F→Prop):(jbz Tryz.prog G3 noL Tryz.f198.ntmps (ja9 Tryz.f198 0) (tl S45_0.live (V45_0 (s,r,e,o,i)) jk) (ml S45_0.mid (B45_0 (s,r,e,o,i))) S45_0.n fun e t' m' _=>R e (List.map t' S45_0.live) (List.map m' S45_0.mid))=(jc s s R i 40 [S s,S r,ak e,S o,ak i] (kj (decide (0≤bm i∧bm i≤av s∧s.size≤9223372036854775807)) (al (jp s i) 1) (bn (ie s i) (av s)) s R 30 (ie s i) (gm (dp (jas s (ie s i).toNat) 256) (ie s i) (av s) (cu (!hasZ je (upZ (jas s (ie s i).toNat))) true (!hasZ je (upZ (jas s (ie s i).toNat)) || aq (fy (av o) (jp s i)) 32) (R .ret [S s,e7,ak 30,S o,I (ie s i)] []) (bif decide (0≤jp s i∧jp s i≤1000)then ax (jeh (o.size+(kl s (ie s i) (jp s i)).size)) R [] [S s,S r,ak e,S (o++kl s (ie s i) (jp s i)),bp (ie s i) 1]else False)) False) e7 (S o)) (bif a7 s i then kj (dp (jas s i.toNat) 256) (!hasZ je (upZ (jas s i.toNat))) (aq (fy (av o) 1) 32) s R 30 i (ax (jeh (o.size+(kl s i 1).size)) R [] (S s::S r::ak e::S (o++kl s i 1)::c9 i)) e7 (S o)else False)):=by kernel_rfl
theorem l45_0:LOKf Tryz.prog (oneL 0 S45_0.h) Tryz.f198:=by
 refine jbk (h:=S45_0.h) (by kernel_rfl) (jb0 ok_G3 hmix (by kernel_rfl) (ja6 _) S45_0 V45_0 B45_0 (fun(s,r,e,o,i)=>(s.size-i).toNat) ?_ ?_ ?_)
 ·intro vs bs s h;simp only[S45_0]at h;split at h
  all_goals first | (cases h;exact⟨rfl,rfl⟩) | cases h
 ·exact fun _ _ _ h=>h
 ·intro⟨s,r,e,o,i⟩ jk Z hp hf;rw[r45_0];delta b6 av a7 cv jc cu ak kj e7 ax bm du c9 kl aq fy je dp gm bq bp ie jp bn al;simp only[S45_0]at hp hf;simp only[jae]at hp;apply cond_intro<;>intro h
  ·have h:=jab h;have hc:=jhy s i.toNat;rw[jeg hp.1 h]at hf;have k:bz ⟨#[57,86,90,42,89,84,73,82,83,43,45,36,44,46,47,66,67,68,65,88]⟩=kL:=rfl
   have put:∀(c:Int)(q:Nat),0≤c∧c<256→bz (o++sz (rep1 (upZ c) q))=bz o++rep1 (upZ c) q∧(o++sz (rep1 (upZ c) q)).size=o.size+q:=fun c q hc=>by
    have hb:IsB (rep1 (upZ c) q):=fun x hx=>by
     rw[List.eq_of_mem_replicate hx];unfold upZ;split<;>omega
    have e:bz (o++sz (rep1 (upZ c) q))=bz o++rep1 (upZ c) q:=by rw[bz_append,jji hb]
    exact⟨e,by rw[←jax,e,List.length_append,jax];simp[rep1]⟩
   refine c_t (jaa (by omega)) (cond_intro (fun h40=> ?_) (fun h40=> ?_))
   ·have h40:=eq_of_beq h40;rw[h40]at hf
    have e1:xpGo (40::(bz s).drop (i+1).toNat) 0 0 (bz o)=xpGo ((bz s).drop (i+1).toNat) 1 0 (bz o):=by
     rw[xpGo,if_neg (by decide),if_neg (by decide),if_pos rfl]
    rw[e1]at hf;rw[w64 (n:=i+1) (by omega),k];have N:=xp_ct (bz s) (i+1) (bz o) (by omega) (by rw[jax];omega);refine c_t (jaa (by omega)) (c_t (by simp) ?_);by_cases hP:ctP (bz s) (i+1)
    ·rw[if_pos hP]at N;obtain⟨n1,n2,n3,n4,n5⟩:=N;rw[n1]at hf;rw[jax]at n5;generalize (ctZ (bz s) (i+1)).1=n' at*;generalize (ctZ (bz s) (i+1)).2=a' at*;apply cond_intro<;>intro hd
     ·simp only[Bool.or_eq_true,jae]at hd;rw[jdc (by omega)]at hf;exact hf o a'
     ·simp only[Bool.or_eq_false_iff,decide_eq_false_iff_not]at hd;have hc2:=jhy s a'.toNat;obtain⟨u1,u2⟩:=put (jas s a'.toNat) n'.toNat hc2;rw[jeg (by omega) (show a'<s.size by omega),xp_put (.inl rfl),jax,if_pos rfl]at hf;rw[w64 (n:=(o.size:Int)+n') (by omega)];refine c_t (jaa (by omega)) (c_t (jaa hc2) (c_t (by simp) (cond_intro (fun hq=> ?_) (fun hq=> ?_))))
      ·rw[if_neg (by
        intro hz;rw[hz.1]at hq;simp only[Bool.not_true,Bool.false_or,jae]at hq;omega)]at hf
       exact hf o a'
      ·simp only[Bool.or_eq_false_iff,Bool.not_eq_false',decide_eq_false_iff_not]at hq;rw[if_pos ⟨hq.1,by omega⟩]at hf;refine c_t (jaa (by omega)) (c_t ?_ ?_)
       ·rw[jd4];simp only[jeh,Nat.ble_eq,rep1,List.length_replicate];omega
       ·rw[w64 (by omega)];refine⟨(s,r,e,_,a'+1),rfl,rfl,by simp only[S45_0,jae];omega,by simp only;omega,?_⟩;simp only[S45_0,u1];exact hf
    ·rw[if_neg hP]at N;rw[N.1]at hf;rw[N.2];exact hf o 0
   ·have h40:jas s i.toNat≠40:=by simpa using h40
    obtain⟨u1,u2⟩:=put (jas s i.toNat) (Int.toNat 1) hc;rw[xp_put (.inr ⟨rfl,h40⟩),jax,if_neg (show¬((0:Int)=2)by decide)]at hf;rw[k,w64 (n:=(o.size:Int)+1) (by omega)];refine c_t (jaa (by omega)) (c_t (jaa hc) (c_t (by simp) (cond_intro (fun hq=> ?_) (fun hq=> ?_))))
    ·rw[if_neg (by
      intro hz;rw[hz.1]at hq;simp only[Bool.not_true,Bool.false_or,jae]at hq;omega)]at hf
     exact hf o i
    ·simp only[Bool.or_eq_false_iff,Bool.not_eq_false',decide_eq_false_iff_not]at hq;rw[if_pos ⟨hq.1,by omega⟩]at hf;refine c_t ?_ ?_
     ·rw[jd4];simp only[jeh,Nat.ble_eq,rep1,List.length_replicate];omega
     ·rw[w64 (by omega)];refine⟨(s,r,e,_,i+1),rfl,rfl,by simp only[S45_0,jae];refine⟨by omega,by omega,by omega,?_⟩;rw[u2];omega,by simp only;omega,?_⟩;simp only[S45_0];rw[u1];exact hf
  ·have h:=jac h;rw[jdc (by omega)]at hf;obtain rfl:i=s.size:=by omega
   have:sz (bz o)=o:=jjr o;simp only[xpGo,this]at hf;exact hf
def exOK(l:E):Bool:=(xpGo l 0 0 []).2&& !(xpGo l 0 0 []).1.isEmpty
def eE(l:E):Int:=if exOK l=true then 0 else 30
def exZ(l:E):E:=if exOK l=true then(xpGo l 0 0 []).1 else []
theorem sz_empty(l:E):decide (bz (sz l)=bz ⟨#[]⟩)=l.isEmpty:=by
 cases l with
 | nil=>rfl
 | cons c r=>
  have:bz (sz (c::r))≠ []:=fun h=>by
   have:=congrArg List.length h;rw[jax,jd4]at this;simp at this
  exact jad this
def s45(s:Y):Bool×Value:=(decide (s.size≤9223372036854775807),.tuple ⟨[.string (sz (exZ (bz s))),.int .i64 (eE (bz s))]⟩)
theorem fn45:Fn1 Tryz.prog 198 Tryz.f198:= .m Tryz.func198
theorem v45(s:Y)(R:Value→Prop):ja4 Tryz.prog G3 (oneL 0 S45_0.h) Tryz.f198 [Enc.enc s] (fun _=>none) 0 (fun v _ _=>R v)=(er (S45_0.pre (s,(ByteArray.mk #[],((0:Int),(ByteArray.mk #[],(0:Int)))))) (xpGo (a0 s 0) 0 0 (bz ⟨#[]⟩)).snd (Tmps→(bif fx (sz (xpGo (a0 s 0) 0 0 (bz ⟨#[]⟩)).fst) ⟨#[]⟩then R (ay [e7,ak 30])else R (ay [S (sz (xpGo (a0 s 0) 0 0 (bz ⟨#[]⟩)).fst),ak 0]))) (Y→Int→Tmps→R (ay [S e0,ak 30]))):=by kernel_rfl
theorem ok45:jal Tryz.prog 198 (sp1 s45):=by
 refine jcr ok_G3 hmix fn45 l45_0 jag fun s hc=> ?_
 rw[jb5,v45];delta er ay ak a0 e7 fx;have hc:(s.size≤9223372036854775807):=jab hc;dsimp only[s45];refine c_t (by simp only[S45_0,jae];exact⟨by omega,by omega,by omega,by decide⟩) ?_;rw[jfn,show bz ⟨#[]⟩=[]from rfl];refine cond_intro (fun h x=> ?_) (fun h _ _ _=> ?_)
 ·rw[jdu,sz_empty];apply cond_intro<;>intro he
  ·have:exOK (bz s)=false:=by simp[exOK,he]
   simp only[exZ,eE,this];rfl
  ·have:exOK (bz s)=true:=by simp[exOK,he,h]
   simp only[exZ,eE,this,if_true]
 ·have:exOK (bz s)=false:=by simp[exOK,h]
  simp only[exZ,eE,this];rfl
def mk1(dr:Int)(seen:Bool)(c:Int):Int:=bif hasZ [57,89,84,73,82] c then 100 else bif hasZ [90,42] c || (dr !=0&& (c==dr&&seen))then 99
 else bif c==86 then 118 else bif c==36 then 109 else bif hasZ [83,43,45] c then 115 else 105
def mkGo(dr:Int):Bool→E→E
 | _,[]=> []
 | seen,c::r=>mk1 dr seen c::mkGo dr (seen || (dr !=0&&c==dr)) r
def jan(s:E):E:=if crZ s=true then s.take (s.length-2)else s
def jbg(s:E):E:=mkGo (drZ (jan s)) false (jan s)++(if crZ s=true then [115,115]else [])
def V69_0:Y×Y×Y×Int×U×Nat×Nat×Bool×Int→U:=fun(s,r,b,dr,d,m,cap,seen,i)=> [S s,S r,S b,C8 dr,.slice (some ⟨200,0,some 1⟩) m cap,B seen,I i]
def B69_0:Y×Y×Y×Int×U×Nat×Nat×Bool×Int→F:=fun(s,r,b,dr,d,m,cap,seen,i)=> [some ⟨d,5,true⟩]
def S69_0:LSpecA (Y×Y×Y×Int×U×Nat×Nat×Bool×Int) where
 live:=[0,2,3,4,5,6,7]
 mid:=[200]
 n:=260
 ap:=[(.tmp 5,200)]
 dec vs bs:=match vs,bs with | [.string s,.string r,.string b,.int .u8 dr,.slice (some ⟨200,0,some 1⟩) m cap,.bool seen,.int .i64 i],[some ⟨d,5,true⟩]=>some (s,r,b,dr,d,m,cap,seen,i) | _,_=>none
 pre:=fun(s,r,b,dr,d,m,cap,seen,i)=>jc7 d m cap&&decide (0≤i∧i≤b.size∧b.size≤1000∧i=m)
 fin:=fun(s,r,b,dr,d,m,cap,seen,i) Z=>∀d' cap' seen',jc7 d' b.size cap'=true→zc d' b.size=zc d m++mkGo dr seen ((bz b).drop i.toNat)→Z (.exit 0) [S s,S r,S b,C8 dr,.slice (some ⟨200,0,some 1⟩) b.size cap',B seen',I b.size] [some ⟨d',5,true⟩]
def jq(b:Bool)(k l m:Y)(j:Exit→U→F→Prop)(d i n:Int)(e:U)(f g h:Nat):Prop:=bif b || (d !=0 || true)then ft e f g 1 (∀a:Nat,∀c:U,fu c a g→ax (ck [(h,200)] (dy e [au i] c g 1)) j (bk (rlbL [(h,200)] (dy e [au i] c g 1)) 5) [.string k,.string l,.string m,au d,am 200 0 (g+1) a,.bool (b || d !=0&&b6 m n d),bp n 1])else False
theorem r69_0(s:Y)(r:Y)(b:Y)(dr:Int)(d:U)(m:Nat)(cap:Nat)(seen:Bool)(i:Int)(jk:Tmps)(R:Exit→U→F→Prop):(jbz Tryz.prog G3 noL Tryz.f133.ntmps (ja9 Tryz.f133 0) (tl S69_0.live (V69_0 (s,r,b,dr,d,m,cap,seen,i)) jk) (ml S69_0.mid (B69_0 (s,r,b,dr,d,m,cap,seen,i))) S69_0.n fun e t' m' _=>S69_0.out R e t' m')=(bif cv b i then bif a7 b i then bif eu b i [84,73,82] 57 89 then jq seen s r b R dr 100 i d cap m 286 else cu (eu b i [] 90 42) (bif dr !=0 then b6 b i dr || true else true) (eu b i [] 90 42 || dr !=0&& (b6 b i dr&&seen)) (jq seen s r b R dr 99 i d cap m 300) (bif b6 b i 86 then jq seen s r b R dr 118 i d cap m 302 else bif b6 b i 36 then jq seen s r b R dr 109 i d cap m 304 else bif eu b i [45] 83 43 then jq seen s r b R dr 115 i d cap m 306 else jq seen s r b R dr 105 i d cap m 305)else False else bw (e9 d 200 200) R [dv d 200 200 5] [S s,S r,S b,au dr,am 200 0 m cap,B seen,ak i] 0):=by kernel_rfl
theorem l69_0:LOKf Tryz.prog (oneL 0 S69_0.hA) Tryz.f133:=by
 refine jbk (h:=S69_0.hA) (by kernel_rfl) (jb1 ok_G3 hmix (by kernel_rfl) (ja6 _) S69_0 V69_0 B69_0 (fun(s,r,b,dr,d,m,cap,seen,i)=>(b.size-i).toNat) ?_ ?_ ?_)
 ·intro vs bs s h;simp only[S69_0]at h;split at h
  all_goals first | (cases h;exact⟨rfl,rfl⟩) | cases h
 ·exact fun⟨s,r,b,dr,d,m,cap,seen,i⟩ hp=>by
   simp only[S69_0,jaf]at hp;simp[V69_0,B69_0,S69_0,jaz,jbn,idsL,ids,jar (ja5.1 hp.1).plain]
 ·intro⟨s,r,b,dr,d,m,cap,seen,i⟩ jk Z hp hf;rw[r69_0];delta bw ak am au dv e9 cu gq jz ft ax bq bp b6 bk dy ck fu jq eu av a7 cv;simp only[S69_0]at hp hf;simp only[jaf,jae]at hp;obtain⟨hr,hp⟩:=hp;have hr:=ja5.1 hr;apply cond_intro<;>intro h
  ·have h:=jab h;have k1:bz ⟨#[57,89,84,73,82]⟩=[57,89,84,73,82]:=rfl;have k2:bz ⟨#[90,42]⟩=[90,42]:=rfl;have k3:bz ⟨#[83,43,45]⟩=[83,43,45]:=rfl;rw[k1,k2,k3];rw[jeg hp.1 h]at hf;refine c_t (jaa (by omega)) ?_
   have fin:∀(cap':Nat)(d':U)(x:Int),mk1 dr seen (jas b i.toNat)=x→RowP d' (m+1) cap'→zc d' (m+1)=zc d m++ [x]→
     S69_0.step V69_0 B69_0 (fun(s,r,b,dr,d,m,cap,seen,i)=>(b.size-i).toNat) (s,r,b,dr,d,m,cap,seen,i) Z Exit.normal [S s,S r,S b,C8 dr,.slice (some ⟨200,0,some 1⟩) (m+1) cap',B (seen || dr !=0&&jas b i.toNat==dr),I (IntKind.wrap .i64 (i+1))] [some ⟨d',5,true⟩]:=by
    intro cap' d' x hx g1 g2;rw[w64 (by omega)];refine⟨(s,r,b,dr,d',m+1,cap',_,i+1),rfl,rfl,by simp only[S69_0,jaf,jae];exact⟨ja5.2 g1,by omega⟩,by simp only;omega,?_⟩;intro d'' cap'' seen'' h1 h2;refine hf d'' cap'' seen'' h1 ?_;rw[h2,g2,mkGo,hx,List.append_assoc];rfl
   have sn:(seen || (dr !=0 || true))=true:=by simp
   have K:Nat→Nat→U→Prop:=fun _ _ _=>True
   apply cond_intro<;>intro h1
   ·exact c_t sn (je2 hr (by omega) 100 _ (fun cap' d'=>S69_0.step V69_0 B69_0 _ (s,r,b,dr,d,m,cap,seen,i) Z Exit.normal [S s,S r,S b,C8 dr,.slice (some ⟨200,0,some 1⟩) (m+1) cap',B (seen || dr !=0&&jas b i.toNat==dr),I (IntKind.wrap .i64 (i+1))] [some ⟨d',5,true⟩]) (fun cap' d' g1 g2=>fin cap' d' 100 (by simp only[mk1,h1,cond_true]) g1 g2))
   ·refine c_t (by cases hasZ [90,42] (jas b i.toNat) <;>cases(dr !=0) <;>simp) (cond_intro (fun h2=> ?_) (fun h2=> ?_))
    ·exact c_t sn (je2 hr (by omega) 99 _ (fun cap' d'=>S69_0.step V69_0 B69_0 _ (s,r,b,dr,d,m,cap,seen,i) Z Exit.normal [S s,S r,S b,C8 dr,.slice (some ⟨200,0,some 1⟩) (m+1) cap',B (seen || dr !=0&&jas b i.toNat==dr),I (IntKind.wrap .i64 (i+1))] [some ⟨d',5,true⟩]) (fun cap' d' g1 g2=>fin cap' d' 99 (by simp only[mk1,h1,h2,cond_true,cond_false]) g1 g2))
    ·apply cond_intro<;>intro h3
     ·exact c_t sn (je2 hr (by omega) 118 _ (fun cap' d'=>S69_0.step V69_0 B69_0 _ (s,r,b,dr,d,m,cap,seen,i) Z Exit.normal [S s,S r,S b,C8 dr,.slice (some ⟨200,0,some 1⟩) (m+1) cap',B (seen || dr !=0&&jas b i.toNat==dr),I (IntKind.wrap .i64 (i+1))] [some ⟨d',5,true⟩]) (fun cap' d' g1 g2=>fin cap' d' 118 (by simp only[mk1,h1,h2,h3,cond_true,cond_false]) g1 g2))
     ·apply cond_intro<;>intro h4
      ·exact c_t sn (je2 hr (by omega) 109 _ (fun cap' d'=>S69_0.step V69_0 B69_0 _ (s,r,b,dr,d,m,cap,seen,i) Z Exit.normal [S s,S r,S b,C8 dr,.slice (some ⟨200,0,some 1⟩) (m+1) cap',B (seen || dr !=0&&jas b i.toNat==dr),I (IntKind.wrap .i64 (i+1))] [some ⟨d',5,true⟩]) (fun cap' d' g1 g2=>fin cap' d' 109 (by simp only[mk1,h1,h2,h3,h4,cond_true,cond_false]) g1 g2))
      ·apply cond_intro<;>intro h5
       ·exact c_t sn (je2 hr (by omega) 115 _ (fun cap' d'=>S69_0.step V69_0 B69_0 _ (s,r,b,dr,d,m,cap,seen,i) Z Exit.normal [S s,S r,S b,C8 dr,.slice (some ⟨200,0,some 1⟩) (m+1) cap',B (seen || dr !=0&&jas b i.toNat==dr),I (IntKind.wrap .i64 (i+1))] [some ⟨d',5,true⟩]) (fun cap' d' g1 g2=>fin cap' d' 115 (by simp only[mk1,h1,h2,h3,h4,h5,cond_true,cond_false]) g1 g2))
       ·exact c_t sn (je2 hr (by omega) 105 _ (fun cap' d'=>S69_0.step V69_0 B69_0 _ (s,r,b,dr,d,m,cap,seen,i) Z Exit.normal [S s,S r,S b,C8 dr,.slice (some ⟨200,0,some 1⟩) (m+1) cap',B (seen || dr !=0&&jas b i.toNat==dr),I (IntKind.wrap .i64 (i+1))] [some ⟨d',5,true⟩]) (fun cap' d' g1 g2=>fin cap' d' 105 (by simp only[mk1,h1,h2,h3,h4,h5,cond_true,cond_false]) g1 g2))
  ·have h:=jac h;refine c_t (by rw[hr.good];rfl) ?_;rw[hr.rlb];obtain rfl:i=b.size:=by omega
   have e:b.size=m:=by omega
   have:=hf d cap seen (by rw[e];exact ja5.2 hr) (by rw[jdc (Int.le_refl _),e];simp[mkGo]);rw[e]at this ⊢;exact this
def s69(s:Y):Bool×Value:=(decide (s.size≤1000),.string (sz (jbg (bz s))))
theorem fn69:Fn1 Tryz.prog 133 Tryz.f133:= .m Tryz.func133
def dl(b:Bool)(a:Y)(c d:Prop):Prop:=bif aw a then bif b then c else d else False
def lr(c d:Y)(e:Value→Prop):Prop:=bif aw c then bif S69_0.toLSpec.pre (d,(ByteArray.mk #[],(c,(drZ (bz c),(([]:U),(0,(0,(false,(0:Int)))))))))then∀a:U,∀b:Nat,Bool→jc7 a c.size b=true→zc a c.size=zc [] 0++mkGo (drZ (bz c)) false (a0 c 0)→dw true a 260 (dl (crZ (bz d)) d (bif jcw a 0 c.size then az (jeh ((jb9 a 0 c.size).size+(ByteArray.mk #[115,115]).size)) (.string (jb9 a 0 c.size++⟨#[115,115]⟩)) e else False) (az (jcw a 0 c.size) (.string (jb9 a 0 c.size)) e))else False else False
def g8(a:Y):Y:=a.extract 0 (gk a).toNat
theorem v69(s:Y)(R:Value→Prop):ja4 Tryz.prog G3 (oneL 0 S69_0.hA) Tryz.f133 [Enc.enc s] (fun _=>none) 0 (fun v _ _=>R v)=(dl (crZ (bz s)) s (bif bv 0 (gk s) s.size then lr (g8 s) s R else False) (lr s s R)):=by kernel_rfl
theorem ok69:jal Tryz.prog 133 (sp1 s69):=by
 refine jcr ok_G3 hmix fn69 l69_0 jag fun s hc=> ?_
 rw[jb5,v69];delta aw dl dw az a0 lr av gk g8 bv;have hc:(s.size≤1000):=jab hc;dsimp only[s69];have hz0:zc [] 0=[]:=rfl;have kss:(⟨#[115,115]⟩:Y)=sz [115,115]:=rfl;refine c_t (jaa (by omega)) (cond_intro (fun hcr=> ?_) (fun hcr=> ?_))
 ·have h2:2≤s.size:=by
   simp only[crZ,jaf,jae,jax]at hcr;exact hcr.1
  have e:((s.size:Int)-2).toNat=s.size-2:=by omega
  rw[w64 (by omega),e];have eb:bz (s.extract 0 (s.size-2))=(bz s).take (s.size-2):=by rw[jck];simp
  have hbs:(s.extract 0 (s.size-2)).size=s.size-2:=by rw[←jax,eb,List.length_take,jax];omega
  generalize s.extract 0 (s.size-2)=b at*;refine c_t (jaa (by omega)) (c_t (jaa (by omega)) (c_t ?_ (fun d' cap' seen' h1 h3=> ?_)))
  ·simp only[S69_0,jaf,jae];exact⟨rfl,by omega⟩
  have h1:=ja5.1 h1;have hsz:(jb9 d' 0 b.size).size=b.size:=by rw[h1.str.2,jd4,jbw h1]
  refine c_t (by rw[jbe h1.plain];rfl) (fun _=>c_t (jaa (by omega)) (c_t hcr (c_t h1.str.1 (c_t ?_ ?_))))
  ·rw[hsz];simp only[jeh,Nat.ble_eq];show b.size+2≤_;omega
  ·rw[h1.str.2,h3,hz0,jfn,kss,←sz_append];simp only[jbg,jan,hcr,if_true,jax,eb,List.nil_append]
 ·refine c_t (jaa (by omega)) (c_t ?_ (fun d' cap' seen' h1 h3=> ?_))
  ·simp only[S69_0,jaf,jae];exact⟨rfl,by omega⟩
  have h1:=ja5.1 h1;refine c_t (by rw[jbe h1.plain];rfl) (fun _=>c_t (jaa (by omega)) (c_f hcr (c_t h1.str.1 ?_)));rw[h1.str.2,h3,hz0,jfn];simp[jbg,jan,hcr]
def G4:Env:=(((Env.nil.add 203 (sp2 s40)).add 201 (sp2 s75)).add 205 (sp1 s96)).add 204 (sp1 s101)
theorem ok_G4:jao Tryz.prog G4:=jak (jak (jak (jak ja7 ok40) ok75) ok96) ok101
def df1(s:E)(dr:Int):E→Int→Int→Int→Bool×Int×Int
 | [],_,f,l=>(true,f,l)
 | c::r,i,f,l=>bif c==dr then df1 s dr r (i+1) (if f<0 then i else f) i
  else bif hasZ [36,83,43,45] c&&decide (2≤cntZ s c)then(false,0,0)else df1 s dr r (i+1) f l
def d2Go(dr f:Int):E→Int→Bool
 | [],_=>true
 | c::r,i=> !(decide (i<f) &&c==86) && (!(decide (i>f) && (c !=dr&& !hasZ [44,46,47,66,86] c)) &&d2Go dr f r (i+1))
def jcn(s:E):Bool:=drZ s==0 || ((df1 s (drZ s) s 0 (-1) (-1)).1&&d2Go (drZ s) (df1 s (drZ s) s 0 (-1) (-1)).2.1 (s.take (df1 s (drZ s) s 0 (-1) (-1)).2.2.toNat) 0)
theorem jiz(s:E)(dr:Int):∀(r:E)(i f l:Int),0≤i→ -1≤f→f≤i→ -1≤l→l≤i→(df1 s dr r i f l).1=true→ -1≤(df1 s dr r i f l).2.1∧(df1 s dr r i f l).2.1≤i+r.length∧ -1≤(df1 s dr r i f l).2.2∧(df1 s dr r i f l).2.2≤i+r.length
 | [],i,f,l,h0,h1,h2,h3,h4,_=>by simp only[df1,List.length_nil];omega
 | c::r,i,f,l,h0,h1,h2,h3,h4,hk=>by
  simp only[df1,List.length_cons]at hk ⊢;cases hc:(c==dr)with
  | true=>
   rw[hc]at hk;simp only[cond_true]at hk ⊢;have:=jiz s dr r (i+1) _ i (by omega) (by split<;>omega) (by split<;>omega) (by omega) (by omega) hk;omega
  | false=>
   rw[hc]at hk;simp only[cond_false]at hk ⊢;cases hq:(hasZ [36,83,43,45] c&&decide (2≤cntZ s c))with
   | true=>rw[hq]at hk;cases hk
   | false=>
    rw[hq]at hk;simp only[cond_false]at hk ⊢;have:=jiz s dr r (i+1) f l (by omega) h1 (by omega) h3 (by omega) hk;omega
def V104_0:Y×Bool×Int×Int×Int×Int→U:=fun(s,b,dr,f,l,i)=> [S s,B b,C8 dr,I f,I l,I i]
def B104_0:Y×Bool×Int×Int×Int×Int→F:=fun _=> []
def S104_0:LSpec (Y×Bool×Int×Int×Int×Int) where
 live:=[0,2,3,4,5,6]
 mid:=[]
 n:=60
 dec vs bs:=match vs,bs with | [.string s,.bool b,.int .u8 dr,.int .i64 f,.int .i64 l,.int .i64 i],[]=>some (s,b,dr,f,l,i) | _,_=>none
 pre:=fun(s,b,dr,f,l,i)=>decide (0≤i∧i≤s.size∧s.size≤9223372036854775807∧ -1≤f∧f≤i∧ -1≤l∧l≤i)
 fin:=fun(s,b,dr,f,l,i) Z=>(bif (df1 (bz s) dr ((bz s).drop i.toNat) i f l).1 then Z (.exit 0) [S s,B b,C8 dr,I (df1 (bz s) dr ((bz s).drop i.toNat) i f l).2.1,I (df1 (bz s) dr ((bz s).drop i.toNat) i f l).2.2,I s.size] []else(∀f' l' i',Z .ret [S s,B false,C8 dr,I f',I l',I i'] []))
theorem r104_0(s:Y)(b:Bool)(dr:Int)(f:Int)(l:Int)(i:Int)(jk:Tmps)(R:Exit→U→F→Prop):(jbz Tryz.prog G4 noL Tryz.f264.ntmps (ja9 Tryz.f264 0) (tl S104_0.live (V104_0 (s,b,dr,f,l,i)) jk) (ml S104_0.mid (B104_0 (s,b,dr,f,l,i))) S104_0.n fun e t' m' _=>R e (List.map t' S104_0.live) (List.map m' S104_0.mid))=(jc s s R i dr (b7 b s (ak f::ar l i) (au dr)) (bif al f 0 then R .normal (b7 b s (ak i::br i i) (au dr)) []else R .normal (b7 b s (ak f::br i i) (au dr)) []) (ek (a7 s i&& (bif eu s i [43,45] 36 83 then a7 s i&& (aw s&&true)else true)) (eu s i [43,45] 36 83&&bn (cntZ (bz s) (jas s i.toNat):Int) 2) R [] (B false::au dr::ak f::ar l i) (b7 b s (ak f::br l i) (au dr)) (S s))):=by kernel_rfl
theorem l104_0:∀t m n K,S104_0.h t m n K→Ab.Sem Tryz.prog Tryz.f264.ntmps (.loop (ja9 Tryz.f264 0)) t m n K:=by
 refine jb0 ok_G4 hmix (by kernel_rfl) (ja6 _) S104_0 V104_0 B104_0 (fun(s,b,dr,f,l,i)=>(s.size-i).toNat) ?_ ?_ ?_
 ·intro vs bs s h;simp only[S104_0]at h;split at h
  all_goals first | (cases h;exact⟨rfl,rfl⟩) | cases h
 ·exact fun _ _ _ h=>h
 ·intro⟨s,b,dr,f,l,i⟩ jk Z hp hf;rw[r104_0];delta b6 av a7 cv jc ek b7 au bq bp ak br ar bn eu aw al;simp only[S104_0]at hp hf;simp only[jae]at hp;apply cond_intro<;>intro h
  ·have h:=jab h;rw[jeg hp.1 h,df1]at hf;have h1:decide (0≤i∧i<(s.size:Int))=true:=jaa (by omega);have k:bz ⟨#[36,83,43,45]⟩=[36,83,43,45]:=rfl;rw[k];refine c_t h1 (cond_intro (fun hc=> ?_) (fun hc=> ?_))
   ·rw[hc,cond_true]at hf;rw[w64 (n:=i+1) (by omega)];apply cond_intro<;>intro hd
    ·rw[if_pos (jab hd)]at hf;exact⟨(s,b,dr,i,i,i+1),rfl,rfl,by simp only[S104_0,jae];omega,by simp only;omega,hf⟩
    ·rw[if_neg (jac hd)]at hf;exact⟨(s,b,dr,f,i,i+1),rfl,rfl,by simp only[S104_0,jae];omega,by simp only;omega,hf⟩
   ·rw[hc,cond_false]at hf;refine c_t (by rw[h1,jaa hp.2.2.1];cases hasZ [36,83,43,45] (jas s i.toNat) <;>rfl) (cond_intro (fun hd=> ?_) (fun hd=> ?_))
    ·have hd':(hasZ [36,83,43,45] (jas s i.toNat) &&decide (2≤cntZ (bz s) (jas s i.toNat)))=true:=by
      simp only[jaf,jae]at hd ⊢;exact⟨hd.1,by omega⟩
     rw[hd',cond_true]at hf;exact hf f l i
    ·have hd':(hasZ [36,83,43,45] (jas s i.toNat) &&decide (2≤cntZ (bz s) (jas s i.toNat)))=false:=by
      cases q:hasZ [36,83,43,45] (jas s i.toNat)with
      | false=>rfl
      | true=>
       rw[q,Bool.true_and,decide_eq_false_iff_not]at hd;rw[Bool.true_and];exact jad (by omega)
     rw[hd',cond_false]at hf;rw[w64 (by omega)];exact⟨(s,b,dr,f,l,i+1),rfl,rfl,by simp only[S104_0,jae];omega,by simp only;omega,hf⟩
  ·have h:=jac h;rw[jdc (by omega)]at hf;obtain rfl:i=s.size:=by omega
   exact hf
def V104_2:Y×Bool×Int×Int×Int×Int→U:=fun(s,b,dr,f,l,i)=> [S s,B b,C8 dr,I f,I l,I i]
def B104_2:Y×Bool×Int×Int×Int×Int→F:=fun _=> []
def S104_2:LSpec (Y×Bool×Int×Int×Int×Int) where
 live:=[0,2,3,4,5,7]
 mid:=[]
 n:=90
 dec vs bs:=match vs,bs with | [.string s,.bool b,.int .u8 dr,.int .i64 f,.int .i64 l,.int .i64 i],[]=>some (s,b,dr,f,l,i) | _,_=>none
 pre:=fun(s,b,dr,f,l,i)=>decide (0≤i∧s.size≤9223372036854775807∧l≤s.size)
 fin:=fun(s,b,dr,f,l,i) Z=>(bif d2Go dr f (((bz s).take l.toNat).drop i.toNat) i then(∀i',Z (.exit 2) [S s,B b,C8 dr,I f,I l,I i'] [])else(∀i',Z .ret [S s,B false,C8 dr,I f,I l,I i'] []))
theorem r104_2(s:Y)(b:Bool)(dr:Int)(f:Int)(l:Int)(i:Int)(jk:Tmps)(R:Exit→U→F→Prop):(jbz Tryz.prog G4 noL Tryz.f264.ntmps (ja9 Tryz.f264 2) (tl S104_2.live (V104_2 (s,b,dr,f,l,i)) jk) (ml S104_2.mid (B104_2 (s,b,dr,f,l,i))) S104_2.n fun e t' m' _=>R e (List.map t' S104_2.live) (List.map m' S104_2.mid))=(bif al i l then gx (al i f) (a7 s i&&true) true (al i f&&b6 s i 86) (R .ret (b7 false s (ak f::ar l i) (au dr)) []) (ek (bif aq i f then a7 s i&& (bif jas s i.toNat !=dr then a7 s i&&true else true)else true) (aq i f&& (jas s i.toNat !=dr&& !eu s i [47,66,86] 44 46)) R [] (B false::au dr::ak f::ar l i) (b7 b s (ak f::br l i) (au dr)) (S s))else R (.exit 2) (b7 b s (ak f::ar l i) (au dr)) []):=by kernel_rfl
theorem l104_2:∀t m n K,S104_2.h t m n K→Ab.Sem Tryz.prog Tryz.f264.ntmps (.loop (ja9 Tryz.f264 2)) t m n K:=by
 refine jb0 ok_G4 hmix (by kernel_rfl) (ja6 _) S104_2 V104_2 B104_2 (fun(s,b,dr,f,l,i)=>(l-i).toNat) ?_ ?_ ?_
 ·intro vs bs s h;simp only[S104_2]at h;split at h
  all_goals first | (cases h;exact⟨rfl,rfl⟩) | cases h
 ·exact fun _ _ _ h=>h
 ·intro⟨s,b,dr,f,l,i⟩ jk Z hp hf;rw[r104_2];delta b7 au ak ar gx ek bq bp br eu aq av a7 b6 al;simp only[S104_2]at hp hf;simp only[jae]at hp;have k:bz ⟨#[44,46,47,66,86]⟩=[44,46,47,66,86]:=rfl;rw[k];apply cond_intro<;>intro h
  ·have h:=jab h;rw[bz_take_at hp.1 h hp.2.2,d2Go]at hf;have h1:decide (0≤i∧i<(s.size:Int))=true:=jaa (by omega);refine c_t (by rw[h1];cases decide (i<f) <;>rfl) (cond_intro (fun ha=> ?_) (fun ha=> ?_))
   ·rw[ha]at hf;exact hf i
   ·rw[ha,Bool.not_false,Bool.true_and]at hf;refine c_t (by rw[h1];cases decide (i>f) <;>cases(jas s i.toNat !=dr) <;>rfl) (cond_intro (fun hb=> ?_) (fun hb=> ?_))
    ·rw[hb]at hf;exact hf i
    ·rw[hb,Bool.not_false,Bool.true_and]at hf;rw[w64 (by omega)];exact⟨(s,b,dr,f,l,i+1),rfl,rfl,by simp only[S104_2,jae];omega,by simp only;omega,hf⟩
  ·have h:=jac h;rw[List.drop_eq_nil_of_le (by rw[List.length_take];omega)]at hf;exact hf i
theorem lok104:LOKf Tryz.prog (twoL 0 S104_0.h 2 S104_2.h) Tryz.f264:=lokf_two (by kernel_rfl) (by kernel_rfl) l104_0 l104_2
def s104(s:Y):Bool×Value:=(decide (s.size≤1000),.bool (jcn (bz s)))
theorem fn104:Fn1 Tryz.prog 264 Tryz.f264:= .m Tryz.func264
def j1(a:Y):Prod Bool (Prod Int Int):=df1 (bz a) (drZ (bz a)) (a0 a 0) 0 (-1) (-1)
theorem v104(s:Y)(R:Value→Prop):ja4 Tryz.prog G4 (twoL 0 S104_0.h 2 S104_2.h) Tryz.f264 [Enc.enc s] (fun _=>none) 0 (fun v _ _=>R v)=(dl (drZ (bz s)==0) s (R (B true)) (er (S104_0.pre (s,(false,(drZ (bz s),(-(1:Int),(-(1:Int),(0:Int))))))) (j1 s).fst (Tmps→(bif S104_2.pre (s,(false,(drZ (bz s),((j1 s).snd.fst,((j1 s).snd.snd,(0:Int))))))then bif d2Go (drZ (bz s)) (j1 s).snd.fst (((bz s).take (j1 s).snd.snd.toNat).drop (Int.toNat 0)) 0 then Int→Tmps→R (B true)else ic R else False)) (Int→Int→ic R))):=by kernel_rfl
theorem ok104:jal Tryz.prog 264 (sp1 s104):=by
 refine jcr ok_G4 hmix fn104 lok104 jag fun s hc=> ?_
 rw[jb5,v104];delta aw dl er ic a0 j1;have hc:(s.size≤1000):=jab hc;dsimp only[s104];refine c_t (jaa (by omega)) (cond_intro (fun h=>by simp only[jcn,h,Bool.true_or]) (fun h=>c_t (by simp only[S104_0,jae];omega) ?_));rw[jfn];have hr:=jiz (bz s) (drZ (bz s)) (bz s) 0 (-1) (-1) (by omega) (by omega) (by omega) (by omega) (by omega);rw[jax]at hr;simp only[jcn,h,Bool.false_or];generalize df1 (bz s) (drZ (bz s)) (bz s) 0 (-1) (-1)=q at*;refine cond_intro (fun h1 x=>c_t ?_ ?_) (fun h1 _ _ _ _=>by rw[h1];rfl)
 ·have:=hr h1;simp only[S104_2,jae];omega
 ·rw[jfn];exact cond_intro (fun h2 _ _=>by rw[h1,h2];rfl) (fun h2 _ _=>by rw[h1,h2];rfl)
def ldGo:E→Bool→Bool→Bool→Int→Bool×Bool×Bool×Int
 | [],fm,bh,_,dg=>(true,fm,bh,dg)
 | m::r,fm,bh,pt,dg=>bif m==118 then ldGo r fm bh true dg else bif m==100 then ldGo r true bh pt (dg+1)
  else bif m==99 then(bif fm then(false,false,false,0)else ldGo r fm (bh || pt) pt (dg+1))else ldGo r fm bh pt dg
def jed(b ms:E):Bool:=bif hasZ b 90&&hasZ b 42 then false else bif (hasZ b 90 || hasZ b 42) &&drZ b !=0 then false
 else(ldGo ms false false false 0).1&& (decide (1≤(ldGo ms false false false 0).2.2.2) && (decide ((ldGo ms false false false 0).2.2.2≤9) && !((ldGo ms false false false 0).2.2.1&& (ldGo ms false false false 0).2.1)))
def V105_0:Y×Y×Bool×Bool×Bool×Bool×Int×Int→U:=fun(s,ms,b,fm,bh,pt,dg,i)=> [S s,S ms,B b,B fm,B bh,B pt,I dg,I i]
def B105_0:Y×Y×Bool×Bool×Bool×Bool×Int×Int→F:=fun _=> []
def S105_0:LSpec (Y×Y×Bool×Bool×Bool×Bool×Int×Int) where
 live:=[0,1,4,5,6,7,8,9]
 mid:=[]
 n:=60
 dec vs bs:=match vs,bs with | [.string s,.string ms,.bool b,.bool fm,.bool bh,.bool pt,.int .i64 dg,.int .i64 i],[]=>some (s,ms,b,fm,bh,pt,dg,i) | _,_=>none
 pre:=fun(s,ms,b,fm,bh,pt,dg,i)=>decide (0≤i∧i≤s.size∧s.size=ms.size∧s.size≤1000∧0≤dg∧dg≤i)
 fin:=fun(s,ms,b,fm,bh,pt,dg,i) Z=>(bif (ldGo ((bz ms).drop i.toNat) fm bh pt dg).1 then(∀pt',Z (.exit 0) [S s,S ms,B b,B (ldGo ((bz ms).drop i.toNat) fm bh pt dg).2.1,B (ldGo ((bz ms).drop i.toNat) fm bh pt dg).2.2.1,B pt',I (ldGo ((bz ms).drop i.toNat) fm bh pt dg).2.2.2,I s.size] [])else(∀fm' bh' pt' dg' i',Z .ret [S s,S ms,B false,B fm',B bh',B pt',I dg',I i'] []))
def j2(b d e g:Bool)(a c:Y)(f:U):U:= .string a::b7 b c (.bool d:: .bool e::f) (.bool g)
theorem r105_0(s:Y)(ms:Y)(b:Bool)(fm:Bool)(bh:Bool)(pt:Bool)(dg:Int)(i:Int)(jk:Tmps)(R:Exit→U→F→Prop):(jbz Tryz.prog G4 noL Tryz.f265.ntmps (ja9 Tryz.f265 0) (tl S105_0.live (V105_0 (s,ms,b,fm,bh,pt,dg,i)) jk) (ml S105_0.mid (B105_0 (s,ms,b,fm,bh,pt,dg,i))) S105_0.n fun e t' m' _=>R e (List.map t' S105_0.live) (List.map m' S105_0.mid))=(jc s ms R i 118 (j2 b bh pt fm s ms (ar dg i)) (R .normal (j2 b bh true fm s ms (br dg i)) []) (bif a7 ms i then bif b6 ms i 100 then R .normal (j2 b bh pt true s ms (du dg::c9 i)) []else bif a7 ms i then bif b6 ms i 99 then bif fm then R .ret (S s::b7 false ms (B bh::B pt::ar dg i) (B fm)) []else ax (bh || true) R [] (j2 b (bh || pt) pt fm s ms (du dg::c9 i))else R .normal (j2 b bh pt fm s ms (br dg i)) []else False else False)):=by kernel_rfl
theorem l105_0:LOKf Tryz.prog (oneL 0 S105_0.h) Tryz.f265:=by
 refine jbk (h:=S105_0.h) (by kernel_rfl) (jb0 ok_G4 hmix (by kernel_rfl) (ja6 _) S105_0 V105_0 B105_0 (fun(s,ms,b,fm,bh,pt,dg,i)=>(s.size-i).toNat) ?_ ?_ ?_)
 ·intro vs bs s h;simp only[S105_0]at h;split at h
  all_goals first | (cases h;exact⟨rfl,rfl⟩) | cases h
 ·exact fun _ _ _ h=>h
 ·intro⟨s,ms,b,fm,bh,pt,dg,i⟩ jk Z hp hf;rw[r105_0];delta b6 av a7 cv jc b7 j2 bq bp ak br ax bm du c9 ar;simp only[S105_0]at hp hf;simp only[jae]at hp;apply cond_intro<;>intro h
  ·have h:=jab h;rw[jeg (s:=ms) hp.1 (by omega),ldGo]at hf;have h1:decide (0≤i∧i<(ms.size:Int))=true:=jaa (by omega);refine c_t h1 (cond_intro (fun q1=> ?_) (fun q1=>c_t h1 (cond_intro (fun q2=> ?_) (fun q2=>c_t h1 (cond_intro (fun q3=>cond_intro (fun q4=> ?_) (fun q4=>c_t (by simp) ?_)) (fun q3=> ?_))))))
   ·rw[q1,cond_true]at hf;rw[w64 (by omega)];exact⟨(s,ms,b,fm,bh,true,dg,i+1),rfl,rfl,by simp only[S105_0,jae];omega,by simp only;omega,hf⟩
   ·rw[q1,q2,cond_false,cond_true]at hf;rw[w64 (n:=dg+1) (by omega),w64 (by omega)];exact⟨(s,ms,b,true,bh,pt,dg+1,i+1),rfl,rfl,by simp only[S105_0,jae];omega,by simp only;omega,hf⟩
   ·rw[q1,q2,q3,cond_false,cond_false,cond_true,q4,cond_true]at hf;exact hf fm bh pt dg i
   ·rw[q1,q2,q3,cond_false,cond_false,cond_true,q4,cond_false]at hf;rw[w64 (n:=dg+1) (by omega),w64 (by omega),q4];exact⟨(s,ms,b,false,bh || pt,pt,dg+1,i+1),rfl,rfl,by simp only[S105_0,jae];omega,by simp only;omega,hf⟩
   ·rw[q1,q2,q3,cond_false,cond_false,cond_false]at hf;rw[w64 (by omega)];exact⟨(s,ms,b,fm,bh,pt,dg,i+1),rfl,rfl,by simp only[S105_0,jae];omega,by simp only;omega,hf⟩
  ·have h:=jac h;rw[jdc (by omega)]at hf;obtain rfl:i=s.size:=by omega
   exact hf pt
def s105(s:Y)(ms:Y):Bool×Value:=(decide (s.size=ms.size∧s.size≤1000),.bool (jed (bz s) (bz ms)))
theorem fn105:Fn1 Tryz.prog 265 Tryz.f265:= .m Tryz.func265
def km(b c:Bool)(a:Int):Bool:=bn a 1&& (decide (a≤9) && (bif b then !c else !false))
def j3(a:Y):Prod Bool (Prod Bool Int):=(ldGo (a0 a 0) false false false 0).snd
def ko(b:Bool)(a:Int):Bool:=bif bn a 1 then bif decide (a≤9)then b || true else true else true
theorem v105(s:Y)(ms:Y)(R:Value→Prop):ja4 Tryz.prog G4 (oneL 0 S105_0.h) Tryz.f265 [Enc.enc s,Enc.enc ms] (fun _=>none) 0 (fun v _ _=>R v)=(b8 (aw s) (bif hasZ (bz s) 90 then aw s&&true else true) (hasZ (bz s) 90&&hasZ (bz s) 42) (R (B false)) (bif aw s&& (bif hasZ (bz s) 90 then aw s&&true else aw s&& (bif hasZ (bz s) 42 then aw s&&true else true))then bif bif hasZ (bz s) 90 then drZ (bz s) !=0 else hasZ (bz s) 42&&drZ (bz s) !=0 then R (B false)else er (S105_0.pre (s,(ms,(false,(false,(false,(false,((0:Int),(0:Int))))))))) (ldGo (a0 ms 0) false false false 0).fst (Bool→Tmps→az (ko (j3 ms).snd.fst (j3 ms).snd.snd) (B (km (j3 ms).snd.fst (j3 ms).fst (j3 ms).snd.snd)) R) (Bool→Bool→Bool→Int→ic R)else False)):=by kernel_rfl
theorem ok105:jal Tryz.prog 265 (sp2 s105):=by
 refine jil ok_G4 hmix fn105 l105_0 jag fun s ms hc=> ?_
 rw[jb5,v105];delta b8 er ic az bn km a0 j3 ko aw;have hc:(s.size=ms.size∧s.size≤1000):=jab hc;dsimp only[s105];have d:decide (s.size≤9223372036854775807)=true:=jaa (by omega);rw[d];refine c_t (by cases hasZ (bz s) 90<;>rfl) (cond_intro (fun a=> ?_) (fun a=> ?_))
 ·simp only[jed,a,cond_true]
 ·refine c_t (by cases hasZ (bz s) 90<;>cases hasZ (bz s) 42<;>rfl) ?_;have e:(bif hasZ (bz s) 90 then drZ (bz s) !=0 else hasZ (bz s) 42&&drZ (bz s) !=0)=((hasZ (bz s) 90 || hasZ (bz s) 42) &&drZ (bz s) !=0):=by cases hasZ (bz s) 90<;>cases hasZ (bz s) 42<;>rfl
  rw[e];apply cond_intro<;>intro q
  ·simp only[jed,a,q,cond_true,cond_false]
  ·refine c_t (by simp only[S105_0,jae];omega) ?_;rw[jfn];simp only[jed,a,q,cond_false];generalize ldGo (bz ms) false false false 0=w;obtain⟨w1,fm,bh,dg⟩:=w;refine cond_intro (fun r pt' x=>c_t ?_ ?_) (fun r _ _ _ _ _ _=> ?_)
   ·simp only;cases decide (dg≥1) <;>cases decide (dg≤9) <;>cases bh<;>rfl
   ·simp only at r ⊢;rw[r];cases fm<;>cases bh<;>rfl
   ·simp only at r ⊢;rw[r];rfl
def b2i(b:Bool):Int:=if b then 1 else 0
def jc4(s:E):Int:=b2i (crZ s)+b2i (hasZ (jan s) 83)+b2i (hasZ (jan s) 43)+b2i (hasZ (jan s) 45)+cntZ (jan s) 84+cntZ (jan s) 73+cntZ (jan s) 82
def s76(s:Y):Bool×Value:=(decide (s.size≤1000),.int .i64 (jc4 (bz s)))
theorem fn76:Fn1 Tryz.prog 202 Tryz.f202:= .m Tryz.func202
theorem lokf_jvP{fn:Func}{l:List Nat}(h:(match fn.body with | some c=>blks (jV l) c | none=> [])=[]):LOKf Tryz.prog (jV l) fn:=by
 unfold LOKf;split
 ·rename_i c hc;simp only[hc]at h;exact jf3 c fun p hp=>by rw[h]at hp;cases hp
 ·trivial
def bo76(s:Y):Y:=bif crZ (bz s)then s.extract 0 (IntKind.wrap .i64 ((s.size:Int)-2)).toNat else s
def sg76(b:Y)(x c:Int):Int:=bif hasZ (bz b) c then IntKind.wrap .i64 (x+1)else x
def k76(b:Y)(x:Int)(R:Value→Prop):Prop:=dl (hasZ (bz b) 83 || true) b (bif aw b then cu (hasZ (bz b) 43) true (aw b) (bif hasZ (bz b) 45 || true then bif aw b then bif aw b then az (aw b) (bp (fy (IntKind.i64.wrap (sg76 b (sg76 b (sg76 b x 83) 43) 45+(cntZ (bz b) 84:Int))) (cntZ (bz b) 73:Int)) (cntZ (bz b) 82:Int)) R else False else False else False) False else False) False
theorem v76(s:Y)(R:Value→Prop):ja4 Tryz.prog G4 (jV [4]) Tryz.f202 [Enc.enc s] (fun _=>none) 0 (fun v _ _=>R v)=(dl (bif crZ (bz s)then bv 0 (gk s) s.size&&true&&true else true) s (k76 (bo76 s) (bif crZ (bz s)then 1 else 0) R) False):=by kernel_rfl
theorem b2i_r{q:Bool}:0≤b2i q∧b2i q≤1:=by cases q<;>decide
theorem sg_v{b:Y}{x c:Int}(h:0≤x∧x≤1000):sg76 b x c=x+b2i (hasZ (bz b) c):=by
 unfold sg76;cases hasZ (bz b) c
 ·simp[b2i]
 ·rw[cond_true,w64 (by omega)];rfl
theorem ok76:jal Tryz.prog 202 (sp1 s76):=by
 refine jcr ok_G4 hmix fn76 (lokf_jvP (l:=[4]) (by kernel_rfl)) jag fun s hc=> ?_
 rw[jb5,v76];delta aw dl bv av gk;have hc:(s.size≤1000):=jab hc;dsimp only[s76]
 have key:(bz (bo76 s)=jan (bz s)∧(bo76 s).size≤1000)∧(crZ (bz s)=true→2≤s.size):=by
  unfold bo76 jan;cases hcr:crZ (bz s)
  ·exact⟨⟨by simp,hc⟩,by simp⟩
  ·have h2:2≤s.size:=by
    simp only[crZ,jaf,jae,jax]at hcr;exact hcr.1
   have e:((s.size:Int)-2).toNat=s.size-2:=by omega
   rw[cond_true,w64 (n:=(s.size:Int)-2) (by omega),e];have eb:bz (s.extract 0 (s.size-2))=(bz s).take (s.size-2):=by rw[jck];simp
   have hbs:(s.extract 0 (s.size-2)).size=s.size-2:=by rw[←jax,eb,List.length_take,jax];omega
   exact⟨⟨by rw[eb];simp,by omega⟩,fun _=>h2⟩
 obtain⟨⟨hB,hb⟩,h2⟩:=key;refine c_t (jaa (by omega)) (c_t ?_ ?_)
 ·cases hcr:crZ (bz s)
  ·rfl
  ·have h2:=h2 hcr;rw[w64 (n:=(s.size:Int)-2) (by omega)];simp;omega
 generalize bo76 s=b at*;have n1:=jjc (bz b) 84;have n2:=jjc (bz b) 73;have n3:=jjc (bz b) 82;rw[jax]at n1 n2 n3;unfold k76;delta aw dl cu az bq bp fy;simp only[jaa (show b.size≤9223372036854775807 by omega),Bool.or_true,cond_true,jc4,←hB];have hx:(bif crZ (bz s)then(1:Int)else 0)=b2i (crZ (bz s)):=by cases crZ (bz s) <;>rfl
 have r:=fun q=>b2i_r (q:=q)
 have r0:=r (crZ (bz s));have r1:=r (hasZ (bz b) 83);have r2:=r (hasZ (bz b) 43);have r3:=r (hasZ (bz b) 45);rw[hx,sg_v (x:=b2i (crZ (bz s))) (by omega),sg_v (x:=b2i (crZ (bz s))+b2i (hasZ (bz b) 83)) (by omega),sg_v (by omega),w3 (by omega) (by omega) (by omega) (by omega)]
def G5:Env:=(Env.nil.add 203 (sp2 s40)).add 205 (sp1 s96)
theorem ok_G5:jao Tryz.prog G5:=jak (jak ja7 ok40) ok96
def stIn(dr i:Int):E→E→Int→Bool→Bool→Bool×Bool
 | c::cs,m::ms,j,a,b=>bif m==100 || (m==99 || c==dr)then stIn dr i cs ms (j+1) (a || decide (j<i)) (b || decide (j>i))else stIn dr i cs ms (j+1) a b
 | _,_,_,a,b=>(a,b)
def stGo(dr:Int)(body ms:E):E→Int→Bool
 | [],_=>true
 | c::r,i=>(bif !hasZ [36,83,43,45] c || c==dr then true else !((stIn dr i body ms 0 false false).1&& (stIn dr i body ms 0 false false).2)) &&stGo dr body ms r (i+1)
def je5(body ms:E):Bool:=stGo (drZ body) body ms body 0
def V106_2:Y×Y×Bool×Int×Int×Bool×Bool×Int→U:=fun(s,ms,b,dr,i,a,bh,j)=> [S s,S ms,B b,C8 dr,I i,B a,B bh,I j]
def B106_2:Y×Y×Bool×Int×Int×Bool×Bool×Int→F:=fun _=> []
def S106_2:LSpec (Y×Y×Bool×Int×Int×Bool×Bool×Int) where
 live:=[0,1,4,5,6,7,8,9]
 mid:=[]
 n:=200
 dec vs bs:=match vs,bs with | [.string s,.string ms,.bool b,.int .u8 dr,.int .i64 i,.bool a,.bool bh,.int .i64 j],[]=>some (s,ms,b,dr,i,a,bh,j) | _,_=>none
 pre:=fun(s,ms,b,dr,i,a,bh,j)=>decide (0≤j∧j≤s.size∧s.size=ms.size∧s.size≤1000)
 fin:=fun(s,ms,b,dr,i,a,bh,j) Z=>Z (.exit 2) [S s,S ms,B b,C8 dr,I i,B (stIn dr i ((bz s).drop j.toNat) ((bz ms).drop j.toNat) j a bh).1,B (stIn dr i ((bz s).drop j.toNat) ((bz ms).drop j.toNat) j a bh).2,I s.size] []
theorem r106_2(s:Y)(ms:Y)(b:Bool)(dr:Int)(i:Int)(a:Bool)(bh:Bool)(j:Int)(jk:Tmps)(R:Exit→U→F→Prop):(jbz Tryz.prog G5 noL Tryz.f266.ntmps (ja9 Tryz.f266 2) (tl S106_2.live (V106_2 (s,ms,b,dr,i,a,bh,j)) jk) (ml S106_2.mid (B106_2 (s,ms,b,dr,i,a,bh,j))) S106_2.n fun e t' m' _=>R e (List.map t' S106_2.live) (List.map m' S106_2.mid))=(j0 (b6 ms j 100 || a7 ms j&& (b6 ms j 99 || a7 s j&&true)) (b6 ms j 100 || (b6 ms j 99 || b6 s j dr)) s ms R j [au dr,ak i,B a,B bh,ak j] 2 (bif a || true then ax (bh || true) R [] (S s::b7 b ms (ak i::B (a || al j i)::B (bh || aq j i)::c9 j) (au dr))else False) (R .normal (S s::b7 b ms (ak i::B a::B bh::c9 j) (au dr)) []) (S ms) (B b)):=by kernel_rfl
theorem l106_2:∀t m n K,S106_2.h t m n K→Ab.Sem Tryz.prog Tryz.f266.ntmps (.loop (ja9 Tryz.f266 2)) t m n K:=by
 refine jb0 ok_G5 hmix (by kernel_rfl) (ja6 _) S106_2 V106_2 B106_2 (fun(s,ms,b,dr,i,a,bh,j)=>(s.size-j).toNat) ?_ ?_ ?_
 ·intro vs bs s h;simp only[S106_2]at h;split at h
  all_goals first | (cases h;exact⟨rfl,rfl⟩) | cases h
 ·exact fun _ _ _ h=>h
 ·intro⟨s,ms,b,dr,i,a,bh,j⟩ jk Z hp hf;rw[r106_2];delta b8 av a7 cv j0 b7 au bm du c9 ak ax aq al b6;simp only[S106_2]at hp hf;simp only[jae]at hp;apply cond_intro<;>intro h
  ·have h:=jab h;rw[jeg hp.1 h,jeg (s:=ms) hp.1 (by omega),stIn]at hf;have h1:decide (0≤j∧j<(ms.size:Int))=true:=jaa (by omega);have h2:decide (0≤j∧j<(s.size:Int))=true:=jaa (by omega);rw[w64 (n:=j+1) (by omega)];refine c_t (by rw[h1,h2];simp) (cond_intro (fun q=> ?_) (fun q=> ?_))
   ·rw[q,cond_true]at hf;exact c_t (by simp) (c_t (by simp) ⟨(s,ms,b,dr,i,_,_,j+1),rfl,rfl,by simp only[S106_2,jae];omega,by simp only;omega,hf⟩)
   ·rw[q,cond_false]at hf;exact⟨(s,ms,b,dr,i,a,bh,j+1),rfl,rfl,by simp only[S106_2,jae];omega,by simp only;omega,hf⟩
  ·have h:=jac h;rw[jdc (s:=s) (by omega)]at hf;obtain rfl:j=s.size:=by omega
   exact hf
theorem lk106:LOK Tryz.prog (oneL 2 S106_2.h) Tryz.f266.ntmps (ja9 Tryz.f266 0):=lok_one (by kernel_rfl) l106_2
def V106_0:Y×Y×Bool×Int×Int→U:=fun(s,ms,b,dr,i)=> [S s,S ms,B b,C8 dr,I i]
def B106_0:Y×Y×Bool×Int×Int→F:=fun _=> []
def S106_0:LSpec (Y×Y×Bool×Int×Int) where
 live:=[0,1,4,5,6]
 mid:=[]
 n:=100
 dec vs bs:=match vs,bs with | [.string s,.string ms,.bool b,.int .u8 dr,.int .i64 i],[]=>some (s,ms,b,dr,i) | _,_=>none
 pre:=fun(s,ms,b,dr,i)=>decide (0≤i∧i≤s.size∧s.size=ms.size∧s.size≤1000)
 fin:=fun(s,ms,b,dr,i) Z=>(bif stGo dr (bz s) (bz ms) ((bz s).drop i.toNat) i then Z (.exit 0) [S s,S ms,B b,C8 dr,I s.size] []else(∀i',Z .ret [S s,S ms,B false,C8 dr,I i'] []))
theorem r106_0(s:Y)(ms:Y)(b:Bool)(dr:Int)(i:Int)(jk:Tmps)(R:Exit→U→F→Prop):(jbz Tryz.prog G5 (oneL 2 S106_2.h) Tryz.f266.ntmps (ja9 Tryz.f266 0) (tl S106_0.live (V106_0 (s,ms,b,dr,i)) jk) (ml S106_0.mid (B106_0 (s,ms,b,dr,i))) S106_0.n fun e t' m' _=>R e (List.map t' S106_0.live) (List.map m' S106_0.mid))=(j0 (!eu s i [43,45] 36 83 || a7 s i&&true) (!eu s i [43,45] 36 83 || b6 s i dr) s s R i [au dr,ak i] 0 (R .normal (S s::b7 b ms (c9 i) (au dr)) []) (bif S106_2.pre (s,(ms,(b,(dr,(i,(false,(false,(0:Int))))))))then Tmps→ek ((stIn dr i (a0 s 0) (a0 ms 0) 0 false false).fst || true) ((stIn dr i (a0 s 0) (a0 ms 0) 0 false false).fst&& (stIn dr i (a0 s 0) (a0 ms 0) 0 false false).snd) R [] (b7 false ms [ak i] (au dr)) (S s::b7 b ms (c9 i) (au dr)) (S s)else False) (S ms) (B b)):=by kernel_rfl
theorem l106_0:∀t m n K,S106_0.h t m n K→Ab.Sem Tryz.prog Tryz.f266.ntmps (.loop (ja9 Tryz.f266 0)) t m n K:=by
 refine jb0 ok_G5 hmix (by kernel_rfl) lk106 S106_0 V106_0 B106_0 (fun(s,ms,b,dr,i)=>(s.size-i).toNat) ?_ ?_ ?_
 ·intro vs bs s h;simp only[S106_0]at h;split at h
  all_goals first | (cases h;exact⟨rfl,rfl⟩) | cases h
 ·exact fun _ _ _ h=>h
 ·intro⟨s,ms,b,dr,i⟩ jk Z hp hf;rw[r106_0];delta b8 av a7 cv j0 ek b7 au bm du c9 ak a0 b6 eu;simp only[S106_0]at hp hf;simp only[jae]at hp;apply cond_intro<;>intro h
  ·have h:=jab h;rw[jeg hp.1 h,stGo]at hf;have h1:decide (0≤i∧i<(s.size:Int))=true:=jaa (by omega);have k:bz ⟨#[36,83,43,45]⟩=[36,83,43,45]:=rfl;rw[k];refine c_t (by rw[h1];simp) (cond_intro (fun q=> ?_) (fun q=>c_t ?_ (fun x=>c_t (by simp) ?_)))
   ·rw[q,cond_true,Bool.true_and]at hf;rw[w64 (by omega)];exact⟨(s,ms,b,dr,i+1),rfl,rfl,by simp only[S106_0,jae];omega,by simp only;omega,hf⟩
   ·simp only[S106_2,jae];omega
   ·rw[q,cond_false]at hf;rw[jfn,jfn];apply cond_intro<;>intro w
    ·rw[w]at hf;exact hf i
    ·rw[w,Bool.not_false,Bool.true_and]at hf;rw[w64 (by omega)];exact⟨(s,ms,b,dr,i+1),rfl,rfl,by simp only[S106_0,jae];omega,by simp only;omega,hf⟩
  ·have h:=jac h;rw[jdc (by omega)]at hf;obtain rfl:i=s.size:=by omega
   exact hf
theorem lok106:LOKf Tryz.prog (oneL 0 S106_0.h) Tryz.f266:=jbk (by kernel_rfl) l106_0
def s106(s:Y)(ms:Y):Bool×Value:=(decide (s.size=ms.size∧s.size≤1000),.bool (je5 (bz s) (bz ms)))
theorem fn106:Fn1 Tryz.prog 266 Tryz.f266:= .m Tryz.func266
theorem v106(s:Y)(ms:Y)(R:Value→Prop):ja4 Tryz.prog G5 (oneL 0 S106_0.h) Tryz.f266 [Enc.enc s,Enc.enc ms] (fun _=>none) 0 (fun v _ _=>R v)=(dl (S106_0.pre (s,(ms,(false,(drZ (bz s),(0:Int)))))) s (bif stGo (drZ (bz s)) (bz s) (bz ms) (a0 s 0) 0 then Tmps→R (B true)else ic R) False):=by kernel_rfl
theorem ok106:jal Tryz.prog 266 (sp2 s106):=by
 refine jil ok_G5 hmix fn106 lok106 jag fun s ms hc=> ?_
 rw[jb5,v106];delta aw dl ic a0;have hc:(s.size=ms.size∧s.size≤1000):=jab hc;dsimp only[s106];refine c_t (jaa (by omega)) (c_t (by simp only[S106_0,jae];omega) ?_);rw[jfn];exact cond_intro (fun h _=>by simp only[je5,h]) (fun h _ _=>by simp only[je5,h])
theorem jju(dr:Int):∀(l:E)(b:Bool),(mkGo dr b l).length=l.length
 | [],_=>rfl
 | c::r,b=>by simp only[mkGo,List.length_cons,jju dr r]
theorem marks_len(l:E):(jbg l).length=l.length:=by
 unfold jbg jan;cases h:crZ l with
 | false=>simp[jju]
 | true=>
  have:2≤l.length:=by
   simp only[crZ,jaf,jae]at h;exact h.1
  simp[jju];omega
theorem mk1_rng(dr:Int)(b:Bool)(c:Int):0≤mk1 dr b c∧mk1 dr b c<256:=by
 unfold mk1;cases hasZ [57,89,84,73,82] c<;>cases(hasZ [90,42] c || (dr !=0&& (c==dr&&b))) <;>cases(c==86) <;>cases(c==36) <;>cases hasZ [83,43,45] c<;>decide
theorem mk_isB(dr:Int):∀(l:E)(b:Bool),IsB (mkGo dr b l)
 | [],_=>IsB.nil
 | c::r,b=>IsB.cons (mk1_rng dr b c) (mk_isB dr r _)
theorem marks_isB(l:E):IsB (jbg l):=by
 unfold jbg;refine(mk_isB _ _ _).append ?_;split
 ·intro c hc;simp at hc;omega
 ·exact IsB.nil
def numV(s:E):Bool:= !je9 s&& (!(jan s).any (hasZ [65,88,67,68]) && (decide ((cntZ (jan s) 86:Int)≤1) && (jcn (jan s) && (jed (jan s) (jbg (jan s)) && (decide (jc4 s≤1) &&je5 (jan s) (jbg (jan s)))))))
def G6:Env:=((((((((Env.nil.add 203 (sp2 s40)).add 201 (sp2 s75)).add 199 (sp1 s73)).add 204 (sp1 s101)).add 133 (sp1 s69)).add 264 (sp1 s104)).add 265 (sp2 s105)).add 202 (sp1 s76)).add 266 (sp2 s106)
theorem ok_G6:jao Tryz.prog G6:=jak (jak (jak (jak (jak (jak (jak (jak (jak ja7 ok40) ok75) ok73) ok101) ok69) ok104) ok105) ok76) ok106
def V74_0:Y×Bool×Y×Int→U:=fun(s,b,d,i)=> [S s,B b,S d,I i]
def B74_0:Y×Bool×Y×Int→F:=fun _=> []
def S74_0:LSpec (Y×Bool×Y×Int) where
 live:=[0,2,3,4]
 mid:=[]
 n:=80
 dec vs bs:=match vs,bs with | [.string s,.bool b,.string d,.int .i64 i],[]=>some (s,b,d,i) | _,_=>none
 pre:=fun(s,b,d,i)=>decide (0≤i∧i≤d.size∧d.size≤1000)
 fin:=fun(s,b,d,i) Z=>(bif ((bz d).drop i.toNat).any (hasZ [65,88,67,68])then(∀i',Z .ret [S s,B false,S d,I i'] [])else Z (.exit 0) [S s,B b,S d,I d.size] [])
theorem r74_0(s:Y)(b:Bool)(d:Y)(i:Int)(jk:Tmps)(R:Exit→U→F→Prop):(jbz Tryz.prog G6 noL Tryz.f200.ntmps (ja9 Tryz.f200 0) (tl S74_0.live (V74_0 (s,b,d,i)) jk) (ml S74_0.mid (B74_0 (s,b,d,i))) S74_0.n fun e t' m' _=>R e (List.map t' S74_0.live) (List.map m' S74_0.mid))=(bif cv d i then ek (a7 d i) (eu d i [67,68] 65 88) R [] [B false,S d,ak i] (b7 b s (c9 i) (S d)) (S s)else R (.exit 0) (b7 b s [ak i] (S d)) []):=by kernel_rfl
theorem l74_0:LOKf Tryz.prog (oneL 0 S74_0.h) Tryz.f200:=by
 refine jbk (h:=S74_0.h) (by kernel_rfl) (jb0 ok_G6 hmix (by kernel_rfl) (ja6 _) S74_0 V74_0 B74_0 (fun(s,b,d,i)=>(d.size-i).toNat) ?_ ?_ ?_)
 ·intro vs bs s h;simp only[S74_0]at h;split at h
  all_goals first | (cases h;exact⟨rfl,rfl⟩) | cases h
 ·exact fun _ _ _ h=>h
 ·intro⟨s,b,d,i⟩ jk Z hp hf;rw[r74_0];delta b7 ak ek bm du c9 eu av a7 cv;simp only[S74_0]at hp hf;simp only[jae]at hp;apply cond_intro<;>intro h
  ·have h:=jab h;rw[jeg hp.1 h,List.any_cons]at hf;have k:bz ⟨#[65,88,67,68]⟩=[65,88,67,68]:=rfl;rw[k];refine c_t (jaa (by omega)) (cond_intro (fun q=> ?_) (fun q=> ?_))
   ·rw[q]at hf;exact hf i
   ·rw[q,Bool.false_or]at hf;rw[w64 (by omega)];exact⟨(s,b,d,i+1),rfl,rfl,by simp only[S74_0,jae];omega,by simp only;omega,hf⟩
  ·have h:=jac h;rw[jdc (by omega)]at hf;obtain rfl:i=d.size:=by omega
   exact hf
def s74(s:Y):Bool×Value:=(decide (s.size≤1000),.bool (numV (bz s)))
theorem fn74:Fn1 Tryz.prog 200 Tryz.f200:= .m Tryz.func200
def e8(a:Y):Bool:=decide (a.size≤1000)
def ls(a b:Y)(c:Value→Prop):Prop:=bif S74_0.pre (a,(false,(b,(0:Int))))then bif (a0 b 0).any (hasZ [65,88,67,68])then ic c else Tmps→(bif e8 b then az (aw b&& (bif decide ((cntZ (bz b) 86:Int)≤1)then e8 b&& (bif jcn (bz b)then decide (b.size=(sz (jbg (bz b))).size∧b.size≤1000) && (bif jed (bz b) (bz (sz (jbg (bz b))))then e8 a&& (bif decide (jc4 (bz a)≤1)then decide (b.size=(sz (jbg (bz b))).size∧b.size≤1000) &&true else true)else true)else true)else true)) (.bool (decide ((cntZ (bz b) 86:Int)≤1) && (jcn (bz b) && (jed (bz b) (bz (sz (jbg (bz b)))) && (decide (jc4 (bz a)≤1) &&je5 (bz b) (bz (sz (jbg (bz b))))))))) c else False)else False
theorem v74(s:Y)(R:Value→Prop):ja4 Tryz.prog G6 (oneL 0 S74_0.h) Tryz.f200 [Enc.enc s] (fun _=>none) 0 (fun v _ _=>R v)=(dl (je9 (bz s)) s (R (B false)) (bif aw s then bif crZ (bz s)then bif bv 0 (gk s) s.size then ls s (g8 s) R else False else ls s s R else False)):=by kernel_rfl
theorem ok74:jal Tryz.prog 200 (sp1 s74):=by
 refine jcr ok_G6 hmix fn74 l74_0 jag fun s hc=> ?_
 rw[jb5,v74];delta aw dl az e8 ic a0 ls av gk g8 bv;have hc:(s.size≤1000):=jab hc;dsimp only[s74];have hm:∀b:Y,bz (sz (jbg (bz b)))=jbg (bz b)∧(sz (jbg (bz b))).size=b.size:=fun b=>⟨jji (marks_isB _),by rw[jd4,marks_len,jax]⟩
 have d0:decide (s.size≤9223372036854775807)=true:=jaa (by omega);have e4:decide (s.size≤1000)=true:=jaa hc;rw[d0];refine c_t rfl (cond_intro (fun hch=>by simp only[numV,hch,Bool.not_true,Bool.false_and]) (fun hch=>c_t rfl (cond_intro (fun hcr=> ?_) (fun hcr=> ?_))))
 ·have h2:2≤s.size:=by
   simp only[crZ,jaf,jae,jax]at hcr;exact hcr.1
  have e:((s.size:Int)-2).toNat=s.size-2:=by omega
  rw[w64 (n:=(s.size:Int)-2) (by omega),e];have eb:bz (s.extract 0 (s.size-2))=(bz s).take (s.size-2):=by rw[jck];simp
  have hbs:(s.extract 0 (s.size-2)).size=s.size-2:=by rw[←jax,eb,List.length_take,jax];omega
  have hB:jan (bz s)=bz (s.extract 0 (s.size-2)):=by simp[jan,hcr,eb]
  clear eb;generalize s.extract 0 (s.size-2)=b at*;have e1:decide (b.size≤1000)=true:=jaa (by omega);have e2:decide (b.size≤9223372036854775807)=true:=jaa (by omega);refine c_t (jaa (by omega)) (c_t (by simp only[S74_0,jae];omega) ?_);rw[jfn];refine cond_intro (fun ha _ _=> ?_) (fun ha _=> ?_)
  ·simp only[numV,hB,ha,Bool.not_true,Bool.false_and,Bool.and_false]
  ·simp only[(hm b).1,(hm b).2,e1,e2,e4,eq_self,true_and,Bool.true_and,cond_true,Bool.and_true];refine c_t (by simp) ?_;simp only[numV,hch,hB,ha,Bool.not_false,Bool.true_and]
 ·have hB:jan (bz s)=bz s:=by simp[jan,hcr]
  refine c_t (by simp only[S74_0,jae];omega) ?_;rw[jfn];refine cond_intro (fun ha _ _=> ?_) (fun ha _=> ?_)
  ·simp only[numV,hB,ha,Bool.not_true,Bool.false_and,Bool.and_false]
  ·simp only[(hm s).1,(hm s).2,e4,eq_self,true_and,Bool.true_and,cond_true,Bool.and_true];refine c_t (by simp) ?_;simp only[numV,hch,hB,ha,Bool.not_false,Bool.true_and]
def G7:Env:=((((((Env.nil.add 203 (sp2 s40)).add 201 (sp2 s75)).add 199 (sp1 s73)).add 133 (sp1 s69)).add 198 (sp1 s45)).add 202 (sp1 s76)).add 200 (sp1 s74)
theorem ok_G7:jao Tryz.prog G7:=jak (jak (jak (jak (jak (jak (jak ja7 ok40) ok75) ok73) ok69) ok45) ok76) ok74
def vOK(l:E):Bool:=exOK l&& (je9 (exZ l) || numV (exZ l))
def pN(l:E):Bool:=exOK l&&numV (exZ l)
def pS(l:E):E:=if vOK l=true then exZ l else []
def pW(l:E):Int:=if vOK l=true then(if je9 (exZ l)=true then((exZ l).length:Int)else(exZ l).length-cntZ (exZ l) 86)else 0
def isP(m:Int):Bool:=m==100 || m==99
def pdGo:E→Int
 | []=>0
 | m::r=>(bif isP m then 1 else 0)+pdGo r
def pqGo(s:E):E→Int→Int
 | [],_=>0
 | m::r,i=>(bif isP m&&hasZ (s.take i.toNat) 86 then 1 else 0)+pqGo s r (i+1)
def pD(l:E):Int:=if pN l=true then pdGo (jbg (exZ l))else 0
def pQ(l:E):Int:=if pN l=true then pqGo (exZ l) (jbg (exZ l)) 0 else 0
def pG(l:E):Bool:=pN l&&jc4 (exZ l)==1
def pE(l:E):Int:=if vOK l=true then 0 else 30
def picV(l:E):Value:= .agg ⟨[.string (sz (pS l)),.bool (pN l),.int .i64 (pW l),.int .i64 (pD l),.int .i64 (pQ l),.bool (pG l)]⟩
def V30_0:Int×Y×Y×Y×Bool×Int×Int×Int×Bool×Y×Int×Int×Int×Bool×Bool×Int→U:=fun(e,s,ms,z,zb,z1,z2,z3,zg,p,w,d,q,n,g,i)=> [.pointer (some ⟨0,0,some 0⟩),I e,S s,.pointer (some ⟨26,0,some 0⟩),S ms,I i]
def B30_0:Int×Y×Y×Y×Bool×Int×Int×Int×Bool×Y×Int×Int×Int×Bool×Bool×Int→F:=fun(e,s,ms,z,zb,z1,z2,z3,zg,p,w,d,q,n,g,i)=> [some ⟨[S z,B zb,I z1,I z2,I z3,B zg],55,true⟩,some ⟨[S p,B n,I w,I d,I q,B g],55,true⟩]
def S30_0:LSpec (Int×Y×Y×Y×Bool×Int×Int×Int×Bool×Y×Int×Int×Int×Bool×Bool×Int) where
 live:=[2,3,4,6,7,8]
 mid:=[0,26]
 n:=120
 dec vs bs:=match vs,bs with | [.pointer (some ⟨0,0,some 0⟩),.int .i64 e,.string s,.pointer (some ⟨26,0,some 0⟩),.string ms,.int .i64 i],[some ⟨[.string z,.bool zb,.int .i64 z1,.int .i64 z2,.int .i64 z3,.bool zg],55,true⟩,some ⟨[.string p,.bool n,.int .i64 w,.int .i64 d,.int .i64 q,.bool g],55,true⟩]=>some (e,s,ms,z,zb,z1,z2,z3,zg,p,w,d,q,n,g,i) | _,_=>none
 pre:=fun(e,s,ms,z,zb,z1,z2,z3,zg,p,w,d,q,n,g,i)=>decide (0≤i∧i≤ms.size∧ms.size=s.size∧s.size≤1000∧0≤d∧d≤i∧0≤q∧q≤i)
 fin:=fun(e,s,ms,z,zb,z1,z2,z3,zg,p,w,d,q,n,g,i) Z=>Z (.exit 0) [.pointer (some ⟨0,0,some 0⟩),I e,S s,.pointer (some ⟨26,0,some 0⟩),S ms,I ms.size] [some ⟨[S z,B zb,I z1,I z2,I z3,B zg],55,true⟩,some ⟨[S p,B n,I w,I (d+pdGo ((bz ms).drop i.toNat)),I (q+pqGo (bz s) ((bz ms).drop i.toNat) i),B g],55,true⟩]
def iw(b f:Bool)(a:Y)(c d e:Int):Option Blk:=some (.mk [.string a,.bool b,ak c,ak d,ak e,.bool f] 55 true)
def dq(a:Nat):Value:= .pointer (some (.mk a 0 (some 0)))
def f0(b:Y)(d:U)(a:Nat)(c:Value):U:=dq a:: .string b::c::d
def kp(b c:Y)(a:Int)(d:Value):U:=dq 0::ak a:: .string b::f0 c [] 26 d
theorem r30_0(e:Int)(s:Y)(ms:Y)(z:Y)(zb:Bool)(z1:Int)(z2:Int)(z3:Int)(zg:Bool)(p:Y)(w:Int)(d:Int)(q:Int)(n:Bool)(g:Bool)(i:Int)(jk:Tmps)(R:Exit→U→F→Prop):(jbz Tryz.prog G7 noL Tryz.f132.ntmps (ja9 Tryz.f132 0) (tl S30_0.live (V30_0 (e,s,ms,z,zb,z1,z2,z3,zg,p,w,d,q,n,g,i)) jk) (ml S30_0.mid (B30_0 (e,s,ms,z,zb,z1,z2,z3,zg,p,w,d,q,n,g,i))) S30_0.n fun e t' m' _=>R e (List.map t' S30_0.live) (List.map m' S30_0.mid))=(bif cv ms i then b8 (a7 ms i) (b6 ms i 100 || a7 ms i&&true) (b6 ms i 100 || b6 ms i 99) (bif bv 0 i s.size then dl (hasZ (bz (s.extract 0 i.toNat)) 86) (s.extract 0 i.toNat) (R .normal (kp s ms e (du i)) [iw zb zg z z1 z2 z3,iw n g p w (bm d) (bm q)]) (R .normal (kp s ms e (du i)) [iw zb zg z z1 z2 z3,iw n g p w (bm d) q])else False) (R .normal (kp s ms e (du i)) [iw zb zg z z1 z2 z3,iw n g p w d q])else R (.exit 0) (kp s ms e (ak i)) [iw zb zg z z1 z2 z3,iw n g p w d q]):=by kernel_rfl
theorem l30_0:LOKf Tryz.prog (oneL 0 S30_0.h) Tryz.f132:=by
 refine jbk (h:=S30_0.h) (by kernel_rfl) (jb0 ok_G7 hmix (by kernel_rfl) (ja6 _) S30_0 V30_0 B30_0 (fun(e,s,ms,z,zb,z1,z2,z3,zg,p,w,d,q,n,g,i)=>(ms.size-i).toNat) ?_ ?_ ?_)
 ·intro vs bs s h;simp only[S30_0]at h;split at h
  all_goals first | (cases h;exact⟨rfl,rfl⟩) | cases h
 ·exact fun _ _ _ h=>h
 ·intro⟨e,s,ms,z,zb,z1,z2,z3,zg,p,w,d,q,n,g,i⟩ jk Z hp hf;rw[r30_0];delta ak iw dq f0 kp b8 bm du aw dl bv b6 av a7 cv;simp only[S30_0]at hp hf;simp only[jae]at hp;apply cond_intro<;>intro h
  ·have h:=jab h;rw[jeg (s:=ms) hp.1 h,pdGo,pqGo]at hf;have h1:decide (0≤i∧i<(ms.size:Int))=true:=jaa (by omega);have ex:bz (s.extract 0 i.toNat)=(bz s).take i.toNat:=by rw[jck];simp
   have exs:(s.extract 0 i.toNat).size≤1000:=by rw[←jax,ex,List.length_take,jax];omega
   refine c_t (by rw[h1];simp) (cond_intro (fun a=>c_t (jaa (by omega)) (c_t (jaa (by omega)) ?_)) (fun a=> ?_))
   ·have a':isP (jas ms i.toNat)=true:=a;rw[a',cond_true,Bool.true_and]at hf;rw[ex,w64 (n:=d+1) (by omega),w64 (n:=i+1) (by omega)];apply cond_intro<;>intro b
    ·rw[b,cond_true,←Int.add_assoc,←Int.add_assoc]at hf;rw[w64 (n:=q+1) (by omega)];exact⟨(e,s,ms,z,zb,z1,z2,z3,zg,p,w,d+1,q+1,n,g,i+1),rfl,rfl,by simp only[S30_0,jae];omega,by simp only;omega,hf⟩
    ·rw[b,cond_false,Int.zero_add,←Int.add_assoc]at hf;exact⟨(e,s,ms,z,zb,z1,z2,z3,zg,p,w,d+1,q,n,g,i+1),rfl,rfl,by simp only[S30_0,jae];omega,by simp only;omega,hf⟩
   ·have a':isP (jas ms i.toNat)=false:=a;rw[a',cond_false,Bool.false_and,cond_false,Int.zero_add,Int.zero_add]at hf;rw[w64 (by omega)];exact⟨(e,s,ms,z,zb,z1,z2,z3,zg,p,w,d,q,n,g,i+1),rfl,rfl,by simp only[S30_0,jae];omega,by simp only;omega,hf⟩
  ·have h:=jac h;rw[jdc (s:=ms) (by omega),pdGo,pqGo,Int.add_zero,Int.add_zero]at hf;obtain rfl:i=ms.size:=by omega
   exact hf
theorem up_rng{c:Int}(h:0≤c∧c<256):0≤upZ c∧upZ c<256:=by unfold upZ;split<;>omega
theorem jh1:∀(l:E)(st n:Int)(out:E),IsB l→IsB out→out.length≤32→IsB (xpGo l st n out).1∧(xpGo l st n out).1.length≤32
 | [],st,n,out,_,h2,h3=>⟨h2,h3⟩
 | c::r,st,n,out,h1,h2,h3=>by
  have hc:=h1 c (List.mem_cons_self ..);have hr:IsB r:=fun x hx=>h1 x (List.mem_cons_of_mem _ hx)
  have nil:IsB (([],false):E×Bool).1∧(([],false):E×Bool).1.length≤32:=⟨IsB.nil,Nat.zero_le _⟩
  rw[xpGo];by_cases e1:st=1
  ·rw[if_pos e1];split
   ·split
    ·exact jh1 r _ _ out hr h2 h3
    ·exact nil
   ·split
    ·exact jh1 r _ _ out hr h2 h3
    ·exact nil
  ·rw[if_neg e1];by_cases e2:c=41∨st=2∧c=40
   ·rw[if_pos e2];exact nil
   ·rw[if_neg e2];by_cases e3:c=40
    ·rw[if_pos e3];exact jh1 r _ _ out hr h2 h3
    ·rw[if_neg e3];by_cases hq:hasZ kL (upZ c)=true∧(out.length:Int)+(if st=2 then n else 1)≤32
     ·rw[if_pos hq];refine jh1 r _ _ _ hr (h2.append fun x hx=> ?_) ?_
      ·rw[List.eq_of_mem_replicate hx];exact up_rng hc
      ·rw[List.length_append];simp only[rep1,List.length_replicate];have:=hq.2;omega
     ·rw[if_neg hq];exact nil
theorem ex_rng(s:Y):IsB (exZ (bz s))∧(exZ (bz s)).length≤32:=by
 unfold exZ;split
 ·exact jh1 _ _ _ _ (jj1 s) IsB.nil (Nat.zero_le _)
 ·exact⟨IsB.nil,Nat.zero_le _⟩
theorem jjq:sz []=⟨#[]⟩:=rfl
def s30(s:Y):Bool×Value:=(decide (s.size≤9223372036854775807),.tuple ⟨[picV (bz s),.int .i64 (pE (bz s))]⟩)
theorem fn30:Fn1 Tryz.prog 132 Tryz.f132:= .m Tryz.func132
def j4(b:Bool)(a:Y)(c:Int)(f:U)(d e:Value):Array Value:=⟨[.agg ⟨.string a:: .bool b:: .int .i64 c::d::e::f⟩,ak 0]⟩
def gn(a:Y):Y:=sz (exZ (bz a))
def ig(a:Y):E:=bz (gn a)
def b9(a b:Int):Int:=IntKind.i64.wrap (a-b)
def gl:U:=[.bool false]
def kr:Value:= .agg ⟨e7:: .bool false::ak 0::ak 0::ak 0::gl⟩
theorem v30(s:Y)(R:Value→Prop):ja4 Tryz.prog G7 (oneL 0 S30_0.h) Tryz.f132 [Enc.enc s] (fun _=>none) 0 (fun v _ _=>R v)=(dl (eE (bz s) !=0) s (R (ay [kr,I (eE (bz s))])) (bif aw (gn s)then bif je9 (ig s)then R (.tuple (j4 false (gn s) (av (gn s)) gl (ak 0) (ak 0)))else bif e8 (gn s)then bif !Px.numV (ig s)then R (ay [kr,ak 30])else bif aw (gn s)then bif e8 (gn s)then bif e8 (gn s)then e6 (S30_0.pre ((0:Int),(gn s,(sz (jbg (ig s)),(ByteArray.mk #[],(false,((0:Int),((0:Int),((0:Int),(false,(gn s,(b9 (av (gn s)) (cntZ (ig s) 86:Int),((0:Int),((0:Int),(true,(jc4 (ig s)==1,(0:Int))))))))))))))))) (.tuple (j4 true (gn s) (b9 (av (gn s)) (cntZ (ig s) 86:Int)) [B (jc4 (ig s)==1)] (I (0+pdGo (a0 (sz (jbg (ig s))) 0))) (I (0+pqGo (ig s) (a0 (sz (jbg (ig s))) 0) 0)))) R else False else False else False else False else False)):=by kernel_rfl
theorem ok30:jal Tryz.prog 132 (sp1 s30):=by
 refine jcr ok_G7 hmix fn30 l30_0 jag fun s hc=> ?_
 rw[jb5,v30];delta aw dl e6 ak j4 a0 gn ig b9 av e8 ay gl e7 kr;have hc:(s.size≤9223372036854775807):=jab hc
 try dsimp only[s30]
 obtain⟨hb,hl⟩:=ex_rng s;have hmB:=marks_isB (exZ (bz s));have hml:=marks_len (exZ (bz s));have hcn:=jjc (exZ (bz s)) 86;rw[jji hb,jd4];refine c_t (jaa hc) (cond_intro (fun he=> ?_) (fun he=> ?_))
 ·have ho:exOK (bz s)=false:=by
   cases h:exOK (bz s)with
   | false=>rfl
   | true=>rw[eE,h]at he;cases he
  simp[picV,pS,pN,pW,pD,pQ,pG,pE,eE,vOK,ho,jjq]
 ·have ho:exOK (bz s)=true:=by
   cases h:exOK (bz s)with
   | true=>rfl
   | false=>rw[eE,h]at he;cases he
  refine c_t (jaa (by omega)) (cond_intro (fun hch=> ?_) (fun hch=>c_t (jaa (by omega)) (cond_intro (fun hn=> ?_) (fun hn=>c_t (jaa (by omega)) (c_t (jaa (by omega)) (c_t (jaa (by omega)) (c_t ?_ (fun x=> ?_))))))))
  ·simp[picV,pS,pN,pW,pD,pQ,pG,pE,vOK,ho,hch,numV]
  ·have hn:numV (exZ (bz s))=false:=by simpa using hn
   simp[picV,pS,pN,pW,pD,pQ,pG,pE,vOK,ho,hch,hn,jjq]
  ·have e1:(sz (jbg (exZ (bz s)))).size=(exZ (bz s)).length:=by rw[jd4,hml]
   have e2:(sz (exZ (bz s))).size=(exZ (bz s)).length:=jd4 _;simp only[S30_0,jae,e1];omega
  ·have hn:numV (exZ (bz s))=true:=by simpa using hn
   rw[jji hmB,jfn,w64 (by omega)];simp[picV,pS,pN,pW,pD,pQ,pG,pE,vOK,ho,hch,hn]
structure Pic where
 s:Y
 n:Bool
 w:Int
 d:Int
 q:Int
 g:Bool
instance:Enc Pic where
 enc p:= .agg ⟨[.string p.s,.bool p.n,.int .i64 p.w,.int .i64 p.d,.int .i64 p.q,.bool p.g]⟩
 dec | .agg ⟨[.string a,.bool b,.int .i64 c,.int .i64 d,.int .i64 e,.bool f]⟩=>some ⟨a,b,c,d,e,f⟩ | _=>none
 dec_some:=by
  intro v a h;split at h
  ·cases h;rfl
  ·cases h
 plain_enc _:=rfl
def G8:Env:=Env.nil.add 132 (sp1 s30)
theorem ok_G8:jao Tryz.prog G8:=jak ja7 ok30
def tyK(l:E):Int:=if vOK l=true then(if pN l=true then 1 else 3)else 0
def tyP(l:E):Int:=if vOK l=true then(if pN l=true then pD l else pW l)else 0
def cuM(n q sc:Int):Int:=if q≥sc then(n.natAbs:Int)/tenZ (q-sc).toNat else n.natAbs*tenZ (sc-q).toNat
def cuV(n q sc d:Int):Int:=cuM n q sc%tenZ d.toNat
def cuN(n q sc d:Int)(g:Bool):Int:=if n<0∧g=true then 0-cuV n q sc d else cuV n q sc d
def cuF(n q sc d:Int)(g:Bool):Bool:=decide (cuM n q sc<tenZ d.toNat) && (decide (n≥0) || (g || cuV n q sc d==0))
def ssZ(c dr:Int)(m:Bool):Int:=bif dr !=0&&c==dr then 32 else bif hasZ [67,82,68,66] c then(bif m then c else 32)else sgZ c m
theorem ji7{l:E}(h:pN l=true):vOK l=true:=by
 simp only[pN,jaf]at h;simp[vOK,h.1,h.2]
theorem jia:∀(ms:E)(fm bh pt:Bool)(dg:Int),(ldGo ms fm bh pt dg).1=true→(ldGo ms fm bh pt dg).2.2.2=dg+pdGo ms
 | [],fm,bh,pt,dg,_=>by simp[ldGo,pdGo]
 | m::r,fm,bh,pt,dg,h=>by
  rw[ldGo]at h ⊢;rw[pdGo];cases h1:(m==118)with
  | true=>
   rw[h1,cond_true]at h;have hm:=eq_of_beq h1;subst hm;simp only[cond_true,isP];rw[jia r _ _ _ _ h];simp
  | false=>
   rw[h1,cond_false]at h;cases h2:(m==100)with
   | true=>
    rw[h2,cond_true]at h;simp only[cond_true,cond_false,isP,h2,Bool.true_or];rw[jia r _ _ _ _ h];omega
   | false=>
    rw[h2,cond_false]at h;cases h3:(m==99)with
    | true=>
     rw[h3,cond_true]at h;cases fm with
     | true=>cases h
     | false=>
      rw[cond_false]at h;simp only[cond_true,cond_false,isP,h2,h3,Bool.false_or];rw[jia r _ _ _ _ h];omega
    | false=>
     rw[h3,cond_false]at h;simp only[cond_false,isP,h2,h3,Bool.false_or];rw[jia r _ _ _ _ h];omega
theorem pd_app:∀a b:E,pdGo (a++b)=pdGo a+pdGo b
 | [],b=>by simp[pdGo]
 | m::r,b=>by simp only[List.cons_append,pdGo,pd_app r b];omega
theorem body_ncr{s:E}(h:(jan s).any (hasZ [65,88,67,68])=false):crZ (jan s)=false:=by
 cases hc:crZ (jan s)with
 | false=>rfl
 | true=>
  exfalso;simp only[crZ,jaf,Bool.or_eq_true,jae]at hc;have:∀c∈jan s,hasZ [65,88,67,68] c=false:=by simpa using h
  rcases hc.2 with h1 | h1
  ·have hm:(67:Int)∈(jan s).drop ((jan s).length-2):=by rw[h1];simp
   exact absurd (this _ (List.mem_of_mem_drop hm)) (by decide)
  ·have hm:(68:Int)∈(jan s).drop ((jan s).length-2):=by rw[h1];simp
   exact absurd (this _ (List.mem_of_mem_drop hm)) (by decide)
theorem jfu{s:E}(h:(jan s).any (hasZ [65,88,67,68])=false):jbg (jan s)=mkGo (drZ (jan s)) false (jan s):=by
 have hc:=body_ncr h;have gen:∀l:E,crZ l=false→jan l=l:=fun l h=>by simp[jan,h]
 have hb:jan (jan s)=jan s:=gen _ hc;unfold jbg;rw[hb,hc];simp
structure NumP (s:E):Prop where
 nch:je9 s=false
 plain:(jan s).any (hasZ [65,88,67,68])=false
 one:(cntZ (jan s) 86:Int)≤1
 dr:jcn (jan s)=true
 ld:jed (jan s) (mkGo (drZ (jan s)) false (jan s))=true
 sg:jc4 s≤1
 st:je5 (jan s) (mkGo (drZ (jan s)) false (jan s))=true
theorem numV_iff{s:E}:numV s=true↔NumP s:=by
 constructor
 ·intro h;simp only[numV,jaf,Bool.not_eq_true',jae]at h;obtain⟨h1,h2,h3,h4,h5,h6,h7⟩:=h;rw[jfu h2]at h5 h7;exact⟨h1,h2,h3,h4,h5,h6,h7⟩
 ·rintro ⟨h1,h2,h3,h4,h5,h6,h7⟩;rw[←jfu h2]at h5 h7;simp only[numV,jaf,Bool.not_eq_true',jae];exact⟨h1,h2,h3,h4,h5,h6,h7⟩
theorem pN_num{l:E}(h:pN l=true):NumP (exZ l):=by
 simp only[pN,jaf]at h;exact numV_iff.1 h.2
def s48(s:Y):Bool×Value:=(decide (s.size≤9223372036854775807),.int .i64 (pE (bz s)))
theorem fn48:Fn1 Tryz.prog 156 Tryz.f156:= .m Tryz.func156
theorem v48(s:Y)(R:Value→Prop):ja4 Tryz.prog G8 noL Tryz.f156 [Enc.enc s] (fun _=>none) 0 (fun v _ _=>R v)=(bif decide (s.size≤9223372036854775807)then R (I (pE (bz s)))else False):=by kernel_rfl
theorem ok48:jal Tryz.prog 156 (sp1 s48):=by
 refine jcr ok_G8 hmix fn48 jai jag fun s hc=> ?_
 rw[jb5,v48];have hc:(s.size≤9223372036854775807):=jab hc
 try dsimp only[s48]
 exact c_t (jaa hc) rfl
def digZ:Int→Nat→E
 | _,0=> []
 | v,n+1=>digZ (v/10) n++ [48+v%10]
theorem isBytes_iff{l:U}:jbm l=true↔ ∀v∈l,∃n,v= .int .u8 n:=by
 induction l with
 | nil=>simp[jbm]
 | cons v r ih=>
  constructor
  ·intro h;unfold jbm at h;split at h
   ·rename_i heq;cases heq
   ·rename_i n r' heq;cases heq;intro u hu;rcases List.mem_cons.1 hu with rfl | hu
    ·exact⟨_,rfl⟩
    ·exact ih.1 h u hu
   ·cases h
  ·intro h;obtain⟨n,rfl⟩:=h v (List.mem_cons_self ..);exact ih.2 fun u hu=>h u (List.mem_cons_of_mem _ hu)
theorem RowP.set{c:U}{n cap:Nat}(h:RowP c n cap)(x:Int){i:Nat}(hi:i<n):
  RowP (setL c (0+i*1) [.int .u8 x]) n cap∧zc (setL c (0+i*1) [.int .u8 x]) n=(zc c n).set i x∧Nat.ble (0+i*1+1) c.length=true:=by
 have e:setL c (0+i*1) [.int .u8 x]=c.set i (.int .u8 x):=by simp[setL]
 have h1:=h.len;have h2:=h.le;rw[e];refine⟨⟨?_,?_,by simp[h1],h2,h.cap⟩,?_,Nat.ble_eq_true_of_le (by omega)⟩
 ·rw[List.take_set];refine isBytes_iff.2 fun v hv=> ?_
  rcases List.mem_or_eq_of_mem_set hv with hv | rfl
  ·exact isBytes_iff.1 h.bytes v hv
  ·exact⟨_,rfl⟩
 ·refine jay.2 fun v hv=> ?_
  rcases List.mem_or_eq_of_mem_set hv with hv | rfl
  ·exact jay.1 h.plain v hv
  ·rfl
 ·simp only[zc,List.take_set,List.map_set,iv]
def endGo:E→E→Int→Int
 | [],_,o=>o
 | m::r,ds,o=>bif (m==118 || m==100) || (m==99&&ds.headD 0 !=48)then o else endGo r (bif m==99 then ds.tail else ds) (o+1)
def endZ(ms ds:E)(w:Int)(k:Nat):Int:=bif !hasZ ms 99 then 0 else bif !hasZ ms 100&&decide (ds=rep1 48 k)then w else endGo ms ds 0
def fdGo(le fill dr:Int)(neg:Bool):E→E→E→Int→E
 | [],_,_,_=> []
 | m::r,sp,ds,o=>
  bif m==100 then fmZ (sp.headD 0) (ds.headD 0) neg::fdGo le fill dr neg r sp.tail ds.tail (o+1)
  else bif m==99 then(bif decide (o<le)then fill else ds.headD 0)::fdGo le fill dr neg r sp.tail ds.tail (o+1)
  else bif m==105 then(bif sp.headD 0==66 then 32 else bif decide (o<le)then fill else sp.headD 0)::fdGo le fill dr neg r sp.tail ds (o+1)
  else bif m !=118 then ssZ (sp.headD 0) dr neg::fdGo le fill dr neg r sp.tail ds (o+1)
  else fdGo le fill dr neg r sp.tail ds o
def dgL(l:E):Bool:=l.all fun d=>decide (48≤d∧d≤57)
def fdFl(sp:E):Int:=if hasZ sp 42=true then 42 else 32
def fdLe(sp:E)(w:Int)(k:Nat)(n:Int):Int:=endZ (jbg sp) (digZ n.natAbs k) w k
def fdBl(sp:E)(w:Int)(k:Nat)(n:Int):Bool:=decide (fdLe sp w k n>0) && (fdLe sp w k n==w&& (n==0&& !hasZ (jbg sp) 100))
def fdDr(sp:E):Int:=bif !hasZ sp 90&& (!hasZ sp 42&&hasZ (jbg sp) 99)then drZ sp else 0
def fdOut(sp:E)(w:Int)(k:Nat)(n:Int):E:=fdGo (fdLe sp w k n) (fdFl sp) (fdDr sp) (decide (n<0)) (jbg sp) sp (digZ n.natAbs k) 0
def fieldZ(sp:E)(w:Int)(k:Nat)(n:Int):E:=
 bif fdBl sp w k n then rep1 (fdFl sp) w.toNat else bif fdDr sp !=0 then(fdOut sp w k n).set (fdLe sp w k n-1).toNat (sgZ (fdDr sp) (decide (n<0)))else fdOut sp w k n
theorem cnt_app(a b:E)(c:Int):cntZ (a++b) c=cntZ a c+cntZ b c:=by
 simp[cntZ]
theorem jhz(s:E):∃t,s=jan s++t∧(t=[]∧crZ s=false∨(t=[67,82]∨t=[68,66])∧crZ s=true):=by
 unfold jan;by_cases h:crZ s=true
 ·rw[if_pos h];refine⟨s.drop (s.length-2),(List.take_append_drop ..).symm,.inr ⟨?_,h⟩⟩;simp only[crZ,jaf,Bool.or_eq_true,jae]at h;exact h.2
 ·rw[if_neg h];exact⟨[],by simp,.inl ⟨rfl,by simpa using h⟩⟩
theorem jix(s:E):∀r:E,drGo s r=0∨(hasZ [36,83,43,45] (drGo s r)=true∧drGo s r∈r)
 | []=> .inl rfl
 | c::r=>by
  rw[drGo];split
  ·rename_i h;exact .inr ⟨h.1,List.mem_cons_self ..⟩
  ·rcases jix s r with h | ⟨h1,h2⟩
   ·exact .inl h
   ·exact .inr ⟨h1,List.mem_cons_of_mem _ h2⟩
def nv(l:E):Nat:=(l.filter (· !=118)).length
theorem nv_cons(m:Int)(r:E):nv (m::r)=(if m=118 then 0 else 1)+nv r:=by
 unfold nv;by_cases h:m=118
 ·simp[h]
 ·simp[h];omega
theorem nv_app(a b:E):nv (a++b)=nv a+nv b:=by simp[nv]
theorem jjv{dr:Int}(hd:dr=0∨hasZ [36,83,43,45] dr=true)(seen:Bool)(c:Int):mk1 dr seen c=118↔c=86:=by
 constructor
 ·intro h;unfold mk1 at h;cases h1:hasZ [57,89,84,73,82] c with
  | true=>rw[h1]at h;cases h
  | false=>
   rw[h1,cond_false]at h;cases h2:(hasZ [90,42] c || (dr !=0&& (c==dr&&seen)))with
   | true=>rw[h2]at h;cases h
   | false=>
    rw[h2,cond_false]at h;cases h3:(c==86)with
    | true=>exact eq_of_beq h3
    | false=>
     rw[h3,cond_false]at h;cases h4:(c==36) <;>cases h5:hasZ [83,43,45] c<;>rw[h4,h5]at h<;>exact absurd h (by decide)
 ·rintro rfl;unfold mk1;have h1:hasZ [57,89,84,73,82] 86=false:=by decide
  have h2:hasZ [90,42] 86=false:=by decide
  have h3:((86:Int)==dr)=false:=by
   cases e:((86:Int)==dr)with
   | false=>rfl
   | true=>
    rw[←eq_of_beq e]at hd;rcases hd with hd | hd
    ·cases hd
    ·exact absurd hd (by decide)
  rw[h1,h2,h3];simp
theorem mk_nv{dr:Int}(hd:dr=0∨hasZ [36,83,43,45] dr=true):∀(l:E)(seen:Bool),nv (mkGo dr seen l)+cntZ l 86=l.length
 | [],_=>rfl
 | c::r,seen=>by
  have:=mk_nv hd r (seen || (dr !=0&&c==dr));rw[mkGo,nv_cons,List.length_cons]
  have hc:cntZ (c::r) 86=(if c=86 then 1 else 0)+cntZ r 86:=by
   unfold cntZ;by_cases h:c=86
   ·simp[h];omega
   ·simp[h]
  rw[hc];have hm:=jjv hd seen c;by_cases h:c=86
  ·rw[if_pos h,if_pos (hm.2 h)];omega
  ·rw[if_neg h,if_neg fun e=>h (hm.1 e)];omega
theorem marks_nv(s:E):nv (jbg s)+cntZ s 86=s.length:=by
 obtain⟨t,h,ht⟩:=jhz s;have h1:=mk_nv (dr:=drZ (jan s)) ((jix _ _).imp id And.left) (jan s) false;unfold jbg;rw[nv_app]
 have e:cntZ s 86=cntZ (jan s) 86+cntZ t 86:=by
  conv=>lhs;rw[h]
  exact cnt_app ..
 have el:s.length=(jan s).length+t.length:=by
  conv=>lhs;rw[h]
  simp
 rcases ht with⟨rfl,hc⟩ | ⟨rfl | rfl,hc⟩
 ·rw[if_neg (by simp[hc])];have:cntZ [] 86=0:=rfl;have:nv []=0:=rfl;simp only[List.length_nil]at el;omega
 ·rw[if_pos hc];have:cntZ [67,82] 86=0:=by decide
  have:nv [115,115]=2:=by decide
  simp only[List.length_cons,List.length_nil]at el;omega
 ·rw[if_pos hc];have:cntZ [68,66] 86=0:=by decide
  have:nv [115,115]=2:=by decide
  simp only[List.length_cons,List.length_nil]at el;omega
def rdD(c:Int):Int:=bif unK c then unD c else bif decide (c≥48) &&decide (c≤57)then c-48 else 0
def rdGo:E→E→Int→Int
 | [],_,a=>a
 | m::r,s,a=>bif m==118 then rdGo r s a else rdGo r s.tail (bif m==100 || m==99 then a*10+rdD (s.headD 0)else a)
def rdA(l t:E):Int:=rdGo (jbg (pS l)) t 0
def fdN(l:E)(n:Int):E:=fieldZ (pS l) (pW l) (pD l).toNat n
def rdV(l t:E):Int×Int:=if pN l=true then(if(t.length:Int)=pW l then(if fdN l (rdA l t)=t then(rdA l t,0)else if pG l=true∧rdA l t>0∧fdN l (0-rdA l t)=t then(0-rdA l t,0)else(0,31))else(0,31))else(0,30)
def onGo:E→E→Bool
 | _,[]=>true
 | [],_::_=>false
 | c::r,b::s=>oneZ c b&&onGo r s
def hoZ(l t:E):Bool:=if vOK l=true then(if pN l=true then decide ((rdV l t).2=0)else(decide ((t.length:Int)=pW l) &&onGo (pS l) t))else false
def flZ(l t:E):E:=if(t.length:Int)>pW l then t.take (pW l).toNat else t++rep1 32 (pW l-t.length).toNat
def fiE(l:E):Int:=if vOK l=true∧pN l=false then 0 else 30
def fiS(l t:E):E:=if vOK l=true∧pN l=false then flZ l t else []
def fiF(l t:E):Bool:=if vOK l=true∧pN l=false then hoZ l (flZ l t)else false
end Go.Px
end
noncomputable section
namespace Go.Px
open Go Go.Ab Go.Proofs
inductive Rw where
 | nil
 | own (d:U) (m cap:Nat)
def Rw.v(q:Nat):Rw→Value
 | .nil=> .slice none 0 0
 | .own _ m cap=> .slice (some ⟨q,0,some 1⟩) m cap
def Rw.b:Rw→Option Blk
 | .nil=>none
 | .own d _ _=>some ⟨d,5,true⟩
def Rw.z:Rw→E
 | .nil=> []
 | .own d m _=>zc d m
def Rw.ok:Rw→Bool
 | .nil=>true
 | .own d m cap=>jc7 d m cap
def Rw.is:Rw→Bool
 | .nil=>false
 | .own _ _ _=>true
def G15:Env:=Env.nil
theorem ok_G15:jao Tryz.prog G15:=ja7
theorem w32{n:Int}(h: -2147483648≤n∧n≤2147483647):IntKind.wrap .i32 n=n:=by
 rw[IntKind.wrap_i32];omega
def rpZ(n c:Int):Int×Bool:=if c<48∨c>57∨(n=0∧c=48)then(0,false)else(10*n+(c-48),decide (10*n+(c-48)≤32))
def s113(n:Int)(c:R32):Bool×Value:=(decide (0≤n∧n≤32∧0≤c.n∧c.n≤2147483647),.tuple ⟨[.int .i64 (rpZ n c.n).1,.bool (rpZ n c.n).2]⟩)
theorem fn113:Fn1 Tryz.prog 185 Tryz.f185:= .m Tryz.func185
def iy(d e:Bool)(a b c:Int):Bool:=al a b || (aq a c || (d || e))
theorem v113(n:Int)(c:R32)(R:Value→Prop):ja4 Tryz.prog G15 noL Tryz.f185 [Enc.enc n,Enc.enc c] (fun _=>none) 0 (fun v _ _=>R v)=(bif iy (n==0) true (R32.n c) 48 57 then bif al (R32.n c) 48 || (aq (R32.n c) 57 || n==0&&R32.n c==48)then R (ay (ak 0::gl))else R (ay [I (jd 10 n (R32.n c) .i32),B (decide (jd 10 n (R32.n c) .i32≤32))])else False):=by kernel_rfl
theorem ok113:jal Tryz.prog 185 (sp2 s113):=by
 refine jil ok_G15 hmix fn113 jai jag fun n c hc=> ?_
 rw[jb5,v113];delta ay jd gl ak aq al iy;have hc:(0≤n∧n≤32∧0≤c.n∧c.n≤2147483647):=jab hc
 try dsimp only[s113]
 obtain⟨c⟩:=c;simp only at hc ⊢;refine c_t (by simp) (cond_intro (fun h=> ?_) (fun h=> ?_))
 ·have h:c<48∨c>57∨(n=0∧c=48):=by simpa using h
  simp[rpZ,h]
 ·have h:¬(c<48∨c>57∨(n=0∧c=48)):=by
   intro q;have:(decide (c<48) || (decide (c>57) || n==0&&c==48))=true:=by simpa using q
   rw[this]at h;cases h
  rw[w64 (n:=10*n) (by omega),w32 (n:=c-48) (by omega),w64 (n:=c-48) (by omega),w64 (by omega)];simp[rpZ,h]
def G16:Env:=Env.nil.add 221 (sp2 s141)
theorem ok_G16:jao Tryz.prog G16:=jak ja7 ok141
def V114_0:Blk×Int×Int×Rw×Int→U:=fun(b,c,n,o,i)=> [o.v 400,.int .i32 c,I n,I i]
def B114_0:Blk×Int×Int×Rw×Int→F:=fun(b,c,n,o,i)=> [some b,o.b]
def S114_0:LSpecA (Blk×Int×Int×Rw×Int) where
 live:=[0,1,31,32]
 mid:=[7,400]
 n:=420
 ap:=[(.tmp 0,400)]
 dec vs bs:=match vs,bs with
  | [.slice none 0 0,.int .i32 c,.int .i64 n,.int .i64 i],[some b,none]=>some (b,c,n,.nil,i)
  | [.slice (some ⟨400,0,some 1⟩) m cap,.int .i32 c,.int .i64 n,.int .i64 i],[some b,some ⟨d,5,true⟩]=>some (b,c,n,.own d m cap,i)
  | _,_=>none
 pre:=fun(b,c,n,o,i)=>o.ok&& ((o.is || decide (i<n)) && (jav b.c&&decide (0≤i∧i≤n∧n≤32∧0≤c∧c<128∧o.z.length+(n-i).toNat≤1000)))
 fin:=fun(b,c,n,o,i) Z=>∀d' m' cap',jc7 d' m' cap'=true→zc d' m'=o.z++rep1 c (n-i).toNat→Z (.exit 0) [.slice (some ⟨400,0,some 1⟩) m' cap',.int .i32 c,I n,I n] [some b,some ⟨d',5,true⟩]
def bt:Value:= .slice none 0 0
def iz(b:Blk)(a:List (Prod Nat Nat)):Option Blk:=some (.mk (rlbL a b.c) b.ty b.own)
def dm(d:Bool)(a:List (Prod Nat Nat))(b c:U):Bool:=jat a b&& (jat a c&&d) &&true
theorem r114_0n(b:Blk)(c:Int)(n:Int)(i:Int)(jk:Tmps)(R:Exit→U→F→Prop):(jbz Tryz.prog G16 noL Tryz.f186.ntmps (ja9 Tryz.f186 0) (tl S114_0.live (V114_0 (b,c,n,.nil,i)) jk) (ml S114_0.mid (B114_0 (b,c,n,.nil,i))) S114_0.n fun e t' m' _=>S114_0.out R e t' m')=(bif al i n then∀a:Nat,∀d:U,ja1 d a 1 1=true→ax (dm true [(425,400)] b.c (gv c::d)) R (iz b [(425,400)]::bk (rlbL [(425,400)] (gv c::d)) 5) (am 400 0 1 a:: .int .i32 c::br n i)else bw (ck [] b.c) R [iz b [],none] (bt:: .int .i32 c::ar n i) 0):=by kernel_rfl
theorem r114_0o(b:Blk)(c:Int)(n:Int)(d:U)(m:Nat)(cap:Nat)(i:Int)(jk:Tmps)(R:Exit→U→F→Prop):(jbz Tryz.prog G16 noL Tryz.f186.ntmps (ja9 Tryz.f186 0) (tl S114_0.live (V114_0 (b,c,n,.own d m cap,i)) jk) (ml S114_0.mid (B114_0 (b,c,n,.own d m cap,i))) S114_0.n fun e t' m' _=>S114_0.out R e t' m')=(bif al i n then ft d cap m 1 (∀a:Nat,∀e:U,fu e a m→ax (dm true [(425,400)] b.c (dy d [gv c] e m 1)) R (iz b [(425,400)]::bk (rlbL [(425,400)] (dy d [gv c] e m 1)) 5) (am 400 0 (m+1) a:: .int .i32 c::br n i))else bw (dm true [(400,400)] b.c d) R [iz b [(400,400)],dv d 400 400 5] (am 400 0 m cap:: .int .i32 c::ar n i) 0):=by kernel_rfl
theorem l114_0:LOKf Tryz.prog (oneL 0 S114_0.hA) Tryz.f186:=by
 refine jbk (h:=S114_0.hA) (by kernel_rfl) (jb1 ok_G16 hmix (by kernel_rfl) (ja6 _) S114_0 V114_0 B114_0 (fun(b,c,n,o,i)=>(n-i).toNat) ?_ ?_ ?_)
 ·intro vs bs s h;simp only[S114_0]at h;split at h
  all_goals first | (cases h;exact⟨rfl,rfl⟩) | cases h | (split at h<;>first | (rename_i hq;cases h;have hq:=jah hq;subst hq;exact⟨rfl,rfl⟩) | cases h)
 ·exact fun⟨b,c,n,o,i⟩ hp=>by
   simp only[S114_0,jaf]at hp;cases o with
   | nil=>simp[V114_0,B114_0,S114_0,jaz,jbn,idsL,ids,Rw.v,Rw.b,jar hp.2.2.1]
   | own d m cap=>simp[V114_0,B114_0,S114_0,jaz,jbn,idsL,ids,Rw.v,Rw.b,jar hp.2.2.1,jar (ja5.1 hp.1).plain]
 ·intro⟨b,c,n,o,i⟩ jk Z hp hf;simp only[S114_0]at hp hf;cases o with
  | nil=>
   rw[r114_0n];delta bw ak ar bt iz ck ax bq bp br am bk gv dm al;simp only[jaf,jae]at hp;obtain⟨-,hi,hb,hp⟩:=hp;have hi:i<n:=jab hi;simp only[Rw.z,List.length_nil]at hp;have eb:∀ps,rlbL ps b.c=b.c:=fun ps=>rlbL_plain ps hb
   have gb:∀ps,jat ps b.c=true:=fun ps=>goodL_plain hb
   refine c_t (jaa hi) (fun cap1 tail ht=> ?_);rw[w8 (n:=c) (by omega)];have hh:=row_new [c] ht;have h1:RowP (.int .u8 c::tail) 1 cap1:=hh.1;have h2:zc (.int .u8 c::tail) 1=[c]:=hh.2;refine c_t (by simp[h1.good,gb]) ?_;rw[h1.rlb,eb,w64 (by omega)];refine⟨(b,c,n,.own _ 1 cap1,i+1),rfl,rfl,by simp only[S114_0,jaf,jae];exact⟨ja5.2 h1,rfl,hb,by omega,by omega,by omega,by omega,by omega,by simp only[Rw.z,h2,List.length_cons,List.length_nil];omega⟩,by simp only;omega,?_⟩;intro d' m' cap' g1 g2;refine hf d' m' cap' g1 ?_;rw[g2];simp only[Rw.z];rw[h2,show(n-i).toNat=(n-(i+1)).toNat+1 by omega,←jgl];rfl
  | own d m cap=>
   rw[r114_0o];delta bw ak ar am dv iz dm gq jz ft ax bq bp br bk dy gv fu al;simp only[jaf,jae]at hp;obtain⟨hr,-,hb,hp⟩:=hp;simp only[Rw.z]at hp;have eb:∀ps,rlbL ps b.c=b.c:=fun ps=>rlbL_plain ps hb
   have gb:∀ps,jat ps b.c=true:=fun ps=>goodL_plain hb
   have hr:=ja5.1 hr;have hzl:=jbw hr;apply cond_intro<;>intro h
   ·have h:=jab h;rw[w8 (n:=c) (by omega)];refine c_t (hr.ask (k:=1) (by omega)) (fun cap1 tail ht=> ?_);obtain⟨h1,h2⟩:=hr.app1 c ht;refine c_t (by rw[h1.good,gb];rfl) ?_;rw[h1.rlb,eb,w64 (by omega)];have hl1:(zc (List.take (m*1) d++ [Value.int IntKind.u8 c]++tail) (m+1)).length=m+1:=jbw h1;refine⟨(b,c,n,.own _ (m+1) cap1,i+1),rfl,rfl,by simp only[S114_0,jaf,jae];exact⟨ja5.2 h1,rfl,hb,by omega,by omega,by omega,by omega,by omega,by simp only[Rw.z,hl1];omega⟩,by simp only;omega,?_⟩;intro d' m' cap' g1 g2;refine hf d' m' cap' g1 ?_;rw[g2];simp only[Rw.z];rw[h2,show(n-i).toNat=(n-(i+1)).toNat+1 by omega,←jgl,List.append_assoc]
   ·have h:=jac h;refine c_t (by rw[hr.good,gb];rfl) ?_;rw[hr.rlb,eb];obtain rfl:i=n:=by omega
    exact hf d m cap (ja5.2 hr) (by simp[Rw.z,rep1])
theorem fn114:Fn1 Tryz.prog 186 Tryz.f186:= .m Tryz.func186
def G17:Env:=(Env.nil.add 185 (sp2 s113)).addG 186 (inlQ Tryz.prog G16 (oneL 0 S114_0.hA) Tryz.f186)
theorem ok_G17:jao Tryz.prog G17:=jaq (jak ja7 ok113) (jau ok_G16 hmix fn114 l114_0)
theorem dec_cases{s:Y}{p:Int}(h0:0≤p)(h:p<s.size):(jas s p.toNat<128→decO s p.toNat=((jas s p.toNat).toNat,1))∧(128≤jas s p.toNat→128≤(decO s p.toNat).1∧(decO s p.toNat).1≤2147483647∧1≤(decO s p.toNat).2):=by
 rw[decO_eq];have hs:p.toNat<s.size:=by omega
 have e:jas s p.toNat=((s[p.toNat]'hs).toNat:Int):=by
  have hl:p.toNat<s.data.toList.length:=by rw[Array.length_toList];exact hs
  simp only[jas,List.getElem?_eq_getElem hl];rfl
 rw[e];refine⟨fun h=> ?_,fun h=> ?_⟩
 ·rw[decode_ascii s _ hs (by omega)];rfl
 ·have:=decode_high s _ hs (by omega);exact⟨this.1,decode_le s _,this.2⟩
theorem jjw{c:Int}(h:hasZ kL c=true):0≤c∧c<128:=by
 have:∀x∈kL,0≤x∧x<128:=by decide
 exact this c (jcl.1 h)
theorem jh2:∀(l:E)(n m:Int)(out:E),xpGo l 0 n out=xpGo l 0 m out
 | [],_,_,_=>rfl
 | c::r,n,m,out=>by
  simp only[xpGo];rfl
theorem xp_high{c:Int}(h:128≤c)(r:E)(st n:Int)(out:E):xpGo (c::r) st n out=([],false):=by
 have hu:upZ c=c:=by unfold upZ;rw[if_neg (by omega)]
 have hk:¬hasZ kL c=true:=fun q=>by have:=jjw q;omega
 have hd:¬jg6 c=true:=fun q=>by have:=jab q;omega
 rw[xpGo];split
 ·rw[if_neg (by omega),if_neg (fun q=>hd q.1)]
 ·rw[if_neg (by omega),if_neg (by omega),hu,if_neg (fun q=>hk q.1)]
theorem dec_step{s:Y}{p:Int}(h0:0≤p)(h:p<s.size):0≤((decO s p.toNat).1:Int)∧((decO s p.toNat).1:Int)≤2147483647∧1≤((decO s p.toNat).2:Int)∧
  ∀st n out,xpGo ((bz s).drop p.toNat) st n out=xpGo (((decO s p.toNat).1:Int)::(bz s).drop (p+((decO s p.toNat).2:Int)).toNat) st n out:=by
 obtain⟨h1,h2⟩:=dec_cases h0 h;have hb:=jhy s p.toNat;by_cases hc:jas s p.toNat<128
 ·have e:=h1 hc;rw[e];simp only;rw[Int.toNat_of_nonneg hb.1];refine⟨hb.1,by omega,by omega,fun st n out=> ?_⟩;rw[jeg h0 h];rfl
 ·obtain⟨q1,q2,q3⟩:=h2 (by omega);refine⟨by omega,by omega,by omega,fun st n out=> ?_⟩;rw[jeg h0 h,xp_high (by omega),xp_high (by omega)]
theorem x1{c st n:Int}{r out:E}(h:st=1)(hc:c=41)(hn:0<n):xpGo (c::r) st n out=xpGo r 2 n out:=by rw[xpGo,if_pos h,if_pos hc,if_pos hn]
theorem x2{c st n:Int}{r out:E}(h:st=1)(hc:c=41)(hn:¬0<n):xpGo (c::r) st n out=([],false):=by rw[xpGo,if_pos h,if_pos hc,if_neg hn]
theorem x34{c st n:Int}{r out:E}(h:st=1)(hc:¬c=41):xpGo (c::r) st n out=if(rpZ n c).2=true then xpGo r 1 (rpZ n c).1 out else([],false):=by
 rw[xpGo,if_pos h,if_neg hc,rpZ];by_cases q:c<48∨c>57∨(n=0∧c=48)
 ·rw[if_pos q,if_neg,if_neg (by simp)];simp only[jg6,jae];omega
 ·rw[if_neg q];simp only[jg6,jae];by_cases q2:10*n+(c-48)≤32
  ·rw[if_pos (by omega),if_pos q2]
  ·rw[if_neg (by omega),if_neg q2]
theorem rp_rng{n c:Int}(hn:0≤n)(h:(rpZ n c).2=true):0≤(rpZ n c).1∧(rpZ n c).1≤32:=by
 unfold rpZ at h ⊢;split at h
 ·cases h
 ·rename_i q;rw[if_neg q];simp only[jae]at h ⊢;omega
theorem x5{c st n:Int}{r out:E}(h:¬st=1)(hc:c=41∨st=2∧c=40):xpGo (c::r) st n out=([],false):=by rw[xpGo,if_neg h,if_pos hc]
theorem x6{c st n:Int}{r out:E}(h:¬st=1)(hc:¬(c=41∨st=2∧c=40))(h2:c=40):xpGo (c::r) st n out=xpGo r 1 0 out:=by rw[xpGo,if_neg h,if_neg hc,if_pos h2]
theorem x7{c st n:Int}{r out:E}(h:¬st=1)(hc:¬(c=41∨st=2∧c=40))(h2:¬c=40):xpGo (c::r) st n out=if hasZ kL (upZ c)=true∧(out.length:Int)+(if st=2 then n else 1)≤32 then xpGo r 0 0 (out++rep1 (upZ c) (if st=2 then n else 1).toNat)else([],false):=by rw[xpGo,if_neg h,if_neg hc,if_neg h2]
theorem put_gate{u k:Int}{L:Nat}(hu:0≤u∧u≤2147483647)(hk:1≤k∧k≤32)(hL:L≤32):
  (decide (u≥128) || decide (0≤IntKind.wrap IntKind.u8 u∧IntKind.wrap IntKind.u8 u<256) && (decide (idxZ (bz (ByteArray.mk #[57,86,90,42,89,84,73,82,83,43,45,36,44,46,47,66,67,68,65,88])) (IntKind.wrap IntKind.u8 u)<0) || true))=true∧
  (decide (u≥128) || (decide (idxZ (bz (ByteArray.mk #[57,86,90,42,89,84,73,82,83,43,45,36,44,46,47,66,67,68,65,88])) (IntKind.wrap IntKind.u8 u)<0) || decide (IntKind.wrap IntKind.i64 (natO L+k)>32)))= !(decide (hasZ kL u=true∧(L:Int)+k≤32)):=by
 have eb:bz (ByteArray.mk #[57,86,90,42,89,84,73,82,83,43,45,36,44,46,47,66,67,68,65,88])=kL:=by kernel_rfl
 rw[eb,ja3,w64 (by omega)];by_cases h:u≥128
 ·have hh:¬(hasZ kL u=true∧(L:Int)+k≤32):=fun q=>by have:=jjw q.1;omega
  rw[jaa h,jad hh];exact⟨rfl,rfl⟩
 ·rw[w8 (by omega),jad h,jaa (show 0≤u∧u<256 by omega)];refine⟨by simp,?_⟩;have hi:=jfx u kL;rw[←jcl]at hi;by_cases h1:hasZ kL u=true
  ·rw[h1]at hi ⊢;have hi:=hi.2.2 rfl;rw[jad (show¬idxZ kL u<0 by omega)];by_cases h2:(L:Int)+k≤32
   ·rw[jad (show¬(L:Int)+k>32 by omega),jaa ⟨rfl,h2⟩];rfl
   ·rw[jaa (show(L:Int)+k>32 by omega),jad (fun q=>h2 q.2)];rfl
  ·have hn:idxZ kL u<0:=by
    have:¬0≤idxZ kL u:=fun q=>h1 (hi.2.1 q)
    omega
   rw[jaa hn,jad (show¬(hasZ kL u=true∧(L:Int)+k≤32)from fun q=>h1 q.1)];rfl
theorem jhi{u k:Int}{p:Int}{s:Y}(hu:0≤u∧u≤2147483647)(hk:1≤k∧k≤32){A:Prop}{Q:Nat→Nat→U→Prop}
  (h1:¬(hasZ kL u=true∧((([]:E).length:Nat):Int)+k≤32)→A)
  (h2:hasZ kL u=true∧((([]:E).length:Nat):Int)+k≤32→ ∀d' m' cap',RowP d' m' cap'→zc d' m'=[]++rep1 u k.toNat→Q m' cap' d'):
  bif decide (u≥128) || decide (0≤IntKind.wrap IntKind.u8 u∧IntKind.wrap IntKind.u8 u<256) && (decide (idxZ (bz (ByteArray.mk #[57,86,90,42,89,84,73,82,83,43,45,36,44,46,47,66,67,68,65,88])) (IntKind.wrap IntKind.u8 u)<0) || true)then
   bif decide (u≥128) || (decide (idxZ (bz (ByteArray.mk #[57,86,90,42,89,84,73,82,83,43,45,36,44,46,47,66,67,68,65,88])) (IntKind.wrap IntKind.u8 u)<0) || decide (IntKind.wrap IntKind.i64 (natO 0+k)>32))then A
   else
    bif LSpec.pre (LSpecA.toLSpec S114_0) (Blk.mk [Value.string s,Value.int IntKind.i64 p] 4611686018427387904 true,u,k,Rw.nil,0)then
     ∀(d':U)(m' cap':Nat),jc7 d' m' cap'=true→zc d' m'=Rw.z Rw.nil++rep1 u (Int.toNat (k-0))→
      bif jaz 420 d'&&true then∀(_:Tmps),bif jat [(400,200)] d'&&true&&true then Q m' cap' d' else False else False
    else False
  else False:=by
 obtain⟨g1,g2⟩:=put_gate (L:=0) hu hk (by omega);refine c_t g1 ?_;rw[g2];by_cases hq:hasZ kL u=true∧((0:Nat):Int)+k≤32
 ·rw[jaa hq];have hkl:=jjw hq.1;refine c_f rfl (c_t ?_ fun d' m' cap' r1 r2=> ?_)
  ·simp only[S114_0,jaf,jae,Rw.ok,Rw.is,Rw.z,List.length_nil,Bool.false_or,true_and,jav,plain];exact⟨by omega,jaa (by omega)⟩
  ·have r1:=ja5.1 r1;refine c_t (by rw[jbe r1.plain];rfl) fun x=>c_t (by rw[r1.good];rfl) ?_
   exact h2 hq d' m' cap' r1 (by rw[r2,Int.sub_zero];rfl)
 ·rw[jad hq];exact c_t rfl (h1 hq)
theorem jhh{u k:Int}{p:Int}{s:Y}{d:U}{m cap:Nat}(hr:RowP d m cap)(hm:m≤32)(hu:0≤u∧u≤2147483647)(hk:1≤k∧k≤32){A:Prop}{Q:Nat→Nat→U→Prop}
  (h1:¬(hasZ kL u=true∧((zc d m).length:Int)+k≤32)→A)
  (h2:hasZ kL u=true∧((zc d m).length:Int)+k≤32→ ∀d' m' cap',RowP d' m' cap'→zc d' m'=zc d m++rep1 u k.toNat→Q m' cap' d'):
  bif decide (u≥128) || decide (0≤IntKind.wrap IntKind.u8 u∧IntKind.wrap IntKind.u8 u<256) && (decide (idxZ (bz (ByteArray.mk #[57,86,90,42,89,84,73,82,83,43,45,36,44,46,47,66,67,68,65,88])) (IntKind.wrap IntKind.u8 u)<0) || true)then
   bif decide (u≥128) || (decide (idxZ (bz (ByteArray.mk #[57,86,90,42,89,84,73,82,83,43,45,36,44,46,47,66,67,68,65,88])) (IntKind.wrap IntKind.u8 u)<0) || decide (IntKind.wrap IntKind.i64 (natO m+k)>32))then
    bif jat [] d&&true&&true then A else False
   else
    bif jat [(200,400)] d&&true&&true&& (jaz 420 d&&true)then
     bif LSpec.pre (LSpecA.toLSpec S114_0) (Blk.mk [Value.string s,Value.int IntKind.i64 p] 4611686018427387904 true,u,k,Rw.own d m cap,0)then
      ∀(d':U)(m' cap':Nat),jc7 d' m' cap'=true→zc d' m'=Rw.z (Rw.own d m cap)++rep1 u (Int.toNat (k-0))→
       bif jaz 420 d'&&true then∀(_:Tmps),bif jat [(400,200)] d'&&true&&true then Q m' cap' d' else False else False
     else False
    else False
  else False:=by
 obtain⟨g1,g2⟩:=put_gate (L:=m) hu hk (by omega);rw[jbw hr]at h1 h2;have hzl:=jbw hr;refine c_t g1 ?_;rw[g2,hr.good,hr.good,jbe hr.plain];by_cases hq:hasZ kL u=true∧(m:Int)+k≤32
 ·rw[jaa hq];have hkl:=jjw hq.1;refine c_f rfl (c_t rfl (c_t ?_ fun d' m' cap' r1 r2=> ?_))
  ·simp only[S114_0,jaf,jae,Rw.ok,Rw.is,Rw.z,Bool.true_or,true_and,jav,plain];exact⟨ja5.2 hr,jaa (by omega)⟩
  ·have r1:=ja5.1 r1;refine c_t (by rw[jbe r1.plain];rfl) fun x=>c_t (by rw[r1.good];rfl) ?_
   exact h2 hq d' m' cap' r1 (by rw[r2,Int.sub_zero];rfl)
 ·rw[jad hq];exact c_t rfl (c_t rfl (h1 hq))
def V80_0:Y×Bool×Rw×Int×Int×Bool×Y×Int→U:=fun(r,rb,o,st,n,f,s,p)=> [.string r,.bool rb,o.v 200,.int .i64 st,.int .i64 n,.bool f,.pointer (some ⟨7,0,some 0⟩)]
def B80_0:Y×Bool×Rw×Int×Int×Bool×Y×Int→F:=fun(r,rb,o,st,n,f,s,p)=> [some ⟨[.string s,.int .i64 p],itTy,true⟩,o.b]
def S80_0:LSpecA (Y×Bool×Rw×Int×Int×Bool×Y×Int) where
 live:=[2,3,4,5,6,7,11]
 mid:=[7,200]
 n:=210
 ap:=[(.tmp 4,200)]
 dec vs bs:=match vs,bs with
  | [.string r,.bool rb,.slice none 0 0,.int .i64 st,.int .i64 n,.bool f,.pointer (some ⟨7,0,some 0⟩)],[some ⟨[.string s,.int .i64 p],ty,true⟩,none]=>match Nat.beq ty itTy with | true=>some (r,rb,.nil,st,n,f,s,p) | false=>none
  | [.string r,.bool rb,.slice (some ⟨200,0,some 1⟩) m cap,.int .i64 st,.int .i64 n,.bool f,.pointer (some ⟨7,0,some 0⟩)],[some ⟨[.string s,.int .i64 p],ty,true⟩,some ⟨d,5,true⟩]=>match Nat.beq ty itTy with | true=>some (r,rb,.own d m cap,st,n,f,s,p) | false=>none
  | _,_=>none
 pre:=fun(r,rb,o,st,n,f,s,p)=>o.ok&& (f&&decide (0≤p∧s.size≤9223372036854775807∧(st=0∨st=1∨(st=2∧0<n))∧0≤n∧n≤32∧o.z.length≤32))
 fin:=fun(r,rb,o,st,n,f,s,p) Z=>(xpGo ((bz s).drop p.toNat) st n o.z=([],false)→(∀st' n' f' p',Z .ret [.string ⟨#[]⟩,.bool false,.slice none 0 0,.int .i64 st',.int .i64 n',.bool f',.pointer (some ⟨7,0,some 0⟩)] [some ⟨[.string s,.int .i64 p'],itTy,true⟩,none])∧(∀d' m' cap' st' n' f' p',jc7 d' m' cap'=true→Z .ret [.string ⟨#[]⟩,.bool false,.slice (some ⟨200,0,some 1⟩) m' cap',.int .i64 st',.int .i64 n',.bool f',.pointer (some ⟨7,0,some 0⟩)] [some ⟨[.string s,.int .i64 p'],itTy,true⟩,some ⟨d',5,true⟩])∧(∀d' st' n' f' p',jav d'=true→Z .ret [.string ⟨#[]⟩,.bool false,.slice none 0 0,.int .i64 st',.int .i64 n',.bool f',.pointer (some ⟨7,0,some 0⟩)] [some ⟨[.string s,.int .i64 p'],itTy,true⟩,some ⟨d',5,true⟩]))∧(∀st' n' f' p',xpGo ((bz s).drop p.toNat) st n o.z=([],decide (st'=0))→Z (.exit 0) [.string r,.bool rb,.slice none 0 0,.int .i64 st',.int .i64 n',.bool f',.pointer (some ⟨7,0,some 0⟩)] [some ⟨[.string s,.int .i64 p'],itTy,true⟩,none])∧(∀d' m' cap' st' n' f' p',jc7 d' m' cap'=true→xpGo ((bz s).drop p.toNat) st n o.z=(zc d' m',decide (st'=0))→Z (.exit 0) [.string r,.bool rb,.slice (some ⟨200,0,some 1⟩) m' cap',.int .i64 st',.int .i64 n',.bool f',.pointer (some ⟨7,0,some 0⟩)] [some ⟨[.string s,.int .i64 p'],itTy,true⟩,some ⟨d',5,true⟩])
def dn(a:Y)(b:Int):Int:=((decO a b.toNat).fst:Int)
def kw(c:Y)(a b d:Int)(e f g h i:Prop):Prop:=bif a==1 then bif decide (0≤b∧b≤32∧0≤dn c d∧dn c d≤2147483647)then e else False else cu (dn c d==41) (a==2 || true) (dn c d==41 || a==2&&dn c d==40) f (bif dn c d==40 then g else bif a==2 then h else i)
def ll(e:Bool)(a c:Int)(b:Nat)(d f:Prop):Prop:=bif bn a 128 || dp (IntKind.u8.wrap a) 256&& (al (idxZ je (IntKind.u8.wrap a)) 0 || true)then bif bn a 128 || (al (idxZ je (IntKind.u8.wrap a)) 0 || aq (fy (natO b) c) 32)then d else bif e then f else False else False
def jx(a:Y)(b:Int):Int:=IntKind.i32.wrap (dn a b-32)
def lp(f h:Bool)(a:Y)(b d:Int)(c:Nat)(e g i:Prop):Prop:=bif bn (dn a b) 97 || true then bif bn (dn a b) 97&&decide (dn a b≤122)then ll f (jx a b) d c e g else ll h (dn a b) d c e i else False
def jy(a:Y)(b:Int):Blk:= .mk [.string a,.int .i64 (b+((decO a b.toNat).snd:Int))] 4611686018427387904 true
def kh(i:Bool)(h l:Y)(g:Exit→U→F→Prop)(e f j k m:Int)(d:Px.Rw):Prop:=∀a:U,∀b:Nat,∀c:Nat,jc7 a b c=true→zc a b=Rw.z d++rep1 e (Int.toNat (f-0))→dw true a 420 (ax (e9 a 400 200) g [some (jy l m),dv a 400 200 5] [.string h,.bool i,am 200 0 b c,ak j,ak k,.bool true,dq 7])
def jr(g:Bool)(h:Y)(a:Exit→U→F→Prop)(e f i:Int)(c d:Nat)(b:Option Addr)(j:Option Blk):Prop:=a .ret [e7,.bool false,.slice b c d,ak e,ak f,.bool g,dq 7] [some (jy h i),j]
def ki(a:Y)(b c d:Int)(e:Px.Rw):Bool:=S114_0.toLSpec.pre (jy a b,(c,(d,(e,(0:Int)))))
def lu(g:Bool)(a h:Y)(d:Exit→U→F→Prop)(b c e f:Int):Prop:=lp (ki a b (jx a b) c Rw.nil) (ki a b (dn a b) c Rw.nil) a b c 0 (jr false a d e f b 0 0 none none) (kh g h a d (jx a b) c e f b Rw.nil) (kh g h a d (dn a b) c e f b Rw.nil)
def kx(a h:Bool)(b g:Y)(c:Exit→U→F→Prop)(d e f:Int)(i:Value):Prop:=bif !a then jr a b c d e f 0 0 none none else c .normal [.string g,.bool h,bt,ak d,i,.bool a,dq 7] [some (jy b f),none]
theorem r80_0n(r:Y)(rb:Bool)(st:Int)(n:Int)(f:Bool)(s:Y)(p:Int)(jk:Tmps)(R:Exit→U→F→Prop):(jbz Tryz.prog G17 noL Tryz.f127.ntmps (ja9 Tryz.f127 0) (tl S80_0.live (V80_0 (r,rb,.nil,st,n,f,s,p)) jk) (ml S80_0.mid (B80_0 (r,rb,.nil,st,n,f,s,p))) S80_0.n fun e t' m' _=>S80_0.out R e t' m')=(bif decide (0≤p)then bif cv s p then cu (st==1) true (st==1&&dn s p==41) (kx (aq n 0) rb s r R 2 n p (ak n)) (kw s st n p (kx (rpZ n (dn s p)).snd rb s r R st (rpZ n (dn s p)).fst p (I (rpZ n (dn s p)).fst)) (jr false s R st n p 0 0 none none) (kx f rb s r R 1 0 p (ak 0)) (lu rb s r R p n 0 n) (lu rb s r R p 1 st n))else R (.exit 0) (b7 rb r [ak st,ak n,B f,dq 7] bt) [some (.mk [S s,ak p] 4611686018427387904 true),none]else False):=by kernel_rfl
def bu(b:U)(a:Nat):Bool:=jaz a b&&true
def lv(j:Bool)(b k:Y)(f:Exit→U→F→Prop)(c d g h:Int)(a:U)(e i:Nat):Prop:=lp (e9 a 200 400&&bu (rlbL [(200,400)] a) 420) (e9 a 200 400&&bu (rlbL [(200,400)] a) 420) b c d e (bif ck [] a then jr false b f g h c 0 0 none (some (.mk (rlbL [] a) 5 true))else False) (bif ki b c (jx b c) d (Rw.own (rlbL [(200,400)] a) e i)then kh j k b f (jx b c) d g h c (Rw.own (rlbL [(200,400)] a) e i)else False) (bif ki b c (dn b c) d (Rw.own (rlbL [(200,400)] a) e i)then kh j k b f (dn b c) d g h c (Rw.own (rlbL [(200,400)] a) e i)else False)
def lw(b:Bool)(c:Y)(d:Exit→U→F→Prop)(e f g:Int)(a:U)(h i:Nat):Prop:=bif e9 a 200 200 then jr b c d e f g h i (some (.mk 200 0 (some 1))) (dv a 200 200 5)else False
def ky(a j:Bool)(b k:Y)(c:Exit→U→F→Prop)(d e f:Int)(g:U)(h i:Nat)(l:Value):Prop:=bif !a then lw a b c d e f g h i else ax (e9 g 200 200) c [some (jy b f),dv g 200 200 5] (b7 j k [ak d,l,.bool a,dq 7] (am 200 0 h i))
theorem r80_0o(r:Y)(rb:Bool)(d:U)(m:Nat)(cap:Nat)(st:Int)(n:Int)(f:Bool)(s:Y)(p:Int)(jk:Tmps)(R:Exit→U→F→Prop):(jbz Tryz.prog G17 noL Tryz.f127.ntmps (ja9 Tryz.f127 0) (tl S80_0.live (V80_0 (r,rb,.own d m cap,st,n,f,s,p)) jk) (ml S80_0.mid (B80_0 (r,rb,.own d m cap,st,n,f,s,p))) S80_0.n fun e t' m' _=>S80_0.out R e t' m')=(bif decide (0≤p)then bif cv s p then cu (st==1) true (st==1&&dn s p==41) (ky (aq n 0) rb s r R 2 n p d m cap (ak n)) (kw s st n p (ky (rpZ n (dn s p)).snd rb s r R st (rpZ n (dn s p)).fst p d m cap (I (rpZ n (dn s p)).fst)) (lw false s R st n p d m cap) (ky f rb s r R 1 0 p d m cap (ak 0)) (lv rb s r R p n 0 n d m cap) (lv rb s r R p 1 st n d m cap))else bw (e9 d 200 200) R [some (.mk [S s,ak p] 4611686018427387904 true),dv d 200 200 5] (b7 rb r [ak st,ak n,B f,dq 7] (am 200 0 m cap)) 0 else False):=by kernel_rfl
theorem l80_0:LOKf Tryz.prog (oneL 0 S80_0.hA) Tryz.f127:=by
 refine jbk (h:=S80_0.hA) (by kernel_rfl) (jb1 ok_G17 hmix (by kernel_rfl) (ja6 _) S80_0 V80_0 B80_0 (fun(r,rb,o,st,n,f,s,p)=>(s.size-p).toNat) ?_ ?_ ?_)
 ·intro vs bs s h;simp only[S80_0]at h;split at h
  all_goals first | (cases h;exact⟨rfl,rfl⟩) | cases h | (split at h<;>first | (rename_i hq;cases h;have hq:=jah hq;subst hq;exact⟨rfl,rfl⟩) | cases h)
 ·exact fun⟨r,rb,o,st,n,f,s,p⟩ hp=>by
   simp only[S80_0,jaf]at hp;cases o with
   | nil=>simp[V80_0,B80_0,S80_0,jaz,jbn,idsL,ids,Rw.v,Rw.b]
   | own d m cap=>simp[V80_0,B80_0,S80_0,jaz,jbn,idsL,ids,Rw.v,Rw.b,jar (ja5.1 hp.1).plain]
 ·intro⟨r,rb,o,st,n,f,s,p⟩ jk Z hp hf;simp only[S80_0]at hp hf;cases o with
  | nil=>
   rw[r80_0n];delta ak b7 bt dq cu dn kw aq fy al je bn dp ll jx lp dw ax am dv jy e9 kh e7 jr ki lu kx av cv;simp only[jaf,jae]at hp;obtain⟨-,rfl,hp⟩:=hp;simp only[Rw.z]at hp hf;refine c_t (jaa hp.1) (cond_intro (fun h=> ?_) (fun h=> ?_))
   ·have h:=jab h;obtain⟨k1,k2,k3,k4⟩:=dec_step hp.1 h;simp only[k4]at hf;clear k4;generalize ((decO s p.toNat).1:Int)=c at k1 k2 hf ⊢;generalize ((decO s p.toNat).2:Int)=k at k3 hf ⊢;have mu:(s.size-(p+k)).toNat<(s.size-p).toNat:=by omega
    refine c_t (by simp) (cond_intro (fun a=> ?_) (fun a=> ?_))
    ·have a:st=1∧c=41:=by simpa using a
     apply cond_intro<;>intro b
     ·have b:¬0<n:=by simpa using b
      exact(hf.1 (x2 a.1 a.2 b)).1 _ _ _ _
     ·have b:0<n:=by simpa using b
      rw[x1 a.1 a.2 b]at hf;rw[jaa b];exact⟨(r,rb,.nil,2,n,true,s,p+k),rfl,rfl,by simp only[S80_0,jaf,jae];exact⟨rfl,trivial,by omega,hp.2.1,.inr (.inr ⟨trivial,b⟩),by omega,by omega,Nat.zero_le _⟩,mu,hf⟩
    ·refine cond_intro (fun b=>c_t (jaa ⟨by omega,by omega,k1,k2⟩) ?_) (fun b=> ?_)
     ·have b:st=1:=by simpa using b
      have a:¬c=41:=fun q=>by rw[b,q]at a;cases a
      rw[x34 b a]at hf;apply cond_intro<;>intro g
      ·have g:(rpZ n c).2=false:=by simpa using g
       rw[if_neg (by rw[g];simp)]at hf;exact(hf.1 rfl).1 _ _ _ _
      ·have g:(rpZ n c).2=true:=by simpa using g
       have gr:=rp_rng hp.2.2.2.1 g;rw[if_pos g]at hf;rw[g,b];exact⟨(r,rb,.nil,1,(rpZ n c).1,true,s,p+k),rfl,rfl,by simp only[S80_0,jaf,jae];exact⟨rfl,trivial,by omega,hp.2.1,.inr (.inl trivial),by omega,by omega,Nat.zero_le _⟩,mu,hf⟩
     ·have b:¬st=1:=by simpa using b
      have hst:st=0∨st=2∧0<n:=by omega
      refine c_t (by simp) (cond_intro (fun g=> ?_) (fun g=> ?_))
      ·have g:c=41∨st=2∧c=40:=by simpa using g
       exact(hf.1 (x5 b g)).1 _ _ _ _
      ·have g:¬(c=41∨st=2∧c=40):=by
        intro q;have:(c==41 || st==2&&c==40)=true:=by simpa using q
        rw[this]at g;cases g
       refine cond_intro (fun q=>c_f rfl (?_)) (fun q=> ?_)
       ·have q:c=40:=by simpa using q
        rw[x6 b g q]at hf;exact⟨(r,rb,.nil,1,0,true,s,p+k),rfl,rfl,by simp only[S80_0,jaf,jae];exact⟨rfl,trivial,by omega,hp.2.1,.inr (.inl trivial),by omega,by omega,Nat.zero_le _⟩,mu,hf⟩
       ·have q:¬c=40:=by simpa using q
        rw[x7 b g q]at hf;apply cond_intro<;>intro v
        ·have v:st=2:=by simpa using v
         rw[if_pos v]at hf;refine c_t (by simp) (cond_intro (fun y=> ?_) (fun y=> ?_))
         ·have y:97≤c∧c≤122:=by simpa using y
          have hu:upZ c=c-32:=by unfold upZ;rw[if_pos y]
          rw[hu]at hf;rw[w32 (by omega)];refine jhi ?_ ?_ (fun e=> ?_) (fun e d' m' cap' r1 r2=> ?_)
          ·omega
          ·omega
          ·rw[if_neg e]at hf;exact(hf.1 rfl).1 _ _ _ _
          ·rw[r1.rlb];rw[if_pos e,←r2,jh2 _ 0 n]at hf;have hl:=jbw r1;have hl2:=congrArg List.length r2;simp only[List.length_append,rep1,List.length_replicate]at hl2;simp only[List.length_nil]at e hl2;exact⟨(r,rb,.own d' m' cap',0,n,true,s,p+k),rfl,rfl,by simp only[S80_0,jaf,jae];exact⟨ja5.2 r1,trivial,by omega,hp.2.1,.inl trivial,hp.2.2.2.1,hp.2.2.2.2.1,by simp only[Rw.z,hl];omega⟩,mu,hf⟩
         ·have y:¬(97≤c∧c≤122):=by
           intro q;have:(decide (c≥97) &&decide (c≤122))=true:=by simpa using q
           rw[this]at y;cases y
          have hu:upZ c=c:=by unfold upZ;rw[if_neg y]
          rw[hu]at hf;refine jhi ?_ ?_ (fun e=> ?_) (fun e d' m' cap' r1 r2=> ?_)
          ·omega
          ·omega
          ·rw[if_neg e]at hf;exact(hf.1 rfl).1 _ _ _ _
          ·rw[r1.rlb];rw[if_pos e,←r2,jh2 _ 0 n]at hf;have hl:=jbw r1;have hl2:=congrArg List.length r2;simp only[List.length_append,rep1,List.length_replicate]at hl2;simp only[List.length_nil]at e hl2;exact⟨(r,rb,.own d' m' cap',0,n,true,s,p+k),rfl,rfl,by simp only[S80_0,jaf,jae];exact⟨ja5.2 r1,trivial,by omega,hp.2.1,.inl trivial,hp.2.2.2.1,hp.2.2.2.2.1,by simp only[Rw.z,hl];omega⟩,mu,hf⟩
        ·have v:¬st=2:=by simpa using v
         have v0:st=0:=by omega
         rw[if_neg v]at hf;refine c_t (by simp) (cond_intro (fun y=> ?_) (fun y=> ?_))
         ·have y:97≤c∧c≤122:=by simpa using y
          have hu:upZ c=c-32:=by unfold upZ;rw[if_pos y]
          rw[hu]at hf;rw[w32 (by omega),v0];refine jhi ?_ ?_ (fun e=> ?_) (fun e d' m' cap' r1 r2=> ?_)
          ·omega
          ·omega
          ·rw[if_neg e]at hf;exact(hf.1 rfl).1 _ _ _ _
          ·rw[r1.rlb];rw[if_pos e,←r2,jh2 _ 0 n]at hf;have hl:=jbw r1;have hl2:=congrArg List.length r2;simp only[List.length_append,rep1,List.length_replicate]at hl2;simp only[List.length_nil]at e hl2;exact⟨(r,rb,.own d' m' cap',0,n,true,s,p+k),rfl,rfl,by simp only[S80_0,jaf,jae];exact⟨ja5.2 r1,trivial,by omega,hp.2.1,.inl trivial,hp.2.2.2.1,hp.2.2.2.2.1,by simp only[Rw.z,hl];omega⟩,mu,hf⟩
         ·have y:¬(97≤c∧c≤122):=by
           intro q;have:(decide (c≥97) &&decide (c≤122))=true:=by simpa using q
           rw[this]at y;cases y
          have hu:upZ c=c:=by unfold upZ;rw[if_neg y]
          rw[hu]at hf;rw[v0];refine jhi ?_ ?_ (fun e=> ?_) (fun e d' m' cap' r1 r2=> ?_)
          ·omega
          ·omega
          ·rw[if_neg e]at hf;exact(hf.1 rfl).1 _ _ _ _
          ·rw[r1.rlb];rw[if_pos e,←r2,jh2 _ 0 n]at hf;have hl:=jbw r1;have hl2:=congrArg List.length r2;simp only[List.length_append,rep1,List.length_replicate]at hl2;simp only[List.length_nil]at e hl2;exact⟨(r,rb,.own d' m' cap',0,n,true,s,p+k),rfl,rfl,by simp only[S80_0,jaf,jae];exact⟨ja5.2 r1,trivial,by omega,hp.2.1,.inl trivial,hp.2.2.2.1,hp.2.2.2.2.1,by simp only[Rw.z,hl];omega⟩,mu,hf⟩
   ·have h:=jac h;rw[jdc (by omega)]at hf;exact hf.2.1 st n _ p rfl
  | own d m cap=>
   rw[r80_0o];delta bw b7 am dq ak dv e9 cu dn kw aq fy al je bn dp ll jx lp dw ax jy kh ki e7 jr ck bu lv lw ky av cv;simp only[jaf,jae]at hp;obtain⟨hR,rfl,hp⟩:=hp;have hr:=ja5.1 hR;have hzl:=jbw hr;simp only[Rw.z]at hp hf;have hL:(Rw.own d m cap).z.length≤32:=by simp only[Rw.z];exact hp.2.2.2.2.2
   have hm:m≤32:=by have:=hp.2.2.2.2.2;omega
   simp only[hr.rlb];have hg:∀ps,(jat ps d&&true&&true)=true:=fun ps=>by rw[hr.good];rfl
   refine c_t (jaa hp.1) (cond_intro (fun h=> ?_) (fun h=> ?_))
   ·have h:=jab h;obtain⟨k1,k2,k3,k4⟩:=dec_step hp.1 h;simp only[k4]at hf;clear k4;generalize ((decO s p.toNat).1:Int)=c at k1 k2 hf ⊢;generalize ((decO s p.toNat).2:Int)=k at k3 hf ⊢;have mu:(s.size-(p+k)).toNat<(s.size-p).toNat:=by omega
    refine c_t (by simp) (cond_intro (fun a=> ?_) (fun a=> ?_))
    ·have a:st=1∧c=41:=by simpa using a
     refine cond_intro (fun b=>c_t (hg _) ?_) (fun b=>c_t (hg _) ?_)
     ·have b:¬0<n:=by simpa using b
      exact(hf.1 (x2 a.1 a.2 b)).2.1 d m cap _ _ _ _ hR
     ·have b:0<n:=by simpa using b
      rw[x1 a.1 a.2 b]at hf;rw[jaa b];exact⟨(r,rb,.own d m cap,2,n,true,s,p+k),rfl,rfl,by simp only[S80_0,jaf,jae];exact⟨hR,trivial,by omega,hp.2.1,.inr (.inr ⟨trivial,b⟩),by omega,by omega,hL⟩,mu,hf⟩
    ·refine cond_intro (fun b=>c_t (jaa ⟨by omega,by omega,k1,k2⟩) ?_) (fun b=> ?_)
     ·have b:st=1:=by simpa using b
      have a:¬c=41:=fun q=>by rw[b,q]at a;cases a
      rw[x34 b a]at hf;refine cond_intro (fun g=>c_t (hg _) ?_) (fun g=>c_t (hg _) ?_)
      ·have g:(rpZ n c).2=false:=by simpa using g
       rw[if_neg (by rw[g];simp)]at hf;exact(hf.1 rfl).2.1 d m cap _ _ _ _ hR
      ·have g:(rpZ n c).2=true:=by simpa using g
       have gr:=rp_rng hp.2.2.2.1 g;rw[if_pos g]at hf;rw[g,b];exact⟨(r,rb,.own d m cap,1,(rpZ n c).1,true,s,p+k),rfl,rfl,by simp only[S80_0,jaf,jae];exact⟨hR,trivial,by omega,hp.2.1,.inr (.inl trivial),by omega,by omega,hL⟩,mu,hf⟩
     ·have b:¬st=1:=by simpa using b
      have hst:st=0∨st=2∧0<n:=by omega
      refine c_t (by simp) (cond_intro (fun g=>c_t (hg _) ?_) (fun g=> ?_))
      ·have g:c=41∨st=2∧c=40:=by simpa using g
       exact(hf.1 (x5 b g)).2.1 d m cap _ _ _ _ hR
      ·have g:¬(c=41∨st=2∧c=40):=by
        intro q;have:(c==41 || st==2&&c==40)=true:=by simpa using q
        rw[this]at g;cases g
       refine cond_intro (fun q=>c_f rfl (c_t (hg _) ?_)) (fun q=> ?_)
       ·have q:c=40:=by simpa using q
        rw[x6 b g q]at hf;exact⟨(r,rb,.own d m cap,1,0,true,s,p+k),rfl,rfl,by simp only[S80_0,jaf,jae];exact⟨hR,trivial,by omega,hp.2.1,.inr (.inl trivial),by omega,by omega,hL⟩,mu,hf⟩
       ·have q:¬c=40:=by simpa using q
        rw[x7 b g q]at hf;apply cond_intro<;>intro v
        ·have v:st=2:=by simpa using v
         rw[if_pos v]at hf;refine c_t (by simp) (cond_intro (fun y=> ?_) (fun y=> ?_))
         ·have y:97≤c∧c≤122:=by simpa using y
          have hu:upZ c=c-32:=by unfold upZ;rw[if_pos y]
          rw[hu]at hf;rw[w32 (by omega)];refine jhh hr hm ?_ ?_ (fun e=> ?_) (fun e d' m' cap' r1 r2=> ?_)
          ·omega
          ·omega
          ·rw[if_neg e]at hf;exact(hf.1 rfl).2.2 d _ _ _ _ hr.plain
          ·rw[r1.rlb];rw[if_pos e,←r2,jh2 _ 0 n]at hf;have hl:=jbw r1;have hl2:=congrArg List.length r2;simp only[List.length_append,rep1,List.length_replicate]at hl2;simp only[hzl]at e hl2;exact⟨(r,rb,.own d' m' cap',0,n,true,s,p+k),rfl,rfl,by simp only[S80_0,jaf,jae];exact⟨ja5.2 r1,trivial,by omega,hp.2.1,.inl trivial,hp.2.2.2.1,hp.2.2.2.2.1,by simp only[Rw.z,hl];omega⟩,mu,hf⟩
         ·have y:¬(97≤c∧c≤122):=by
           intro q;have:(decide (c≥97) &&decide (c≤122))=true:=by simpa using q
           rw[this]at y;cases y
          have hu:upZ c=c:=by unfold upZ;rw[if_neg y]
          rw[hu]at hf;refine jhh hr hm ?_ ?_ (fun e=> ?_) (fun e d' m' cap' r1 r2=> ?_)
          ·omega
          ·omega
          ·rw[if_neg e]at hf;exact(hf.1 rfl).2.2 d _ _ _ _ hr.plain
          ·rw[r1.rlb];rw[if_pos e,←r2,jh2 _ 0 n]at hf;have hl:=jbw r1;have hl2:=congrArg List.length r2;simp only[List.length_append,rep1,List.length_replicate]at hl2;simp only[hzl]at e hl2;exact⟨(r,rb,.own d' m' cap',0,n,true,s,p+k),rfl,rfl,by simp only[S80_0,jaf,jae];exact⟨ja5.2 r1,trivial,by omega,hp.2.1,.inl trivial,hp.2.2.2.1,hp.2.2.2.2.1,by simp only[Rw.z,hl];omega⟩,mu,hf⟩
        ·have v:¬st=2:=by simpa using v
         have v0:st=0:=by omega
         rw[if_neg v]at hf;refine c_t (by simp) (cond_intro (fun y=> ?_) (fun y=> ?_))
         ·have y:97≤c∧c≤122:=by simpa using y
          have hu:upZ c=c-32:=by unfold upZ;rw[if_pos y]
          rw[hu]at hf;rw[w32 (by omega),v0];refine jhh hr hm ?_ ?_ (fun e=> ?_) (fun e d' m' cap' r1 r2=> ?_)
          ·omega
          ·omega
          ·rw[if_neg e]at hf;exact(hf.1 rfl).2.2 d _ _ _ _ hr.plain
          ·rw[r1.rlb];rw[if_pos e,←r2,jh2 _ 0 n]at hf;have hl:=jbw r1;have hl2:=congrArg List.length r2;simp only[List.length_append,rep1,List.length_replicate]at hl2;simp only[hzl]at e hl2;exact⟨(r,rb,.own d' m' cap',0,n,true,s,p+k),rfl,rfl,by simp only[S80_0,jaf,jae];exact⟨ja5.2 r1,trivial,by omega,hp.2.1,.inl trivial,hp.2.2.2.1,hp.2.2.2.2.1,by simp only[Rw.z,hl];omega⟩,mu,hf⟩
         ·have y:¬(97≤c∧c≤122):=by
           intro q;have:(decide (c≥97) &&decide (c≤122))=true:=by simpa using q
           rw[this]at y;cases y
          have hu:upZ c=c:=by unfold upZ;rw[if_neg y]
          rw[hu]at hf;rw[v0];refine jhh hr hm ?_ ?_ (fun e=> ?_) (fun e d' m' cap' r1 r2=> ?_)
          ·omega
          ·omega
          ·rw[if_neg e]at hf;exact(hf.1 rfl).2.2 d _ _ _ _ hr.plain
          ·rw[r1.rlb];rw[if_pos e,←r2,jh2 _ 0 n]at hf;have hl:=jbw r1;have hl2:=congrArg List.length r2;simp only[List.length_append,rep1,List.length_replicate]at hl2;simp only[hzl]at e hl2;exact⟨(r,rb,.own d' m' cap',0,n,true,s,p+k),rfl,rfl,by simp only[S80_0,jaf,jae];exact⟨ja5.2 r1,trivial,by omega,hp.2.1,.inl trivial,hp.2.2.2.1,hp.2.2.2.2.1,by simp only[Rw.z,hl];omega⟩,mu,hf⟩
   ·have h:=jac h;rw[jdc (by omega)]at hf;exact c_t (hg _) (hf.2.2 d m cap st n _ p hR rfl)
def s80(s:Y):Bool×Value:=(decide (s.size≤9223372036854775807),.tuple ⟨[.string (sz (xpGo (bz s) 0 0 []).1),.bool (exOK (bz s))]⟩)
theorem fn80:Fn1 Tryz.prog 127 Tryz.f127:= .m Tryz.func127
def jf(a:Prop):Prop:=Int→Bool→Int→a
theorem v80(s:Y)(R:Value→Prop):ja4 Tryz.prog G17 (oneL 0 S80_0.hA) Tryz.f127 [Enc.enc s] (fun _=>none) 0 (fun v _ _=>R v)=(bif S80_0.toLSpec.pre (ByteArray.mk #[],(false,(Rw.nil,((0:Int),((0:Int),(true,(s,(0:Int))))))))then(xpGo (a0 s 0) 0 0 (Rw.z Rw.nil)=(([]:E),false)→(Int→jf (Tmps→R (ay (e7::gl))))∧(∀a:U,∀b:Nat,∀c:Nat,Int→jf (jc7 a b c=true→e6 (bu a 210) (ay (e7::gl)) R))∧(∀a:U,Int→jf (jav a=true→e6 (bu a 210) (ay (e7::gl)) R)))∧(∀a:Int,jf (xpGo (a0 s 0) 0 0 (Rw.z Rw.nil)=(([]:E),decide (a=0))→Tmps→az (a==0 || true) (ay [S (bif a==0 then ByteArray.empty else ByteArray.empty),B (a==0&&aq (natO 0) 0)]) R))∧(∀a:U,∀b:Nat,∀c:Nat,∀d:Int,jf (jc7 a b c=true→xpGo (a0 s 0) 0 0 (Rw.z Rw.nil)=(zc a b,decide (d=0))→dw true a 210 (az (jcw a 0 b&& (d==0 || true)) (ay [S (bif d==0 then jb9 a 0 b else jb9 a 0 b),B (d==0&&aq (natO b) 0)]) R)))else False):=by kernel_rfl
theorem ok80:jal Tryz.prog 127 (sp1 s80):=by
 refine jcr ok_G17 hmix fn80 l80_0 jag fun s hc=> ?_
 rw[jb5,v80];delta jf dw az ay aq a0 e6 gl e7 bu;have hc:(s.size≤9223372036854775807):=jab hc
 try dsimp only[s80]
 refine c_t ?_ ⟨fun h=> ?_,fun st' n' f' p' h x=> ?_,fun d' m' cap' st' n' f' p' hr h=> ?_⟩
 ·simp only[S80_0,Rw.ok,Rw.z,Bool.true_and];exact jaa ⟨by omega,by omega,.inl trivial,by omega,by omega,by simp⟩
 ·have h:xpGo (bz s) 0 0 []=([],false):=h;have e:exOK (bz s)=false:=by simp[exOK,h]
  rw[h,e];exact⟨fun _ _ _ _ _=>rfl,fun d' m' cap' _ _ _ _ hr=>c_t (by rw[jbe (ja5.1 hr).plain];rfl) fun _=>rfl,fun d' _ _ _ _ hp=>c_t (by rw[jbe hp];rfl) fun _=>rfl⟩
 ·have h:xpGo (bz s) 0 0 []=([],decide (st'=0)):=h;have e:exOK (bz s)=false:=by simp[exOK,h]
  rw[h,e];refine c_t (by simp) ?_;rw[ja3];have e1:(bif st'==0 then ByteArray.empty else ByteArray.empty)=sz []:=by cases st'==0<;>rfl
  have e2:(st'==0&&decide (((0:Nat):Int)>0))=false:=by simp
  rw[e1,e2]
 ·have h:xpGo (bz s) 0 0 []=(zc d' m',decide (st'=0)):=h;have hr:=ja5.1 hr;have hl:=jbw hr;refine c_t (by rw[jbe hr.plain];rfl) fun x=>c_t (by rw[hr.str.1];simp) ?_
  rw[hr.str.2,ja3];have e1:(bif st'==0 then sz (zc d' m')else sz (zc d' m'))=sz (zc d' m'):=by cases st'==0<;>rfl
  have e2:exOK (bz s)=(st'==0&&decide ((m':Int)>0)):=by
   rw[exOK,h];simp only;rw[Bool.eq_iff_iff];simp only[jaf,jae,beq_iff_eq,Bool.not_eq_true',List.isEmpty_eq_false_iff];constructor
   ·rintro ⟨a,b⟩;have:=List.length_pos_iff.2 b;exact⟨a,by omega⟩
   ·rintro ⟨a,b⟩;exact⟨a,fun q=>by rw[q]at hl;simp at hl;omega⟩
  rw[e1,e2,h]
end Go.Px
end
noncomputable section
namespace Go.Px
open Go Go.Ab Go.Proofs Go.Shelf
theorem c280:jbh Tryz.prog 118:=cal Tryz.func118 (by kernel_rfl) (by kernel_rfl)
def jby:E→Int→Int
 | [],_=> -1
 | b::l,c=>if jby l c= -1 then(if b=c then 0 else -1)else jby l c+1
theorem jdz(c:Int):∀l:E,(jby l c= -1∧ ∀j,j<l.length→l.getD j 0≠c)∨(∃i:Nat,i<l.length∧jby l c=i∧l.getD i 0=c∧ ∀j,i<j→j<l.length→l.getD j 0≠c)
 | []=> .inl ⟨rfl,fun j h=>by simp at h⟩
 | b::l=>by
  rcases jdz c l with⟨e,h⟩ | ⟨i,hi,e,hc,h⟩
  ·simp only[jby,e,if_true];by_cases hb:b=c
   ·rw[if_pos hb];refine .inr ⟨0,by simp,rfl,by simpa using hb,fun j h1 h2=> ?_⟩;obtain⟨j,rfl⟩:∃k,j=k+1:=⟨j-1,by omega⟩
    simpa using h j (by simpa using h2)
   ·rw[if_neg hb];refine .inl ⟨rfl,fun j h1=> ?_⟩;cases j with
    | zero=>simpa using hb
    | succ j=>simpa using h j (by simpa using h1)
  ·simp only[jby];rw[if_neg (by omega),e];refine .inr ⟨i+1,by simpa using hi,by omega,by simpa using hc,fun j h1 h2=> ?_⟩;obtain⟨j,rfl⟩:∃k,j=k+1:=⟨j-1,by omega⟩
   simpa using h j (by omega) (by simpa using h2)
theorem last_zl(s:Y)(c:Int):Lib.lastIndexByte s c=jby (bz s) c:=by
 have hd:∀j,j<s.size→((s.data[j]!).toNat:Int)=(bz s).getD j 0:=fun j hj=>by
  have hj':j<s.data.size:=hj;rw[getElem!_pos s.data j hj'];simp only[bz,List.getD_eq_getElem?_getD,List.getElem?_map,Array.getElem?_toList];rw[Array.getElem?_eq_getElem hj'];rfl
 rcases Lib.lastIndexByte_spec s c with⟨e,h⟩ | ⟨i,hi,e,hc,h⟩ <;>rcases jdz c (bz s)with⟨e',h'⟩ | ⟨i',hi',e',hc',h'⟩
 ·rw[e,e']
 ·rw[jax]at hi';exact absurd hc' (by rw[←hd i' hi'];exact h i' hi')
 ·rw[hd i hi]at hc;exact absurd hc (h' i (by rw[jax];exact hi))
 ·rw[jax]at hi' h';rw[hd i hi]at hc;rw[e,e'];rcases Nat.lt_trichotomy i i' with q | q | q
  ·exact absurd hc' (by rw[←hd i' hi'];exact h i' q hi')
  ·rw[q]
  ·exact absurd hc (h' i q hi)
theorem jho(l:E)(c:Int): -1≤jby l c∧jby l c<l.length:=by
 rcases jdz c l with⟨e,_⟩ | ⟨i,hi,e,_⟩ <;>omega
def s280(s:Y)(c:U8):Bool×Value:=(decide (s.size≤1000),.int .i64 (jby (bz s) c.n))
theorem ok280:jal Tryz.prog 118 (sp2 s280):=jdb c280 fun s c hc w _=>by
 refine(Any.strings_LastIndexByte Tryz.lays149 s c.n (by have:s.size≤1000:=jab hc;omega) w).mono fun e w' ⟨h1,h2⟩=>⟨?_,jca h2⟩
 rw[h1,last_zl];rfl
structure VwP (d:U)(m:Nat):Prop where
 bytes:jbm d=true
 len:d.length=m
 rng:IsB (d.map iv)
def vwOK(d:U)(m:Nat):Bool:=jbm d&& (Nat.beq d.length m&& (d.map iv).all fun c=>decide (0≤c∧c<256))
theorem jc2{d:U}{m:Nat}:vwOK d m=true↔VwP d m:=by
 simp only[vwOK,jaf,Nat.beq_eq,List.all_eq_true,jae];exact⟨fun⟨a,b,c⟩=>⟨a,b,c⟩,fun⟨a,b,c⟩=>⟨a,b,c⟩⟩
theorem isBytes_plain{d:U}(h:jbm d=true):jav d=true:=by
 rw[←jjh h];exact jgd _
theorem VwP.plain{d:U}{m:Nat}(h:VwP d m):jav d=true:=isBytes_plain h.bytes
theorem jjn(s:Y):VwP (Lib.strCells s) s.size∧zc (Lib.strCells s) s.size=bz s:=by
 rw[strCells_eq]
 have e:(cz (bz s)).map iv=bz s:=by
  rw[cz,List.map_map];have:(iv∘fun n:Int=>Value.int .u8 n)=id:=by funext n;rfl
  rw[this,List.map_id]
 refine⟨⟨jez _,by simp,by rw[e];exact jj1 s⟩,?_⟩;rw[zc,List.take_of_length_le (by simp),e]
theorem VwP.zlen{d:U}{m:Nat}(h:VwP d m):(zc d m).length=m:=by
 simp only[zc,List.length_map,List.length_take,h.len];omega
theorem at_bytes:∀{d:U}{j:Nat},jbm d=true→j<d.length→jam .u8 d j=true∧jaj d j=(d.map iv).getD j 0
 | .int .u8 n::r,0,_,_=>⟨rfl,rfl⟩
 | .int .u8 n::r,j+1,h,hj=>by
  have:=at_bytes (d:=r) (j:=j) (by simpa[jbm]using h) (by simpa using hj);simpa[jam,jaj]using this
theorem VwP.at{d:U}{m:Nat}(h:VwP d m){j:Int}(h0:0≤j)(hj:j<m):jam .u8 d j.toNat=true∧(0≤jaj d j.toNat∧jaj d j.toNat<256)∧(zc d m).drop j.toNat=jaj d j.toNat::(zc d m).drop (j+1).toNat:=by
 have hl:=h.len;obtain⟨q1,q2⟩:=at_bytes h.bytes (j:=j.toNat) (by omega);refine⟨q1,?_,?_⟩
 ·rw[q2,List.getD_eq_getElem?_getD];cases hh:(d.map iv)[j.toNat]? with
  | none=>simp
  | some c=>exact h.rng c (List.mem_of_getElem? hh)
 have e:zc d m=d.map iv:=by rw[zc,List.take_of_length_le (by omega)]
 rw[e,q2,jel _ _ (by rw[List.length_map];omega),show(j+1).toNat=j.toNat+1 by omega]
theorem VwP.good{d:U}{m:Nat}(h:VwP d m)(ps:List (Nat×Nat)):(jat ps d&&true&&true)=true:=by rw[goodL_plain h.plain];rfl
theorem VwP.rlb{d:U}{m:Nat}(h:VwP d m)(ps:List (Nat×Nat)):rlbL ps d=d:=rlbL_plain ps h.plain
theorem VwP.end{d:U}{m:Nat}(h:VwP d m){j:Int}(hj:(m:Int)≤j):(zc d m).drop j.toNat=[]:=List.drop_eq_nil_of_le (by rw[h.zlen];omega)
def k5:E:=[44,46,47,66,86]
theorem idx_neg(l:E)(c:Int):decide (idxZ l c<0)= !hasZ l c:=by
 have:=jfx c l;rw[←jcl]at this;cases h:hasZ l c with
 | true=>rw[h]at this;have:=this.2.2 rfl;simp;omega
 | false=>
  rw[h]at this;have:¬0≤idxZ l c:=fun q=>by have:=this.2.1 q;cases this
  simp;omega
theorem ch_at{i:Int}(h0:0≤i)(h:i<4):∃c,jaj [Value.int IntKind.u8 36,Value.int IntKind.u8 83,Value.int IntKind.u8 43,Value.int IntKind.u8 45] (0+i.toNat*1)=c∧
  jam IntKind.u8 [Value.int IntKind.u8 36,Value.int IntKind.u8 83,Value.int IntKind.u8 43,Value.int IntKind.u8 45] (0+i.toNat*1)=true∧
  oneB (Utf8.encode c)=true∧(bz (Utf8.encode c)).getD 0 0=c∧(0<c∧c<128)∧List.drop i.toNat [36,83,43,45]=c::List.drop (i+1).toNat [36,83,43,45]:=by
 have:i=0∨i=1∨i=2∨i=3:=by omega
 rcases this with rfl | rfl | rfl | rfl
 ·exact⟨36,rfl,rfl,by kernel_rfl,by kernel_rfl,by omega,rfl⟩
 ·exact⟨83,rfl,rfl,by kernel_rfl,by kernel_rfl,by omega,rfl⟩
 ·exact⟨43,rfl,rfl,by kernel_rfl,by kernel_rfl,by omega,rfl⟩
 ·exact⟨45,rfl,rfl,by kernel_rfl,by kernel_rfl,by omega,rfl⟩
theorem jfl(c:Int):∀{l:E},c∈l→0≤idxZ l c∧idxZ l c<l.length
 | b::l,h=>by
  simp only[idxZ];by_cases hb:b=c
  ·rw[if_pos hb];simp only[List.length_cons];omega
  ·rw[if_neg hb];have:=jfl c (l:=l) (by rcases List.mem_cons.1 h with q | q;exact absurd q.symm hb;exact q);rw[if_neg (by omega)];simp only[List.length_cons];omega
theorem jhs(c:Int):∀{l:E},c∈l→idxZ l c≤jby l c
 | b::l,h=>by
  simp only[idxZ,jby];have:=jho l c;by_cases hl:c∈l
  ·have ih:=jhs c hl;have i1:=jfl c hl;rw[if_neg (show¬jby l c= -1 by omega)];split
   ·omega
   ·split<;>omega
  ·have hb:b=c:=by rcases List.mem_cons.1 h with q | q;exact q.symm;exact absurd q hl
   rw[if_pos hb,if_pos hb];split<;>omega
theorem jhx{l:E}{c:Int}(h:¬(cntZ l c:Int)<2):c∈l:=by
 have:0<cntZ l c:=by omega
 unfold cntZ at this;obtain⟨x,hx⟩:=List.exists_mem_of_length_pos this;obtain⟨h1,h2⟩:=List.mem_filter.1 hx;exact eq_of_beq h2▸h1
def drP(c:Int)(l:E):Bool:=l.all fun x=>x==c || hasZ k5 x
def drC(b:E)(c:Int):Bool:= !hasZ (b.take (idxZ b c).toNat) 86&&drP c ((b.take (jby b c+1).toNat).drop (idxZ b c).toNat)
def jef:E→E→Int→Int→Bool×Int×Int
 | [],_,d,f=>(true,d,f)
 | c::r,b,d,f=>bif decide ((cntZ b c:Int)<2)then jef r b d f else bif d !=0 then(false,0,0)else bif drC b c then jef r b c (idxZ b c)else(false,0,0)
def G20:Env:=(((Env.nil.add 221 (sp2 s141)).add 253 (sp2 s157)).add 189 (sp2 s132)).add 118 (sp2 s280)
theorem ok_G20:jao Tryz.prog G20:=jak (jak (jak (jak ja7 ok141) ok157) ok132) ok280
def V131_2:Y×Bool×Int×Int×Int×Y×Int×Int×Bool×U×Nat×Nat×Int×Int→U:=fun(b,r,c,L4,i,s,dr,f,cr,d,m,cap,L,j)=> [.pointer (some ⟨3,0,some 0⟩),S b,B r,C8 c,.slice (some ⟨300,0,some 1⟩) 4 4,I L4,I i,.slice (some ⟨390,0,some 1⟩) m cap,I L,I j]
def B131_2:Y×Bool×Int×Int×Int×Y×Int×Int×Bool×U×Nat×Nat×Int×Int→F:=fun(b,r,c,L4,i,s,dr,f,cr,d,m,cap,L,j)=> [some ⟨[S s,B true,I 0,I 0,I 0,B false,.slice none 0 0,C8 dr,I f,B cr,C8 32,I 0],132,true⟩,some ⟨[C8 36,C8 83,C8 43,C8 45],5,false⟩,some ⟨d,5,false⟩]
def S131_2:LSpecA (Y×Bool×Int×Int×Int×Y×Int×Int×Bool×U×Nat×Nat×Int×Int) where
 live:=[0,1,4,6,14,15,16,58,59,60]
 mid:=[3,300,390]
 n:=400
 ap:=[(.tmp 58,390)]
 dec vs bs:=match vs,bs with | [.pointer (some ⟨3,0,some 0⟩),.string b,.bool r,.int .u8 c,.slice (some ⟨300,0,some 1⟩) 4 4,.int .i64 L4,.int .i64 i,.slice (some ⟨390,0,some 1⟩) m cap,.int .i64 L,.int .i64 j],[some ⟨[.string s,.bool true,.int .i64 0,.int .i64 0,.int .i64 0,.bool false,.slice none 0 0,.int .u8 dr,.int .i64 f,.bool cr,.int .u8 32,.int .i64 0],132,true⟩,some ⟨[.int .u8 36,.int .u8 83,.int .u8 43,.int .u8 45],5,false⟩,some ⟨d,5,false⟩]=>some (b,r,c,L4,i,s,dr,f,cr,d,m,cap,L,j) | _,_=>none
 pre:=fun(b,r,c,L4,i,s,dr,f,cr,d,m,cap,L,j)=>vwOK d m&&decide (0≤j∧j≤m∧m≤100∧L=m)
 fin:=fun(b,r,c,L4,i,s,dr,f,cr,d,m,cap,L,j) Z=>(bif drP c ((zc d m).drop j.toNat)then Z (.exit 2) [.pointer (some ⟨3,0,some 0⟩),S b,B r,C8 c,.slice (some ⟨300,0,some 1⟩) 4 4,I L4,I i,.slice (some ⟨390,0,some 1⟩) m cap,I L,I m] [some ⟨[S s,B true,I 0,I 0,I 0,B false,.slice none 0 0,C8 dr,I f,B cr,C8 32,I 0],132,true⟩,some ⟨[C8 36,C8 83,C8 43,C8 45],5,false⟩,some ⟨d,5,false⟩]else∀j',Z .ret [.pointer (some ⟨3,0,some 0⟩),S b,B false,C8 c,.slice (some ⟨300,0,some 1⟩) 4 4,I L4,I i,.slice (some ⟨390,0,some 1⟩) m cap,I L,I j'] [some ⟨[S s,B true,I 0,I 0,I 0,B false,.slice none 0 0,C8 dr,I f,B cr,C8 32,I 0],132,true⟩,some ⟨[C8 36,C8 83,C8 43,C8 45],5,false⟩,some ⟨d,5,false⟩])
def bx(d:Bool)(a:Y)(c:U)(b:Value):U:=f0 a (b::c) 3 (.bool d)
def i6:Value:=am 300 0 4 4
def gy(a:List (Prod Nat Nat))(b:U):Option Blk:=some (.mk (rlbL a b) 5 false)
def kv:U:=[au 36,au 83,au 43,au 45]
def i7:Option Blk:=some (.mk kv 5 false)
def b5(b f l:Bool)(a:Y)(c d e j k m n:Int)(h i:Nat)(g:Option Addr):Option Blk:=some (.mk [.string a,.bool b,ak c,ak d,ak e,.bool f,.slice g h i,au j,ak k,.bool l,au m,ak n] 132 true)
def jg(a:Bool)(b:Y)(c d:Int):Option Blk:=b5 true false a b 0 0 0 c d 32 0 0 0 none
def cw(a:Int)(b:Nat):Bool:=decide (0≤a∧a<(b:Int))
def b4(c:Bool)(a:Int)(b:Nat)(d:Prop):Prop:=bif cw a b then bif c then d else False else False
def dt(e f:Int)(a b c d:Nat):U:=am a b c d::br e f
def co(a:Int):Nat:=0+a.toNat*1
def a8(b:Int)(a:U):Int:=jaj a (co b)
theorem r131_2(b:Y)(r:Bool)(c:Int)(L4:Int)(i:Int)(s:Y)(dr:Int)(f:Int)(cr:Bool)(d:U)(m:Nat)(cap:Nat)(L:Int)(j:Int)(jk:Tmps)(R:Exit→U→F→Prop):(jbz Tryz.prog G20 noL Tryz.f188.ntmps (ja9 Tryz.f188 2) (tl S131_2.live (V131_2 (b,r,c,L4,i,s,dr,f,cr,d,m,cap,L,j)) jk) (ml S131_2.mid (B131_2 (b,r,c,L4,i,s,dr,f,cr,d,m,cap,L,j))) S131_2.n fun e t' m' _=>S131_2.out R e t' m')=(bif al j L then b4 (jam .u8 d (co j)) j m (gx (a8 j d !=c) (dp (a8 j d) 256&&true) true (a8 j d !=c&&al (idxZ (bz ⟨#[44,46,47,66,86]⟩) (a8 j d)) 0) (bif e9 d 390 390 then R .ret (bx false b (i6::ak L4::ak i::am 390 0 m cap::ar L j) (au c)) [jg cr s dr f,i7,gy [(390,390)] d]else False) (ax (e9 d 390 390) R [jg cr s dr f,i7,gy [(390,390)] d] (bx r b (i6::ak L4::ak i::dt L j 390 0 m cap) (au c))))else bw (e9 d 390 390) R [jg cr s dr f,i7,gy [(390,390)] d] (bx r b (i6::ak L4::ak i::am 390 0 m cap::ar L j) (au c)) 2):=by kernel_rfl
theorem l131_2:∀t m n K,S131_2.hA t m n K→Ab.Sem Tryz.prog Tryz.f188.ntmps (.loop (ja9 Tryz.f188 2)) t m n K:=by
 refine jb1 ok_G20 hmix (by kernel_rfl) (ja6 _) S131_2 V131_2 B131_2 (fun(b,r,c,L4,i,s,dr,f,cr,d,m,cap,L,j)=>(m-j).toNat) ?_ ?_ ?_
 ·intro vs bs s h;simp only[S131_2]at h;split at h
  all_goals first | (cases h;exact⟨rfl,rfl⟩) | cases h | (split at h<;>first | (rename_i hq;cases h;have hq:=jah hq;subst hq;exact⟨rfl,rfl⟩) | cases h)
 ·exact fun⟨b,r,c,L4,i,s,dr,f,cr,d,m,cap,L,j⟩ hp=>by
   simp only[S131_2,jaf]at hp;simp[V131_2,B131_2,S131_2,jaz,jbn,idsL,ids,jar (jc2.1 hp.1).plain]
 ·intro⟨b,r,c,L4,i,s,dr,f,cr,d,m,cap,L,j⟩ jk Z hp hf;rw[r131_2];delta bw dq f0 bx au ak ar am i6 gy kv i7 b5 jg e9 cw b4 gx ax bq bp br dt al co a8 dp;simp only[S131_2]at hp hf;simp only[jaf,jae]at hp;obtain⟨hv,hp⟩:=hp;have hV:=hv;have hv:=jc2.1 hv;have k:bz ⟨#[44,46,47,66,86]⟩=k5:=rfl;rw[k,Nat.mul_one,Nat.zero_add];simp only[hv.rlb];apply cond_intro<;>intro h
  ·have h:=jab h;obtain⟨a1,a2,a3⟩:=hv.at hp.1 (by omega);rw[a3]at hf;rw[jaa a2,idx_neg];have e:drP c (jaj d j.toNat::List.drop (j+1).toNat (zc d m))=((jaj d j.toNat==c || hasZ k5 (jaj d j.toNat)) &&drP c (List.drop (j+1).toNat (zc d m))):=rfl;rw[e]at hf;refine c_t (jaa (by omega)) (c_t a1 (c_t (by cases(jaj d j.toNat !=c) <;>rfl) (cond_intro (fun q=>c_t (hv.good _) ?_) (fun q=>c_t (hv.good _) ?_))))
   ·have q':(jaj d j.toNat==c || hasZ k5 (jaj d j.toNat))=false:=by
     simp only[jaf,bne_iff_ne,Bool.not_eq_true']at q;rw[q.2,Bool.or_false];simpa using q.1
    rw[q',Bool.false_and,cond_false]at hf;exact hf j
   ·have q':(jaj d j.toNat==c || hasZ k5 (jaj d j.toNat))=true:=by
     cases h1:(jaj d j.toNat==c)with
     | true=>rfl
     | false=>
      have h2:(jaj d j.toNat !=c)=true:=by rw[bne,h1];rfl
      rw[h2,Bool.true_and,Bool.not_eq_false']at q;rw[q];rfl
    rw[q',Bool.true_and]at hf;rw[w64 (by omega)];exact⟨(b,r,c,L4,i,s,dr,f,cr,d,m,cap,L,j+1),rfl,rfl,by simp only[S131_2,jaf,jae];exact⟨hV,by omega⟩,by simp only;omega,hf⟩
  ·have h:=jac h;rw[hv.end (by omega),drP,List.all_nil,cond_true]at hf;obtain rfl:j=m:=by omega
   exact c_t (hv.good _) hf
theorem lk131:LOK Tryz.prog (oneL 2 S131_2.hA) Tryz.f188.ntmps (ja9 Tryz.f188 0):=lok_one (by kernel_rfl) l131_2
def V131_0:Y×Bool×Int×Int×Y×Int×Int×Bool→U:=fun(b,r,L4,i,s,dr,f,cr)=> [.pointer (some ⟨3,0,some 0⟩),S b,B r,.slice (some ⟨300,0,some 1⟩) 4 4,I L4,I i]
def B131_0:Y×Bool×Int×Int×Y×Int×Int×Bool→F:=fun(b,r,L4,i,s,dr,f,cr)=> [some ⟨[S s,B true,I 0,I 0,I 0,B false,.slice none 0 0,C8 dr,I f,B cr,C8 32,I 0],132,true⟩,some ⟨[C8 36,C8 83,C8 43,C8 45],5,false⟩]
def S131_0:LSpecA (Y×Bool×Int×Int×Y×Int×Int×Bool) where
 live:=[0,1,4,14,15,16]
 mid:=[3,300]
 n:=310
 ap:=[(.tmp 14,300)]
 dec vs bs:=match vs,bs with | [.pointer (some ⟨3,0,some 0⟩),.string b,.bool r,.slice (some ⟨300,0,some 1⟩) 4 4,.int .i64 L4,.int .i64 i],[some ⟨[.string s,.bool true,.int .i64 0,.int .i64 0,.int .i64 0,.bool false,.slice none 0 0,.int .u8 dr,.int .i64 f,.bool cr,.int .u8 32,.int .i64 0],132,true⟩,some ⟨[.int .u8 36,.int .u8 83,.int .u8 43,.int .u8 45],5,false⟩]=>some (b,r,L4,i,s,dr,f,cr) | _,_=>none
 pre:=fun(b,r,L4,i,s,dr,f,cr)=>decide (L4=4∧0≤i∧i≤4∧b.size≤100∧0≤dr∧dr<256)
 fin:=fun(b,r,L4,i,s,dr,f,cr) Z=>(bif (jef (List.drop i.toNat [36,83,43,45]) (bz b) dr f).1 then∀dr' f',jef (List.drop i.toNat [36,83,43,45]) (bz b) dr f=(true,dr',f')→Z (.exit 0) [.pointer (some ⟨3,0,some 0⟩),S b,B r,.slice (some ⟨300,0,some 1⟩) 4 4,I L4,I 4] [some ⟨[S s,B true,I 0,I 0,I 0,B false,.slice none 0 0,C8 (dr'),I (f'),B cr,C8 32,I 0],132,true⟩,some ⟨[C8 36,C8 83,C8 43,C8 45],5,false⟩]else∀i' dr' f',Z .ret [.pointer (some ⟨3,0,some 0⟩),S b,B false,.slice (some ⟨300,0,some 1⟩) 4 4,I L4,I i'] [some ⟨[S s,B true,I 0,I 0,I 0,B false,.slice none 0 0,C8 (dr'),I (f'),B cr,C8 32,I 0],132,true⟩,some ⟨[C8 36,C8 83,C8 43,C8 45],5,false⟩])
def f8(a:Int):Int:=jaj kv (co a)
def k0(a:Bool)(b d:Y)(c:Int):F:=[b5 true false a b 0 0 0 (f8 c) (idxZ (bz d) (f8 c)) 32 0 0 0 none,i7]
def go(c:Y)(a b:Nat):U:=rlbL [(a,b)] (Lib.strCells c)
def ja(a:Y)(b:Int):Y:=a.extract (idxZ (bz a) (f8 b)).toNat (fy (jby (bz a) (f8 b)) 1).toNat
def im(c:Y)(a b:Nat):E:=(zc (go c a b) c.size).drop (Int.toNat 0)
def ii(a:List (Prod Nat Nat))(b:U)(c:Nat):Bool:=ck a b&&bu (rlbL a b) c
def ku(a:UInt8):Int:=(bz ⟨#[a]⟩).getD 0 (0:Int)
theorem r131_0(b:Y)(r:Bool)(L4:Int)(i:Int)(s:Y)(dr:Int)(f:Int)(cr:Bool)(jk:Tmps)(R:Exit→U→F→Prop):(jbz Tryz.prog G20 (oneL 2 S131_2.hA) Tryz.f188.ntmps (ja9 Tryz.f188 0) (tl S131_0.live (V131_0 (b,r,L4,i,s,dr,f,cr)) jk) (ml S131_0.mid (B131_0 (b,r,L4,i,s,dr,f,cr))) S131_0.n fun e t' m' _=>S131_0.out R e t' m')=(bif al i L4 then gm (jam .u8 kv (co i)) i 4 (bif oneB (Utf8.encode (f8 i))then bif al (cntZ (bz b) ((bz (Utf8.encode (f8 i))).getD 0 (0:Int)):Int) 2 then R .normal (f0 b (dt L4 i 300 0 4 4) 3 (B r)) [jg cr s dr f,i7]else bif dr !=0 then R .ret (bx false b (ar L4 i) i6) [jg cr s dr f,i7]else bif dp (f8 i) 256 then bif e8 b then bif bv 0 (idxZ (bz b) (f8 i)) b.size then bif hasZ (bz (b.extract 0 (idxZ (bz b) (f8 i)).toNat)) (ku 86)then R .ret (bx false b (ar L4 i) i6) (k0 cr s b i)else bif bv (idxZ (bz b) (f8 i)) (fy (jby (bz b) (f8 i)) 1) b.size then∀a:Nat,(ja b i).size.ble a=true→(bif ii [(355,390)] (Lib.strCells (ja b i)) 400 then er (S131_2.toLSpec.pre (b,(r,(f8 i,(L4,(i,(s,(f8 i,(idxZ (bz b) (f8 i),(cr,(go (ja b i) 355 390,((ja b i).size,(a,(natO (ja b i).size,(0:Int))))))))))))))) (drP (f8 i) (im (ja b i) 355 390)) (dw true (go (ja b i) 355 390) 400 (R .normal (f0 b (dt L4 i 300 0 4 4) 3 (B r)) (k0 cr s b i))) (Int→dw true (go (ja b i) 355 390) 400 (R .ret (bx false b (ar L4 i) i6) (k0 cr s b i)))else False)else False else False else False else False else False) False else R (.exit 0) (bx r b (ar L4 i) i6) [jg cr s dr f,i7]):=by kernel_rfl
theorem l131_0:∀t m n K,S131_0.hA t m n K→Ab.Sem Tryz.prog Tryz.f188.ntmps (.loop (ja9 Tryz.f188 0)) t m n K:=by
 refine jb1 ok_G20 hmix (by kernel_rfl) lk131 S131_0 V131_0 B131_0 (fun(b,r,L4,i,s,dr,f,cr)=>(4-i).toNat) ?_ ?_ ?_
 ·intro vs bs s h;simp only[S131_0]at h;split at h
  all_goals first | (cases h;exact⟨rfl,rfl⟩) | cases h | (split at h<;>first | (rename_i hq;cases h;have hq:=jah hq;subst hq;exact⟨rfl,rfl⟩) | cases h)
 ·exact fun⟨b,r,L4,i,s,dr,f,cr⟩ hp=>by
   simp[V131_0,B131_0,S131_0,jaz,jbn,idsL,ids]
 ·intro⟨b,r,L4,i,s,dr,f,cr⟩ jk Z hp hf;rw[r131_0];delta au kv i7 ak b5 jg dq f0 bx am i6 ar dp gm er dw co f8 k0 go fy ja bq bp br dt im bu ck ii bv ku e8 al;simp only[S131_0]at hp hf;simp only[jae]at hp;have hL4:=hp.1;apply cond_intro<;>intro h
  ·have h:=jab h;obtain⟨c,c1,c2,c3,c4,c5,c6⟩:=ch_at hp.2.1 (by omega);rw[c1,c2,c4,c3,w64 (n:=i+1) (by omega)];rw[c6,jef]at hf;clear c1 c2 c3 c4 c6;refine c_t (jaa (by omega)) (c_t rfl (c_t rfl (cond_intro (fun q=> ?_) (fun q=> ?_))))
   ·rw[q,cond_true]at hf;exact⟨(b,r,L4,i+1,s,dr,f,cr),rfl,rfl,by simp only[S131_0,jae];omega,by simp only;omega,hf⟩
   ·rw[q,cond_false]at hf;have q:=jac q;have hm:=jhx q;have i1:=jfl c hm;have i2:=jhs c hm;have i3:=jho (bz b) c;rw[jax]at i1 i3;refine cond_intro (fun e=> ?_) (fun e=>c_t (jaa (by omega)) (c_t (jaa (by omega)) (c_t (jaa (by omega)) ?_)))
    ·rw[e]at hf;exact hf i dr f
    ·rw[e,cond_false]at hf;have k6:(bz ⟨#[86]⟩).getD 0 0=86:=rfl;have ex:bz (b.extract 0 (idxZ (bz b) c).toNat)=(bz b).take (idxZ (bz b) c).toNat:=by rw[jck];simp
     have ex2:bz (b.extract (idxZ (bz b) c).toNat (jby (bz b) c+1).toNat)=((bz b).take (jby (bz b) c+1).toNat).drop (idxZ (bz b) c).toNat:=jck _ _ _;rw[k6,ex,w64 (n:=jby (bz b) c+1) (by omega)];refine cond_intro (fun e=> ?_) (fun e=>c_t (jaa (by omega)) (fun cap hcap=> ?_))
     ·rw[drC,e]at hf;exact hf i _ _
     ·obtain⟨v1,v2⟩:=jjn (b.extract (idxZ (bz b) c).toNat (jby (bz b) c+1).toNat);have v3:=jc2.2 v1
      have hsz:(b.extract (idxZ (bz b) c).toNat (jby (bz b) c+1).toNat).size≤100:=by
       rw[←jax,ex2,List.length_drop,List.length_take,jax];omega
      have g1:=v1.good;have g2:=v1.rlb;have g3:=jbe v1.plain;rw[ex2]at v2;rw[drC,e,Bool.not_false,Bool.true_and,←v2]at hf;simp only[g2];clear ex2;generalize b.extract (idxZ (bz b) c).toNat (jby (bz b) c+1).toNat=y at*;generalize Lib.strCells y=d at*;refine c_t (by rw[g1,g3];rfl) (c_t ?_ (cond_intro (fun a=>c_t (by rw[g3];rfl) fun x=> ?_) (fun a j'=>c_t (by rw[g3];rfl) fun x=> ?_)))
      ·simp only[S131_2,jaf,jae];exact⟨v3,by omega,by omega,hsz,ja3 _⟩
      ·have a:drP c (zc d y.size)=true:=a;rw[a,cond_true]at hf;exact⟨(b,r,L4,i+1,s,c,idxZ (bz b) c,cr),rfl,rfl,by simp only[S131_0,jae];omega,by simp only;omega,hf⟩
      ·have a:drP c (zc d y.size)=false:=a;rw[a]at hf;exact hf i _ _
  ·have h:=jac h;obtain rfl:i=4:=by omega
   subst hL4;exact hf dr f rfl
theorem fn131:Fn1 Tryz.prog 188 Tryz.f188:= .m Tryz.func188
theorem lok131:LOKf Tryz.prog (oneL 0 S131_0.hA) Tryz.f188:=jbk (by kernel_rfl) l131_0
theorem fn160:Fn1 Tryz.prog 255 Tryz.f255:= .m Tryz.func255
def G21:Env:=Env.nil.add 221 (sp2 s141)
theorem ok_G21:jao Tryz.prog G21:=jak ja7 ok141
def G22:Env:=Env.nil.addG 255 (inlQ Tryz.prog G21 noL Tryz.f255)
theorem ok_G22:jao Tryz.prog G22:=jaq ja7 (jau ok_G21 hmix fn160 jai)
def ci(l:E):U:=l.map fun n=> .int .i64 n
@[simp] theorem ci_length (l:E):(ci l).length=l.length:=by simp[ci]
theorem ci_append(a b:E):ci (a++b)=ci a++ci b:=by simp[ci]
theorem ci_plain:∀l:E,jav (ci l)=true
 | []=>rfl
 | c::r=>by simpa[ci,jav,plain]using ci_plain r
def isInts:U→Bool
 | []=>true
 | .int .i64 _::r=>isInts r
 | _=>false
theorem ci_isInts:∀l:E,isInts (ci l)=true
 | []=>rfl
 | c::r=>by simpa[ci,isInts]using ci_isInts r
theorem jko:∀{l:U},isInts l=true→ci (l.map iv)=l
 | [],_=>rfl
 | .int .i64 n::r,h=>by
  have:=jko (l:=r) (by simpa[isInts]using h);simp only[ci]at this;simp only[List.map_cons,ci,iv,this]
def jc5(c:U)(n cap:Nat):Bool:=isInts (c.take n) && (jav c&& (Nat.beq c.length cap&& (Nat.ble n cap&&Nat.ble cap 9223372036854775807)))
structure RowI (c:U)(n cap:Nat):Prop where
 bytes:isInts (c.take n)=true
 plain:jav c=true
 len:c.length=cap
 le:n≤cap
 cap:cap≤9223372036854775807
theorem ja0{c:U}{n cap:Nat}:jc5 c n cap=true↔RowI c n cap:=by
 simp only[jc5,jaf,Nat.ble_eq,Nat.beq_eq];exact⟨fun⟨h1,h2,h3,h4,h5⟩=>⟨h1,h2,h3,h4,h5⟩,fun⟨h1,h2,h3,h4,h5⟩=>⟨h1,h2,h3,h4,h5⟩⟩
theorem jbi{c:U}{n cap:Nat}(h:RowI c n cap):(zc c n).length=n:=by
 have h1:=h.len;have h2:=h.le;simp only[zc,List.length_map,List.length_take];omega
theorem RowI.eq{c:U}{n cap:Nat}(h:RowI c n cap):c=ci (zc c n)++c.drop n:=by
 rw[zc,jko h.bytes,List.take_append_drop]
theorem RowI.take{c:U}{n cap:Nat}(h:RowI c n cap):c.take n=ci (zc c n):=(jko h.bytes).symm
theorem rowI_mk(L:E){tail:U}{cap:Nat}(ht:jav tail=true)(hl:L.length+tail.length=cap)(hc:cap≤9223372036854775807):RowI (ci L++tail) L.length cap∧zc (ci L++tail) L.length=L:=by
 have e:(ci L++tail).take L.length=ci L:=by rw[List.take_append_of_le_length (by simp),List.take_of_length_le (by simp)]
 refine⟨⟨by rw[e];exact ci_isInts L,jd6.2 ⟨ci_plain L,ht⟩,by simp[hl],by omega,hc⟩,?_⟩;show List.map iv ((ci L++tail).take L.length)=L;rw[e];simp only[ci,List.map_map];have:(iv∘fun n:Int=>Value.int .i64 n)=id:=by funext n;rfl
 rw[this,List.map_id]
theorem RowI.app{c:U}{n cap:Nat}(h:RowI c n cap)(M:E){tail:U}{cap':Nat}(ht:ja1 tail cap' (n+M.length) 1=true):
  RowI (c.take n++ci M++tail) (n+M.length) cap'∧zc (c.take n++ci M++tail) (n+M.length)=zc c n++M:=by
 obtain⟨t1,t2,t3,t4⟩:=jch ht;have hz:=jbi h;have:=rowI_mk (zc c n++M) (tail:=tail) (cap:=cap') t1 (by simp only[List.length_append,hz];omega) t4;simp only[List.length_append,hz,ci_append]at this;rw[h.take];exact this
theorem RowI.app1{c:U}{n cap:Nat}(h:RowI c n cap)(x:Int){tail:U}{cap':Nat}(ht:ja1 tail cap' (n+1) 1=true):
  RowI (c.take (n*1)++ [.int .i64 x]++tail) (n+1) cap'∧zc (c.take (n*1)++ [.int .i64 x]++tail) (n+1)=zc c n++ [x]:=by
 rw[Nat.mul_one];exact h.app [x] ht
theorem RowI.ask{c:U}{n cap:Nat}(h:RowI c n cap){k:Nat}(hk:n+k≤1000000):
  (Nat.beq c.length (cap*1) &&Nat.ble n cap&&Nat.ble cap 9223372036854775807&&true&&jb3 (n+k) 8)=true:=by
 have h1:=h.len;have h2:=h.le;have h3:=h.cap;simp only[jb3,jaf,Nat.ble_eq,Nat.beq_eq,Nat.mul_one];exact⟨⟨⟨⟨h1,h2⟩,h3⟩,trivial⟩,by omega,by omega⟩
theorem jes(M:E){tail:U}{cap':Nat}(ht:ja1 tail cap' M.length 1=true):RowI (ci M++tail) M.length cap'∧zc (ci M++tail) M.length=M:=by
 obtain⟨t1,t2,t3,t4⟩:=jch ht;exact rowI_mk M t1 (by omega) t4
theorem RowI.good{c:U}{n cap:Nat}(h:RowI c n cap)(ps:List (Nat×Nat)):jat ps c=true:=goodL_plain h.plain
theorem RowI.rlb{c:U}{n cap:Nat}(h:RowI c n cap)(ps:List (Nat×Nat)):rlbL ps c=c:=rlbL_plain ps h.plain
def Rw.bi:Rw→Option Blk
 | .nil=>none
 | .own d _ _=>some ⟨d,221,true⟩
def Rw.oki:Rw→Bool
 | .nil=>true
 | .own d m cap=>jc5 d m cap
theorem jf8{b:Bool}{P Q P' Q':Prop}(h:bif b then P else Q)(h1:P→P')(h2:Q→Q'):bif b then P' else Q':=by
 cases b
 ·exact h2 h
 ·exact h1 h
theorem jit(l:E)(c:Int):decide (idxZ l c≥0)=hasZ l c:=by
 have:=idx_neg l c;rw[Bool.eq_iff_iff,jae]at*;cases h:hasZ l c with
 | true=>
  rw[h]at this;have h2:¬idxZ l c<0:=fun q=>by have:=this.1 q;cases this
  simp;omega
 | false=>
  rw[h]at this;have h2:idxZ l c<0:=this.2 rfl;simp;omega
def roP(dr f c i:Int):Int:=bif hasZ [57,89,84,73,82] c then 0 else bif c==90 || (c==42 || (c==dr&&i !=f))then 1 else bif c==86 then 2 else bif c==36 then 5 else bif c==83 || (c==43 || c==45)then 4 else 3
def jbd(dr f:Int):E→Int→E
 | [],_=> []
 | c::r,i=>roP dr f c i::jbd dr f r (i+1)
structure PlS where
 pts:Int
 bh:Bool
 w:Int
 dg:Int
 q:Int
 fm:Int
def plGo:E→PlS→Bool×PlS
 | [],a=>(true,a)
 | r::rs,a=>bif r==2 then plGo rs ⟨a.pts+1,a.bh,a.w,a.dg,a.q,a.fm⟩else bif r==0 then plGo rs ⟨a.pts,a.bh,a.w+1,a.dg+1,a.q+a.pts,a.fm+1⟩
  else bif r==1 then(bif decide (a.fm>0)then(false,a)else plGo rs ⟨a.pts,a.bh || decide (a.pts>0),a.w+1,a.dg+1,a.q+a.pts,a.fm⟩)else plGo rs ⟨a.pts,a.bh,a.w+1,a.dg,a.q,a.fm⟩
def V133_0:Y×Bool×Int×Bool×U×Nat×Nat×Int×Int×Y×Int×Int×Int×Rw×Int×Int×Bool×Int→U:=fun(b,r,pts,bh,d,m,cap,L,i,s,w,dg,q,o,dr,f,cr,fm)=> [.pointer (some ⟨3,0,some 0⟩),S b,B r,I (pts),B (bh),.slice (some ⟨400,0,some 1⟩) m cap,I L,I (i)]
def B133_0:Y×Bool×Int×Bool×U×Nat×Nat×Int×Int×Y×Int×Int×Int×Rw×Int×Int×Bool×Int→F:=fun(b,r,pts,bh,d,m,cap,L,i,s,w,dg,q,o,dr,f,cr,fm)=> [some ⟨[.string s,.bool true,.int .i64 (w),.int .i64 (dg),.int .i64 (q),.bool false,o.v 401,.int .u8 dr,.int .i64 f,.bool cr,.int .u8 32,.int .i64 (fm)],132,true⟩,some ⟨d,5,false⟩,o.bi]
def S133_0:LSpecA (Y×Bool×Int×Bool×U×Nat×Nat×Int×Int×Y×Int×Int×Int×Rw×Int×Int×Bool×Int) where
 live:=[0,1,4,5,6,11,12,13]
 mid:=[3,400,401]
 n:=410
 ap:=[(.tmp 11,400),(.cell 3 6,401)]
 dec vs bs:=match vs,bs with
  | [.pointer (some ⟨3,0,some 0⟩),.string b,.bool r,.int .i64 pts,.bool bh,.slice (some ⟨400,0,some 1⟩) m cap,.int .i64 L,.int .i64 i],[some ⟨[.string s,.bool true,.int .i64 w,.int .i64 dg,.int .i64 q,.bool false,.slice none 0 0,.int .u8 dr,.int .i64 f,.bool cr,.int .u8 32,.int .i64 fm],132,true⟩,some ⟨d,5,false⟩,none]=>some (b,r,pts,bh,d,m,cap,L,i,s,w,dg,q,.nil,dr,f,cr,fm)
  | [.pointer (some ⟨3,0,some 0⟩),.string b,.bool r,.int .i64 pts,.bool bh,.slice (some ⟨400,0,some 1⟩) m cap,.int .i64 L,.int .i64 i],[some ⟨[.string s,.bool true,.int .i64 w,.int .i64 dg,.int .i64 q,.bool false,.slice (some ⟨401,0,some 1⟩) m2 cap2,.int .u8 dr,.int .i64 f,.bool cr,.int .u8 32,.int .i64 fm],132,true⟩,some ⟨d,5,false⟩,some ⟨d2,221,true⟩]=>some (b,r,pts,bh,d,m,cap,L,i,s,w,dg,q,.own d2 m2 cap2,dr,f,cr,fm)
  | _,_=>none
 pre:=fun(b,r,pts,bh,d,m,cap,L,i,s,w,dg,q,o,dr,f,cr,fm)=>o.oki&& (vwOK d m&&decide (0≤i∧i≤m∧m≤100∧L=m∧0≤pts∧pts≤i∧0≤w∧w≤i∧0≤dg∧dg≤i∧0≤fm∧fm≤i∧0≤q∧q≤i*100∧o.z.length≤i))
 fin:=fun(b,r,pts,bh,d,m,cap,L,i,s,w,dg,q,o,dr,f,cr,fm) Z=>(bif (plGo (jbd dr f ((zc d m).drop i.toNat) i) ⟨pts,bh,w,dg,q,fm⟩).1 then(o.is=false→(zc d m).drop i.toNat=[]→Z (.exit 0) [.pointer (some ⟨3,0,some 0⟩),S b,B r,I (pts),B (bh),.slice (some ⟨400,0,some 1⟩) m cap,I L,I (m)] [some ⟨[.string s,.bool true,.int .i64 (w),.int .i64 (dg),.int .i64 (q),.bool false,.slice none 0 0,.int .u8 dr,.int .i64 f,.bool cr,.int .u8 32,.int .i64 (fm)],132,true⟩,some ⟨d,5,false⟩,none])∧ ∀pts' bh' w' dg' q' fm' d' m' cap',jc5 d' m' cap'=true→zc d' m'=o.z++jbd dr f ((zc d m).drop i.toNat) i→plGo (jbd dr f ((zc d m).drop i.toNat) i) ⟨pts,bh,w,dg,q,fm⟩=(true,⟨pts',bh',w',dg',q',fm'⟩)→Z (.exit 0) [.pointer (some ⟨3,0,some 0⟩),S b,B r,I (pts'),B (bh'),.slice (some ⟨400,0,some 1⟩) m cap,I L,I (m)] [some ⟨[.string s,.bool true,.int .i64 (w'),.int .i64 (dg'),.int .i64 (q'),.bool false,.slice (some ⟨401,0,some 1⟩) m' cap',.int .u8 dr,.int .i64 f,.bool cr,.int .u8 32,.int .i64 (fm')],132,true⟩,some ⟨d,5,false⟩,some ⟨d',221,true⟩]else∀pts' bh' i' w' dg' q' fm' d' m' cap',jc5 d' m' cap'=true→Z .ret [.pointer (some ⟨3,0,some 0⟩),S b,B false,I (pts'),B (bh'),.slice (some ⟨400,0,some 1⟩) m cap,I L,I (i')] [some ⟨[.string s,.bool true,.int .i64 (w'),.int .i64 (dg'),.int .i64 (q'),.bool false,.slice (some ⟨401,0,some 1⟩) m' cap',.int .u8 dr,.int .i64 f,.bool cr,.int .u8 32,.int .i64 (fm')],132,true⟩,some ⟨d,5,false⟩,some ⟨d',221,true⟩])
def ij(d:Bool)(a b c:Int):Bool:=a==b || (a==c || d)
def k7(b e f:Int)(a:U)(c:Nat)(d g h i j k:Prop):Prop:=b4 (jam .u8 a (co b)) b c (gm (bn (idxZ (bz ⟨#[57,89,84,73,82]⟩) (a8 b a)) 0) (a8 b a) 256 d (cu (a8 b a==90) (ij true (a8 b a) 42 e) (ij (a8 b a==e&&b !=f) (a8 b a) 90 42) g (bif a8 b a==86 then h else bif a8 b a==36 then i else bif ij true (a8 b a) 83 43 then bif ij (a8 b a==45) (a8 b a) 83 43 then j else k else False)))
def io(a:Bool)(b c:Int)(d e:Nat):U:= .bool a::dt b c 400 0 d e
def jo(a:Nat):List (Prod Nat Nat):=[(400,400),(a,401)]
def j6(b c:U)(a:Nat):F:=gy (jo a) b::bk (rlbL (jo a) c) 221
def jt(b c:U)(a:Nat):Bool:=jat (jo a) b&& (jat (jo a) c&&true)
def j5(j o:Bool)(h:Y)(f:Exit→U→F→Prop)(d k l:Int)(b:U)(a e m n:Nat)(g:Option Blk)(i:Value):Prop:=∀c:U,ja1 c a 1 1=true→ax (jt b (ak d::c) e&&true) f (g::j6 b (ak d::c) e) (f0 h (i::io j k l m n) 3 (.bool o))
def dz:Option Addr:=some (.mk 401 0 (some 1))
def fw(a:Bool)(b:Y)(c d e f g h:Int)(i j:Nat):Option Blk:=b5 true false a b c d e f g 32 h i j dz
theorem r133_0n(b:Y)(r:Bool)(pts:Int)(bh:Bool)(d:U)(m:Nat)(cap:Nat)(L:Int)(i:Int)(s:Y)(w:Int)(dg:Int)(q:Int)(dr:Int)(f:Int)(cr:Bool)(fm:Int)(jk:Tmps)(R:Exit→U→F→Prop):(jbz Tryz.prog G22 noL Tryz.f190.ntmps (ja9 Tryz.f190 0) (tl S133_0.live (V133_0 (b,r,pts,bh,d,m,cap,L,i,s,w,dg,q,.nil,dr,f,cr,fm)) jk) (ml S133_0.mid (B133_0 (b,r,pts,bh,d,m,cap,L,i,s,w,dg,q,.nil,dr,f,cr,fm))) S133_0.n fun e t' m' _=>S133_0.out R e t' m')=(bif al i L then k7 i dr f d m (∀a:Nat,j5 bh r b R 0 L i d a 434 m cap (b5 true false cr s (bm w) (bm dg) (bq q pts) dr f 32 (bm fm) 1 a dz) (ak pts)) (∀a:Nat,∀c:U,ja1 c a 1 1=true→(bif aq fm 0 then bif jt d (ak 1::c) 457&&true then R .ret (bx false b (B bh::am 400 0 m cap::ar L i) (ak pts)) (fw cr s w dg q dr f fm 1 a::j6 d (ak 1::c) 457)else False else bif bh || true then ax (jt d (ak 1::c) 457&&true) R (b5 true false cr s (bm w) (bm dg) (bq q pts) dr f 32 fm 1 a dz::j6 d (ak 1::c) 457) (bx r b (io (bh || aq pts 0) L i m cap) (ak pts))else False)) (∀a:Nat,j5 bh r b R 2 L i d a 460 m cap (fw cr s w dg q dr f fm 1 a) (du pts)) (∀a:Nat,j5 bh r b R 5 L i d a 463 m cap (b5 true false cr s (bm w) dg q dr f 32 fm 1 a dz) (ak pts)) (∀a:Nat,j5 bh r b R 4 L i d a 474 m cap (b5 true false cr s (bm w) dg q dr f 32 fm 1 a dz) (ak pts)) (∀a:Nat,j5 bh r b R 3 L i d a 474 m cap (b5 true false cr s (bm w) dg q dr f 32 fm 1 a dz) (ak pts))else bw (e9 d 400 400) R [b5 true false cr s w dg q dr f 32 fm 0 0 none,gy [(400,400)] d,none] (bx r b (B bh::am 400 0 m cap::ar L i) (ak pts)) 0):=by kernel_rfl
def jh(e:Int)(b d f:U)(a c:Nat):F:=gy (jo a) b::bk (rlbL (jo a) (d.take (c*1)++ [ak e]++f)) 221
def ji(d:Int)(a c e:U)(b f:Nat):Bool:=jt a (c.take (b*1)++ [ak d]++e) f&&true
theorem r133_0o(b:Y)(r:Bool)(pts:Int)(bh:Bool)(d:U)(m:Nat)(cap:Nat)(L:Int)(i:Int)(s:Y)(w:Int)(dg:Int)(q:Int)(d2:U)(m2:Nat)(cap2:Nat)(dr:Int)(f:Int)(cr:Bool)(fm:Int)(jk:Tmps)(R:Exit→U→F→Prop):(jbz Tryz.prog G22 noL Tryz.f190.ntmps (ja9 Tryz.f190 0) (tl S133_0.live (V133_0 (b,r,pts,bh,d,m,cap,L,i,s,w,dg,q,.own d2 m2 cap2,dr,f,cr,fm)) jk) (ml S133_0.mid (B133_0 (b,r,pts,bh,d,m,cap,L,i,s,w,dg,q,.own d2 m2 cap2,dr,f,cr,fm))) S133_0.n fun e t' m' _=>S133_0.out R e t' m')=(bif al i L then k7 i dr f d m (ft d2 cap2 m2 8 (∀a:Nat,∀c:U,fu c a m2→ax (ji 0 d d2 c m2 434) R (b5 true false cr s (bq w 1) (bm dg) (bq q pts) dr f 32 (bm fm) (m2+1) a dz::jh 0 d d2 c 434 m2) (bx r b (io bh L i m cap) (ak pts)))) (ft d2 cap2 m2 8 (∀a:Nat,∀c:U,fu c a m2→(bif aq fm 0 then bif ji 1 d d2 c m2 457 then R .ret (bx false b (B bh::am 400 0 m cap::ar L i) (ak pts)) (b5 true false cr s w dg q dr f 32 fm (m2+1) a dz::jh 1 d d2 c 457 m2)else False else bif bh || true then ax (ji 1 d d2 c m2 457) R (b5 true false cr s (bm w) (bm dg) (bq q pts) dr f 32 fm (m2+1) a dz::jh 1 d d2 c 457 m2) (bx r b (io (bh || aq pts 0) L i m cap) (ak pts))else False))) (ft d2 cap2 m2 8 (∀a:Nat,∀c:U,fu c a m2→ax (ji 2 d d2 c m2 460) R (b5 true false cr s w dg q dr f 32 fm (m2+1) a dz::jh 2 d d2 c 460 m2) (bx r b (io bh L i m cap) (du pts)))) (ft d2 cap2 m2 8 (∀a:Nat,∀c:U,fu c a m2→ax (ji 5 d d2 c m2 463) R (b5 true false cr s (bm w) dg q dr f 32 fm (m2+1) a dz::jh 5 d d2 c 463 m2) (bx r b (io bh L i m cap) (ak pts)))) (ft d2 cap2 m2 8 (∀a:Nat,∀c:U,fu c a m2→ax (ji 4 d d2 c m2 474) R (b5 true false cr s (bm w) dg q dr f 32 fm (m2+1) a dz::jh 4 d d2 c 474 m2) (bx r b (io bh L i m cap) (ak pts)))) (ft d2 cap2 m2 8 (∀a:Nat,∀c:U,fu c a m2→ax (ji 3 d d2 c m2 474) R (b5 true false cr s (bm w) dg q dr f 32 fm (m2+1) a dz::jh 3 d d2 c 474 m2) (bx r b (io bh L i m cap) (ak pts))))else bw (jt d d2 401&&true) R (fw cr s w dg q dr f fm m2 cap2::j6 d d2 401) (bx r b (B bh::am 400 0 m cap::ar L i) (ak pts)) 0):=by kernel_rfl
theorem l133_0:LOKf Tryz.prog (oneL 0 S133_0.hA) Tryz.f190:=by
 refine jbk (h:=S133_0.hA) (by kernel_rfl) (jb1 ok_G22 hmix (by kernel_rfl) (ja6 _) S133_0 V133_0 B133_0 (fun(b,r,pts,bh,d,m,cap,L,i,s,w,dg,q,o,dr,f,cr,fm)=>(m-i).toNat) ?_ ?_ ?_)
 ·intro vs bs s h;simp only[S133_0]at h;split at h
  all_goals first | (cases h;exact⟨rfl,rfl⟩) | cases h | (split at h<;>first | (rename_i hq;cases h;have hq:=jah hq;subst hq;exact⟨rfl,rfl⟩) | cases h)
 ·exact fun⟨b,r,pts,bh,d,m,cap,L,i,s,w,dg,q,o,dr,f,cr,fm⟩ hp=>by
   simp only[S133_0,jaf]at hp;have hv:=jc2.1 hp.2.1;cases o with
   | nil=>simp[V133_0,B133_0,S133_0,jaz,jbn,idsL,ids,Rw.v,Rw.bi,jar hv.plain]
   | own d2 m2 cap2=>simp[V133_0,B133_0,S133_0,jaz,jbn,idsL,ids,Rw.v,Rw.bi,jar hv.plain,jar (ja0.1 hp.1).plain]
 ·intro⟨b,r,pts,bh,d,m,cap,L,i,s,w,dg,q,o,dr,f,cr,fm⟩ jk Z hp hf;simp only[S133_0]at hp hf;cases o with
  | nil=>
   rw[r133_0n];delta bw dq f0 bx ak ar am gy au b5 e9 cw b4 dp gm cu ij co a8 bn k7 ax bq bp br dt io bk jo j6 jt j5 dz bm du fw aq al;simp only[jaf,jae]at hp;obtain⟨-,hV,hp⟩:=hp;have hv:=jc2.1 hV;simp only[Rw.z,List.length_nil]at hp hf;have k1:bz ⟨#[57,89,84,73,82]⟩=[57,89,84,73,82]:=rfl;have e0:0+i.toNat*1=i.toNat:=by omega
   rw[k1,e0];apply cond_intro<;>intro h
   ·have h:=jab h;obtain⟨a1,a2,a3⟩:=hv.at hp.1 (by omega);rw[a3]at hf;rw[a1,w64 (n:=i+1) (by omega)];generalize jaj d i.toNat=c at*;refine c_t (jaa (by omega)) (c_t rfl (c_t (jaa a2) ?_));rw[jit];refine cond_intro (fun q0=> ?_) (fun q0=>c_t (by simp) (cond_intro (fun q1=> ?_) (fun q1=>cond_intro (fun q2=> ?_) (fun q2=>cond_intro (fun q3=> ?_) (fun q3=>c_t (by simp) (cond_intro (fun q4=> ?_) (fun q4=> ?_)))))))
    ·have e:roP dr f c i=0:=by
      unfold roP;rw[q0];rfl
     rw[jbd,e]at hf;intro cap1 tail ht;obtain⟨h1,h2⟩:RowI (Value.int IntKind.i64 0::tail) 1 cap1∧zc (Value.int IntKind.i64 0::tail) 1=[0]:=jes [0] ht;have hl1:=jbi h1;generalize Value.int IntKind.i64 0::tail=d' at*;refine c_t (by rw[goodL_plain hv.plain,goodL_plain h1.plain];rfl) ?_;rw[hv.rlb,rlbL_plain _ h1.plain];rw[w64 (n:=w+1) (by omega)];rw[w64 (n:=dg+1) (by omega)];rw[w64 (n:=q+pts) (by omega)];rw[w64 (n:=fm+1) (by omega)];exact⟨(b,r,pts,bh,d,m,cap,L,i+1,s,w+1,dg+1,q+pts,.own d' (1) cap1,dr,f,cr,fm+1),rfl,rfl,by simp only[S133_0,jaf,jae];exact⟨ja0.2 h1,hV,by simp only[Rw.z,hl1];omega⟩,by simp only;omega,by simp only[S133_0];refine jf8 hf ?_ (fun g=>g);rintro ⟨-,g⟩;exact⟨fun q=>(by cases q),fun pts' bh' w' dg' q' fm' d'' m'' cap'' g1 g2 g3=>g pts' bh' w' dg' q' fm' d'' m'' cap'' g1 (by rw[g2];simp[Rw.z,h2]) g3⟩⟩
    ·have e:roP dr f c i=1:=by
      unfold roP;rw[q0,q1];rfl
     rw[jbd,e]at hf;intro cap1 tail ht;obtain⟨h1,h2⟩:RowI (Value.int IntKind.i64 1::tail) 1 cap1∧zc (Value.int IntKind.i64 1::tail) 1=[1]:=jes [1] ht;have hl1:=jbi h1;generalize Value.int IntKind.i64 1::tail=d' at*;have e2:plGo (1::jbd dr f (List.drop (i+1).toNat (zc d m)) (i+1)) ⟨pts,bh,w,dg,q,fm⟩=bif decide (fm>0)then(false,⟨pts,bh,w,dg,q,fm⟩)else plGo (jbd dr f (List.drop (i+1).toNat (zc d m)) (i+1)) ⟨pts,bh || decide (pts>0),w+1,dg+1,q+pts,fm⟩:=rfl;rw[e2]at hf;refine cond_intro (fun z=>c_t (by rw[goodL_plain hv.plain,goodL_plain h1.plain];rfl) ?_) (fun z=>c_t (by simp) ?_)
     ·rw[hv.rlb,rlbL_plain _ h1.plain];rw[z,cond_true]at hf;exact hf _ _ _ _ _ _ _ d' _ _ (ja0.2 h1)
     ·rw[z,cond_false]at hf;refine c_t (by rw[goodL_plain hv.plain,goodL_plain h1.plain];rfl) ?_;rw[hv.rlb,rlbL_plain _ h1.plain];rw[w64 (n:=w+1) (by omega)];rw[w64 (n:=dg+1) (by omega)];rw[w64 (n:=q+pts) (by omega)];exact⟨(b,r,pts,bh || decide (pts>0),d,m,cap,L,i+1,s,w+1,dg+1,q+pts,.own d' (1) cap1,dr,f,cr,fm),rfl,rfl,by simp only[S133_0,jaf,jae];exact⟨ja0.2 h1,hV,by simp only[Rw.z,hl1];omega⟩,by simp only;omega,by simp only[S133_0];refine jf8 hf ?_ (fun g=>g);rintro ⟨-,g⟩;exact⟨fun q=>(by cases q),fun pts' bh' w' dg' q' fm' d'' m'' cap'' g1 g2 g3=>g pts' bh' w' dg' q' fm' d'' m'' cap'' g1 (by rw[g2];simp[Rw.z,h2]) g3⟩⟩
    ·have e:roP dr f c i=2:=by
      unfold roP;rw[q0,q1,q2];rfl
     rw[jbd,e]at hf;intro cap1 tail ht;obtain⟨h1,h2⟩:RowI (Value.int IntKind.i64 2::tail) 1 cap1∧zc (Value.int IntKind.i64 2::tail) 1=[2]:=jes [2] ht;have hl1:=jbi h1;generalize Value.int IntKind.i64 2::tail=d' at*;refine c_t (by rw[goodL_plain hv.plain,goodL_plain h1.plain];rfl) ?_;rw[hv.rlb,rlbL_plain _ h1.plain];rw[w64 (n:=pts+1) (by omega)];exact⟨(b,r,pts+1,bh,d,m,cap,L,i+1,s,w,dg,q,.own d' (1) cap1,dr,f,cr,fm),rfl,rfl,by simp only[S133_0,jaf,jae];exact⟨ja0.2 h1,hV,by simp only[Rw.z,hl1];omega⟩,by simp only;omega,by simp only[S133_0];refine jf8 hf ?_ (fun g=>g);rintro ⟨-,g⟩;exact⟨fun q=>(by cases q),fun pts' bh' w' dg' q' fm' d'' m'' cap'' g1 g2 g3=>g pts' bh' w' dg' q' fm' d'' m'' cap'' g1 (by rw[g2];simp[Rw.z,h2]) g3⟩⟩
    ·have e:roP dr f c i=5:=by
      unfold roP;rw[q0,q1,q2,q3];rfl
     rw[jbd,e]at hf;intro cap1 tail ht;obtain⟨h1,h2⟩:RowI (Value.int IntKind.i64 5::tail) 1 cap1∧zc (Value.int IntKind.i64 5::tail) 1=[5]:=jes [5] ht;have hl1:=jbi h1;generalize Value.int IntKind.i64 5::tail=d' at*;refine c_t (by rw[goodL_plain hv.plain,goodL_plain h1.plain];rfl) ?_;rw[hv.rlb,rlbL_plain _ h1.plain];rw[w64 (n:=w+1) (by omega)];exact⟨(b,r,pts,bh,d,m,cap,L,i+1,s,w+1,dg,q,.own d' (1) cap1,dr,f,cr,fm),rfl,rfl,by simp only[S133_0,jaf,jae];exact⟨ja0.2 h1,hV,by simp only[Rw.z,hl1];omega⟩,by simp only;omega,by simp only[S133_0];refine jf8 hf ?_ (fun g=>g);rintro ⟨-,g⟩;exact⟨fun q=>(by cases q),fun pts' bh' w' dg' q' fm' d'' m'' cap'' g1 g2 g3=>g pts' bh' w' dg' q' fm' d'' m'' cap'' g1 (by rw[g2];simp[Rw.z,h2]) g3⟩⟩
    ·have e:roP dr f c i=4:=by
      unfold roP;rw[q0,q1,q2,q3,q4];rfl
     rw[jbd,e]at hf;intro cap1 tail ht;obtain⟨h1,h2⟩:RowI (Value.int IntKind.i64 4::tail) 1 cap1∧zc (Value.int IntKind.i64 4::tail) 1=[4]:=jes [4] ht;have hl1:=jbi h1;generalize Value.int IntKind.i64 4::tail=d' at*;refine c_t (by rw[goodL_plain hv.plain,goodL_plain h1.plain];rfl) ?_;rw[hv.rlb,rlbL_plain _ h1.plain];rw[w64 (n:=w+1) (by omega)];exact⟨(b,r,pts,bh,d,m,cap,L,i+1,s,w+1,dg,q,.own d' (1) cap1,dr,f,cr,fm),rfl,rfl,by simp only[S133_0,jaf,jae];exact⟨ja0.2 h1,hV,by simp only[Rw.z,hl1];omega⟩,by simp only;omega,by simp only[S133_0];refine jf8 hf ?_ (fun g=>g);rintro ⟨-,g⟩;exact⟨fun q=>(by cases q),fun pts' bh' w' dg' q' fm' d'' m'' cap'' g1 g2 g3=>g pts' bh' w' dg' q' fm' d'' m'' cap'' g1 (by rw[g2];simp[Rw.z,h2]) g3⟩⟩
    ·have e:roP dr f c i=3:=by
      unfold roP;rw[q0,q1,q2,q3,q4];rfl
     rw[jbd,e]at hf;intro cap1 tail ht;obtain⟨h1,h2⟩:RowI (Value.int IntKind.i64 3::tail) 1 cap1∧zc (Value.int IntKind.i64 3::tail) 1=[3]:=jes [3] ht;have hl1:=jbi h1;generalize Value.int IntKind.i64 3::tail=d' at*;refine c_t (by rw[goodL_plain hv.plain,goodL_plain h1.plain];rfl) ?_;rw[hv.rlb,rlbL_plain _ h1.plain];rw[w64 (n:=w+1) (by omega)];exact⟨(b,r,pts,bh,d,m,cap,L,i+1,s,w+1,dg,q,.own d' (1) cap1,dr,f,cr,fm),rfl,rfl,by simp only[S133_0,jaf,jae];exact⟨ja0.2 h1,hV,by simp only[Rw.z,hl1];omega⟩,by simp only;omega,by simp only[S133_0];refine jf8 hf ?_ (fun g=>g);rintro ⟨-,g⟩;exact⟨fun q=>(by cases q),fun pts' bh' w' dg' q' fm' d'' m'' cap'' g1 g2 g3=>g pts' bh' w' dg' q' fm' d'' m'' cap'' g1 (by rw[g2];simp[Rw.z,h2]) g3⟩⟩
   ·have h:=jac h;rw[hv.end (by omega),jbd,plGo,cond_true]at hf;obtain rfl:i=m:=by omega
    refine c_t (by rw[goodL_plain hv.plain];rfl) ?_;rw[hv.rlb];exact hf.1 rfl rfl
  | own d2 m2 cap2=>
   rw[r133_0o];delta bw dq f0 bx ak ar am bk jo gy j6 au b5 dz fw jt cw b4 dp gm cu ij co a8 bn k7 gq jz ft ax bq bp br dt io jh bm ji fu du aq al;simp only[jaf,jae]at hp;obtain⟨hR,hV,hp⟩:=hp;have hv:=jc2.1 hV;have hr:=ja0.1 hR;have hzl:=jbi hr;simp only[Rw.z,hzl]at hp hf;have k1:bz ⟨#[57,89,84,73,82]⟩=[57,89,84,73,82]:=rfl;have e0:0+i.toNat*1=i.toNat:=by omega
   rw[k1,e0];apply cond_intro<;>intro h
   ·have h:=jab h;obtain⟨a1,a2,a3⟩:=hv.at hp.1 (by omega);rw[a3]at hf;rw[a1,w64 (n:=i+1) (by omega)];generalize jaj d i.toNat=c at*;refine c_t (jaa (by omega)) (c_t rfl (c_t (jaa a2) ?_));rw[jit];refine cond_intro (fun q0=> ?_) (fun q0=>c_t (by simp) (cond_intro (fun q1=> ?_) (fun q1=>cond_intro (fun q2=> ?_) (fun q2=>cond_intro (fun q3=> ?_) (fun q3=>c_t (by simp) (cond_intro (fun q4=> ?_) (fun q4=> ?_)))))))
    ·have e:roP dr f c i=0:=by
      unfold roP;rw[q0];rfl
     rw[jbd,e]at hf;refine c_t (hr.ask (k:=1) (by omega)) (fun cap1 tail ht=> ?_);obtain⟨h1,h2⟩:=hr.app1 0 ht;have hl1:=jbi h1;generalize List.take (m2*1) d2++ [Value.int IntKind.i64 0]++tail=d' at*;refine c_t (by rw[goodL_plain hv.plain,goodL_plain h1.plain];rfl) ?_;rw[hv.rlb,rlbL_plain _ h1.plain];rw[w64 (n:=w+1) (by omega)];rw[w64 (n:=dg+1) (by omega)];rw[w64 (n:=q+pts) (by omega)];rw[w64 (n:=fm+1) (by omega)];exact⟨(b,r,pts,bh,d,m,cap,L,i+1,s,w+1,dg+1,q+pts,.own d' (m2+1) cap1,dr,f,cr,fm+1),rfl,rfl,by simp only[S133_0,jaf,jae];exact⟨ja0.2 h1,hV,by simp only[Rw.z,hl1];omega⟩,by simp only;omega,by simp only[S133_0];refine jf8 hf ?_ (fun g=>g);rintro ⟨-,g⟩;exact⟨fun q=>(by cases q),fun pts' bh' w' dg' q' fm' d'' m'' cap'' g1 g2 g3=>g pts' bh' w' dg' q' fm' d'' m'' cap'' g1 (by rw[g2];simp[Rw.z,h2]) g3⟩⟩
    ·have e:roP dr f c i=1:=by
      unfold roP;rw[q0,q1];rfl
     rw[jbd,e]at hf;refine c_t (hr.ask (k:=1) (by omega)) (fun cap1 tail ht=> ?_);obtain⟨h1,h2⟩:=hr.app1 1 ht;have hl1:=jbi h1;generalize List.take (m2*1) d2++ [Value.int IntKind.i64 1]++tail=d' at*;have e2:plGo (1::jbd dr f (List.drop (i+1).toNat (zc d m)) (i+1)) ⟨pts,bh,w,dg,q,fm⟩=bif decide (fm>0)then(false,⟨pts,bh,w,dg,q,fm⟩)else plGo (jbd dr f (List.drop (i+1).toNat (zc d m)) (i+1)) ⟨pts,bh || decide (pts>0),w+1,dg+1,q+pts,fm⟩:=rfl;rw[e2]at hf;refine cond_intro (fun z=>c_t (by rw[goodL_plain hv.plain,goodL_plain h1.plain];rfl) ?_) (fun z=>c_t (by simp) ?_)
     ·rw[hv.rlb,rlbL_plain _ h1.plain];rw[z,cond_true]at hf;exact hf _ _ _ _ _ _ _ d' _ _ (ja0.2 h1)
     ·rw[z,cond_false]at hf;refine c_t (by rw[goodL_plain hv.plain,goodL_plain h1.plain];rfl) ?_;rw[hv.rlb,rlbL_plain _ h1.plain];rw[w64 (n:=w+1) (by omega)];rw[w64 (n:=dg+1) (by omega)];rw[w64 (n:=q+pts) (by omega)];exact⟨(b,r,pts,bh || decide (pts>0),d,m,cap,L,i+1,s,w+1,dg+1,q+pts,.own d' (m2+1) cap1,dr,f,cr,fm),rfl,rfl,by simp only[S133_0,jaf,jae];exact⟨ja0.2 h1,hV,by simp only[Rw.z,hl1];omega⟩,by simp only;omega,by simp only[S133_0];refine jf8 hf ?_ (fun g=>g);rintro ⟨-,g⟩;exact⟨fun q=>(by cases q),fun pts' bh' w' dg' q' fm' d'' m'' cap'' g1 g2 g3=>g pts' bh' w' dg' q' fm' d'' m'' cap'' g1 (by rw[g2];simp[Rw.z,h2]) g3⟩⟩
    ·have e:roP dr f c i=2:=by
      unfold roP;rw[q0,q1,q2];rfl
     rw[jbd,e]at hf;refine c_t (hr.ask (k:=1) (by omega)) (fun cap1 tail ht=> ?_);obtain⟨h1,h2⟩:=hr.app1 2 ht;have hl1:=jbi h1;generalize List.take (m2*1) d2++ [Value.int IntKind.i64 2]++tail=d' at*;refine c_t (by rw[goodL_plain hv.plain,goodL_plain h1.plain];rfl) ?_;rw[hv.rlb,rlbL_plain _ h1.plain];rw[w64 (n:=pts+1) (by omega)];exact⟨(b,r,pts+1,bh,d,m,cap,L,i+1,s,w,dg,q,.own d' (m2+1) cap1,dr,f,cr,fm),rfl,rfl,by simp only[S133_0,jaf,jae];exact⟨ja0.2 h1,hV,by simp only[Rw.z,hl1];omega⟩,by simp only;omega,by simp only[S133_0];refine jf8 hf ?_ (fun g=>g);rintro ⟨-,g⟩;exact⟨fun q=>(by cases q),fun pts' bh' w' dg' q' fm' d'' m'' cap'' g1 g2 g3=>g pts' bh' w' dg' q' fm' d'' m'' cap'' g1 (by rw[g2];simp[Rw.z,h2]) g3⟩⟩
    ·have e:roP dr f c i=5:=by
      unfold roP;rw[q0,q1,q2,q3];rfl
     rw[jbd,e]at hf;refine c_t (hr.ask (k:=1) (by omega)) (fun cap1 tail ht=> ?_);obtain⟨h1,h2⟩:=hr.app1 5 ht;have hl1:=jbi h1;generalize List.take (m2*1) d2++ [Value.int IntKind.i64 5]++tail=d' at*;refine c_t (by rw[goodL_plain hv.plain,goodL_plain h1.plain];rfl) ?_;rw[hv.rlb,rlbL_plain _ h1.plain];rw[w64 (n:=w+1) (by omega)];exact⟨(b,r,pts,bh,d,m,cap,L,i+1,s,w+1,dg,q,.own d' (m2+1) cap1,dr,f,cr,fm),rfl,rfl,by simp only[S133_0,jaf,jae];exact⟨ja0.2 h1,hV,by simp only[Rw.z,hl1];omega⟩,by simp only;omega,by simp only[S133_0];refine jf8 hf ?_ (fun g=>g);rintro ⟨-,g⟩;exact⟨fun q=>(by cases q),fun pts' bh' w' dg' q' fm' d'' m'' cap'' g1 g2 g3=>g pts' bh' w' dg' q' fm' d'' m'' cap'' g1 (by rw[g2];simp[Rw.z,h2]) g3⟩⟩
    ·have e:roP dr f c i=4:=by
      unfold roP;rw[q0,q1,q2,q3,q4];rfl
     rw[jbd,e]at hf;refine c_t (hr.ask (k:=1) (by omega)) (fun cap1 tail ht=> ?_);obtain⟨h1,h2⟩:=hr.app1 4 ht;have hl1:=jbi h1;generalize List.take (m2*1) d2++ [Value.int IntKind.i64 4]++tail=d' at*;refine c_t (by rw[goodL_plain hv.plain,goodL_plain h1.plain];rfl) ?_;rw[hv.rlb,rlbL_plain _ h1.plain];rw[w64 (n:=w+1) (by omega)];exact⟨(b,r,pts,bh,d,m,cap,L,i+1,s,w+1,dg,q,.own d' (m2+1) cap1,dr,f,cr,fm),rfl,rfl,by simp only[S133_0,jaf,jae];exact⟨ja0.2 h1,hV,by simp only[Rw.z,hl1];omega⟩,by simp only;omega,by simp only[S133_0];refine jf8 hf ?_ (fun g=>g);rintro ⟨-,g⟩;exact⟨fun q=>(by cases q),fun pts' bh' w' dg' q' fm' d'' m'' cap'' g1 g2 g3=>g pts' bh' w' dg' q' fm' d'' m'' cap'' g1 (by rw[g2];simp[Rw.z,h2]) g3⟩⟩
    ·have e:roP dr f c i=3:=by
      unfold roP;rw[q0,q1,q2,q3,q4];rfl
     rw[jbd,e]at hf;refine c_t (hr.ask (k:=1) (by omega)) (fun cap1 tail ht=> ?_);obtain⟨h1,h2⟩:=hr.app1 3 ht;have hl1:=jbi h1;generalize List.take (m2*1) d2++ [Value.int IntKind.i64 3]++tail=d' at*;refine c_t (by rw[goodL_plain hv.plain,goodL_plain h1.plain];rfl) ?_;rw[hv.rlb,rlbL_plain _ h1.plain];rw[w64 (n:=w+1) (by omega)];exact⟨(b,r,pts,bh,d,m,cap,L,i+1,s,w+1,dg,q,.own d' (m2+1) cap1,dr,f,cr,fm),rfl,rfl,by simp only[S133_0,jaf,jae];exact⟨ja0.2 h1,hV,by simp only[Rw.z,hl1];omega⟩,by simp only;omega,by simp only[S133_0];refine jf8 hf ?_ (fun g=>g);rintro ⟨-,g⟩;exact⟨fun q=>(by cases q),fun pts' bh' w' dg' q' fm' d'' m'' cap'' g1 g2 g3=>g pts' bh' w' dg' q' fm' d'' m'' cap'' g1 (by rw[g2];simp[Rw.z,h2]) g3⟩⟩
   ·have h:=jac h;rw[hv.end (by omega),jbd,plGo,cond_true]at hf;obtain rfl:i=m:=by omega
    refine c_t (by rw[goodL_plain hv.plain,goodL_plain hr.plain];rfl) ?_;rw[hv.rlb,rlbL_plain _ hr.plain];exact hf.2 pts bh w dg q fm d2 m2 cap2 hR (by simp) rfl
theorem fn133:Fn1 Tryz.prog 190 Tryz.f190:= .m Tryz.func190
def G23:Env:=Env.nil.add 221 (sp2 s141)
theorem ok_G23:jao Tryz.prog G23:=jak ja7 ok141
theorem at_ints:∀{d:U}{n j:Nat},isInts (d.take n)=true→j<n→n≤d.length→jam .i64 d j=true∧jaj d j=(d.map iv).getD j 0
 | .int .i64 k::r,n+1,0,_,_,_=>⟨rfl,rfl⟩
 | .int .i64 k::r,n+1,j+1,h,hj,hn=>by
  have:=at_ints (d:=r) (n:=n) (j:=j) (by simpa[isInts]using h) (by omega) (by simpa using hn);simpa[jam,jaj]using this
 | [],n+1,j,_,hj,hn=>by simp at hn
 | .bool _::r,n+1,j,h,_,_ | .string _::r,n+1,j,h,_,_ | .float _ _::r,n+1,j,h,_,_ | .complex _ _ _::r,n+1,j,h,_,_ | .pointer _::r,n+1,j,h,_,_ | .slice _ _ _::r,n+1,j,h,_,_
 | .agg _::r,n+1,j,h,_,_ | .tuple _::r,n+1,j,h,_,_ | .iface _ _::r,n+1,j,h,_,_ | .func _ _ _::r,n+1,j,h,_,_ | .map _::r,n+1,j,h,_,_ | .chan _::r,n+1,j,h,_,_ | .nilFunc::r,n+1,j,h,_,_ | .nilIface::r,n+1,j,h,_,_=>by
  simp[isInts]at h
 | .int .i8 _::r,n+1,j,h,_,_ | .int .i16 _::r,n+1,j,h,_,_ | .int .i32 _::r,n+1,j,h,_,_ | .int .u8 _::r,n+1,j,h,_,_ | .int .u16 _::r,n+1,j,h,_,_ | .int .u32 _::r,n+1,j,h,_,_ | .int .u64 _::r,n+1,j,h,_,_=>by
  simp[isInts]at h
theorem RowI.at{d:U}{m cap:Nat}(h:RowI d m cap){j:Int}(h0:0≤j)(hj:j<m):jam .i64 d j.toNat=true∧(zc d m).drop j.toNat=jaj d j.toNat::(zc d m).drop (j+1).toNat:=by
 have hl:=h.len;have hle:=h.le;obtain⟨q1,q2⟩:=at_ints h.bytes (j:=j.toNat) (by omega) (by omega);refine⟨q1,?_⟩;rw[jel (zc d m) _ (by rw[jbi h];omega),show(j+1).toNat=j.toNat+1 by omega,q2];congr 1;simp only[zc,List.getD_eq_getElem?_getD,List.getElem?_map,List.getElem?_take];rw[if_pos (by omega)]
theorem RowI.end{d:U}{m cap:Nat}(h:RowI d m cap){j:Int}(hj:(m:Int)≤j):(zc d m).drop j.toNat=[]:=List.drop_eq_nil_of_le (by rw[jbi h];omega)
def loGo(f:Int):E→Int→Int→Int
 | [],_,a=>a
 | r::rs,i,a=>loGo f rs (i+1) (bif r==0 || (r==1 || i==f)then imin a i else a)
def hiGo(f:Int):E→Int→Int→Int
 | [],_,a=>a
 | r::rs,i,a=>hiGo f rs (i+1) (bif r==0 || (r==1 || i==f)then imax a i else a)
def stP(f lo hi:Int):E→Int→Bool
 | [],_=>true
 | r::rs,i=> !((r==4 || r==5) && (i !=f&& (decide (i>lo) &&decide (i<hi)))) &&stP f lo hi rs (i+1)
def siGo:E→E→Int
 | c::cs,r::rs=>(bif r==4 || hasZ [84,73,82] c then 1 else 0)+siGo cs rs
 | _,_=>0
def V134_0:Y×Bool×Int×Int×Nat×Nat×Int×Int×Y×Int×Int×Int×U×Nat×Nat×Int×Int×Bool×Int→U:=fun(b,r,lo,hi,m3,cap3,L,i,s,w,dg,q,d2,m2,cap2,dr,f,cr,fm)=> [.pointer (some ⟨3,0,some 0⟩),S b,B r,I lo,I hi,.slice (some ⟨401,0,some 1⟩) m3 cap3,I L,I i]
def B134_0:Y×Bool×Int×Int×Nat×Nat×Int×Int×Y×Int×Int×Int×U×Nat×Nat×Int×Int×Bool×Int→F:=fun(b,r,lo,hi,m3,cap3,L,i,s,w,dg,q,d2,m2,cap2,dr,f,cr,fm)=> [some ⟨[.string s,.bool true,.int .i64 w,.int .i64 dg,.int .i64 q,.bool false,.slice (some ⟨401,0,some 1⟩) m2 cap2,.int .u8 dr,.int .i64 f,.bool cr,.int .u8 32,.int .i64 fm],132,true⟩,some ⟨d2,221,true⟩]
def S134_0:LSpecA (Y×Bool×Int×Int×Nat×Nat×Int×Int×Y×Int×Int×Int×U×Nat×Nat×Int×Int×Bool×Int) where
 live:=[0,1,4,5,6,16,17,18]
 mid:=[3,401]
 n:=520
 ap:=[]
 dec vs bs:=match vs,bs with | [.pointer (some ⟨3,0,some 0⟩),.string b,.bool r,.int .i64 lo,.int .i64 hi,.slice (some ⟨401,0,some 1⟩) m3 cap3,.int .i64 L,.int .i64 i],[some ⟨[.string s,.bool true,.int .i64 w,.int .i64 dg,.int .i64 q,.bool false,.slice (some ⟨401,0,some 1⟩) m2 cap2,.int .u8 dr,.int .i64 f,.bool cr,.int .u8 32,.int .i64 fm],132,true⟩,some ⟨d2,221,true⟩]=>some (b,r,lo,hi,m3,cap3,L,i,s,w,dg,q,d2,m2,cap2,dr,f,cr,fm) | _,_=>none
 pre:=fun(b,r,lo,hi,m3,cap3,L,i,s,w,dg,q,d2,m2,cap2,dr,f,cr,fm)=>jc5 d2 m2 cap2&&decide (0≤i∧i≤m2∧m2≤1000∧L=m2∧m3=m2)
 fin:=fun(b,r,lo,hi,m3,cap3,L,i,s,w,dg,q,d2,m2,cap2,dr,f,cr,fm) Z=>∀lo' hi',loGo f ((zc d2 m2).drop i.toNat) i lo=lo'→hiGo f ((zc d2 m2).drop i.toNat) i hi=hi'→Z (.exit 0) [.pointer (some ⟨3,0,some 0⟩),S b,B r,I lo',I hi',.slice (some ⟨401,0,some 1⟩) m3 cap3,I L,I m2] [some ⟨[.string s,.bool true,.int .i64 w,.int .i64 dg,.int .i64 q,.bool false,.slice (some ⟨401,0,some 1⟩) m2 cap2,.int .u8 dr,.int .i64 f,.bool cr,.int .u8 32,.int .i64 fm],132,true⟩,some ⟨d2,221,true⟩]
def jj(a:U):F:=[some (.mk (rlbL [] a) 221 true)]
theorem r134_0(b:Y)(r:Bool)(lo:Int)(hi:Int)(m3:Nat)(cap3:Nat)(L:Int)(i:Int)(s:Y)(w:Int)(dg:Int)(q:Int)(d2:U)(m2:Nat)(cap2:Nat)(dr:Int)(f:Int)(cr:Bool)(fm:Int)(jk:Tmps)(R:Exit→U→F→Prop):(jbz Tryz.prog G23 noL Tryz.f191.ntmps (ja9 Tryz.f191 0) (tl S134_0.live (V134_0 (b,r,lo,hi,m3,cap3,L,i,s,w,dg,q,d2,m2,cap2,dr,f,cr,fm)) jk) (ml S134_0.mid (B134_0 (b,r,lo,hi,m3,cap3,L,i,s,w,dg,q,d2,m2,cap2,dr,f,cr,fm))) S134_0.n fun e t' m' _=>S134_0.out R e t' m')=(bif al i L then b4 (jam .i64 d2 (co i)) i m3 (cu (a8 i d2==0) (a8 i d2==1 || true) (ij (i==f) (a8 i d2) 0 1) (ax (ck [] d2) R (fw cr s w dg q dr f fm m2 cap2::jj d2) (bx r b (I (imax hi i)::dt L i 401 0 m3 cap3) (I (imin lo i)))) (ax (ck [] d2) R (fw cr s w dg q dr f fm m2 cap2::jj d2) (bx r b (ak hi::dt L i 401 0 m3 cap3) (ak lo))))else bw (ck [] d2) R (fw cr s w dg q dr f fm m2 cap2::jj d2) (bx r b (ak hi::am 401 0 m3 cap3::ar L i) (ak lo)) 0):=by kernel_rfl
theorem l134_0:∀t m n K,S134_0.hA t m n K→Ab.Sem Tryz.prog Tryz.f191.ntmps (.loop (ja9 Tryz.f191 0)) t m n K:=by
 refine jb1 ok_G23 hmix (by kernel_rfl) (ja6 _) S134_0 V134_0 B134_0 (fun(b,r,lo,hi,m3,cap3,L,i,s,w,dg,q,d2,m2,cap2,dr,f,cr,fm)=>(m2-i).toNat) ?_ ?_ ?_
 ·intro vs bs s h;simp only[S134_0]at h;split at h
  all_goals first | (cases h;exact⟨rfl,rfl⟩) | cases h | (split at h<;>first | (rename_i hq;cases h;have hq:=jah hq;subst hq;exact⟨rfl,rfl⟩) | cases h)
 ·exact fun⟨b,r,lo,hi,m3,cap3,L,i,s,w,dg,q,d2,m2,cap2,dr,f,cr,fm⟩ hp=>by
   simp only[S134_0,jaf]at hp;have hr:=ja0.1 hp.1;simp[V134_0,B134_0,S134_0,jaz,jbn,idsL,ids,jar hr.plain]
 ·intro⟨b,r,lo,hi,m3,cap3,L,i,s,w,dg,q,d2,m2,cap2,dr,f,cr,fm⟩ jk Z hp hf;rw[r134_0];delta bw dq f0 bx ak ar am jj au b5 dz fw ck cw b4 cu ax bq bp br dt ij co a8 al;simp only[S134_0]at hp hf;simp only[jaf,jae]at hp;obtain⟨hR,hp⟩:=hp;have hr:=ja0.1 hR;have hzl:=jbi hr;have e0:0+i.toNat*1=i.toNat:=by omega
  rw[e0];simp only[hr.rlb];have hg:∀ps,(jat ps d2&&true&&true)=true:=fun ps=>by rw[hr.good];rfl
  apply cond_intro<;>intro h
  ·have h:=jab h;obtain⟨a1,a3⟩:=hr.at hp.1 (by omega);rw[a3,loGo,hiGo]at hf;rw[a1,w64 (n:=i+1) (by omega)];generalize jaj d2 i.toNat=c at*;refine c_t (jaa (by omega)) (c_t rfl (c_t (by simp) (cond_intro (fun z=>c_t (hg _) ?_) (fun z=>c_t (hg _) ?_))))
   ·rw[z,cond_true,cond_true]at hf;exact⟨(b,r,imin lo i,imax hi i,m3,cap3,L,i+1,s,w,dg,q,d2,m2,cap2,dr,f,cr,fm),rfl,rfl,by simp only[S134_0,jaf,jae];exact⟨hR,by omega⟩,by simp only;omega,hf⟩
   ·rw[z,cond_false,cond_false]at hf;exact⟨(b,r,lo,hi,m3,cap3,L,i+1,s,w,dg,q,d2,m2,cap2,dr,f,cr,fm),rfl,rfl,by simp only[S134_0,jaf,jae];exact⟨hR,by omega⟩,by simp only;omega,hf⟩
  ·have h:=jac h;rw[hr.end (by omega),loGo,hiGo]at hf;obtain rfl:i=m2:=by omega
   exact c_t (hg _) (hf lo hi rfl rfl)
def V134_2:Y×Bool×Int×Int×Nat×Nat×Int×Int×Y×Int×Int×Int×U×Nat×Nat×Int×Int×Bool×Int→U:=fun(b,r,lo,hi,m3,cap3,L,i,s,w,dg,q,d2,m2,cap2,dr,f,cr,fm)=> [.pointer (some ⟨3,0,some 0⟩),S b,B r,I lo,I hi,.slice (some ⟨401,0,some 1⟩) m3 cap3,I L,I i]
def B134_2:Y×Bool×Int×Int×Nat×Nat×Int×Int×Y×Int×Int×Int×U×Nat×Nat×Int×Int×Bool×Int→F:=fun(b,r,lo,hi,m3,cap3,L,i,s,w,dg,q,d2,m2,cap2,dr,f,cr,fm)=> [some ⟨[.string s,.bool true,.int .i64 w,.int .i64 dg,.int .i64 q,.bool false,.slice (some ⟨401,0,some 1⟩) m2 cap2,.int .u8 dr,.int .i64 f,.bool cr,.int .u8 32,.int .i64 fm],132,true⟩,some ⟨d2,221,true⟩]
def S134_2:LSpecA (Y×Bool×Int×Int×Nat×Nat×Int×Int×Y×Int×Int×Int×U×Nat×Nat×Int×Int×Bool×Int) where
 live:=[0,1,4,5,6,47,48,49]
 mid:=[3,401]
 n:=560
 ap:=[]
 dec vs bs:=match vs,bs with | [.pointer (some ⟨3,0,some 0⟩),.string b,.bool r,.int .i64 lo,.int .i64 hi,.slice (some ⟨401,0,some 1⟩) m3 cap3,.int .i64 L,.int .i64 i],[some ⟨[.string s,.bool true,.int .i64 w,.int .i64 dg,.int .i64 q,.bool false,.slice (some ⟨401,0,some 1⟩) m2 cap2,.int .u8 dr,.int .i64 f,.bool cr,.int .u8 32,.int .i64 fm],132,true⟩,some ⟨d2,221,true⟩]=>some (b,r,lo,hi,m3,cap3,L,i,s,w,dg,q,d2,m2,cap2,dr,f,cr,fm) | _,_=>none
 pre:=fun(b,r,lo,hi,m3,cap3,L,i,s,w,dg,q,d2,m2,cap2,dr,f,cr,fm)=>jc5 d2 m2 cap2&&decide (0≤i∧i≤m2∧m2≤1000∧L=m2∧m3=m2)
 fin:=fun(b,r,lo,hi,m3,cap3,L,i,s,w,dg,q,d2,m2,cap2,dr,f,cr,fm) Z=>(bif stP f lo hi ((zc d2 m2).drop i.toNat) i then Z (.exit 2) [.pointer (some ⟨3,0,some 0⟩),S b,B r,I lo,I hi,.slice (some ⟨401,0,some 1⟩) m3 cap3,I L,I m2] [some ⟨[.string s,.bool true,.int .i64 w,.int .i64 dg,.int .i64 q,.bool false,.slice (some ⟨401,0,some 1⟩) m2 cap2,.int .u8 dr,.int .i64 f,.bool cr,.int .u8 32,.int .i64 fm],132,true⟩,some ⟨d2,221,true⟩]else∀i',Z .ret [.pointer (some ⟨3,0,some 0⟩),S b,B false,I lo,I hi,.slice (some ⟨401,0,some 1⟩) m3 cap3,I L,I i'] [some ⟨[.string s,.bool true,.int .i64 w,.int .i64 dg,.int .i64 q,.bool false,.slice (some ⟨401,0,some 1⟩) m2 cap2,.int .u8 dr,.int .i64 f,.bool cr,.int .u8 32,.int .i64 fm],132,true⟩,some ⟨d2,221,true⟩])
theorem r134_2(b:Y)(r:Bool)(lo:Int)(hi:Int)(m3:Nat)(cap3:Nat)(L:Int)(i:Int)(s:Y)(w:Int)(dg:Int)(q:Int)(d2:U)(m2:Nat)(cap2:Nat)(dr:Int)(f:Int)(cr:Bool)(fm:Int)(jk:Tmps)(R:Exit→U→F→Prop):(jbz Tryz.prog G23 noL Tryz.f191.ntmps (ja9 Tryz.f191 2) (tl S134_2.live (V134_2 (b,r,lo,hi,m3,cap3,L,i,s,w,dg,q,d2,m2,cap2,dr,f,cr,fm)) jk) (ml S134_2.mid (B134_2 (b,r,lo,hi,m3,cap3,L,i,s,w,dg,q,d2,m2,cap2,dr,f,cr,fm))) S134_2.n fun e t' m' _=>S134_2.out R e t' m')=(bif al i L then b4 (jam .i64 d2 (co i)) i m3 (gx (a8 i d2==4) (bif i !=f then aq i lo || true else true) (bif a8 i d2==5 then bif i !=f then aq i lo || true else true else true) (bif a8 i d2==4 then i !=f&& (aq i lo&&al i hi)else a8 i d2==5&& (i !=f&& (aq i lo&&al i hi))) (bif ck [] d2 then R .ret (bx false b (ak hi::am 401 0 m3 cap3::ar L i) (ak lo)) (fw cr s w dg q dr f fm m2 cap2::jj d2)else False) (ax (ck [] d2) R (fw cr s w dg q dr f fm m2 cap2::jj d2) (bx r b (ak hi::dt L i 401 0 m3 cap3) (ak lo))))else bw (ck [] d2) R (fw cr s w dg q dr f fm m2 cap2::jj d2) (bx r b (ak hi::am 401 0 m3 cap3::ar L i) (ak lo)) 2):=by kernel_rfl
theorem l134_2:∀t m n K,S134_2.hA t m n K→Ab.Sem Tryz.prog Tryz.f191.ntmps (.loop (ja9 Tryz.f191 2)) t m n K:=by
 refine jb1 ok_G23 hmix (by kernel_rfl) (ja6 _) S134_2 V134_2 B134_2 (fun(b,r,lo,hi,m3,cap3,L,i,s,w,dg,q,d2,m2,cap2,dr,f,cr,fm)=>(m2-i).toNat) ?_ ?_ ?_
 ·intro vs bs s h;simp only[S134_2]at h;split at h
  all_goals first | (cases h;exact⟨rfl,rfl⟩) | cases h | (split at h<;>first | (rename_i hq;cases h;have hq:=jah hq;subst hq;exact⟨rfl,rfl⟩) | cases h)
 ·exact fun⟨b,r,lo,hi,m3,cap3,L,i,s,w,dg,q,d2,m2,cap2,dr,f,cr,fm⟩ hp=>by
   simp only[S134_2,jaf]at hp;have hr:=ja0.1 hp.1;simp[V134_2,B134_2,S134_2,jaz,jbn,idsL,ids,jar hr.plain]
 ·intro⟨b,r,lo,hi,m3,cap3,L,i,s,w,dg,q,d2,m2,cap2,dr,f,cr,fm⟩ jk Z hp hf;rw[r134_2];delta bw dq f0 bx ak ar am jj au b5 dz fw ck cw b4 gx ax bq bp br dt al aq co a8;simp only[S134_2]at hp hf;simp only[jaf,jae]at hp;obtain⟨hR,hp⟩:=hp;have hr:=ja0.1 hR;have hzl:=jbi hr;have e0:0+i.toNat*1=i.toNat:=by omega
  rw[e0];simp only[hr.rlb];have hg:∀ps,(jat ps d2&&true&&true)=true:=fun ps=>by rw[hr.good];rfl
  apply cond_intro<;>intro h
  ·have h:=jab h;obtain⟨a1,a3⟩:=hr.at hp.1 (by omega);rw[a3,stP]at hf;rw[a1,w64 (n:=i+1) (by omega)];generalize jaj d2 i.toNat=c at*;have e:(bif c==4 then i !=f&& (decide (i>lo) &&decide (i<hi))else c==5&& (i !=f&& (decide (i>lo) &&decide (i<hi))))=((c==4 || c==5) && (i !=f&& (decide (i>lo) &&decide (i<hi)))):=by cases c==4<;>rfl
   rw[e];refine c_t (jaa (by omega)) (c_t rfl (c_t (by simp) (cond_intro (fun z=>c_t (hg _) ?_) (fun z=>c_t (hg _) ?_))))
   ·rw[z,Bool.not_true,Bool.false_and,cond_false]at hf;exact hf i
   ·rw[z,Bool.not_false,Bool.true_and]at hf;exact⟨(b,r,lo,hi,m3,cap3,L,i+1,s,w,dg,q,d2,m2,cap2,dr,f,cr,fm),rfl,rfl,by simp only[S134_2,jaf,jae];exact⟨hR,by omega⟩,by simp only;omega,hf⟩
  ·have h:=jac h;rw[hr.end (by omega),stP,cond_true]at hf;obtain rfl:i=m2:=by omega
   exact c_t (hg _) hf
def V135_0:Y×Int×Int×U×Nat×Nat×Int×Int×Y×Int×Int×Int×U×Nat×Nat×Int×Int×Bool×Int→U:=fun(b,r,n,d,m,cap,L,i,s,w,dg,q,d2,m2,cap2,dr,f,cr,fm)=> [.pointer (some ⟨3,0,some 0⟩),S b,I r,I n,.slice (some ⟨600,0,some 1⟩) m cap,I L,I i]
def B135_0:Y×Int×Int×U×Nat×Nat×Int×Int×Y×Int×Int×Int×U×Nat×Nat×Int×Int×Bool×Int→F:=fun(b,r,n,d,m,cap,L,i,s,w,dg,q,d2,m2,cap2,dr,f,cr,fm)=> [some ⟨[.string s,.bool true,.int .i64 w,.int .i64 dg,.int .i64 q,.bool false,.slice (some ⟨401,0,some 1⟩) m2 cap2,.int .u8 dr,.int .i64 f,.bool cr,.int .u8 32,.int .i64 fm],132,true⟩,some ⟨d,5,false⟩,some ⟨d2,221,true⟩]
def S135_0:LSpecA (Y×Int×Int×U×Nat×Nat×Int×Int×Y×Int×Int×Int×U×Nat×Nat×Int×Int×Bool×Int) where
 live:=[0,1,4,5,9,10,11]
 mid:=[3,600,401]
 n:=610
 ap:=[(.tmp 9,600)]
 dec vs bs:=match vs,bs with | [.pointer (some ⟨3,0,some 0⟩),.string b,.int .i64 r,.int .i64 n,.slice (some ⟨600,0,some 1⟩) m cap,.int .i64 L,.int .i64 i],[some ⟨[.string s,.bool true,.int .i64 w,.int .i64 dg,.int .i64 q,.bool false,.slice (some ⟨401,0,some 1⟩) m2 cap2,.int .u8 dr,.int .i64 f,.bool cr,.int .u8 32,.int .i64 fm],132,true⟩,some ⟨d,5,false⟩,some ⟨d2,221,true⟩]=>some (b,r,n,d,m,cap,L,i,s,w,dg,q,d2,m2,cap2,dr,f,cr,fm) | _,_=>none
 pre:=fun(b,r,n,d,m,cap,L,i,s,w,dg,q,d2,m2,cap2,dr,f,cr,fm)=>jc5 d2 m2 cap2&& (vwOK d m&&decide (0≤i∧i≤m∧m2=m∧m≤1000∧L=m∧0≤n∧n≤i))
 fin:=fun(b,r,n,d,m,cap,L,i,s,w,dg,q,d2,m2,cap2,dr,f,cr,fm) Z=>∀n',n+siGo ((zc d m).drop i.toNat) ((zc d2 m2).drop i.toNat)=n'→Z (.exit 0) [.pointer (some ⟨3,0,some 0⟩),S b,I r,I n',.slice (some ⟨600,0,some 1⟩) m cap,I L,I m] [some ⟨[.string s,.bool true,.int .i64 w,.int .i64 dg,.int .i64 q,.bool false,.slice (some ⟨401,0,some 1⟩) m2 cap2,.int .u8 dr,.int .i64 f,.bool cr,.int .u8 32,.int .i64 fm],132,true⟩,some ⟨d,5,false⟩,some ⟨d2,221,true⟩]
theorem r135_0(b:Y)(r:Int)(n:Int)(d:U)(m:Nat)(cap:Nat)(L:Int)(i:Int)(s:Y)(w:Int)(dg:Int)(q:Int)(d2:U)(m2:Nat)(cap2:Nat)(dr:Int)(f:Int)(cr:Bool)(fm:Int)(jk:Tmps)(R:Exit→U→F→Prop):(jbz Tryz.prog G23 noL Tryz.f192.ntmps (ja9 Tryz.f192 0) (tl S135_0.live (V135_0 (b,r,n,d,m,cap,L,i,s,w,dg,q,d2,m2,cap2,dr,f,cr,fm)) jk) (ml S135_0.mid (B135_0 (b,r,n,d,m,cap,L,i,s,w,dg,q,d2,m2,cap2,dr,f,cr,fm))) S135_0.n fun e t' m' _=>S135_0.out R e t' m')=(bif al i L then b4 (jam .u8 d (co i)) i m (b8 (cw i m2) (jam .i64 d2 (co i) && (a8 i d2==4 || dp (a8 i d) 256&&true)) (a8 i d2==4 || bn (idxZ (bz ⟨#[84,73,82]⟩) (a8 i d)) 0) (ax (dm true [(600,600)] d d2) R [fw cr s w dg q dr f fm m2 cap2,gy [(600,600)] d,dv d2 600 600 221] (f0 b (bp n 1::dt L i 600 0 m cap) 3 (ak r))) (ax (dm true [(600,600)] d d2) R [fw cr s w dg q dr f fm m2 cap2,gy [(600,600)] d,dv d2 600 600 221] (f0 b (ak n::dt L i 600 0 m cap) 3 (ak r))))else bw (dm true [(600,600)] d d2) R [fw cr s w dg q dr f fm m2 cap2,gy [(600,600)] d,dv d2 600 600 221] (f0 b (ak n::am 600 0 m cap::ar L i) 3 (ak r)) 0):=by kernel_rfl
theorem l135_0:LOKf Tryz.prog (oneL 0 S135_0.hA) Tryz.f192:=by
 refine jbk (h:=S135_0.hA) (by kernel_rfl) (jb1 ok_G23 hmix (by kernel_rfl) (ja6 _) S135_0 V135_0 B135_0 (fun(b,r,n,d,m,cap,L,i,s,w,dg,q,d2,m2,cap2,dr,f,cr,fm)=>(m-i).toNat) ?_ ?_ ?_)
 ·intro vs bs s h;simp only[S135_0]at h;split at h
  all_goals first | (cases h;exact⟨rfl,rfl⟩) | cases h | (split at h<;>first | (rename_i hq;cases h;have hq:=jah hq;subst hq;exact⟨rfl,rfl⟩) | cases h)
 ·exact fun⟨b,r,n,d,m,cap,L,i,s,w,dg,q,d2,m2,cap2,dr,f,cr,fm⟩ hp=>by
   simp only[S135_0,jaf]at hp;have hr:=ja0.1 hp.1;simp[V135_0,B135_0,S135_0,jaz,jbn,idsL,ids,jar hr.plain,jar (jc2.1 hp.2.1).plain]
 ·intro⟨b,r,n,d,m,cap,L,i,s,w,dg,q,d2,m2,cap2,dr,f,cr,fm⟩ jk Z hp hf;rw[r135_0];delta bw dq f0 ak ar am dv gy au b5 dz fw dm cw b4 b8 ax bq bp br dt bn co a8 dp al;simp only[S135_0]at hp hf;simp only[jaf,jae]at hp;obtain⟨hR,hV,hp⟩:=hp;have hr:=ja0.1 hR;have hzl:=jbi hr;have hv:=jc2.1 hV;have e0:0+i.toNat*1=i.toNat:=by omega
  rw[e0];simp only[hr.rlb,hv.rlb];have hg:∀ps,(jat ps d&& (jat ps d2&&true) &&true)=true:=fun ps=>by rw[hr.good,goodL_plain hv.plain];rfl
  have k:bz ⟨#[84,73,82]⟩=[84,73,82]:=rfl;rw[k];apply cond_intro<;>intro h
  ·have h:=jab h;obtain⟨a1,a3⟩:=hr.at hp.1 (by omega);obtain⟨b1,b2,b3⟩:=hv.at hp.1 (by omega);rw[a3,b3,siGo]at hf;rw[a1,b1,w64 (n:=i+1) (by omega),jit];generalize jaj d2 i.toNat=c at*;generalize jaj d i.toNat=x at*;refine c_t (jaa (by omega)) (c_t rfl (c_t (by rw[jaa (show 0≤i∧i<(m2:Int)by omega),jaa b2];simp) (cond_intro (fun z=>c_t (hg _) ?_) (fun z=>c_t (hg _) ?_))))
   ·rw[z,cond_true,←Int.add_assoc]at hf;rw[w64 (n:=n+1) (by omega)];exact⟨(b,r,n+1,d,m,cap,L,i+1,s,w,dg,q,d2,m2,cap2,dr,f,cr,fm),rfl,rfl,by simp only[S135_0,jaf,jae];exact⟨hR,hV,by omega⟩,by simp only;omega,hf⟩
   ·rw[z,cond_false,Int.zero_add]at hf;exact⟨(b,r,n,d,m,cap,L,i+1,s,w,dg,q,d2,m2,cap2,dr,f,cr,fm),rfl,rfl,by simp only[S135_0,jaf,jae];exact⟨hR,hV,by omega⟩,by simp only;omega,hf⟩
  ·have h:=jac h;rw[hv.end (by omega),siGo,Int.add_zero]at hf;obtain rfl:i=m:=by omega
   exact c_t (hg _) (hf n rfl);intro _ _ _ _ h1;cases h1
end Go.Px
end
