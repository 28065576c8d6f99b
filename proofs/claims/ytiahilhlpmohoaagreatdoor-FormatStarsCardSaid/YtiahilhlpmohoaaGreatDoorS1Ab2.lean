/-
  Ab2: the run and laws.
-/
import Derived.Test.YtiahilhlpmohoaaGreatDoorS1Ab1
set_option linter.unusedVariables false
set_option linter.unusedSimpArgs false
set_option linter.unusedSectionVars false
noncomputable section
namespace Go.Ab
open Go Go.RowKit
structure Blk where
 c:J
 ty:TypeId
 own:Bool
abbrev Ya:=List (Option Blk)
abbrev Lk:=Nat→Option Blk
def Lk.upd(m:Lk)(k:Nat)(b:Blk):Lk:=fun j=>match Nat.beq j k with | true=>some b | false=>m j
theorem Lk.upd_same(m:Lk)(k:Nat)(b:Blk):m.upd k b k=some b:=by
 simp[Lk.upd]
theorem Lk.upd_other(m:Lk){k j:Nat}(b:Blk)(h:j≠k):m.upd k b j=m j:=by
 have:Nat.beq j k=false:=by
  cases hb:Nat.beq j k
  ·rfl
  ·exact absurd (jah hb) h
 simp[Lk.upd,this]
inductive Res where
 | val (v:Value)
 | ptr (b:Blk)
 | slc (b:Blk) (len:Nat)
 | upd (k:Nat) (b:Blk)
abbrev Spec:=J→Ya→Option (Bool×Value)
inductive Entry where
 | pure (s:Spec)
 | gen (h:J→Lk→Nat→(Value→Lk→Nat→Prop)→Prop)
abbrev Env:=Nat→Option Entry
def optr(k off sp:Nat):Value:= .pointer (some ⟨k,off,some sp⟩)
def oslc(k off len cap:Nat):Value:= .slice (some ⟨k,off,some 1⟩) len cap
def own?:Value→Option (Nat×Nat×Nat)
 | .pointer (some a)=>match a.spot with | some s=>some (a.block,a.off,s) | none=>none
 | _=>none
def jbg(k:IntKind)(c:J)(i:Nat):Bool:=match c[i]? with | some (.int k' _)=>k==k' | _=>false
def jar(c:J)(i:Nat):Int:=match c[i]? with | some (.int _ n)=>n | _=>0
def jeh(c:J)(i:Nat):Bool:=match c[i]? with | some (.bool _)=>true | _=>false
def boolAt(c:J)(i:Nat):Bool:=match c[i]? with | some (.bool b)=>b | _=>false
def jg4(c:J)(i:Nat):Bool:=match c[i]? with | some (.string _)=>true | _=>false
def jhl(c:J)(i:Nat):Y:=match c[i]? with | some (.string s)=>s | _=>ByteArray.empty
def jh0(c:J)(i:Nat):Value→Option (Bool×Value)
 | .int k _=>some (jbg k c i,.int k (jar c i))
 | .bool _=>some (jeh c i,.bool (boolAt c i))
 | .string _=>some (jg4 c i,.string (jhl c i))
 | _=>none
def jhe(c:J):Nat→J→Option (Bool×J)
 | _,[]=>some (true,[])
 | i,z::r=>match jh0 c i z,jhe c (i+1) r with
  | some (b,v),some (b',vs)=>some (b&&b',v::vs)
  | _,_=>none
theorem natO_ex:∃f:Nat→Int,f=Int.ofNat:=⟨_,rfl⟩
noncomputable def natO : Nat → Int := Classical.choose natO_ex
theorem jby(n:Nat):natO n=(n:Int):=by rw[natO,Kn natO_ex];rfl
def setL(c:J):Nat→J→J
 | _,[]=>c
 | i,v::r=>setL (c.set i v) (i+1) r
def jai(s:Y)(i:Nat):Int:=(((s.data.toList)[i]?).map fun b=>(b.toNat:Int)).getD 0
def itTy:TypeId:=4611686018427387904
def noIt:Option Blk→Option Blk
 | some b=>match b.own&&Nat.beq b.ty itTy with
  | true=>none
  | false=>some b
 | none=>none
def blkOf(lk:Lk):Value→Option Blk
 | .pointer (some a)=>match a.spot with | some _=>noIt (lk a.block) | none=>none
 | .slice (some a) _ _=>match a.spot with | some _=>noIt (lk a.block) | none=>none
 | _=>none
theorem jib{o:Option Blk}{b:Blk}(h:noIt o=some b):o=some b∧(b.own&&Nat.beq b.ty itTy)=false:=by
 unfold noIt at h;split at h
 ·split at h
  ·cases h
  ·rename_i hf;cases h;exact⟨rfl,hf⟩
 ·cases h
class Tabs where
 row:Nat→Option J
 plain:∀b r,row b=some r→ja1 r=true
 ownB:Bool:=false
 conc:Bool:=false
 wide:Bool:=false
theorem tbs[Tabs]:∃b,b=Tabs.ownB:=⟨_,rfl⟩
variable [Tabs]
def jlx:Value→Option (Nat×Nat)
 | .pointer (some ⟨b,off,none⟩)=>some (b,off)
 | _=>none
theorem tabPtr_some{v:Value}{b off:Nat}(h:jlx v=some (b,off)):v= .pointer (some ⟨b,off,none⟩):=by
 have _:=tbs;unfold jlx at h;split at h
 ·cases h;rfl
 ·cases h
def jf9:Value→Bool
 | .agg _ | .tuple _=>false
 | _=>true
def jbr(P:Program)(o:Oper)(e:Operand→Value):Option (Bool×Res):=
 match o.op.operands.toList.all (fun x=>plain (e x))with
 | true=>match prun P (execOp e o)with
  | some (.value v)=>match plain v with | true=>some (true,.val v) | false=>none
  | _=>none
 | false=>none
def jig:TypeDesc→Bool
 | .struct _ | .array _ _=>true
 | _=>false
def jid(P:Program)(t:TypeId)(b:Blk)(off sp:Nat):Option (Bool×Res):=
 match b.own&&Nat.beq b.ty itTy with
 | true=>none
 | false=>match P.underlying t,P.info? t with
 | some d,some i=>match jig d,sp with
  | true,0=>match Nat.ble (off+i.size) b.c.length with
   | true=>some (true,.val (.agg ⟨(b.c.drop off).take i.size⟩))
   | false=>none
  | true,_=>match i.zero with
   | some z=>match Nat.beq z.cells.toList.length i.size,jhe b.c off z.cells.toList with
    | true,some (c,l)=>some (c,.val (.agg ⟨l⟩))
    | _,_=>none
   | none=>none
  | false,0=>match b.c[off]? with
   | some v=>some (true,.val v)
   | none=>none
  | false,_=>match i.zero with
   | some z=>match jh0 b.c off z with
    | some (c,v)=>some (c,.val v)
    | none=>match b.c[off]? with
     | some v=>some (true,.val v)
     | none=>none
   | none=>none
 | _,_=>none
def fnT(P:Program)(t:TypeId):Bool:=match P.info? t with
 | some i=>match i.zero with
  | some .nilFunc=>true
  | _=>false
 | none=>false
def isStr(P:Program)(t:TypeId):Bool:=match P.underlying t with
 | some (.struct _)=>true
 | _=>false
def fnX(P:Program)(t:TypeId)(b:Blk):Bool:=match fnT P t with
 | false=>false
 | true=> !isStr P b.ty
def jjh(P:Program)(t:TypeId)(v:Value):Option (Bool×Res):=
 match jlx v with
 | some (b,off)=>match Tabs.row b with
  | some r=>jid P t ⟨r,0,false⟩ off 1
  | none=>none
 | none=>none
def jh3(P:Program)(t:TypeId)(k:Nat)(b:Blk)(off:Nat)(v:Value):Option (Bool×Res):=
 match P.info? t,b.own&& !Nat.beq b.ty itTy with
 | some i,true=>match Nat.beq v.cells.toList.length i.size&&v.cells.toList.all jf9 with
  | true=>some (Nat.ble (off+i.size) b.c.length,.upd k {b with c:=setL b.c off v.cells.toList})
  | false=>none
 | _,_=>none
def jht(P:Program)(s:TypeId)(f:Nat):Option Nat:=
 match P.underlying s with
 | some (.struct fs)=>match fs[f]? with
  | some fd=>match P.info? fd.type with
   | some i=>match Nat.beq i.size 0 with | true=>none | false=>some fd.offset
   | none=>none
  | none=>none
 | _=>none
def eqF(P:Program)(l r:J):List Field→Option Bool
 | []=>some true
 | f :: fs => match f.name == "_" with
  | true=>eqF P l r fs
  | false=>match P.underlying f.type,l[f.offset]?,r[f.offset]? with
   | some (.int _),some (.int k a),some (.int k' b)=>match k==k',eqF P l r fs with
    | true,some q=>some (a==b&&q)
    | _,_=>none
   | some .bool,some (.bool a),some (.bool b)=>match eqF P l r fs with
    | some q=>some (a==b&&q)
    | none=>none
   | some .string,some (.string a),some (.string b)=>match eqF P l r fs with
    | some q=>some (a.toList==b.toList&&q)
    | none=>none
   | _,_,_=>none
def jnv(P:Program)(t:TypeId)(l r:J):Option Bool:=
 match P.underlying t,P.stoodInHeld t,P.eqGuardType P.depth t with
 | some (.struct fs),false,false=>eqF P l r fs.toList
 | _,_,_=>none
def jbf(n:Nat):Bool:=Nat.ble n 9223372036854775807
theorem strFit_spec{n:Nat}(h:jbf n=true):(n:Int)≤IntKind.i64.max:=by
 have _:=tbs;have:=jag h;have e:IntKind.i64.max=9223372036854775807:=by rfl
 rw[e];omega
def binR(P:Program)(o:Oper)(e:Operand→Value)(op:BinOp)(t:TypeId)(x y:Operand):Option (Bool×Res):=
 match op,e x,e y with
 | .quo,.int k a,.int k' b=>match (k==k')with | true=>some (decide (b≠0),.val (.int k (k.wrap (a.tdiv b)))) | false=>none
 | .rem,.int k a,.int k' b=>match (k==k')with | true=>some (decide (b≠0),.val (.int k (a.tmod b))) | false=>none
 | .shl,.int k a,.int _ b=>some (decide (0≤b),.val (.int k (k.wrap (a*2^min b.toNat k.bits))))
 | .shr,.int k a,.int _ b=>some (decide (0≤b),.val (.int k (a.fdiv (2^min b.toNat k.bits))))
 | .add,.string a,.string b=>some (jbf (a.size+b.size),.val (.string (a++b)))
 | .eql,.agg ⟨l⟩,.agg ⟨r⟩=>match jnv P t l r with | some b=>some (true,.val (.bool b)) | none=>none
 | .neq,.agg ⟨l⟩,.agg ⟨r⟩=>match jnv P t l r with | some b=>some (true,.val (.bool (!b))) | none=>none
 | .eql,.slice (some a) _ _,.slice none _ _=>match a.spot,isSl P t with | some _,true=>some (true,.val (.bool false)) | _,_=>jbr P o e
 | .eql,.pointer (some a),.pointer none=>match a.spot,isPt P t with | some _,true=>some (true,.val (.bool false)) | _,_=>jbr P o e
 | .neq,.slice (some a) _ _,.slice none _ _=>match a.spot,isSl P t with | some _,true=>some (true,.val (.bool true)) | _,_=>jbr P o e
 | .neq,.pointer (some a),.pointer none=>match a.spot,isPt P t with | some _,true=>some (true,.val (.bool true)) | _,_=>jbr P o e
 | .eql,.func _ _ _,.nilFunc=>match isFn P t with | true=>some (true,.val (.bool false)) | false=>jbr P o e
 | .neq,.func _ _ _,.nilFunc=>match isFn P t with | true=>some (true,.val (.bool true)) | false=>jbr P o e
 | _,_,_=>jbr P o e
def imax(x y:Int):Int:=if y>x then y else x
def imin(x y:Int):Int:=if y<x then y else x
def jlo(P:Program)(G:Env)(o:Oper)(e:Operand→Value)(lk:Lk)(c:Call):Option (Bool×Res):=
 match c.callee with
 | .value x=>match e x with
  | .func (.func f) ⟨first⟩ ⟨captured⟩=>match G f with
   | some (.pure s)=>match s (first++c.args.toList.map e++captured) ((first++c.args.toList.map e++captured).map (blkOf lk))with
    | some (b,v)=>match plain v with | true=>some (b,.val v) | false=>none
    | none=>none
   | _=>none
  | _=>none
 | .builtin .len=>match c.args.toList,c.argTypes.toList with
  | [x],[t]=>match e x with
   | .slice _ n _=>match P.underlying t with
    | some (.slice _)=>match Tabs.conc with
     | true=>some (true,.val (.int .i64 (Int.ofNat n)))
     | false=>some (true,.val (.int .i64 (natO n)))
    | _=>none
   | _=>jbr P o e
  | _,_=>none
 | .builtin .max=>match c.args.toList with
  | [x,y]=>match e x,e y with
   | .int k a,.int _ b=>some (true,.val (.int k (imax a b)))
   | _,_=>none
  | _=>jbr P o e
 | .builtin .min=>match c.args.toList with
  | [x,y]=>match e x,e y with
   | .int k a,.int _ b=>some (true,.val (.int k (imin a b)))
   | _,_=>none
  | _=>jbr P o e
 | .builtin .append=>none
 | .builtin _=>jbr P o e
 | .invoke x name=>match e x with
  | .iface t v=>match plain v with
   | true=>match prun P (method (P.types.size+Made.depth) t v name)with
    | some (f,rv)=>match plain rv with
     | true=>match G f with
      | some (.pure s)=>match s (rv::c.args.toList.map e) ((rv::c.args.toList.map e).map (blkOf lk))with
       | some (b,v)=>match plain v with | true=>some (b,.val v) | false=>none
       | none=>none
      | _=>none
     | false=>none
    | none=>none
   | false=>none
  | _=>none
def jd2(P:Program)(e:Operand→Value)(t:TypeId)(x ix:Operand):Option (Bool×Res):=
 match P.underlying t,e x,e ix with
 | some (.array len el),v,.int _ i=>match own? v,P.info? el with
  | some (k,off,_),some ti=>some (decide (0≤i∧i<len),.val (optr k (off+i.toNat*ti.size) 1))
  | none,some ti=>match jlx v with
   | some (b,off)=>some (decide (0≤i∧i<len),.val (.pointer (some ⟨b,off+i.toNat*ti.size,none⟩)))
   | none=>none
  | _,_=>none
 | some (.slice el),.slice (some a) len _,.int _ i=>match a.spot,P.info? el with
  | some _,some ti=>some (decide (0≤i∧i<len),.val (optr a.block (a.off+i.toNat*ti.size) 1))
  | _,_=>none
 | _,_,_=>none
def ji8(P:Program)(e:Operand→Value)(t:TypeId)(x ix:Operand):Option (Bool×Res):=
 match P.underlying t,e x,e ix with
 | some (.array len el),.agg ⟨l⟩,.int _ i=>match P.underlying el,P.info? el with
  | some d,some ti=>match jig d,Nat.beq ti.size 1,ti.zero with
   | false,true,some z=>match jh0 l i.toNat z with
    | some (c,v)=>some (decide (0≤i∧i<len) &&c,.val v)
    | none=>none
   | _,_,_=>none
  | _,_=>none
 | some .string,.string s,.int _ i=>some (decide (0≤i∧i<s.size),.val (.int .u8 (jai s i.toNat)))
 | _,_,_=>none
def bsZero(i:TypeInfo)(n:Nat):Option (Array Value):=
 match Nat.beq n 0 with
 | true=>some #[]
 | false=>match i.zero with | some z=>some z.cells | none=>none
def jdl(P:Program)(e:Operand→Value)(t:TypeId)(len:Nat)(parts:Array (Nat×Operand)):Option (Bool×Res):=
 match P.underlying t with
 | some (.slice el)=>match P.info? el with
  | some i=>match Nat.ble (len*i.size) 16777216&& !Nat.ble itTy el with
   | true=>
    match bsZero i (len*i.size)with
    | some zero=>match ja1 ((Array.range (len*i.size)).map fun q=>zero[q%zero.size]!).toList with
     | true=>match Instr.fill (fun q=>some (q*i.size,i.size)) ((Array.range (len*i.size)).map fun q=>zero[q%zero.size]!) (parts.map fun(q,x)=>(q,e x)).toList with
      | some cells=>some (true,.slc ⟨cells.toList,el,true⟩ len)
      | none=>none
     | false=>none
    | none=>none
   | false=>none
  | none=>none
 | _=>none
theorem fill_foldl(f:Value→Value)(off:Nat):∀(l:List (Value×Nat))(cells:Array Value),
  (l.map fun p=>(f p.1,p.2)).foldl (fun(cs:Array Value) p=>cs.setIfInBounds (off+p.2) p.1) (cells.map f)=(l.foldl (fun(cs:Array Value) p=>cs.setIfInBounds (off+p.2) p.1) cells).map f
 | [],_=>have _:=tbs;rfl
 | p::r,cells=>by
  simp only[List.map_cons,List.foldl_cons];rw[←fill_foldl f off r];congr 1;simp[Array.map_setIfInBounds]
theorem jj0(f:Value→Value)(hf:∀v,(f v).cells=v.cells.map f)(place:Nat→Option (Nat×Nat)):∀(parts:List (Nat×Value))(cells:Array Value),
  Instr.fill place (cells.map f) (parts.map fun p=>(p.1,f p.2))=(Instr.fill place cells parts).map (·.map f)
 | [],_=>rfl
 | (i,v)::r,cells=>by
  simp only[List.map_cons,Instr.fill];cases place i with
  | none=>rfl
  | some q=>
   obtain⟨off,size⟩:=q;simp only[hf,Array.size_map];split
   ·rfl
   ·rw[←jj0 f hf place r];congr 1;rw[←Array.foldl_toList,←Array.foldl_toList,←fill_foldl];congr 1;simp[List.zipIdx_map]
theorem fill_mem(place:Nat→Option (Nat×Nat)):∀(parts:List (Nat×Value))(cells c:Array Value),Instr.fill place cells parts=some c→
  ∀v∈c.toList,v∈cells.toList∨ ∃p∈parts,v∈p.2.cells.toList
 | [],cells,c,h,v,hv=>by
  have _:=tbs;simp only[Instr.fill,Kb]at h;subst h;exact .inl hv
 | (i,u)::r,cells,c,h,v,hv=>by
  simp only[Instr.fill]at h;split at h
  ·cases h
  ·rename_i off size _;split at h
   ·cases h
   ·rcases fill_mem place r _ c h v hv with hc | ⟨p,hp,hv⟩
    ·have key:∀(l:List (Value×Nat))(cs:Array Value),v∈(l.foldl (fun(cs:Array Value) p=>cs.setIfInBounds (off+p.2) p.1) cs).toList→v∈cs.toList∨ ∃p∈l,v=p.1:=by
      intro l
      induction l with
      | nil=>exact fun cs h=> .inl h
      | cons p l ih=>
       intro cs h;simp only[List.foldl_cons]at h;rcases ih _ h with h | ⟨q,hq,e⟩
       ·rw[Array.toList_setIfInBounds]at h;rcases List.mem_or_eq_of_mem_set h with h | h
        ·exact .inl h
        ·exact .inr ⟨p,by simp,h⟩
       ·exact .inr ⟨q,by simp[hq],e⟩
     rw[←Array.foldl_toList]at hc;rcases key _ _ hc with hc | ⟨p,hp,e⟩
     ·exact .inl hc
     ·refine .inr ⟨(i,u),by simp,?_⟩;subst e;rw[Array.toList_zipIdx]at hp;obtain⟨_,h⟩:=List.mem_zipIdx_iff_getElem?.1 hp |> fun h=>(⟨p.2,h⟩:∃k,_)
      exact List.mem_of_getElem? h
    ·exact .inr ⟨p,by simp[hp],hv⟩
def bndV(e:Operand→Value)(y:Option Operand)(d:Nat):Option (Int×Nat):=match y with
 | none=>some (d,d)
 | some y=>match e y with
  | .int _ n=>some (n,n.toNat)
  | _=>none
def jkh(P:Program)(o:Oper)(e:Operand→Value)(t:TypeId)(x:Operand)(lo hi mx:Option Operand):Option (Bool×Res):=
 match P.underlying t,e x,mx with
 | some (.slice el),.slice (some a) len cap,none=>match a.spot,P.info? el,bndV e lo 0,bndV e hi len with
  | some s,some ti,some (l,ln),some (h,hn)=>
   some (decide (0≤l∧l≤h∧h≤cap),.val (.slice (some ⟨a.block,(bif Nat.beq cap ln then a.off else a.off+ln*ti.size),some s⟩) (hn-ln) (cap-ln)))
  | _,_,_,_=>jbr P o e
 | some (.slice el),.slice none 0 0,none=>match P.info? el,bndV e lo 0,bndV e hi 0 with
  | some _,some (l,_),some (h,_)=>some (decide (0≤l∧l≤h∧h≤((0:Nat):Int)),.val (.slice none 0 0))
  | _,_,_=>jbr P o e
 | some .string,.string s,none=>match bndV e lo 0,bndV e hi s.size with
  | some (l,ln),some (h,hn)=>some (decide (0≤l∧l≤h∧h≤s.size),.val (.string (s.extract ln hn)))
  | _,_=>none
 | _,_,_=>jbr P o e
def jdt:J→Yc
 | []=> []
 | .int .u8 n::r=>UInt8.ofNat n.toNat::jdt r
 | _::r=>0::jdt r
def jbz:J→Bool
 | []=>true
 | .int .u8 _::r=>jbz r
 | _=>false
def ja5(c:J)(off n:Nat):Y:=⟨(jdt ((c.drop off).take n)).toArray⟩
def ja8(c:J)(off n:Nat):Bool:=jbz ((c.drop off).take n) &&Nat.ble (off+n) c.length
def jnf(P:Program)(o:Oper)(e:Operand→Value)(lk:Lk)(t t':TypeId)(x:Operand):Option (Bool×Res):=
 match e x with
 | .slice (some a) n _=>match a.spot,P.underlying t,P.underlying t' with
  | some _,some (.slice el),some .string=>match P.underlying el,lk a.block with
   | some (.int .u8),some b=>match b.own&&Nat.beq b.ty itTy with
    | false=>some (ja8 b.c a.off n,.val (.string (ja5 b.c a.off n)))
    | true=>none
   | _,_=>none
  | _,_,_=>jbr P o e
 | _=>jbr P o e
def jfi(kd:IntKind)(i:Int):J→Option (Option Value)
 | []=>some none
 | .int kd' j::v::r=>match kd==kd' with
  | true=>match decide (i=j)with
   | true=>some (some v)
   | false=>jfi kd i r
  | false=>none
 | _=>none
def jk8(P:Program)(e:Operand→Value)(lk:Lk)(t:TypeId)(x ix:Operand):Option (Bool×Res):=
 match P.underlying t,e x,e ix with
 | some (.map kt et),.chan (some k),.int kd i=>match P.underlying kt,lk k,P.info? et with
  | some (.int _),some b,some ti=>match b.own&&Nat.beq b.ty itTy,b.c,ti.zero with
   | true,.bool _::r,some z=>match jfi kd i r,plain z with
    | some (some v),_=>some (true,.val v)
    | some none,true=>some (true,.val z)
    | _,_=>none
   | _,_,_=>none
  | _,_,_=>none
 | _,_,_=>none
def aop(P:Program)(G:Env)(o:Oper)(e:Operand→Value)(lk:Lk):Option (Bool×Res):=
 match o.op with
 | .move x | .assign x=>some (true,.val (e x))
 | .pick c a b=>match e c with
  | .bool true=>some (true,.val (e a))
  | .bool false=>some (true,.val (e b))
  | _=>none
 | .alloc t=>match P.info? t with
  | some i=>match i.zero with
   | some z=>match plain z&& !Nat.ble itTy t with | true=>some (true,.ptr ⟨z.cells.toList,t,true⟩) | false=>none
   | none=>none
  | none=>none
 | .box t x=>match Nat.ble itTy t with | true=>none | false=>some (true,.ptr ⟨(e x).cells.toList,t,true⟩)
 | .load t a=>match own? (e a)with
  | some (k,off,sp)=>match lk k with
   | some b=>match fnX P t b with
    | true=>none
    | false=>jid P t b off sp
   | none=>none
  | none=>jjh P t (e a)
 | .store t a x=>match own? (e a)with
  | some (k,off,_)=>match lk k with
   | some b=>jh3 P t k b off (e x)
   | none=>none
  | none=>none
 | .fieldAddr s x f=>match own? (e x)with
  | some (k,off,sp)=>match jht P s f with
   | some fo=>some (true,.val (optr k (off+fo) sp))
   | none=>none
  | none=>none
 | .extract x i=>match e x with
  | .tuple vs=>match vs.toList[i]? with
   | some v=>some (true,.val v)
   | none=>none
  | _=>none
 | .binOp op t x y _=>binR P o e op t x y
 | .call c=>jlo P G o e lk c
 | .indexAddr t x ix=>jd2 P e t x ix
 | .index t x ix=>ji8 P e t x ix
 | .buildSlice t len parts=>jdl P e t len parts
 | .makeFunc fn first captured=>some (true,.val (.func fn ⟨first.toList.map e⟩ ⟨captured.toList.map e⟩))
 | .range t x=>match P.underlying t,e x with
  | some .string,.string s=>some (true,.ptr ⟨[.string s,.int .i64 0],itTy,true⟩)
  | _,_=>none
 | .slice t x lo hi mx=>jkh P o e t x lo hi mx
 | .convert t t' x=>jnf P o e lk t t' x
 | .nilCheck x=>match own? (e x)with
  | some _=>some (true,.val (e x))
  | none=>jbr P o e
 | .makeInterface t x=>match P.underlying t with
  | some (.interface _)=>none
  | some _=>some (true,.val (.iface t (e x)))
  | none=>none
 | .unOp _ _ _ | .build _ _ | .field _ _ _ | .typeAssert _ _ _ _=>jbr P o e
 | .lookup t x ix false=>jk8 P e lk t x ix
 | _=>none
def jc5(id:Nat)(r:Res)(lk:Lk):Lk:=
 match r with
 | .val _=>lk
 | .ptr b | .slc b _=>lk.upd id b
 | .upd k b=>lk.upd k b
def resV(id:Nat):Res→Value
 | .val v=>v
 | .ptr _=>optr id 0 0
 | .slc _ n=>oslc id 0 n n
 | .upd _ _=>undef
def elTy(t:TypeId):TypeId:=match Nat.ble itTy t with | true=>t-itTy-1 | false=>t
def frOf(t:TypeId)(n:Nat):Nat×Nat:=match Nat.ble itTy t with | true=>(n,n+1) | false=>(0,0)
theorem frOf_lt(t:TypeId)(n i:Nat)(h:i<n):¬((frOf t n).1≤i∧i<(frOf t n).2):=by
 have _:=tbs;unfold frOf;split<;>simp only<;>omega
def jdy(ι:Nm):J→Nat→List MapEntry
 | k::v::r,n=>{key:=ren ι k,val:=ren ι v,born:=n}::jdy ι r (n+1)
 | _,_=> []
def jla(ι:Nm)(c:J):Obj:=match jeh c 0 with
 | true=> .map ⟨jdy ι c.tail 0⟩ (c.tail.length/2)
 | false=> .stringIter (jhl c 0) (jar c 1).toNat
omit [Tabs] in
theorem mapEs_congr{ι ι':Nm}:∀(l:J)(n:Nat),(∀k∈idsL l,ι k=ι' k)→jdy ι l n=jdy ι' l n
 | [],_,_ | [_],_,_=>rfl
 | k::v::r,n,h=>by
  simp only[jdy];rw[jc0 (v:=k) fun j hj=>h j (by simp[idsL,hj]),jc0 (v:=v) fun j hj=>h j (by simp[idsL,hj]),mapEs_congr r (n+1) fun j hj=>h j (by simp[idsL,hj])]
theorem itObj_congr{ι ι':Nm}{l:J}(h:∀k∈idsL l,ι k=ι' k):jla ι l=jla ι' l:=by
 unfold jla;split
 ·rw[mapEs_congr _ 0 fun k hk=>h k (by cases l with | nil=>cases hk | cons v r=>simp only[idsL,Kq];exact .inr hk)]
 ·rfl
def jcu(ι:Nm)(b:Blk):Obj:=match Nat.beq b.ty itTy with
 | true=>jla ι b.c
 | false=> .cells ⟨b.c.map (ren ι)⟩ (elTy b.ty) (frOf b.ty b.c.length)
theorem it_ble{t:TypeId}(h:Nat.ble itTy t=false):Nat.beq t itTy=false:=by
 have _:=tbs;cases hb:Nat.beq t itTy with
 | false=>rfl
 | true=>
  have:=jah hb;subst this;rw[Nat.ble_self_eq_true]at h;cases h
theorem objOf_any{ι:Nm}{b:Blk}(h:Nat.beq b.ty itTy=false):jcu ι b= .cells ⟨b.c.map (ren ι)⟩ (elTy b.ty) (frOf b.ty b.c.length):=by have _:=tbs;simp only[jcu,h]
theorem objOf_cells{ι:Nm}{b:Blk}(h:Nat.ble itTy b.ty=false):jcu ι b= .cells ⟨b.c.map (ren ι)⟩ b.ty (0,0):=by have _:=tbs;rw[objOf_any (it_ble h),elTy,frOf,h]
def TabsIn(N:Nat)(w:World):Prop:=∀b r,Tabs.row b=some r→b<N∧ ∃ty fr,w.heap[b]?=some (.cells ⟨r⟩ ty fr)
theorem TabsIn.cell{N:Nat}{w:World}(h:TabsIn N w){b:Nat}{r:J}(hr:Tabs.row b=some r){i:Nat}{v:Value}(hv:r[i]?=some v):w.cell? ⟨b,i,none⟩=some v:=by
 obtain⟨_,ty,fr,h2⟩:=h b r hr;rw[World.cell?,h2];simpa using hv
structure RelM (N:Nat)(w0:World)(m:Lk)(ι:Nm)(w:World):Prop where
 below:Below N w0 w
 base:N≤w0.heap.size∧TabsIn N w0
 blk:∀k b,m k=some b→b.own=true→(ι k).2=0∧N≤(ι k).1∧w.heap[(ι k).1]?=some (jcu ι b)
 view:∀k b,m k=some b→b.own=false→(ι k).1<w.heap.size∧ ∀i v,b.c[i]?=some v→w.cell? ⟨(ι k).1,(ι k).2+i,none⟩=some (ren ι v)
 inj:∀k k' b b',m k=some b→m k'=some b'→b.own=true→k≠k'→(ι k).1≠(ι k').1
theorem RelM.size{N:Nat}{w0:World}{m:Lk}{ι:Nm}{w:World}(h:RelM N w0 m ι w):N≤w.heap.size:=KG h.base.1 h.below.size
theorem RelM.tabs{N:Nat}{w0:World}{m:Lk}{ι:Nm}{w:World}(h:RelM N w0 m ι w):TabsIn w.heap.size w:=fun b r hr=>by
 obtain⟨h1,ty,fr,h2⟩:=h.base.2 b r hr;exact⟨Nat.lt_of_lt_of_le h1 h.size,ty,fr,by rw[h.below.block b h1];exact h2⟩
theorem RelM.grow{N:Nat}{w0:World}{m:Lk}{ι:Nm}{w w':World}(h:RelM N w0 m ι w)(hb:Below w.heap.size w w'):RelM N w0 m ι w' where
 below:=h.below.trans (hb.mono h.size)
 base:=h.base
 blk:=fun k b hk ho=>by
  obtain⟨h1,h2,h3⟩:=h.blk k b hk ho;refine⟨h1,h2,?_⟩;rw[hb.block _ ?_]
  ·exact h3
  ·rcases Nat.lt_or_ge (ι k).1 w.heap.size with hlt | hge
   ·exact hlt
   ·simp[Array.getElem?_eq_none hge]at h3
 view:=fun k b hk ho=>by
  obtain⟨h1,h2⟩:=h.view k b hk ho;refine⟨Nat.lt_of_lt_of_le h1 hb.size,fun i v hv=> ?_⟩;rw[hb.cell h1];exact h2 i v hv
 inj:=h.inj
theorem RelM.lt{N:Nat}{w0:World}{m:Lk}{ι:Nm}{w:World}(h:RelM N w0 m ι w){k:Nat}{b:Blk}(hk:m k=some b)(ho:b.own=true):(ι k).1<w.heap.size:=by
 obtain⟨_,_,h3⟩:=h.blk k b hk ho;rcases Nat.lt_or_ge (ι k).1 w.heap.size with hlt | hge
 ·exact hlt
 ·simp[Array.getElem?_eq_none hge]at h3
def Nm.upd(ι:Nm)(k:Nat)(p:Nat×Nat):Nm:=fun j=>if j=k then p else ι j
theorem renMap_congr{ι ι':Nm}{l:J}(h:∀k∈idsL l,ι k=ι' k):l.map (ren ι)=l.map (ren ι'):=by
 have _:=tbs;rw[←jb1,←jb1];exact jd1 h
theorem jd7{ι ι':Nm}{b:Blk}(h:∀k∈idsL b.c,ι k=ι' k):jcu ι b=jcu ι' b:=by
 unfold jcu;split
 ·rw[itObj_congr h]
 ·rw[renMap_congr h]
theorem RelM.any_lt{N:Nat}{w0:World}{m:Lk}{ι:Nm}{w:World}(h:RelM N w0 m ι w){k:Nat}{b:Blk}(hk:m k=some b):(ι k).1<w.heap.size:=by
 cases ho:b.own with
 | true=>exact h.lt hk ho
 | false=>exact(h.view k b hk ho).1
theorem RelM.new{N:Nat}{w0:World}{m:Lk}{ι:Nm}{w:World}(h:RelM N w0 m ι w){id:Nat}(hid:∀k b,m k=some b→k≠id∧id∉idsL b.c)
  {b:Blk} (ho:b.own=true) (hb:id∉idsL b.c):
  RelM N w0 (m.upd id b) (ι.upd id (w.heap.size,0)) (w.alloc (jcu ι b)):=by
 have hold:∀k,k≠id→ι.upd id (w.heap.size,0) k=ι k:=fun k hk=>by simp[Nm.upd,hk]
 have hsame:ι.upd id (w.heap.size,0) id=(w.heap.size,0):=by simp[Nm.upd]
 have hren:∀l:Blk,id∉idsL l.c→jcu (ι.upd id (w.heap.size,0)) l=jcu ι l:=fun l hl=>
  jd7 fun k hk=>hold k fun e=>hl (e▸hk)
 have hnew:(w.alloc (jcu ι b)).heap[w.heap.size]?=some (jcu ι b):=by
  show(w.heap.push _)[w.heap.size]?=_;simp
 have hbel:Below w.heap.size w (w.alloc (jcu ι b)):=(Below.refl _ _).alloc (Kv _) _;have g:=h.grow hbel;refine⟨g.below,g.base,fun k b' hk ho'=> ?_,fun k b' hk ho'=> ?_,fun k k' b1 b2 hk hk' ho1 hne=> ?_⟩
 ·by_cases e:k=id
  ·subst e;rw[Lk.upd_same]at hk;cases hk;rw[hsame];exact⟨rfl,h.size,by rw[hren _ hb];exact hnew⟩
  ·rw[Lk.upd_other _ _ e]at hk;rw[hold k e,hren _ (hid k b' hk).2];exact g.blk k b' hk ho'
 ·by_cases e:k=id
  ·subst e;rw[Lk.upd_same]at hk;cases hk;rw[ho]at ho';cases ho'
  ·rw[Lk.upd_other _ _ e]at hk;rw[hold k e];obtain⟨g1,g2⟩:=g.view k b' hk ho';refine⟨g1,fun i v hv=> ?_⟩;have:ren (ι.upd id (w.heap.size,0)) v=ren ι v:=jc0 fun j hj=>hold j fun e'=>(hid k b' hk).2 (e'▸jay.2 ⟨v,List.mem_of_getElem? hv,hj⟩)
   rw[this];exact g2 i v hv
 ·by_cases e:k=id
  ·subst e;rw[Lk.upd_other _ _ (Ne.symm hne)]at hk';rw[hsame,hold k' (Ne.symm hne)];have:=h.any_lt hk';simp only;omega
  ·rw[Lk.upd_other _ _ e]at hk;by_cases e':k'=id
   ·subst e';rw[hsame,hold k e];have:=h.any_lt hk;simp only;omega
   ·rw[Lk.upd_other _ _ e']at hk';rw[hold k e,hold k' e'];exact h.inj k k' b1 b2 hk hk' ho1 hne
theorem RelM.put{N:Nat}{w0:World}{m:Lk}{ι:Nm}{w w':World}(h:RelM N w0 m ι w){k:Nat}{b b':Blk}(hk:m k=some b)(ho:b.own=true)(ho':b'.own=true)
  (hsame:w'.os=w.os∧w'.tape=w.tape∧w'.output=w.output∧w'.heap.size=w.heap.size) (hoth:∀j,j≠(ι k).1→w'.heap[j]?=w.heap[j]?) (hnew:w'.heap[(ι k).1]?=some (jcu ι b')):
  RelM N w0 (m.upd k b') ι w':=by
 obtain⟨h1,h2,h3⟩:=h.blk k b hk ho;obtain⟨s1,s2,s3,s4⟩:=hsame;refine⟨h.below.trans ⟨s1,s2,s3,by omega,fun j hj=>hoth j (by omega)⟩,h.base,fun j bj hj hoj=> ?_,fun j bj hj hoj=> ?_,fun j j' b1 b2 hj hj' ho1 hne=> ?_⟩
 ·by_cases e:j=k
  ·subst e;rw[Lk.upd_same]at hj;cases hj;exact⟨h1,h2,hnew⟩
  ·rw[Lk.upd_other _ _ e]at hj;obtain⟨g1,g2,g3⟩:=h.blk j bj hj hoj;exact⟨g1,g2,by rw[hoth _ (h.inj j k bj b hj hk hoj e)];exact g3⟩
 ·by_cases e:j=k
  ·subst e;rw[Lk.upd_same]at hj;cases hj;rw[ho']at hoj;cases hoj
  ·rw[Lk.upd_other _ _ e]at hj;obtain⟨g1,g2⟩:=h.view j bj hj hoj;refine⟨by omega,fun i v hv=> ?_⟩;rw[World.cell?_of_block (w:=w) (by exact hoth _ (by have:=h.inj k j b bj hk hj ho (Ne.symm e);simp only;omega))];exact g2 i v hv
 ·have hget:∀(i:Nat)(bi:Blk),m.upd k b' i=some bi→ ∃c,m i=some c∧(bi.own=true→c.own=true):=fun i bi hi=>by
   by_cases e:i=k
   ·subst e;exact⟨b,hk,fun _=>ho⟩
   ·rw[Lk.upd_other _ _ e]at hi;exact⟨bi,hi,id⟩
  obtain⟨c1,hc1,hd1⟩:=hget j b1 hj;obtain⟨c2,hc2,_⟩:=hget j' b2 hj';exact h.inj j j' c1 c2 hc1 hc2 (hd1 ho1) hne
theorem RelM.write{N:Nat}{w0:World}{m:Lk}{ι:Nm}{w:World}(h:RelM N w0 m ι w){k:Nat}{b b':Blk}(hk:m k=some b)(ho:b.own=true)(ho':b'.own=true)(hty:b'.ty=b.ty)(hfr:frOf b.ty b'.c.length=frOf b.ty b.c.length)(hit:Nat.beq b.ty itTy=false):
  RelM N w0 (m.upd k b') ι (w.setRow (ι k).1 ⟨b'.c.map (ren ι)⟩):=by
 obtain⟨h1,h2,h3⟩:=h.blk k b hk ho;rw[objOf_any hit]at h3;have hrow:=setRow_heap w (ι k).1 ⟨b.c.map (ren ι)⟩ ⟨b'.c.map (ren ι)⟩ _ _ h3;exact h.put hk ho ho' ⟨rfl,rfl,rfl,by simp⟩ (fun j hj=>setRow_other w _ j _ hj) (by rw[objOf_any (by rw[hty];exact hit),hrow,hty,hfr])
theorem RelM.tabView{N:Nat}{w0:World}{m:Lk}{ι:Nm}{w:World}(h:RelM N w0 m ι w){b:Nat}{r:J}(hr:Tabs.row b=some r):
  RelM w.heap.size w (fun k=>match Nat.beq k 0 with | true=>some ⟨r,0,false⟩ | false=>none) (fun _=>(b,0)) w where
 below:=Below.refl _ _
 base:=⟨Kv _,h.tabs⟩
 blk:=fun k bb hk ho=>by
  split at hk
  ·cases hk;cases ho
  ·cases hk
 view:=fun k bb hk _=>by
  split at hk
  ·cases hk;refine⟨(h.tabs b r hr).1,fun i v hv=> ?_⟩;rw[ja9 _ (ja7.1 (Tabs.plain b r hr) v (List.mem_of_getElem? hv)),Nat.zero_add];exact h.tabs.cell hr hv
  ·cases hk
 inj:=fun k k' bb b' hk _ ho _=>by
  split at hk
  ·cases hk;cases ho
  ·cases hk
end Go.Ab
