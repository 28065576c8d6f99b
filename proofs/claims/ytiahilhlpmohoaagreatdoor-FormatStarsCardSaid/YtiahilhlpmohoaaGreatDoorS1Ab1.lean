/-
  Ab1: the run and laws.
-/
import Derived.WalkKit
import Derived.Still
set_option linter.unusedVariables false
set_option linter.unusedSimpArgs false
set_option linter.unusedSectionVars false
abbrev Kb:=@Option.some.injEq
abbrev Kc:=@if_neg
abbrev Kd:=@if_pos
abbrev Ke:=@Prod.mk.injEq
abbrev Kf:=@List.all_eq_true
abbrev Kg:=@List.mem_cons
abbrev Kh:=@List.mem_cons_self
abbrev Ki:=@Nat.lt_succ_of_lt
abbrev Kj:=@List.mem_cons_of_mem
abbrev Kk:=@List.length_append
abbrev Kl:=@Bool.eq_iff_iff
abbrev Km:=@List.length_replicate
abbrev Kn:=@Classical.choose_spec
abbrev Ko:=@Bool.or_eq_true
abbrev Kp:=@List.length_take
abbrev Kq:=@List.mem_append
abbrev Kr:=@Bool.or_eq_false_iff
abbrev Ks:=@Bool.not_eq_true'
abbrev Kt:=@List.dropWhile_sublist
abbrev Ku:=@List.map_congr_left
abbrev Kv:=@Nat.le_refl
abbrev Kw:=@List.take_of_length_le
abbrev Kx:=@List.getElem?_eq_getElem
abbrev Ky:=@List.eq_of_mem_replicate
abbrev Kz:=@List.append_assoc
abbrev K4:=@beq_iff_eq
abbrev K9:=@List.length_map
abbrev KA:=@List.append_nil
abbrev KB:=@List.mem_map
abbrev KC:=@List.take_append_drop
abbrev KD:=@List.drop_eq_nil_of_le
abbrev KE:=@List.length_drop
abbrev KF:=@List.length_eq_zero_iff
abbrev KG:=@Nat.le_trans
abbrev KH:=@Int.le_refl
abbrev KI:=@List.take_append_of_le_length
abbrev KJ:=@ByteArray.size_extract
abbrev KK:=@Bool.and_eq_false_iff
abbrev KL:=@List.length_reverse
abbrev KM:=@bne_iff_ne
abbrev KN:=@List.getElem?_drop
namespace Go.Ab
open Go Go.RowKit
abbrev Y:=ByteArray
abbrev J:=List Value
abbrev O:=List Int
abbrev Yc:=List UInt8
theorem jaa{p:Prop} [Decidable p](h:p):decide p=true:=decide_eq_true h
theorem jab{p:Prop} [Decidable p](h:decide p=true):p:=of_decide_eq_true h
theorem jac{p:Prop} [Decidable p](h:decide p=false):¬p:=of_decide_eq_false h
theorem jad{p:Prop} [Decidable p](h:¬p):decide p=false:=decide_eq_false h
theorem jae{p:Prop} [Decidable p]:(decide p=true)=p:=decide_eq_true_eq
theorem jaf(a b:Bool):((a&&b)=true)=(a=true∧b=true):=Bool.and_eq_true a b
theorem jag{n m:Nat}(h:Nat.ble n m=true:=by kernel_rfl):n≤m:=Nat.le_of_ble_eq_true h
theorem jah{n m:Nat}(h:Nat.beq n m=true):n=m:=Nat.eq_of_beq_eq_true h
abbrev Nm:=Nat→Nat×Nat
def ren1(m:Nm)(a:Addr):Addr:=
 match a.spot with
 | some _=>⟨(m a.block).1,(m a.block).2+a.off,none⟩
 | none=>a
mutual
def ren(m:Nm):Value→Value
 | .pointer (some a)=> .pointer (some (ren1 m a))
 | .slice (some a) l c=> .slice (some (ren1 m a)) l c
 | .agg ⟨l⟩=> .agg ⟨renL m l⟩
 | .tuple ⟨l⟩=> .tuple ⟨renL m l⟩
 | .iface t v=> .iface t (ren m v)
 | .func f ⟨a⟩ ⟨b⟩=> .func f ⟨renL m a⟩ ⟨renL m b⟩
 | .chan (some k)=> .map (some (m k).1)
 | v=>v
def renL(m:Nm):J→J
 | []=> []
 | v::r=>ren m v::renL m r
end
theorem jb1(m:Nm):∀l:J,renL m l=l.map (ren m)
 | []=>by simp[renL]
 | v::r=>by simp[renL,jb1 m r]
mutual
def ids:Value→List Nat
 | .pointer (some a)=>match a.spot with | some _=> [a.block] | none=> []
 | .slice (some a) _ _=>match a.spot with | some _=> [a.block] | none=> []
 | .agg ⟨l⟩=>idsL l
 | .tuple ⟨l⟩=>idsL l
 | .iface _ v=>ids v
 | .func _ ⟨a⟩ ⟨b⟩=>idsL a++idsL b
 | .chan (some k)=> [k]
 | _=> []
def idsL:J→List Nat
 | []=> []
 | v::r=>ids v++idsL r
end
mutual
def plain:Value→Bool
 | .pointer (some a)=>match a.spot with | some _=>false | none=>true
 | .slice (some a) _ _=>match a.spot with | some _=>false | none=>true
 | .agg ⟨l⟩=>ja1 l
 | .tuple ⟨l⟩=>ja1 l
 | .iface _ v=>plain v
 | .func _ ⟨a⟩ ⟨b⟩=>ja1 a&&ja1 b
 | .chan (some _)=>false
 | _=>true
def ja1:J→Bool
 | []=>true
 | v::r=>plain v&&ja1 r
end
theorem jay:∀{l:J}{k:Nat},k∈idsL l↔ ∃v∈l,k∈ids v
 | [],k=>by simp[idsL]
 | v::r,k=>by simp[idsL,jay (l:=r)]
theorem ja7:∀{l:J},ja1 l=true↔ ∀v∈l,plain v=true
 | []=>by simp[ja1]
 | v::r=>by simp[ja1,ja7 (l:=r)]
mutual
theorem jbm:∀{v:Value},plain v=true→ids v=[]
 | .pointer (some a),h=>by
  cases hs:a.spot<;>simp[plain,hs]at h;simp[ids,hs]
 | .pointer none,_=>by simp[ids]
 | .slice (some a) _ _,h=>by
  cases hs:a.spot<;>simp[plain,hs]at h;simp[ids,hs]
 | .slice none _ _,_=>by simp[ids]
 | .agg ⟨l⟩,h=>by simp only[ids];exact jao (by simpa[plain]using h)
 | .tuple ⟨l⟩,h=>by simp only[ids];exact jao (by simpa[plain]using h)
 | .iface _ v,h=>by simp only[ids];exact jbm (by simpa[plain]using h)
 | .func _ ⟨a⟩ ⟨b⟩,h=>by
  simp only[plain,jaf]at h;simp only[ids,jao h.1,jao h.2,KA]
 | .bool _,_ | .int _ _,_ | .float _ _,_ | .complex _ _ _,_ | .string _,_ | .map _,_ | .chan none,_ | .nilFunc,_ | .nilIface,_=>by simp[ids]
 | .chan (some _),h=>by simp[plain]at h
theorem jao:∀{l:J},ja1 l=true→idsL l=[]
 | [],_=>by simp[idsL]
 | v::r,h=>by
  simp only[ja1,jaf]at h;simp only[idsL,jbm h.1,jao h.2,KA]
end
mutual
theorem jc0{m m':Nm}:∀{v:Value},(∀k∈ids v,m k=m' k)→ren m v=ren m' v
 | .pointer (some a),h=>by
  cases hs:a.spot<;>simp[ren,ren1,hs];have:=h a.block (by simp[ids,hs]);simp[this]
 | .pointer none,_=>by simp[ren]
 | .slice (some a) _ _,h=>by
  cases hs:a.spot<;>simp[ren,ren1,hs];have:=h a.block (by simp[ids,hs]);simp[this]
 | .slice none _ _,_=>by simp[ren]
 | .agg ⟨l⟩,h=>by simp only[ren];rw[jd1 (by simpa[ids]using h)]
 | .tuple ⟨l⟩,h=>by simp only[ren];rw[jd1 (by simpa[ids]using h)]
 | .iface _ v,h=>by simp only[ren];rw[jc0 (by simpa[ids]using h)]
 | .func _ ⟨a⟩ ⟨b⟩,h=>by
  simp only[ren];rw[jd1 (l:=a) fun k hk=>h k (by simp[ids,hk]),jd1 (l:=b) fun k hk=>h k (by simp[ids,hk])]
 | .bool _,_ | .int _ _,_ | .float _ _,_ | .complex _ _ _,_ | .string _,_ | .map _,_ | .chan none,_ | .nilFunc,_ | .nilIface,_=>by simp[ren]
 | .chan (some k),h=>by simp only[ren];rw[h k (by simp[ids])]
theorem jd1{m m':Nm}:∀{l:J},(∀k∈idsL l,m k=m' k)→renL m l=renL m' l
 | [],_=>by simp[renL]
 | v::r,h=>by
  simp only[renL];rw[jc0 fun k hk=>h k (by simp[idsL,hk]),jd1 fun k hk=>h k (by simp[idsL,hk])]
end
mutual
theorem ja9(m:Nm):∀{v:Value},plain v=true→ren m v=v
 | .pointer (some a),h=>by
  cases hs:a.spot<;>simp[plain,hs]at h;simp[ren,ren1,hs]
 | .pointer none,_=>by simp[ren]
 | .slice (some a) _ _,h=>by
  cases hs:a.spot<;>simp[plain,hs]at h;simp[ren,ren1,hs]
 | .slice none _ _,_=>by simp[ren]
 | .agg ⟨l⟩,h=>by simp only[ren];rw[jb4 m (by simpa[plain]using h)]
 | .tuple ⟨l⟩,h=>by simp only[ren];rw[jb4 m (by simpa[plain]using h)]
 | .iface _ v,h=>by simp only[ren];rw[ja9 m (by simpa[plain]using h)]
 | .func _ ⟨a⟩ ⟨b⟩,h=>by
  simp only[plain,jaf]at h;simp only[ren,jb4 m h.1,jb4 m h.2]
 | .bool _,_ | .int _ _,_ | .float _ _,_ | .complex _ _ _,_ | .string _,_ | .map _,_ | .chan none,_ | .nilFunc,_ | .nilIface,_=>by simp[ren]
 | .chan (some _),h=>by simp[plain]at h
theorem jb4(m:Nm):∀{l:J},ja1 l=true→renL m l=l
 | [],_=>by simp[renL]
 | v::r,h=>by
  simp only[ja1,jaf]at h;simp only[renL,ja9 m h.1,jb4 m h.2]
end
theorem jff(m:Nm)(v:Value):(ren m v).cells=⟨v.cells.toList.map (ren m)⟩:=by
 cases v with
 | agg c=>obtain⟨l⟩:=c;simp[ren,Value.cells,jb1]
 | pointer a=>cases a<;>simp[ren,Value.cells]
 | slice a l c=>cases a<;>simp[ren,Value.cells]
 | tuple c=>obtain⟨l⟩:=c;simp[ren,Value.cells]
 | func f a b=>obtain⟨a⟩:=a;obtain⟨b⟩:=b;simp[ren,Value.cells]
 | chan a=>cases a<;>simp[ren,Value.cells]
 | _=>simp[ren,Value.cells]
theorem jc4(v:Value):idsL v.cells.toList=ids v:=by
 cases v with
 | agg c=>obtain⟨l⟩:=c;simp[ids,Value.cells]
 | pointer a=>cases a<;>simp[ids,idsL,Value.cells]
 | slice a l c=>cases a<;>simp[ids,idsL,Value.cells]
 | tuple c=>obtain⟨l⟩:=c;simp[ids,idsL,Value.cells]
 | func f a b=>obtain⟨a⟩:=a;obtain⟨b⟩:=b;simp[ids,idsL,Value.cells]
 | chan a=>cases a<;>simp[ids,idsL,Value.cells]
 | _=>simp[ids,idsL,Value.cells]
def prun{α:Type}(P:Program):Sem α→Option α
 | .pure a=>some a
 | .program k=>prun P (k P)
 | _=>none
theorem jg1{α:Type}{P:Program}:∀{s:Sem α}{a:α},prun P s=some a→ ∀w,s.run P w= .ok a w
 | .pure _,_,h,w=>by simp only[prun,Kb]at h;subst h;rfl
 | .program k,_,h,w=>by simp only[prun]at h;exact jg1 (s:=k P) h w
 | .load ..,_,h,_ | .store ..,_,h,_ | .new ..,_,h,_ | .shape ..,_,h,_ | .freeze ..,_,h,_ | .frozen ..,_,h,_ | .getObj ..,_,h,_ | .setObj ..,_,h,_
 | .choose ..,_,h,_ | .sys ..,_,h,_ | .mark ..,_,h,_ | .halt ..,_,h,_=>by simp[prun]at h
def isSl(P:Program)(t:TypeId):Bool:=match P.underlying t with
 | some (.slice _)=>true
 | _=>false
def isPt(P:Program)(t:TypeId):Bool:=match P.underlying t with
 | some (.pointer _)=>true
 | _=>false
def isFn(P:Program)(t:TypeId):Bool:=match P.underlying t with
 | some (.func _ _ _)=>true
 | _=>false
theorem isFn_spec{P:Program}{t:TypeId}(h:isFn P t=true):∃a b c,P.underlying t=some (.func a b c):=by
 unfold isFn at h;split at h
 ·rename_i a b c hd;exact⟨a,b,c,hd⟩
 ·cases h
theorem isSl_spec{P:Program}{t:TypeId}(h:isSl P t=true):∃el,P.underlying t=some (.slice el):=by
 unfold isSl at h;split at h
 ·rename_i el hd;exact⟨el,hd⟩
 ·cases h
theorem isPt_spec{P:Program}{t:TypeId}(h:isPt P t=true):∃el,P.underlying t=some (.pointer el):=by
 unfold isPt at h;split at h
 ·rename_i el hd;exact⟨el,hd⟩
 ·cases h
end Go.Ab
