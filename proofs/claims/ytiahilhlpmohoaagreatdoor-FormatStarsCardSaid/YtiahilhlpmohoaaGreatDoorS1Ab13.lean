/-
  Ab13: the run and laws.
-/
import Derived.Test.YtiahilhlpmohoaaGreatDoorS1Ab12
import Derived.WalkKit
import Derived.ProofKit
import Derived.OpenShut
import Derived.Below
import Derived.ChangeSame
import Derived.ChangeArms
import Derived.ChangeMaps5
import Derived.Lib.SmallJoins
set_option linter.unusedVariables false
set_option linter.unusedSimpArgs false
set_option linter.unusedSectionVars false
noncomputable section
namespace Go.Ab
open Go Go.ChangeMaps Go.ChangeShapes Go.WideShapes Go.ChangeAt Go.RowKit Go.Joins
variable [Tabs]
section
variable {H : Type} {enc : TypeId × Value → H} {P : Program}
theorem mapM_of{α β:Type}{g:α→Option β}:∀(l:List α)(xs:List β),l.length=xs.length→(∀(i:Nat)(a:α),l[i]?=some a→g a=xs[i]?)→l.mapM g=some xs
 | [],[],_,_=>have _:=tbs;rfl
 | [],_::_,h,_=>by cases h
 | _::_,[],h,_=>by cases h
 | a::l,x::xs,h,hg=>by
  have h0:=hg 0 a rfl;have ih:=mapM_of l xs (by simpa using h) (fun i b hb=>by simpa using hg (i+1) b (by simpa using hb));simp only[List.getElem?_cons_zero]at h0;simp[h0,ih]
def jnq(P:Program)(t:TypeId):Bool:=match P.underlying t with
 | some (.int _) | some .bool | some .string=>true
 | _=>false
theorem leaf_any{t:TypeId}(ht:jnq P t=true){w:World}{base:Nat}{spare:Nat→Bool}{held:Bool}{fuel:Nat}{cs:J}{x:DataW H×List MemPlace}(h:DataW.trod enc P w base spare held fuel t cs=some x):
  x.2=[]∧ ∀(w':World)(b':Nat)(sp':Nat→Bool)(hd':Bool),DataW.trod enc P w' b' sp' hd' 1 t cs=some x:=by
 have _:=tbs;unfold jnq at ht;split at ht
 ·rename_i k hu;obtain⟨n,rfl,rfl,hw⟩:=DataW.trod_int hu h;exact⟨rfl,fun w' b' sp' hd'=>by simp[DataW.trod,hu,hw]⟩
 ·rename_i hu;obtain⟨n,rfl,rfl⟩:=DataW.trod_bool hu h;exact⟨rfl,fun w' b' sp' hd'=>by simp[DataW.trod,hu]⟩
 ·rename_i hu;obtain⟨n,rfl,rfl,hw⟩:=DataW.trod_string hu h;exact⟨rfl,fun w' b' sp' hd'=>by simp[DataW.trod,hu,hw]⟩
 ·cases ht
theorem leaves_any{t:TypeId}{fs:Array Field}(hs:P.underlying t=some (.struct fs))(hl:fs.toList.all (fun f=>jnq P f.type)=true){w:World}{base:Nat}{spare:Nat→Bool}{held:Bool}{fuel:Nat}{cs:J}
  {x:DataW H×List MemPlace} (h:DataW.trod enc P w base spare held fuel t cs=some x):x.2=[]∧ ∀(w':World)(b':Nat)(sp':Nat→Bool)(hd':Bool),DataW.trod enc P w' b' sp' hd' 2 t cs=some x:=by
 obtain⟨xs,n,_,rfl,hlen,hsz,hf⟩:=DataW.trod_struct hs h
 have key:∀(i:Nat)(f:Field),fs.toList[i]?=some f→ ∃y,xs[i]?=some y∧y.2=[]∧ ∀(w':World)(b':Nat)(sp':Nat→Bool)(hd':Bool),DataW.trod enc P w' b' sp' hd' 1 f.type ((cs.drop f.offset).take (P.cellsOf f.type))=some y:=by
  intro i f hi;have hi':fs[i]?=some f:=by simpa using hi
  have hlt:i<xs.length:=by
   have:=(Array.getElem?_eq_some_iff.1 hi').1;omega
  have h1:=hf i f hi';rw[Kx hlt]at h1;obtain⟨h2,h3⟩:=leaf_any (Kf.1 hl f (List.mem_of_getElem? hi)) h1;exact⟨_,Kx hlt,h2,h3⟩
 refine⟨?_,fun w' b' sp' hd'=>trod_struct_mk hs hlen (mapM_of _ _ (by simp[hsz]) fun i f hi=> ?_)⟩
 ·simp only[List.flatMap_eq_nil_iff];intro y hy;obtain⟨i,hi⟩:=List.getElem?_of_mem hy
  have hlt:i<fs.toList.length:=by
   have:=(List.getElem?_eq_some_iff.1 hi).1;simp;omega
  obtain⟨y',h1,h2,_⟩:=key i fs.toList[i] (Kx hlt);rw[hi]at h1;cases h1;exact h2
 ·obtain⟨y,h1,_,h3⟩:=key i f hi;rw[h1,h3]
theorem calls_pure{f:FuncId}{s:Ab.Spec}(h:jan P f s){args:J}{v:Value}(hp:ja1 args=true)(hs:s args (args.map (blkOf fun _=>none))=some (true,v))(hv:plain v=true)(w:World)(ht:TabsIn w.heap.size w):
  Calls P f args.toArray w fun e w'=>e= .returned v∧Below w.heap.size w w':=by
 have q:=h.2 args v w.heap.size w (fun _=>none) (fun _=>(0,0)) w (relM_none w ht) hs hv
 have hren:args.map (ren fun _=>(0,0))=args:=by
  rw[←jb1,jb4 _ hp]
 rw[hren]at q;exact q
theorem post_of_below{f:Func}{s:ChangeSpec}{apart fresh handsOn again:Bool}{W W':World}{args:Array Value}{v:Value}{ds gs:List (DataW H)}{before pa pv:List MemPlace}
  (hW:DataW.Whole enc P f.params.toList s.vars apart W args.toList ds gs before)
  (hres:∀(b:Nat)(sp:Nat→Bool)(hd:Bool),DataW.TrodAll enc P W' b sp hd f.resultTypes.toList (v.resultList f.resultTypes.size) (s.fn H (ds++gs)).results [])
  (hargs:∀sp:Nat→Bool,(∀p∈before,sp p.block=true)→DataW.TrodAll enc P W' 0 sp true f.params.toList args.toList (s.fn H (ds++gs)).args pa)
  (hvars:∀sp:Nat→Bool,(∀p∈before,sp p.block=true)→DataW.TrodVars enc P W' sp s.vars (s.fn H (ds++gs)).vars pv)
  (hps:before=pa++pv) (hb:Below W.heap.size W W')
  (hok:∀(j:Nat)(t:TypeId)(r:Value),f.resultTypes[j]?=some t→(v.resultList f.resultTypes.size)[j]?=some r→Value.okWide P W' .any 0 t r):
  s.post enc P f apart fresh handsOn again W args v W':=by
 have _:=tbs;have hlt:∀p∈before,p.block<W.heap.size:=fun p hp=>hW.lt p hp
 have hold:∀p∈before,(fun b=>decide (b<W.heap.size)) p.block=true:=fun p hp=>by simpa using hlt p hp
 refine⟨ds,gs,before,[],pa,pv,hW,hres _ _ _,hargs _ hold,hvars _ hold,World.keptBut_mono (fun p hp=>⟨hp,?_⟩) (hb.frame (· ∈before)),fun _=> ?_⟩
 ·rw[hps,Kq]at hp;exact Or.inr hp
 ·obtain⟨_,_,_,_,_,hz,hn⟩:=hW;refine⟨hok,_,_,([]++pa)++pv,⟨[]++pa,pv,trodAll_append (hargs _ (fun _ _=>rfl)) (hres _ _ _),hvars _ (fun _ _=>rfl),rfl,?_,?_⟩,?_⟩
  ·intro b off hp;have hin:MemPlace.cell b off∈before:=by rw[hps];simpa using hp
   rw[hb.frozen (hlt _ hin)];exact hz b off hin
  ·intro ha;have:=hn ha;rw[hps]at this;simpa using this
  ·intro p hp _;rw[hps];simpa using hp
end
end Go.Ab
