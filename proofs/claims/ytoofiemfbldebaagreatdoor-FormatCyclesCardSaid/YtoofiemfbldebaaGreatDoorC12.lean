/-
  Part 2: the run and laws.
-/
import Derived.Test.YtoofiemfbldebaaGreatDoorC11
set_option linter.unusedVariables false
set_option linter.unusedSimpArgs false
set_option linter.unusedSectionVars false
noncomputable section
set_option maxHeartbeats 3200000
namespace Go.Cx
open Go Go.Ab Go.Proofs Go.Shelf Go.Px Go.Cv
open Go.Fx (Ty Vl jde jc0 most base pw bnd Fit fits tv vv tup V0 T0 jch jcl jb8 jdk str0)
def G0:Env:=Env.nil
theorem ok_G0:jao Tryz.prog G0:=jbr
def binG:E→Int→Int
 | [],a=>a
 | c::r,a=>binG r (2*a+(c-48))
theorem empty_iff(s:Y):(s.toList==(ByteArray.mk #[]).toList)=decide (bz s=[]):=by
 rw[toList_beq];rfl
def s152(c:U8):Bool×Value:=(true,B (c.n==32))
theorem fn152:Fn1 Tryz.prog 216 Tryz.f216:= .m Tryz.func216
theorem v152(c:U8)(R:Value→Prop):jbe Tryz.prog G0 noL Tryz.f216 [Enc.enc c] (fun _=>none) 0 (fun v _ _=>R v)=(R (B (U8.n c==32))):=by kernel_rfl
theorem ok152:jal Tryz.prog 216 (sp1 s152):=by
 refine je9 ok_G0 hmix fn152 jai jag fun c hc=> ?_
 rw[jdf,v152]
 try dsimp only[s152]
def s213(c:U8):Bool×Value:=(true,B (dig c.n))
theorem fn213:Fn1 Tryz.prog 236 Tryz.f236:= .m Tryz.func236
theorem v213(c:U8)(R:Value→Prop):jbe Tryz.prog G0 noL Tryz.f236 [Enc.enc c] (fun _=>none) 0 (fun v _ _=>R v)=(bif decide (U8.n c≥48) || true then R (B (decide (U8.n c≥48) &&decide (U8.n c≤57)))else False):=by kernel_rfl
theorem ok213:jal Tryz.prog 236 (sp1 s213):=by
 refine je9 ok_G0 hmix fn213 jai jag fun c hc=> ?_
 rw[jdf,v213]
 try dsimp only[s213]
 refine c_t (by simp) ?_;show Value.bool _=Value.bool _;congr 1;rw[Bool.eq_iff_iff];simp[dig]
def s141(k:Int):Bool×Value:=(true,I (most k))
theorem fn141:Fn1 Tryz.prog 104 Tryz.f104:= .m Tryz.func104
theorem v141(k:Int)(R:Value→Prop):jbe Tryz.prog G0 noL Tryz.f104 [Enc.enc k] (fun _=>none) 0 (fun v _ _=>R v)=(bif k==1 then R (I 9)else R (I 31)):=by kernel_rfl
theorem ok141:jal Tryz.prog 104 (sp1 s141):=by
 refine je9 ok_G0 hmix fn141 jai jag fun k hc=> ?_
 rw[jdf,v141]
 try dsimp only[s141]
 repeat' apply cond_intro<;>intro h
 all_goals grind [s141,most]
def G1:Env:=Env.nil.add 104 (sp1 s141)
theorem ok_G1:jao Tryz.prog G1:=jak jbr ok141
def s66(t:Ty):Bool×Value:=(true,I (jde t))
theorem fn66:Fn1 Tryz.prog 64 Tryz.f64:= .m Tryz.func64
def kr(b:Bool)(a:Fx.Ty):Bool:=go (am (Fx.Ty.q a) 0) (ar (Fx.Ty.q a) (Fx.Ty.p a) || (bif Fx.Ty.k a==2 then Fx.Ty.q a !=0 || (Fx.Ty.v a || b)else Fx.Ty.v a || b)) (Fx.Ty.p a) 1 (Fx.most (Fx.Ty.k a))
def km(b:Bool)(a:Fx.Ty):Bool:=bif !Fx.Ty.k a==1 then !Fx.Ty.k a==2 || kr b a else kr b a
theorem v66(t:Ty)(R:Value→Prop):jbe Tryz.prog G1 noL Tryz.f64 [Enc.enc t] (fun _=>none) 0 (fun v _ _=>R v)=(bif km true t then bif km (!gl (Fx.Ty.s t) ⟨#[]⟩) t then R (ak 5)else R (ak 0)else False):=by kernel_rfl
theorem ok66:jal Tryz.prog 64 (sp1 s66):=by
 refine je9 ok_G1 hmix fn66 jai jag fun t hc=> ?_
 rw[jdf,v66];delta ak ar am go kr km gl
 try dsimp only[s66]
 repeat' apply cond_intro<;>intro h
 all_goals grind [s66,jde,jc0,str0]
def G2:Env:=Env.nil.add 64 (sp1 s66)
theorem ok_G2:jao Tryz.prog G2:=jak jbr ok66
def s85(t:Ty):Bool×Value:=(true,B (decide (jc0 t)))
theorem fn85:Fn1 Tryz.prog 227 Tryz.f227:= .m Tryz.func227
theorem v85(t:Ty)(R:Value→Prop):jbe Tryz.prog G2 noL Tryz.f227 [Enc.enc t] (fun _=>none) 0 (fun v _ _=>R v)=(R (B (jde t==0))):=by kernel_rfl
theorem ok85:jal Tryz.prog 227 (sp1 s85):=by
 refine je9 ok_G2 hmix fn85 jai jag fun t hc=> ?_
 rw[jdf,v85]
 try dsimp only[s85]
 show Value.bool _=Value.bool _;congr 1;rw[jde];split<;>simp_all
def nz(l:E):E:=trZ (tlZ l 48) 48
def jh0(g:Bool)(l:E)(q:Int):Num:=if nz l=[]then(false,[],0)else(g,nz l,q-((tlZ l 48).length-(nz l).length))
def num0:Num:=(false,[],0)
def s79(s:Y):Bool×Value:=(decide (s.size≤9223372036854775807),S (szO (trZ (tlZ (bz s) 32) 32)))
def chk4(t:Ty):Int:=if jc0 t then 0
 else if t.k=3∧t.q=0∧bz t.s=[]∧0≤t.p∧t.p≤255 then 0
 else if t.k=4∧t.q=0∧bz t.s=[]∧t.v=false∧0≤t.p∧t.p≤64 then 0
 else if t.k=5∧t.p=0∧t.q=0∧t.v=false∧pE (bz t.s)=0 then 0
 else if t.k=6∧t.q=0∧bz t.s=[]∧t.p=0∧t.v=false then 0 else 5
def is4(v:Vl)(t:Ty):Bool:=
 if t.k=1∨t.k=2 then Fx.fits v t==0
 else if t.k=3 then decide (v.n=0∧((v.s.size:Int)=t.p∨t.v=true∧(v.s.size:Int)<t.p))
 else if t.k=4 then decide (v.n=0∧(v.s.size:Int)=t.p) &&jj0 (bz v.s)
 else if t.k=5 then decide (v.n=0) &&hoZ (bz t.s) (bz v.s)
 else decide (bz v.s=[]∧0≤v.n∧v.n≤524288)
def fit4(v:Vl)(t:Ty):Int:=if chk4 t≠0 then chk4 t else if is4 v t=true then 0 else 6
end Go.Cx
end
section
namespace Go.Cv
section
variable {l : List Int} {r : Rd} {c : Int}
variable {s p : Bool}
variable {g : Bool} {m : Nat}
end
end Go.Cv
end
noncomputable section
set_option maxHeartbeats 3200000
namespace Go.Cx
open Go Go.Ab Go.Proofs Go.Shelf Go.Px Go.Cv
open Go.Fx (Ty Vl jde jc0 most base pw bnd Fit fits tv vv tup V0 T0 jch jcl jb8 jdk str0)
inductive Ms where
 | beg | bod (s p:Bool) | exq (g:Bool) (m:Int) | beh
def Ms.v:Ms→Value
 | .beg=> .func (.func 215) ⟨[]⟩ ⟨[]⟩
 | .bod _ _=> .func (.func 235) ⟨[]⟩ ⟨[.pointer (some ⟨200,0,some 0⟩),.pointer (some ⟨201,0,some 0⟩)]⟩
 | .exq _ _=> .func (.func 244) ⟨[]⟩ ⟨[.pointer (some ⟨200,0,some 0⟩),.pointer (some ⟨201,0,some 0⟩)]⟩
 | .beh=> .func (.func 245) ⟨[]⟩ ⟨[]⟩
def Ms.ok(M:Ms)(e:Bool)(pw sc:Int):Bool:=match M with
 | .beg=>e&&decide (pw=0)
 | .bod s _=>e==s&&decide (pw=0)
 | .exq g m=>e==decide (0<m) &&decide (0≤m∧m≤2∧(g=false→m=0)∧0≤pw∧(m=0→pw=0)∧(m=1→pw<10)∧pw<100)
 | .beh=>e&&decide (0≤pw∧pw<100)
def s144(t:Ty):Bool×Value:=(decide (jc0 t),I (bnd t))
def K2:Env:=(Env.nil.add 64 (sp1 s66)).add 66 (sp1 s144)
theorem v70(v:Vl)(t:Ty)(R:Value→Prop):jbe Tryz.prog K2 noL Tryz.f34 [Enc.enc v,Enc.enc t] (fun _=>none) 0 (fun v _ _=>R v)=(bif jde t !=0 then R (I (jde t))else bif decide (jc0 t)then bif !v.s.toList==(ByteArray.mk #[]).toList || (decide (v.n≤IntKind.wrap .i64 (0-bnd t)) || true)then bif !v.s.toList==(ByteArray.mk #[]).toList || (decide (v.n≤IntKind.wrap .i64 (0-bnd t)) || decide (v.n≥bnd t))then R (I 6)else R (I 0)else False else False):=by kernel_rfl
end Go.Cx
end
noncomputable section
namespace Go.Px
open Go Go.Proofs
open Go.Proofs.YtoofiemfbldebaaGreatDoor
theorem q_laid:laidOutB Tryz.prog=true:=by kernel_rfl
theorem q_maps:mapsRowed Tryz.prog=true:=by kernel_rfl
theorem q_stop:(Tryz.prog.stops==[])=true:=by kernel_rfl
theorem q_knob:(Tryz.prog.stopKnobs==[])=true:=by kernel_rfl
theorem q_keys:(Rows.formatRoundsRow.plainKeys==Tryz.prog.plainKeys)=true:=by kernel_rfl
theorem q_heard:Tryz.prog.stopsHeard=true:=by kernel_rfl
theorem q_enter:Tryz.prog.mayEnter=true:=by kernel_rfl
theorem q_lifts:(Rows.formatRoundsRow.lifted==Tryz.prog.liftsFinal)=true:=by kernel_rfl
theorem q_make:(Tryz.prog.make==some Rows.formatRoundsRow.make)=true:=by kernel_rfl
theorem main_is : Tryz.pinned.checked.prog.mainIs = some (true, ("194b5b2e2e12b30d3d25bcbfad02f561222b8d466eeb4cea07aad47b7c5b09f6" : String).toList) := by kernel_rfl
theorem looks_is:true=Tryz.pinned.checked.prog.looks []:=by kernel_rfl
end Go.Px
end
noncomputable section
namespace Go.Px
open Go Go.Ab Go.Proofs Go.Shelf Go.ChangeMaps Go.ChangeShapes Go.WideShapes Go.ChangeAt Go.RowKit Go.Joins
open Go.Proofs.YtoofiemfbldebaaGreatDoor
theorem own:ownKnob Tryz.prog.godebug=none:=by kernel_rfl
def laidL:List (String×DataW Unit):=Rows.formatRoundsRow.laid
theorem tab_is{P:Program}{W:World}{name:String}{k:IntKind}{zs:E}{g:Nat}{t e:TypeId}{n:Nat}(hr:Lib.VarReads P W name (Lib.tabData k zs))
  (hg:P.globalNamed name=some g) (hty:(P.globals[g]?).map (·.type)=some t) (ht:P.underlying t=some (.array n e)) (he:P.underlying e=some (.int k)) (hce:P.cellsOf e=1) (hct:P.cellsOf t=n):
  g<W.heap.size∧ ∃ty fr,W.heap[g]?=some (.cells ⟨zs.map fun z=>Value.int k z⟩ ty fr):=by
 obtain⟨g',t',cs,fuel,p,h1,h2,h3,h4⟩:=hr;obtain rfl:=Option.some.inj (hg.symm.trans h1);obtain rfl:=Option.some.inj (hty.symm.trans h2);have hc:=Lib.cells_of_tab ht he hce hct h4;unfold World.var? at h3;rw[hg,Option.bind_some]at h3;split at h3
 case h_2=>cases h3
 rename_i cs' ty fr hh;have h3:=Option.some.inj h3;refine⟨(Array.getElem?_eq_some_iff.1 hh).1,ty,fr,?_⟩;rw[hh,h3];congr 2;rw[←hc]
theorem rt : (Tryz.prog.cutTypes.find? (·.1 == "internal/reflectlite.rtype")).map (·.2) = some 266 := by kernel_rfl
theorem tsz:Tryz.prog.types.size=335:=by kernel_rfl
theorem oneRow:((List.range 335).filter fun t=>Tryz.prog.rowNamed t [101,114,114,111,114])=[132]:=by kernel_rfl
theorem hdl:typeHandle Tryz.prog 132= .pointer (some ⟨10,132,none⟩):=by kernel_rfl
theorem gE : Tryz.prog.globalNamed "errors.errorType" = some 0 := by kernel_rfl
theorem laid_h : laidL.filter (fun x => x.2.handleName?.isSome) = [("errors.errorType", Rows.laid_errors_errorType)] := by kernel_rfl
theorem laid_d : laidL.filter (fun x => x.2.handleName?.isNone) = ([("math/bits.deBruijn32tab", YtoofiemfbldebaaGreatDoor.Rows.laid_math_bits_deBruijn32tab), ("math/bits.deBruijn64tab", YtoofiemfbldebaaGreatDoor.Rows.laid_math_bits_deBruijn64tab), ("internal/strconv.uint64pow10", YtoofiemfbldebaaGreatDoor.Rows.laid_internal_strconv_uint64pow10), ("unicode/utf8.acceptRanges", YtoofiemfbldebaaGreatDoor.Rows.laid_unicode_utf8_acceptRanges), ("strconv.ErrRange", YtoofiemfbldebaaGreatDoor.Rows.laid_strconv_ErrRange), ("strconv.ErrSyntax", YtoofiemfbldebaaGreatDoor.Rows.laid_strconv_ErrSyntax), ("pliant/picture.punched", YtoofiemfbldebaaGreatDoor.Rows.laid_pliant_picture_punched), ("unicode/utf8.first", YtoofiemfbldebaaGreatDoor.Rows.laid_unicode_utf8_first)]) := by kernel_rfl
theorem handle_of_laid {W : World} (h : handlesMet Tryz.prog [("errors.errorType", Rows.laid_errors_errorType)] W) : 0 < W.heap.size ∧ ∃ ty fr, W.heap[0]? = some (.cells #[.iface 266 (.agg #[.pointer (some ⟨10, 132, none⟩)])] ty fr) := by
 obtain⟨name,u,ty,e1,e2,e3,e4,e5⟩:=h _ (List.mem_singleton.2 rfl);have en:name=[101,114,114,111,114]:=(Option.some.inj e1).symm;subst en;obtain rfl:=Option.some.inj (rt.symm.trans e2);have hm:ty∈(List.range 335).filter fun t=>Tryz.prog.rowNamed t [101,114,114,111,114]:=List.mem_filter.2 ⟨List.mem_range.2 (by rw[←tsz];exact e3),e4⟩
 rw[oneRow]at hm;obtain rfl:=List.mem_singleton.1 hm;rw[hdl]at e5;unfold World.var? at e5;rw[gE,Option.bind_some]at e5;split at e5
 case h_2=>cases e5
 rename_i cs' ty fr hh;have e5:=Option.some.inj e5;exact⟨(Array.getElem?_eq_some_iff.1 hh).1,ty,fr,by rw[hh,e5]⟩
set_option maxRecDepth 100000 in
theorem tabs_of_laid{W:World}(h:laidMetH Tryz.prog laidL W):TabsIn W.heap.size W:=by
 obtain⟨hd,hh⟩:=laidMetH_iff.1 h;rw[laid_h]at hh;rw[laid_d]at hd;intro b r hb
 have key:∀b:Nat,jiu b=some r→b=2∧r=punchedZ.map (fun n=>Value.int .u8 n)∨b=7∧r=pow10Z.map (fun n=>Value.int .u64 n)∨b=0∧r=[.iface 266 (.agg ⟨[.pointer (some ⟨10,132,none⟩)]⟩)]:=by
  intro b hb;unfold jiu at hb;split at hb
  ·cases hb;exact .inl ⟨rfl,rfl⟩
  ·cases hb;exact .inr (.inl ⟨rfl,rfl⟩)
  ·cases hb;exact .inr (.inr ⟨rfl,rfl⟩)
  ·cases hb
 have t5:Tryz.prog.cellsOf 5=1:=by kernel_rfl
 rcases key b hb with⟨rfl,rfl⟩ | ⟨rfl,rfl⟩ | ⟨rfl,rfl⟩
 ·have hr : Lib.VarReads Tryz.prog W "pliant/picture.punched" (Lib.tabData .u8 punchedZ) := Lib.laidMet.reads hd (.tail _ (.tail _ (.tail _ (.tail _ (.tail _ (.tail _ (.head _)))))))
  exact tab_is hr (g:=2) (t:=247) (n:=20) (e:=5) (by kernel_rfl) (by kernel_rfl) (by kernel_rfl) (by kernel_rfl) t5 (by kernel_rfl)
 ·have hr : Lib.VarReads Tryz.prog W "internal/strconv.uint64pow10" (Lib.tabData .u64 pow10Z) := Lib.laidMet.reads hd (.tail _ (.tail _ (.head _)))
  exact tab_is hr (g:=7) (t:=298) (n:=20) (e:=182) (by kernel_rfl) (by kernel_rfl) (by kernel_rfl) (by kernel_rfl) (by kernel_rfl) (by kernel_rfl)
 ·exact handle_of_laid hh
noncomputable def handleWorld (os : Os) : World :=
 let w0:=World.holding Tryz.prog os ⟨#[], #[],[]⟩
 {w0 with heap:=w0.heap.modify 0 fun
   | .cells _ t frozen=> .cells #[.iface 266 (.agg #[.pointer (some ⟨10,132,none⟩)])] t frozen
   | o=>o}
def laidD:List (String×DataW Unit):=laidL.filter fun x=>x.2.handleName?.isNone
noncomputable def laidWorld (os : Os) : World := (handleWorld os).layVars Tryz.prog laidD
theorem laidWorld_os(os:Os):(laidWorld os).os=os:=World.layVars_os _ _ _
theorem laidWorld_met(os:Os)(args:Array Value):laidMetH Tryz.prog laidL ((laidWorld os).forCall (fun _ _=>0) ⟨#[],args,[]⟩).memory:=by
 refine laidMetH_of_parts ?_ (by kernel_rfl);have e1:(laidD.filter fun x=>(laidD.map (·.1)).contains x.1)=laidD:=List.filter_eq_self.2 fun x hx=>List.contains_iff_mem.2 (List.mem_map.2 ⟨x,hx,rfl⟩)
 have e2:(laidD.filter fun x=> !(laidD.map (·.1)).contains x.1)=[]:=List.filter_eq_nil_iff.2 fun x hx=>by rw[List.contains_iff_mem.2 (List.mem_map.2 ⟨x,hx,rfl⟩)];simp
 have h:laidMet Tryz.prog laidD (laidWorld os):=laidMet_layVars (w0:=handleWorld os) (laidD.map (·.1)) [] (by rw[e1];rfl) (by rw[e1];kernel_rfl) (by rw[e1];kernel_rfl) (by rw[e2];exact LaidIn.none);exact h.of_heap (by simp[World.memory,World.forCall,Input.heap])
def jfm(P:Program)(t:TypeId)(α:Type) [Enc α](Q:α→Prop):Prop:=
 ∀{H:Type}{enc:TypeId×Value→H}{w:World}{base:Nat}{spare:Nat→Bool}{held:Bool}{r:Reach}{b0:Nat}{v:Value}{d:DataW H}{p:List MemPlace},Value.okWide P w r b0 t v→DataW.Trod enc P w base spare held t v d p→
  ∃a:α,v=Enc.enc a∧Q a∧p=[]∧ ∀(w':World)(b':Nat)(sp':Nat→Bool)(hd':Bool),DataW.Trod enc P w' b' sp' hd' t v d []
theorem opensP_string{P:Program}{t:TypeId}(ht:P.underlying t=some .string):jfm P t Y fun s=>s.size≤9223372036854775807:=by
 intro H enc w base spare held r b0 v d p hv h;obtain⟨n,rfl,rfl,rfl,hw⟩:=open_string ht hv h;exact⟨n,rfl,Nat.le_trans hw (by decide),rfl,fun w' b' sp' hd'=>shut_string ht hw⟩
theorem oS:jfm Tryz.prog 9 Y fun s=>s.size≤9223372036854775807:=opensP_string Tryz.underlying9
theorem opensP_int{P:Program}{t:TypeId}(ht:P.underlying t=some (.int .i64)):jfm P t Int fun n=> -9223372036854775808≤n∧n≤9223372036854775807:=by
 intro H enc w base spare held r b0 v d p hv h;obtain⟨n,rfl,rfl,rfl,hw⟩:=open_int ht hv h;exact⟨n,rfl,by simpa[Lit.wf,IntKind.min,IntKind.max,IntKind.signed,IntKind.bits]using hw,rfl,fun w' b' sp' hd'=>shut_int ht hw⟩
theorem oI:jfm Tryz.prog 3 Int fun n=> -9223372036854775808≤n∧n≤9223372036854775807:=opensP_int Tryz.underlying3
theorem opensP_bool{P:Program}{t:TypeId}(ht:P.underlying t=some .bool):jfm P t Bool fun _=>True:=by
 intro H enc w base spare held r b0 v d p hv h;obtain⟨n,rfl,rfl,rfl⟩:=open_bool ht hv h;exact⟨n,rfl,trivial,rfl,fun w' b' sp' hd'=>shut_bool ht n⟩
theorem oB:jfm Tryz.prog 4 Bool fun _=>True:=opensP_bool Tryz.underlying4
theorem opensP_leaves{P:Program}{α:Type} [Enc α]{t:TypeId}{fs:Array Field}{Q:α→Prop}(hs:P.underlying t=some (.struct fs))(hl:fs.toList.all (fun f=>jji P f.type)=true)
  (hc : ∀ cs : Array Value, cs.size = P.cellsOf t → (∀ (i : Nat) (f : Field), fs[i]? = some f → ∃ (H : Type) (enc : TypeId × Value → H) (w : World) (base : Nat) (spare : Nat → Bool) (held : Bool) (n : Nat) (y : DataW H × List MemPlace),
   DataW.trod enc P w base spare held n f.type ((cs.toList.drop f.offset).take (P.cellsOf f.type))=some y)→ ∃a:α,Value.agg cs=Enc.enc a∧Q a):jfm P t α Q:=by
 intro H enc w base spare held r b0 v d p hv h;obtain⟨cs,rfl,hsz⟩:=okWide_struct hs hv;obtain⟨fuel,hf⟩:=h;simp only[Value.cells]at hf;obtain⟨hp,hany⟩:=leaves_any hs hl hf;obtain⟨xs,n,_,_,hlen,hxs,hg⟩:=DataW.trod_struct hs hf
 obtain⟨a,ha,hq⟩:=hc cs hsz fun i f hi=>by
  have hlt:i<xs.length:=by
   have:=(Array.getElem?_eq_some_iff.1 hi).1;omega
  exact⟨H,enc,w,base,spare,held,n,xs[i],by rw[hg i f hi,List.getElem?_eq_getElem hlt]⟩
 simp only at hp;subst hp;exact⟨a,ha,hq,rfl,fun w' b' sp' hd'=>⟨2,by simpa[Value.cells]using hany w' b' sp' hd'⟩⟩
def r64(n:Int):Prop:= -9223372036854775808≤n∧n≤9223372036854775807
def rS(s:Y):Prop:=s.size≤9223372036854775807
theorem r64_wf{n:Int}(h:(Lit.int .i64 n).wf=true):r64 n:=by simpa[Lit.wf,IntKind.min,IntKind.max,IntKind.signed,IntKind.bits,r64]using h
theorem array5{α:Type}{cs:Array α}(h:cs.size=5):∃c0 c1 c2 c3 c4,cs= #[c0,c1,c2,c3,c4]:=by
 obtain⟨l⟩:=cs
 match l,h with
 | [c0,c1,c2,c3,c4],_=>exact⟨c0,c1,c2,c3,c4,rfl⟩
theorem oT:jfm Tryz.prog 23 Fx.Ty fun t=>r64 t.k∧r64 t.p∧r64 t.q∧rS t.s:=by
 refine opensP_leaves Tryz.underlying23 (by kernel_rfl) fun cs hsz hf=> ?_
 have hc:Tryz.prog.cellsOf 23=5:=by kernel_rfl
 have h3:Tryz.prog.cellsOf 3=1:=by kernel_rfl
 have h4:Tryz.prog.cellsOf 4=1:=by kernel_rfl
 have h9:Tryz.prog.cellsOf 9=1:=by kernel_rfl
 rw[hc]at hsz;obtain⟨c0,c1,c2,c3,c4,rfl⟩:=array5 hsz
 ·obtain ⟨H, enc, w, base, spare, held, n, y, h0⟩ := hf 0 { name := "Kind", type := 3, offset := 0, embedded := false, tag := "", pkgPath := "", byteOffset := 0 } rfl
  obtain ⟨H, enc, w, base, spare, held, n, y, h1⟩ := hf 1 { name := "P", type := 3, offset := 1, embedded := false, tag := "", pkgPath := "", byteOffset := 8 } rfl
  obtain ⟨H, enc, w, base, spare, held, n, y, h2⟩ := hf 2 { name := "Q", type := 3, offset := 2, embedded := false, tag := "", pkgPath := "", byteOffset := 16 } rfl
  obtain ⟨H, enc, w, base, spare, held, n, y, hv⟩ := hf 3 { name := "Vary", type := 4, offset := 3, embedded := false, tag := "", pkgPath := "", byteOffset := 24 } rfl
  obtain ⟨H, enc, w, base, spare, held, n, y, hs⟩ := hf 4 { name := "Pic", type := 9, offset := 4, embedded := false, tag := "", pkgPath := "", byteOffset := 32 } rfl
  obtain⟨k,e0,_,w0⟩:=DataW.trod_int Tryz.underlying3 h0;obtain⟨p,e1,_,w1⟩:=DataW.trod_int Tryz.underlying3 h1;obtain⟨q,e2,_,w2⟩:=DataW.trod_int Tryz.underlying3 h2;obtain⟨v,e3,_⟩:=DataW.trod_bool Tryz.underlying4 hv;obtain⟨s,e4,_,w4⟩:=DataW.trod_string Tryz.underlying9 hs;simp only[h3,h4,h9,List.drop_zero,List.drop_succ_cons,List.take_succ_cons,List.take_zero,List.cons.injEq,and_true]at e0 e1 e2 e3 e4;exact⟨⟨k,p,q,v,s⟩,by rw[e0,e1,e2,e3,e4];rfl,r64_wf w0,r64_wf w1,r64_wf w2,Nat.le_trans w4 (by decide)⟩
noncomputable def hAB (fn : Func) (s : ChangeSpec) (c : OpenClaim) : Bool := c.wf (OpenSpec.ofChange s) && fn.params.all (Tryz.prog.readableRec ·) && namedTie Tryz.prog c.named s.vars && (c.stops == []) && (c.knobs == [])
noncomputable def hRB (fn : Func) (s : ChangeSpec) (c : OpenClaim) : Bool := (c.maps == (fn.params.toList ++ s.plain.varTypes Tryz.prog).any (Tryz.prog.mapsRec ·)) && (c.ifaces == (fn.params.toList ++ s.plain.varTypes Tryz.prog).any (Tryz.prog.ifacesRec ·)) && (c.mapsOut == Tryz.prog.mapsAmong fn.resultTypes.toList) && (c.loops == (fn.params.toList ++ s.plain.varTypes Tryz.prog).any (Tryz.prog.loopsFrom ·))
noncomputable def hSB (fn : Func) (s : ChangeSpec) (c : OpenClaim) : Bool := (c.wideKeys == (fn.params.toList ++ s.plain.varTypes Tryz.prog ++ fn.resultTypes.toList).any (Tryz.prog.wideKeysFrom ·)) && s.vars.all (Tryz.prog.varReadable ·) && fn.resultTypes.all (fun t => Tryz.prog.readableRec t && decide (t<Tryz.prog.types.size)) && (c.ifacesOut == fn.resultTypes.toList.any (Tryz.prog.ifacesRec ·)) && (c.loopsOut == fn.resultTypes.toList.any (Tryz.prog.loopsFrom ·)) && c.shortTexts.isNone
noncomputable def hTB (fn : Func) (s : ChangeSpec) (c : OpenClaim) : Bool := (c.kinds == (if c.domain.isEmpty then [] else fn.params.toList.map fun t => match Tryz.prog.underlying t with | some (.int k) => some k | _ => none)) && (c.pinned == c.pinnedBy) && (c.veiled == (fn.params.toList ++ s.plain.varTypes Tryz.prog ++ fn.resultTypes.toList).any (Tryz.prog.veiledRec ·)) && c.veiledFits Tryz.prog fn.params.toList (fn.params.toList ++ s.plain.varTypes Tryz.prog ++ fn.resultTypes.toList)
set_option maxRecDepth 100000 in
theorem jf_mk{f:FuncId}{fn:Func}{s:ChangeSpec}{c:OpenClaim}(hA:hAB fn s c=true)(h1:(c.inPlace==Tryz.prog.inPlace f)=true)(h2:(c.unfollowed==Tryz.prog.unfollowed f)=true)(h3:(c.recurses==Tryz.prog.recurses f)=true)(h4:(c.named==Tryz.prog.varsNamed f)=true)
  (hR:hRB fn s c=true) (hS:hSB fn s c=true)
  (hk:(c.plainKeys==Tryz.prog.plainKeys)=true) (hl:(c.lifted==Tryz.prog.liftsFinal)=true) (hm:(Tryz.prog.make==some c.make)=true)
  (hT:hTB fn s c=true):joinedFacts Tryz.prog f fn s c=true:=by
 unfold joinedFacts;simp only[hAB,hRB,hSB,hTB,jaf]at hA hR hS hT;obtain⟨⟨⟨⟨a1,a2⟩,a3⟩,a4⟩,a5⟩:=hA;obtain⟨⟨⟨r1,r2⟩,r3⟩,r4⟩:=hR;obtain⟨⟨⟨⟨⟨s1,s2⟩,s3⟩,s4⟩,s5⟩,s6⟩:=hS;obtain⟨⟨⟨t1,t2⟩,t3⟩,t4⟩:=hT;rw[a1,a2,a3,a4,a5,h1,h2,h3,h4,r1,r2,r3,r4,s1,s2,s3,s4,s5,s6,t2,t3,t4,q_laid,q_maps,q_stop,q_knob,q_heard,q_enter,hk,hl,hm];simp only[Bool.true_and,Bool.and_true];exact t1
end Go.Px
end
noncomputable section
namespace Go.Ff
open Go Go.Ab Go.Proofs Go.Px
theorem jg5{l:U}:jba l=true↔ ∀v∈l,∃n,v= .int .u8 n:=by
 induction l with
 | nil=>simp[jba]
 | cons v r ih=>
  constructor
  ·intro h;unfold jba at h;split at h
   ·rename_i heq;cases heq
   ·rename_i n r' heq;cases heq;intro u hu;rcases List.mem_cons.1 hu with rfl | hu
    ·exact⟨_,rfl⟩
    ·exact ih.1 h u hu
   ·cases h
  ·intro h;obtain⟨n,rfl⟩:=h v (List.mem_cons_self ..);exact ih.2 fun u hu=>h u (List.mem_cons_of_mem _ hu)
theorem isB_plain{d:U}(h:jba d=true):jas d=true:=by
 rw[←jix h];exact jfv _
theorem atB:∀{d:U}{j:Nat},jba d=true→j<d.length→jap .u8 d j=true∧jaj d j=(d.map iv).getD j 0
 | .int .u8 n::r,0,_,_=>⟨rfl,rfl⟩
 | .int .u8 n::r,j+1,h,hj=>by
  have:=atB (d:=r) (j:=j) (by simpa[jba]using h) (by simpa using hj);simpa[jap,jaj]using this
end Go.Ff
end
noncomputable section
namespace Go.Ab
open Go Go.RowKit
def eqI(a b:Int):Bool:=match a,b with
 | .ofNat m,.ofNat n=>Nat.beq m n
 | .negSucc m,.negSucc n=>Nat.beq m n
 | _,_=>false
def eqU:O→O→Bool
 | [],[]=>true
 | a::l,b::r=>match Nat.beq a.toNat b.toNat with | true=>eqU l r | false=>false
 | _,_=>false
def eqK(a b:IntKind):Bool:=match decEq a b with | .isTrue _=>true | .isFalse _=>false
mutual
def eqV:Value→Value→Bool
 | .int k a,.int k' b=>match eqK k k' with | true=>eqI a b | false=>false
 | .bool a,.bool b=>match a,b with | true,true=>true | false,false=>true | _,_=>false
 | .string ⟨⟨a⟩⟩,.string ⟨⟨b⟩⟩=>eqU a b
 | .agg ⟨l⟩,.agg ⟨r⟩=>eqVL l r
 | .iface t a,.iface t' b=>match Nat.beq t t' with | true=>eqV a b | false=>false
 | .nilIface,.nilIface=>true
 | _,_=>false
def eqVL:U→U→Bool
 | [],[]=>true
 | a::l,b::r=>match eqV a b with | true=>eqVL l r | false=>false
 | _,_=>false
end
theorem eqI_spec{a b:Int}(h:eqI a b=true):a=b:=by
 unfold eqI at h;split at h
 ·rw[jah h]
 ·rw[jah h]
 ·cases h
theorem eqU_spec:∀{a b:O},eqU a b=true→a=b
 | [],[],_=>rfl
 | a::l,b::r,h=>by
  simp only[eqU]at h;split at h
  ·rename_i hb;rw[UInt8.toNat_inj.1 (jah hb),eqU_spec h]
  ·cases h
 | [],_::_,h=>by cases h
 | _::_,[],h=>by cases h
theorem eqK_spec{a b:IntKind}(h:eqK a b=true):a=b:=by
 unfold eqK at h;split at h
 ·assumption
 ·cases h
mutual
theorem eqV_spec:∀{a b:Value},eqV a b=true→a=b
 | .int k a,.int k' b,h=>by
  simp only[eqV]at h;split at h
  ·rename_i hk;rw[eqK_spec hk,eqI_spec h]
  ·cases h
 | .bool a,.bool b,h=>by cases a<;>cases b<;>first | rfl | cases h
 | .string ⟨⟨a⟩⟩,.string ⟨⟨b⟩⟩,h=>by
  simp only[eqV]at h;rw[eqU_spec h]
 | .agg ⟨l⟩,.agg ⟨r⟩,h=>by
  simp only[eqV]at h;rw[jgb h]
 | .iface t a,.iface t' b,h=>by
  simp only[eqV]at h;split at h
  ·rename_i ht;rw[jah ht,eqV_spec h]
  ·cases h
 | .nilIface,.nilIface,_=>rfl
theorem jgb:∀{a b:U},eqVL a b=true→a=b
 | [],[],_=>rfl
 | a::l,b::r,h=>by
  simp only[eqVL]at h;split at h
  ·rename_i hb;rw[eqV_spec hb,jgb h]
  ·cases h
 | [],_::_,h=>by cases h
 | _::_,[],h=>by cases h
end
def memo:List (U×Value)→Spec
 | []=>fun _ _=>none
 | (a,v)::r=>fun args bs=>match eqVL args a with | true=>some (true,v) | false=>memo r args bs
theorem je3{args:U}{bs:F}{b:Bool}{v:Value}:∀{l:List (U×Value)},memo l args bs=some (b,v)→b=true∧(args,v)∈l
 | [],h=>by cases h
 | (a,u)::r,h=>by
  simp only[memo]at h;split at h
  ·rename_i ha;simp only[Option.some.injEq,Prod.mk.injEq]at h;exact⟨h.1.symm,by rw[jgb ha,h.2];exact List.mem_cons_self ..⟩
  ·obtain⟨h1,h2⟩:=je3 h;exact⟨h1,List.mem_cons_of_mem _ h2⟩
variable [Tabs]
def AllD(P:Program)(G:Env)(L:Nat→Option jbg)(fn:Func):List (U×Value)→Prop
 | []=>True
 | (a,v)::r=>jdf P G L fn a v∧AllD P G L fn r
theorem AllD_mem{P:Program}{G:Env}{L:Nat→Option jbg}{fn:Func}{a:U}{v:Value}:∀{l:List (U×Value)},AllD P G L fn l→(a,v)∈l→jdf P G L fn a v
 | (a',v')::r,h,hm=>by
  rcases List.mem_cons.1 hm with e | hm
  ·cases e;exact h.1
  ·exact AllD_mem h.2 hm
theorem pure_memo{P:Program}{G:Env}{L:Nat→Option jbg}{f:FuncId}{fn:Func}(hG:jao P G)(hm:P.follows .mixedOrders=true)(hf:Fn1 P f fn)(hL:LOKf P L fn){l:List (U×Value)}
  (hp:(l.all fun x=>jas x.1&&Nat.ble x.1.length fn.ntmps)=true) (h:AllD P G L fn l):jal P f (memo l):=by
 refine jgx hG hm hf hL fun args bs v hs=> ?_
 obtain⟨_,hmem⟩:=je3 hs;have:=List.all_eq_true.1 hp _ hmem;simp only[jaf]at this;exact⟨this.1,jag this.2,AllD_mem h hmem⟩
omit [Tabs] in
omit [Tabs] in
def RunL(P:Program)(G:Env)(L:Nat→Option jbg)(fn:Func):List (U×Value)→Prop
 | []=>True
 | (a,v)::r=>jbe P G L fn a (fun _=>none) 0 (fun v' _ _=>v'=v)∧RunL P G L fn r
theorem allD_of{P:Program}{G:Env}{L:Nat→Option jbg}{fn:Func}:∀{l:List (U×Value)},RunL P G L fn l→AllD P G L fn l
 | [],_=>trivial
 | (_,_)::_,h=>⟨by rw[jdf];exact h.1,allD_of h.2⟩
inductive Nst where
 | leaf
 | app (src:Option Nat) (n s:Nat) (r:Nst)
 | bts (n:Nat) (r:Nst)
 | both (a b:Nst)
 | le (i:Nat) (r:Nst)
def lenB(t:U)(c n s:Nat):Bool:=Nat.beq (t.length+n*s) (c*s) &&Nat.ble n c&&Nat.ble c 9223372036854775807&&true&&true
def jgi(p:Prop):Nst→List (U×Nat×Nat×Nat)→Prop
 | .leaf,_=>p
 | .bts n r,e=>∀c:Nat,Nat.ble n c=true→jgi p r e
 | .both a b,e=>jgi p a e∧jgi p b e
 | .le i r,e=>match e[i]? with
  | some (_,c0,n0,_)=>bif Nat.ble n0 c0 then jgi p r e else False
  | none=>True
 | .app none n s r,e=>∀(c:Nat)(t:U),ja0 t c n s=true→jgi p r ((t,c,n,s)::e)
 | .app (some i) n s r,e=>match e[i]? with
  | some (t0,c0,n0,s0)=>bif lenB t0 c0 n0 s0 then∀(c:Nat)(t:U),ja0 t c n s=true→jgi p r ((t,c,n,s)::e)else False
  | none=>True
theorem lenB_ok{t:U}{c n s:Nat}(h:ja0 t c n s=true):lenB t c n s=true:=by
 simp only[ja0,jaf]at h;simp only[lenB,h.1.1.2,h.1.2,h.2,Bool.and_true]
theorem lenB_le{t:U}{c n s:Nat}(h:ja0 t c n s=true):Nat.ble n c=true:=by
 simp only[ja0,jaf]at h;exact h.1.2
theorem jes{p:Prop}(hp:p):∀(t:Nst)(e:List (U×Nat×Nat×Nat)),(∀x∈e,ja0 x.1 x.2.1 x.2.2.1 x.2.2.2=true)→jgi p t e
 | .leaf,_,_=>hp
 | .bts n r,e,h=>fun c _=>jes hp r e h
 | .both a b,e,h=>⟨jes hp a e h,jes hp b e h⟩
 | .le i r,e,h=>by
  simp only[jgi];split
  ·rename_i t0 c0 n0 s0 hi;rw[lenB_le (h _ (List.mem_of_getElem? hi))];exact jes hp r e h
  ·trivial
 | .app none n s r,e,h=>fun c t ht=>jes hp r _ fun x hx=>by
  rcases List.mem_cons.1 hx with rfl | hx
  ·exact ht
  ·exact h x hx
 | .app (some i) n s r,e,h=>by
  simp only[jgi];split
  ·rename_i t0 c0 n0 s0 hi;rw[lenB_ok (h _ (List.mem_of_getElem? hi))]
   exact fun c t ht=>jes hp r _ fun x hx=>by
    rcases List.mem_cons.1 hx with rfl | hx
    ·exact ht
    ·exact h x hx
  ·trivial
def jjn:List (U×Value)→List Nst→Prop
 | [],_=>True
 | (_,v)::r,[]=>v=v∧jjn r []
 | (_,v)::r,k::ks=>jgi (v=v) k []∧jjn r ks
omit [Tabs] in
theorem jg0:∀l ks,jjn l ks
 | [],_=>trivial
 | (_,_)::r,[]=>⟨rfl,jg0 r []⟩
 | (_,_)::r,k::ks=>⟨jes rfl k [] (by simp),jg0 r ks⟩
theorem jan(ks:List Nst){P:Program}{G:Env}{L:Nat→Option jbg}{f:FuncId}{fn:Func}(hG:jao P G)(hm:P.follows .mixedOrders=true)(hf:Fn1 P f fn)(hL:LOKf P L fn){l:List (U×Value)}
  (hp:(l.all fun x=>jas x.1&&Nat.ble x.1.length fn.ntmps)=true) (h:RunL P G L fn l=jjn l ks):jal P f (memo l):=
 pure_memo hG hm hf hL hp (allD_of (cast h.symm (jg0 l ks)))
end Go.Ab
end
noncomputable section
set_option maxHeartbeats 3200000
namespace Go.Cx
open Go Go.Ab Go.Proofs Go.Shelf Go.Px Go.Cv
open Go.Fx (Ty Vl jde jc0 most base pw bnd Fit fits tv vv tup V0 T0 jch jcl jb8 jdk str0)
structure DecIs (g:Bool)(s:Y)(x:Option Num):Prop where
 h:decR jh0 g (bz s)=x
def k25(g:Bool)(t:Y)(R:Value→Prop):Prop:=bif bif decide (br (b4 t) 1≥1)then b6 (br (b4 t) 1) (b4 t) &&true else true then bif decide (br (b4 t) 1≥1) &&jc8 t (du (b4 t-1))==66 then dl (ar (br (b4 t) 1) 31) (ck 0 (br (b4 t) 1) t.size&& (e6 (dy t 1) &&true)) (ar (br (b4 t) 1) 31 || !jj0 (bz (dy t 1))) (R (ax [.agg ⟨[B false,dx,ak 0]⟩,B false])) (bif ck 0 (br (b4 t) 1) t.size then b8 (jj0 (bz (dy t 1))) (decide ((dy t 1).size≤64)) (b6 (binG (bz (dy t 1)) 0) 18446744073709551616&&true) (∀a:Y,sz (decZ (binG (bz (dy t 1)) 0))=a→b7 (decide (a.size≤1000∧ -(100000:Int)≤0∧(0:Int)≤100000)) (ax [.agg ⟨[B (jh0 g (bz a) 0).1,S (szO (jh0 g (bz a) 0).2.fst),I (jh0 g (bz a) 0).2.snd]⟩,B true]) R) False else False)else bif ft t then∀a:Option Cv.Num,DecIs g t a→R (ax [.agg ⟨[B (a.getD num0).fst,S (szO (a.getD num0).snd.fst),I (a.getD num0).snd.snd]⟩,B a.isSome])else False else False
structure Wh where
 n:Int
 t:Ty
instance:Enc Wh where
 enc x:= .agg ⟨[.int .i64 x.n,.int .i64 x.t.k,.int .i64 x.t.p,.int .i64 x.t.q,.bool x.t.v,.string x.t.s]⟩
 dec | .agg ⟨[.int .i64 n,.int .i64 k,.int .i64 p,.int .i64 q,.bool v,.string s]⟩=>some ⟨n,⟨k,p,q,v,s⟩⟩ | _=>none
 dec_some:=by
  intro v a h;split at h
  ·cases h;rfl
  ·cases h
 plain_enc _:=rfl
end Go.Cx
end
section
namespace Go.Cx
open Go Go.Proofs Go.RowKit Go.Extern.Stop Go.Stop Go.Extern
theorem as_nil(t:Value)(w:World):
  Calls Tryz.prog 126 #[.nilIface,t] w fun e w'=>e= .returned (.bool false)∧w'=w:=by
 go_enter Tryz.func126,Tryz.ntmps126
 go_wp2
 go_ret
 exact⟨rfl,rfl⟩
theorem a_valueOf121(t:Addr)(w:World):(ReflectliteValue.unpack (.iface 178 (.pointer (some t)))).run Tryz.prog w
  = .ok (.agg #[.pointer (some ⟨10,178,none⟩),.pointer (some ⟨w.heap.size,0,none⟩),.int .u64 150]) (w.alloc (.cells #[.pointer (some t)] 178)):=by kernel_rfl
theorem a_type121 (a : Addr) (w : World) : (ReflectliteValue.methodAny (ReflectliteValue.valueError "reflectlite.Value.Type" 0) (fun t _ _ _ => ReflectliteType.toType t) #[.agg #[.pointer (some ⟨10, 178, none⟩), .pointer (some a), .int .u64 150]]).run Tryz.prog w
  = .ok (.iface 266 (.agg #[.pointer (some ⟨10,178,none⟩)])) w:=by kernel_rfl
theorem a_kind121(w:World):((ReflectliteType.abiMethod fun t=>(fun a:Nat=>Value.int IntKind.u8 (a:Int)) <$> Rtype.kind t) #[.pointer (some ⟨10,178,none⟩)]).run Tryz.prog w= .ok (.int .u8 22) w:=by kernel_rfl
theorem a_kind119(w:World):((ReflectliteType.abiMethod fun t=>(fun a:Nat=>Value.int IntKind.u8 (a:Int)) <$> Rtype.kind t) #[.pointer (some ⟨10,176,none⟩)]).run Tryz.prog w= .ok (.int .u8 25) w:=by kernel_rfl
theorem a_rlm(z:Sem Value)(f:TypeId→Addr→Nat→Nat→Sem Value)(v:Value):
  ReflectliteValue.method z f #[v]=(do match←ReflectliteValue.parts v with | none=>z | some (t,a,fl)=>f t a fl (fl%32)):=rfl
theorem a_parts121(a:Addr)(w:World):(ReflectliteValue.parts (.agg #[.pointer (some ⟨10,178,none⟩),.pointer (some a),.int .u64 150])).run Tryz.prog w= .ok (some (178,a,150)) w:=by kernel_rfl
theorem a_isNil121(a p:Addr)(W:World)(ha:W.cell? a=some (.pointer (some p))):
  (ReflectliteValue.method (ReflectliteValue.valueError "reflectlite.Value.IsNil" 0) ReflectliteValue.isNil #[.agg #[.pointer (some ⟨10, 178, none⟩), .pointer (some a), .int .u64 150]]).run Tryz.prog W = .ok (.bool false) W := by
 rw[a_rlm];simp only[Sem.run_bind,a_parts121,Result.andThen];simp[ReflectliteValue.isNil,loadVar,isAgg,underlying,Tryz.underlying178,ha,Result.andThen]
theorem a_methodKind (h : Value) (w : World) : (Go.method 435 266 (.agg #[h]) "Kind").run Tryz.prog w = .ok (260, h) w := by kernel_rfl
theorem a_methodElem (h : Value) (w : World) : (Go.method 435 266 (.agg #[h]) "Elem").run Tryz.prog w = .ok (279, .agg #[h]) w := by kernel_rfl
theorem a_methodImplements (h : Value) (w : World) : (Go.method 435 266 (.agg #[h]) "Implements").run Tryz.prog w = .ok (280, .agg #[h]) w := by kernel_rfl
theorem a_methodAssignableTo (h : Value) (w : World) : (Go.method 435 266 (.agg #[h]) "AssignableTo").run Tryz.prog w = .ok (277, .agg #[h]) w := by kernel_rfl
theorem a_elem121(w:World):(ReflectliteType.method ReflectliteType.elem #[.agg #[.pointer (some ⟨10,178,none⟩)]]).run Tryz.prog w= .ok (.iface 266 (.agg #[.pointer (some ⟨10,176,none⟩)])) w:=by kernel_rfl
theorem a_implements119 (w : World) : (ReflectliteType.relation "Implements" ReflectliteType.implements_ #[.agg #[.pointer (some ⟨10, 176, none⟩)], .iface 266 (.agg #[.pointer (some ⟨10, 132, none⟩)])]).run Tryz.prog w = .ok (.bool true) w := by kernel_rfl
theorem a_typeOf119(v:Value)(w:World):(ReflectliteType.typeOf #[.iface 176 v]).run Tryz.prog w= .ok (.iface 266 (.agg #[.pointer (some ⟨10,176,none⟩)])) w:=by kernel_rfl
theorem a_assignable119 (w : World) : (ReflectliteType.relation "AssignableTo" ReflectliteType.assignableTo #[.agg #[.pointer (some ⟨10, 176, none⟩)], .iface 266 (.agg #[.pointer (some ⟨10, 176, none⟩)])]).run Tryz.prog w = .ok (.bool true) w := by kernel_rfl
theorem a_valueOf119(s:ByteArray)(w:World):(ReflectliteValue.unpack (.iface 176 (.agg #[.string s]))).run Tryz.prog w
  = .ok (.agg #[.pointer (some ⟨10,176,none⟩),.pointer (some ⟨w.heap.size,0,none⟩),.int .u64 153]) (w.alloc (.cells #[.string s] 176)):=by kernel_rfl
theorem a_elemOf121(w:World):(Rtype.elem? 178).run Tryz.prog w= .ok (some 176) w:=by kernel_rfl
theorem a_mk119(p:Addr)(w:World):(ReflectliteValue.mk 176 p ReflectliteValue.flagAddr).run Tryz.prog w= .ok (.agg #[.pointer (some ⟨10,176,none⟩),.pointer (some p),.int .u64 409]) w:=by kernel_rfl
theorem a_elemV121(a p:Addr)(W:World)(ha:W.cell? a=some (.pointer (some p))):
  (ReflectliteValue.method (ReflectliteValue.valueError "reflectlite.Value.Elem" 0) ReflectliteValue.elem #[.agg #[.pointer (some ⟨10, 178, none⟩), .pointer (some a), .int .u64 150]]).run Tryz.prog W
   = .ok (.agg #[.pointer (some ⟨10,176,none⟩),.pointer (some p),.int .u64 409]) W:=by
 rw[a_rlm];simp only[Sem.run_bind,a_parts121,Result.andThen];simp[ReflectliteValue.elem,loadVar,isAgg,underlying,Tryz.underlying178,ha,Result.andThen,a_elemOf121,a_mk119]
theorem a_rls(v x:Value):ReflectliteValue.set #[v,x]=(do
  let (some (dst,a,fl),some (src,b,_)):=(←ReflectliteValue.parts v,←ReflectliteValue.parts x)
   | unsupported (.noEntry "extern/(internal/reflectlite.Value).Set.zeroValue")
  if fl / ReflectliteValue.flagAddr % 2 == 0 then unsupported (.noEntry "extern/(internal/reflectlite.Value).Set.unaddressable")
  let val←loadVar src b
  if←Rtype.directlyAssignable dst src then storeVar dst a val
  else if←Rtype.implements dst src then
   if(←Rtype.kind src)==20 then
    match val with
    | .nilIface => unsupported (.noEntry "extern/reflectlite: a nil value of one interface type handed on as a value of another")
    | _=>storeVar dst a val
   else storeVar dst a (.iface src val)
  else panicString ("reflectlite.Set: value of type " ++ (← Rtype.spelt src) ++ " is not assignable to type " ++ (← Rtype.spelt dst))
  pure (.tuple #[])):=rfl
theorem a_parts119a(a:Addr)(w:World):(ReflectliteValue.parts (.agg #[.pointer (some ⟨10,176,none⟩),.pointer (some a),.int .u64 409])).run Tryz.prog w= .ok (some (176,a,409)) w:=by kernel_rfl
theorem a_parts119(a:Addr)(w:World):(ReflectliteValue.parts (.agg #[.pointer (some ⟨10,176,none⟩),.pointer (some a),.int .u64 153])).run Tryz.prog w= .ok (some (176,a,153)) w:=by kernel_rfl
theorem a_direct119(w:World):(Rtype.directlyAssignable 176 176).run Tryz.prog w= .ok true w:=by kernel_rfl
theorem a_size119(w:World):(sizeOf 176).run Tryz.prog w= .ok 1 w:=by kernel_rfl
theorem a_load119(b:Addr)(s:ByteArray)(W:World)(hb:W.cell? b=some (.string s))(hs:b.spot=none):(loadVar 176 b).run Tryz.prog W= .ok (.agg #[.string s]) W:=by
 obtain⟨bb,bo,bs⟩:=b;subst hs;simp[loadVar,isAgg,underlying,Tryz.underlying176,a_size119,loadCells,loadCellsFrom,Addr.add,hb,Result.andThen]
theorem a_set119(ta b:Addr)(s:ByteArray)(old:Value)(W:World)(hb:W.cell? b=some (.string s))(hs:b.spot=none)(ht:W.cell? ta=some old)(hts:ta.spot=none)(hf:W.frozen? ta=false):
  (ReflectliteValue.set #[.agg #[.pointer (some ⟨10, 176, none⟩), .pointer (some ta), .int .u64 409], .agg #[.pointer (some ⟨10, 176, none⟩), .pointer (some b), .int .u64 153]]).run Tryz.prog W
   = .ok (.tuple #[]) (W.setCell ta (.string s)):=by
 obtain⟨tb,tq,ts⟩:=ta;subst hts;rw[a_rls];simp only[Sem.run_bind,a_parts119a,a_parts119,Result.andThen];have hl:=a_load119 b s W hb hs;have hd:=a_direct119 W;simp[ReflectliteValue.flagAddr,hl,hd,storeVar,Value.cells,storeCells,Addr.add,a_size119,Result.andThen];rw[run_store Tryz.prog W ⟨tb,tq,none⟩ _ _ (by rfl)];simp[ht,hf]
end Go.Cx
end
section
namespace Go.Cx
open Go Go.Proofs Go.RowKit Go.Extern.Stop Go.Stop Go.Extern Go.Shelf
set_option maxRecDepth 100000 in
set_option maxHeartbeats 4000000 in
theorem as_hit(s:ByteArray)(t:Addr)(old:Value)(w:World)(hg:w.cell? ⟨0,0,none⟩=some (.iface 266 (.agg #[.pointer (some ⟨10,132,none⟩)])))(hts:t.spot=none)(ht0:w.cell? t=some old)(hf0:w.frozen? t=false):
  Calls Tryz.prog 126 #[.iface 176 (.agg #[.string s]),.iface 178 (.pointer (some t))] w fun ev w'=>ev= .returned (.bool true)∧w'=((((w.alloc (.cells #[.pointer (some t)] 178)).alloc (.cells #[.pointer (some ⟨10,178,none⟩),.pointer (some ⟨w.heap.size,0,none⟩),.int .u64 150] 226)).alloc (.cells #[.pointer (some ⟨10,178,none⟩),.pointer (some ⟨w.heap.size,0,none⟩),.int .u64 150] 226)).alloc (.cells #[.string s] 176)).setCell t (.string s):=by
 have h6:= @run_callFunc_extern Tryz.prog 171 _ (fun args=>ReflectliteValue.unpack (args.getD 0 (.tuple #[]))) Tryz.func171 (by kernel_rfl) (by kernel_rfl) (by kernel_rfl) (by kernel_rfl)
 have h7 := @run_callFunc_extern Tryz.prog 172 _ (ReflectliteValue.methodAny (ReflectliteValue.valueError "reflectlite.Value.Type" 0) (fun t _ _ _ => ReflectliteType.toType t)) Tryz.func172 (by kernel_rfl) (by kernel_rfl) (by kernel_rfl) (by kernel_rfl)
 have h8 := @run_callFunc_extern Tryz.prog 173 _ (ReflectliteValue.method (ReflectliteValue.valueError "reflectlite.Value.IsNil" 0) ReflectliteValue.isNil) Tryz.func173 (by kernel_rfl) (by kernel_rfl) (by kernel_rfl) (by kernel_rfl)
 have h27:= @run_callFunc_extern Tryz.prog 260 _ (ReflectliteType.abiMethod fun t=>do pure (.int .u8 (←Rtype.kind t))) Tryz.func260 (by kernel_rfl) (by kernel_rfl) (by kernel_rfl) (by kernel_rfl);have h37:= @run_callFunc_extern Tryz.prog 279 _ (ReflectliteType.method ReflectliteType.elem) Tryz.func279 (by kernel_rfl) (by kernel_rfl) (by kernel_rfl) (by kernel_rfl)
 have h38 := @run_callFunc_extern Tryz.prog 280 _ (ReflectliteType.relation "Implements" ReflectliteType.implements_) Tryz.func280 (by kernel_rfl) (by kernel_rfl) (by kernel_rfl) (by kernel_rfl)
 have h10:= @run_callFunc_extern Tryz.prog 207 _ ReflectliteType.typeOf Tryz.func207 (by kernel_rfl) (by kernel_rfl) (by kernel_rfl) (by kernel_rfl)
 have h35 := @run_callFunc_extern Tryz.prog 277 _ (ReflectliteType.relation "AssignableTo" ReflectliteType.assignableTo) Tryz.func277 (by kernel_rfl) (by kernel_rfl) (by kernel_rfl) (by kernel_rfl)
 have h11 := @run_callFunc_extern Tryz.prog 208 _ (ReflectliteValue.method (ReflectliteValue.valueError "reflectlite.Value.Elem" 0) ReflectliteValue.elem) Tryz.func208 (by kernel_rfl) (by kernel_rfl) (by kernel_rfl) (by kernel_rfl)
 have h12:= @run_callFunc_extern Tryz.prog 209 _ ReflectliteValue.set Tryz.func209 (by kernel_rfl) (by kernel_rfl) (by kernel_rfl) (by kernel_rfl);have tO:=a_typeOf119;have mA:=a_methodAssignableTo;have a25:=a_assignable119;have v25:=a_valueOf119;have f6:=a_valueOf121;have f7:=a_type121;have mK:=a_methodKind;have mE:=a_methodElem;have mI:=a_methodImplements;have k27:=a_kind121;have k25:=a_kind119;have e27:=a_elem121;have i25:=a_implements119;have n8:=a_isNil121 ⟨w.heap.size,0,none⟩ t ((w.alloc (.cells #[.pointer (some t)] 178)).alloc (.cells #[.pointer (some ⟨10,178,none⟩),.pointer (some ⟨w.heap.size,0,none⟩),.int .u64 150] 226)) (by simp)
 have hlt:0<w.heap.size:=by
  rcases Nat.eq_zero_or_pos w.heap.size with h0 | h
  ·simp[World.cell?,h0]at hg
  ·exact h
 have hg2:((w.alloc (.cells #[.pointer (some t)] 178)).alloc (.cells #[.pointer (some ⟨10,178,none⟩),.pointer (some ⟨w.heap.size,0,none⟩),.int .u64 150] 226)).cell? ⟨0,0,none⟩=some (.iface 266 (.agg #[.pointer (some ⟨10,132,none⟩)])):=by
  rw[World.cell?_alloc_lt _ _ ⟨0,0,none⟩ (by simp),World.cell?_alloc_lt _ _ ⟨0,0,none⟩ hlt];exact hg
 have htl:t.block<w.heap.size:=by
  rcases Nat.lt_or_ge t.block w.heap.size with h | h
  ·exact h
  ·simp[World.cell?,Array.getElem?_eq_none h]at ht0
 have el:=a_elemV121 ⟨w.heap.size,0,none⟩ t (((w.alloc (.cells #[.pointer (some t)] 178)).alloc (.cells #[.pointer (some ⟨10,178,none⟩),.pointer (some ⟨w.heap.size,0,none⟩),.int .u64 150] 226)).alloc (.cells #[.pointer (some ⟨10,178,none⟩),.pointer (some ⟨w.heap.size,0,none⟩),.int .u64 150] 226)) (by rw[World.cell?_alloc_lt _ _ ⟨w.heap.size,0,none⟩ (by simp;omega)];simp)
 have st:=a_set119 t ⟨w.heap.size+1+1+1,0,none⟩ s old ((((w.alloc (.cells #[.pointer (some t)] 178)).alloc (.cells #[.pointer (some ⟨10,178,none⟩),.pointer (some ⟨w.heap.size,0,none⟩),.int .u64 150] 226)).alloc (.cells #[.pointer (some ⟨10,178,none⟩),.pointer (some ⟨w.heap.size,0,none⟩),.int .u64 150] 226)).alloc (.cells #[.string s] 176))
  (by rw[World.cell?_alloc_at _ _ _ _ (by simp)];rfl) rfl
  (by rw[World.cell?_alloc_lt _ _ t (by simp;omega),World.cell?_alloc_lt _ _ t (by simp;omega),World.cell?_alloc_lt _ _ t (by simp;omega),World.cell?_alloc_lt _ _ t htl];exact ht0) hts
  (by rw[World.frozen?_alloc_old _ _ t (by simp;omega),World.frozen?_alloc_old _ _ t (by simp;omega),World.frozen?_alloc_old _ _ t (by simp;omega),World.frozen?_alloc_old _ _ t (Nat.ne_of_lt htl)];exact hf0)
 have e175:∀args w,(callFunc 174 args).run Tryz.prog w= .ok (.enter 174 args) w:=enters_of Tryz.func174 (by kernel_rfl) rfl
 go_enter Tryz.func126,Tryz.ntmps126
 go_wp2
 refine wp_loop_rounds 1 ?_;rw[rounds_succ]
 go_wp2
 go_ret
 exact⟨rfl,rfl⟩
end Go.Cx
end
noncomputable section
namespace Go.Cx
open Go Go.Ab Go.Proofs Go.RowKit
def h100:U→Lk→Nat→(Value→Lk→Nat→Prop)→Prop:=fun args m n K=>match args with
 | [.nilIface,_]=>K (.bool false) m n
 | [.iface t (.agg ⟨[.string s]⟩),.iface t' (.pointer (some ⟨k,0,some _⟩))]=>match Nat.beq t 176,Nat.beq t' 178,m k with
  | true,true,some ⟨[.string _],ty,true⟩=>match Nat.ble itTy ty with
   | false=>K (.bool true) (m.upd k ⟨[.string s],ty,true⟩) n
   | true=>False
  | _,_,_=>False
 | _=>False
theorem c100:ja6 Tryz.prog 126:=⟨_,Tryz.func126,by kernel_rfl,rfl⟩
theorem tab_as{w:World}(h:TabsIn w.heap.size w):w.cell? ⟨0,0,none⟩=some (.iface 266 (.agg #[.pointer (some ⟨10,132,none⟩)])):=
 h.cell (b:=0) rfl (i:=0) rfl
theorem gen100:jef Tryz.prog 126 h100:=by
 refine⟨c100,fun args m n K hh N w0 ι w hrel hwf hargs=> ?_⟩;unfold h100 at hh;split at hh
 ·rename_i t;refine(as_nil (ren ι t) w).mono fun e w' ⟨h1,h2⟩=> ?_
  subst h2;exact⟨.bool false,m,n,ι,by rw[h1];rfl,hh,Nat.le_refl _,fun _ _=>rfl,hrel,hwf,by simp[ids]⟩
 ·rename_i t s t' k sp;split at hh
  case h_2=>exact hh.elim
  rename_i old ty ht ht' hk;split at hh
  case h_2=>exact hh.elim
  rename_i hty;have ht:=jah ht;have ht':=jah ht';subst ht ht';obtain⟨h1,h2,h3⟩:=hrel.blk k _ hk rfl;rw[objOf_cells hty]at h3
  have e1:([.iface 176 (.agg ⟨[.string s]⟩),.iface 178 (.pointer (some ⟨k,0,some sp⟩))]:U).map (ren ι)=[.iface 176 (.agg ⟨[.string s]⟩),.iface 178 (.pointer (some ⟨(ι k).1,0,none⟩))]:=by
   simp[ren,renL,ren1,h1]
  rw[e1]
  have hc:w.cell? ⟨(ι k).1,0,none⟩=some (.string old):=by
   simp only[World.cell?,h3];rfl
  have hf:w.frozen? ⟨(ι k).1,0,none⟩=false:=by
   simp[World.frozen?,h3]
  refine(as_hit s ⟨(ι k).1,0,none⟩ (.string old) w (tab_as hrel.tabs) rfl hc hf).mono fun e w' ⟨g1,g2⟩=> ?_
  have hb:Below w.heap.size w ((((w.alloc (.cells #[.pointer (some ⟨(ι k).1,0,none⟩)] 178)).alloc (.cells #[.pointer (some ⟨10,178,none⟩),.pointer (some ⟨w.heap.size,0,none⟩),.int .u64 150] 226)).alloc (.cells #[.pointer (some ⟨10,178,none⟩),.pointer (some ⟨w.heap.size,0,none⟩),.int .u64 150] 226)).alloc (.cells #[.string s] 176)):=
   ((((Below.refl _ _).alloc (Nat.le_refl _) _).alloc (by simp) _).alloc (by simp;omega) _).alloc (by simp;omega) _
  have hr:=hrel.grow hb;obtain⟨_,_,h4⟩:=hr.blk k _ hk rfl;rw[objOf_cells hty]at h4;have hw:=hr.write hk rfl (b':=⟨[.string s],ty,true⟩) rfl rfl rfl (it_ble hty);refine⟨.bool true,_,n,ι,by rw[g1];rfl,hh,Nat.le_refl _,fun _ _=>rfl,?_,fun j b hj=> ?_,by simp[ids]⟩
  ·rw[g2,setCell_eq_setRow _ _ _ _ _ _ _ h4];exact hw
  ·by_cases e:j=k
   ·subst e;rw[Lk.upd_same]at hj;cases hj;exact⟨(hwf j _ hk).1,by simp[idsL,ids]⟩
   ·rw[Lk.upd_other _ _ e]at hj;exact hwf j b hj
 ·exact hh.elim
end Go.Cx
end
noncomputable section
namespace Go.Cx
open Go Go.Ab Go.Proofs Go.Shelf Go.Px Go.Cv
end Go.Cx
end
noncomputable section
set_option maxHeartbeats 3200000
namespace Go.Cx
open Go Go.Ab Go.Proofs Go.Shelf Go.Px Go.Cv
open Go.Fx (Ty Vl jde jc0 most base pw bnd Fit fits tv vv tup V0 T0 jch jcl jb8 jdk str0)
instance tabsT:Tabs:=tabs
def bitW0(t:Ty):Int:=if t.k=2 then t.p else(332*(t.p-t.q)+99)/100
def scal(t:Ty):Int:=if t.k=6 then 5 else chk4 t
def numT(t:Ty):Bool:=t.k==5&&pN (bz t.s)
def piT(t:Ty):Ty:=⟨tyK (bz t.s),tyP (bz t.s),pQ (bz t.s),false,⟨#[]⟩⟩
def bwT(t:Ty):Int:=if t.k=1∨t.k=2 then bitW0 t else if numT t=true then bitW0 (piT t)else if t.k=5 then pW (bz t.s)else t.p
def bitT(t:Ty):Ty:=if scal t≠0 then T0 else⟨4,min 64 (bwT t),0,false,⟨#[]⟩⟩
def sz63(t:Ty):Prop:=t.s.size≤9223372036854775807
instance (t:Ty):Decidable (sz63 t):=by unfold sz63;infer_instance
def s43(t:Ty):Bool×Value:=(decide (sz63 t),.tuple ⟨[Fx.tv (bitT t),I (scal t)]⟩)
instance tabsT1:Tabs:=tabs
end Go.Cx
end
section
namespace Go.Fg
section
variable {α : Type} (d : α → Bool)
def grp:List α→List (List α)×List α
 | []=>([],[])
 | f::r=>match d f with
  | true=>([f]::(grp r).1,(grp r).2)
  | false=>match (grp r).1 with
   | g::gs=>((f::g)::gs,(grp r).2)
   | []=>([],f::(grp r).2)
def plc:List α→Nat→List Nat
 | [],_=> []
 | f::r,i=>match d f with
  | true=>i::plc r (i+1)
  | false=>plc r (i+1)
def itL(l:List α)(i:Nat):List α:=(if i%(grp d l).1.length=0∧0<i then(grp d l).2 else [])++(grp d l).1.getD (i%(grp d l).1.length) []
theorem jcc:∀l:List α,(grp d l).1.flatten++(grp d l).2=l
 | []=>rfl
 | f::r=>by
  have ih:=jcc r;unfold grp;cases d f with
  | true=>simp[ih]
  | false=>
   cases hg:(grp d r).1 with
   | nil=>simp only[hg,List.flatten_nil,List.nil_append]at ih;simp[ih]
   | cons g gs=>simp only[hg,List.flatten_cons,List.append_assoc]at ih;simp[ih]
theorem grp_ne:∀(l:List α),∀g∈(grp d l).1,g≠ []
 | [],g,h=>by cases h
 | f::r,g,h=>by
  have ih:=grp_ne r;unfold grp at h;cases hd:d f with
  | true=>
   simp only[hd,List.mem_cons]at h;rcases h with rfl | h
   ·simp
   ·exact ih g h
  | false=>
   cases hg:(grp d r).1 with
   | nil=>simp[hd,hg]at h
   | cons g' gs=>
    simp only[hd,hg,List.mem_cons]at h;rcases h with rfl | h
    ·simp
    ·exact ih g (by rw[hg];exact List.mem_cons_of_mem _ h)
theorem jeu:∀l:List α,(grp d l).1.length=l.countP d
 | []=>rfl
 | f::r=>by
  have ih:=jeu r;unfold grp;cases hd:d f with
  | true=>simp[hd,ih]
  | false=>
   cases hg:(grp d r).1 with
   | nil=>simp only[hg,List.length_nil]at ih;simp[hd,←ih]
   | cons g gs=>simp only[hg,List.length_cons]at ih;simp[hd,←ih]
theorem jhy:∀(l:List α)(i:Nat),(plc d l i).length=l.countP d
 | [],_=>rfl
 | f::r,i=>by
  have ih:=jhy r (i+1);unfold plc;cases hd:d f<;>simp[hd,ih]
theorem jij:∀(l:List α)(i o:Nat),o<(grp d l).1.length→(plc d l i)[o]?=some (i+((grp d l).1.take (o+1)).flatten.length-1)
 | [],_,_,h=>by cases h
 | f::r,i,o,h=>by
  have ih:=jij r (i+1);unfold plc;unfold grp at h ⊢;cases hd:d f with
  | true=>
   simp only[hd,List.length_cons]at h ⊢;cases o with
   | zero=>simp
   | succ o=>
    have:=ih o (by omega);simp only[List.getElem?_cons_succ,this,List.take_succ_cons,List.flatten_cons,List.length_append,List.length_cons,List.length_nil,Option.some.injEq];omega
  | false=>
   cases hg:(grp d r).1 with
   | nil=>simp[hd,hg]at h
   | cons g gs=>
    simp only[hd,hg,List.length_cons]at h ih ⊢;have:=ih o (by omega);simp only[this,List.take_succ_cons,List.flatten_cons,List.length_append,List.length_cons,Option.some.injEq];omega
theorem jcb{β:Type}(G:List (List β))(o:Nat)(h:o<G.length):(G.take (o+1)).flatten=(G.take o).flatten++G.getD o []:=by
 rw[List.take_add_one,List.flatten_append];congr 1;rw[List.getElem?_eq_getElem h,List.getD_eq_getElem?_getD,List.getElem?_eq_getElem h];simp
theorem cut_gen{β:Type}{A B C l:List β}(h:A++B++C=l):(l.drop A.length).take B.length=B:=by
 subst h;rw[List.append_assoc,List.drop_left,List.take_left]
theorem drop_gen{β:Type}{A B l:List β}(h:A++B=l):l.drop A.length=B:=by
 subst h;exact List.drop_left
theorem grp_cut(l:List α)(o:Nat)(h:o<(grp d l).1.length):(l.drop ((grp d l).1.take o).flatten.length).take ((grp d l).1.getD o []).length=(grp d l).1.getD o []:=by
 have e:=jcc d l
 have e2:(grp d l).1.flatten=((grp d l).1.take (o+1)).flatten++((grp d l).1.drop (o+1)).flatten:=by
  rw[←List.flatten_append,List.take_append_drop]
 rw[jcb _ _ h]at e2;rw[e2,List.append_assoc]at e;exact cut_gen e
theorem jea(l:List α)(o:Nat)(h:o<(grp d l).1.length):1≤((grp d l).1.getD o []).length:=by
 have:=grp_ne d l ((grp d l).1.getD o []) (by rw[List.getD_eq_getElem?_getD,List.getElem?_eq_getElem h];simp);cases hq:(grp d l).1.getD o []with
 | nil=>exact absurd hq this
 | cons=>simp
theorem plc_own(l:List α)(o:Nat)(h:o<(grp d l).1.length):(plc d l 0)[o]?=some (((grp d l).1.take o).flatten.length+((grp d l).1.getD o []).length-1):=by
 have:=jij d l 0 o h;rw[this,jcb _ _ h,List.length_append,Nat.zero_add]
theorem plc_prev(l:List α)(o:Nat)(h:o<(grp d l).1.length)(h0:0<o):∃p,(plc d l 0)[o-1]?=some p∧p+1=((grp d l).1.take o).flatten.length:=by
 have h1:o-1<(grp d l).1.length:=by omega
 have e:=jij d l 0 (o-1) h1;rw[show o-1+1=o by omega]at e;refine⟨_,e,?_⟩;have:=jea d l (o-1) h1;have e2:=jcb (grp d l).1 (o-1) h1;rw[show o-1+1=o by omega]at e2;rw[e2,List.length_append];omega
theorem plc_last(l:List α)(h:0<(grp d l).1.length):∃p,(plc d l 0)[(grp d l).1.length-1]?=some p∧p+1=(grp d l).1.flatten.length∧l.drop (p+1)=(grp d l).2:=by
 have h1:(grp d l).1.length-1<(grp d l).1.length:=by omega
 have e:=jij d l 0 _ h1;rw[show(grp d l).1.length-1+1=(grp d l).1.length by omega,List.take_length]at e
 have q:1≤(grp d l).1.flatten.length:=by
  have:=jea d l 0 h;have e2:=jcb (grp d l).1 0 h
  have e3:(grp d l).1.flatten=((grp d l).1.take (0+1)).flatten++((grp d l).1.drop (0+1)).flatten:=by
   rw[←List.flatten_append,List.take_append_drop]
  rw[e2]at e3;rw[e3,List.length_append,List.length_append];omega
 refine⟨_,e,by omega,?_⟩;rw[show 0+(grp d l).1.flatten.length-1+1=(grp d l).1.flatten.length by omega];exact drop_gen (jcc d l)
variable {d} {l : List α}
theorem jjv{i:Nat}(h:0<(grp d l).1.length):itL d l i≠ []:=by
 have:=jea d l (i%(grp d l).1.length) (Nat.mod_lt _ h);intro e;have q:=congrArg List.length e;simp only[itL,List.length_append,List.length_nil]at q;omega
theorem it_len{i:Nat}:(itL d l i).length≤(itL d l (i+(grp d l).1.length)).length:=by
 unfold itL;rw[Nat.add_mod_right,List.length_append,List.length_append];split
 ·rw[if_pos (by omega)];omega
 ·simp
theorem last_app{β:Type}{a b:List β}(h:b≠ []):(a++b)[(a++b).length-1]?=b[b.length-1]?:=by
 have:0<b.length:=List.length_pos_iff.2 h;rw[List.getElem?_append_right (by simp;omega)];congr 1;simp;omega
theorem it_last{i:Nat}(h:0<(grp d l).1.length):(itL d l i)[(itL d l i).length-1]?=(itL d l (i+(grp d l).1.length))[(itL d l (i+(grp d l).1.length)).length-1]?:=by
 have:=jea d l (i%(grp d l).1.length) (Nat.mod_lt _ h)
 have hne:(grp d l).1.getD (i%(grp d l).1.length) []≠ []:=by
  intro e;rw[e]at this;simp at this
 unfold itL;rw[Nat.add_mod_right];rw[last_app hne,last_app hne]
theorem it_same{i:Nat}(h:0<i):itL d l (i+(grp d l).1.length)=itL d l i:=by
 unfold itL;rw[Nat.add_mod_right];congr 1;by_cases e:i%(grp d l).1.length=0
 ·rw[if_pos ⟨e,by omega⟩,if_pos ⟨e,h⟩]
 ·rw[if_neg (fun q=>e q.1),if_neg (fun q=>e q.1)]
def its(d:α→Bool)(l:List α):Nat→List α
 | 0=> []
 | n+1=>its d l n++itL d l n
theorem jfs:∀n,n≤(grp d l).1.length→its d l n=((grp d l).1.take n).flatten
 | 0,_=>by simp[its]
 | n+1,h=>by
  rw[its,jfs n (by omega),jcb _ _ (by omega)];congr 1;unfold itL;rw[Nat.mod_eq_of_lt (by omega)];rw[if_neg (by omega),List.nil_append]
theorem it_first:itL d l 0=(grp d l).1.getD 0 []:=by
 unfold itL;rw[if_neg (by omega),List.nil_append,Nat.zero_mod]
theorem it_k(h:0<(grp d l).1.length):itL d l (grp d l).1.length=(grp d l).2++itL d l 0:=by
 rw[it_first];unfold itL;rw[Nat.mod_self,if_pos ⟨rfl,h⟩]
theorem its_all(h:0<(grp d l).1.length):its d l (grp d l).1.length++(itL d l (grp d l).1.length).take ((itL d l (grp d l).1.length).length-(itL d l 0).length)=l:=by
 rw[jfs _ (Nat.le_refl _),List.take_length,it_k h,List.length_append,Nat.add_sub_cancel,List.take_left];exact jcc d l
theorem its_rest(h:0<(grp d l).1.length):(itL d l (grp d l).1.length).drop ((itL d l (grp d l).1.length).length-(itL d l 0).length)=itL d l 0:=by
 rw[it_k h];simp
end
end Go.Fg
end
noncomputable section
set_option maxHeartbeats 3200000
namespace Go.Ff
open Go Go.Ab Go.Proofs Go.Shelf Go.Px Go.Cv Go.Cx
def N0:Env:=(Env.nil.add 40 (sp1 Cx.s79))
def rdK(l:E):Bool:=l.all fun c=>decide (c=45∨48≤c∧c≤57∨c=46)
def rdG:E→Int→Bool→Int×Bool
 | [],n,g=>(n,g)
 | c::r,n,g=>if c=45 then rdG r n true else if 48≤c∧c≤57 then rdG r (IntKind.i64.wrap (IntKind.i64.wrap (10*n)+IntKind.i64.wrap (IntKind.u8.wrap (c-48)))) g else rdG r n g
def S9_0:LSpecA (Int×Bool×Int×Bool×Nat×Nat×Int×Int×U) where
 live:=[2,3,4,5,10,11,12]
 mid:=[6]
 n:=120
 ap:=[]
 dec vs bs:=match vs,bs with
  | [.int .i64 r,.bool rb,.int .i64 n,.bool gg,.slice (some ⟨6,0,some 1⟩) m cap,.int .i64 L,.int .i64 i],[some ⟨d,ty,false⟩]=>match Nat.beq ty 5 with | true=>some (r,rb,n,gg,m,cap,L,i,d) | false=>none
  | _,_=>none
 pre:=fun(r,rb,n,gg,m,cap,L,i,d)=>vwOK d m&&decide (L=m∧0≤i∧i≤m∧m≤1000000)
 fin:=fun(r,rb,n,gg,m,cap,L,i,d) Z=>bif rdK ((zc d m).drop i.toNat)then Z (.exit 0) [I r,B rb,I (rdG ((zc d m).drop i.toNat) n gg).1,B (rdG ((zc d m).drop i.toNat) n gg).2,.slice (some ⟨6,0,some 1⟩) m cap,I L,I L] [some ⟨d,5,false⟩]else∀n' g' i',Z .ret [I 0,B false,I n',B g',.slice (some ⟨6,0,some 1⟩) m cap,I L,I i'] [some ⟨d,5,false⟩]
theorem v9(s:Y)(R:Value→Prop):jbe Tryz.prog N0 (oneL 0 S9_0.hA) Tryz.f9 [Enc.enc s] (fun _=>none) 0 (fun v _ _=>R v)=(bif decide (s.size≤9223372036854775807)then∀(cap:Nat),Nat.ble (szO (trZ (tlZ (bz s) 32) 32)).size cap=true→bif jau [] (Lib.strCells (szO (trZ (tlZ (bz s) 32) 32))) &&true&&true&& (jax 120 (rlbL [] (Lib.strCells (szO (trZ (tlZ (bz s) 32) 32)))) &&true)then bif LSpec.pre (LSpecA.toLSpec S9_0) (0,false,0,false,(szO (trZ (tlZ (bz s) 32) 32)).size,cap,natO (szO (trZ (tlZ (bz s) 32) 32)).size,0,rlbL [] (Lib.strCells (szO (trZ (tlZ (bz s) 32) 32))))then bif rdK (List.drop (Int.toNat 0) (zc (rlbL [] (Lib.strCells (szO (trZ (tlZ (bz s) 32) 32)))) (szO (trZ (tlZ (bz s) 32) 32)).size))then bif jax 120 (rlbL [] (Lib.strCells (szO (trZ (tlZ (bz s) 32) 32)))) &&true then∀(x:Tmps),bif (rdG (List.drop (Int.toNat 0) (zc (rlbL [] (Lib.strCells (szO (trZ (tlZ (bz s) 32) 32)))) (szO (trZ (tlZ (bz s) 32) 32)).size)) 0 false).2 then R (.tuple (.mk [I (IntKind.wrap .i64 (0-(rdG (List.drop (Int.toNat 0) (zc (rlbL [] (Lib.strCells (szO (trZ (tlZ (bz s) 32) 32)))) (szO (trZ (tlZ (bz s) 32) 32)).size)) 0 false).1)),B true]))else R (.tuple (.mk [I (rdG (List.drop (Int.toNat 0) (zc (rlbL [] (Lib.strCells (szO (trZ (tlZ (bz s) 32) 32)))) (szO (trZ (tlZ (bz s) 32) 32)).size)) 0 false).1,B true]))else False else∀(n':Int)(g':Bool)(i':Int),bif jax 120 (rlbL [] (Lib.strCells (szO (trZ (tlZ (bz s) 32) 32)))) &&true then∀(x:Tmps),R (.tuple (.mk [I 0,B false]))else False else False else False else False):=by kernel_rfl
end Go.Ff
end
noncomputable section
namespace Go.Cx
open Go Go.Ab Go.Px Go.Cv
end Go.Cx
end
noncomputable section
namespace Go.Cx
open Go Go.Ab Go.Px Go.Cv
open Go.Fx (Ty Vl jde jc0 most base pw bnd Fit fits)
end Go.Cx
end
noncomputable section
namespace Go.Cx
open Go Go.Ab Go.Px Go.Cv
open Go.Fx (Ty Vl jde jc0 most base pw bnd Fit fits scl cutN cutC InB)
end Go.Cx
end
noncomputable section
namespace Go.Ff
open Go Go.Ab Go.Proofs Go.Shelf Go.RowKit
section
variable {P : Program} {ρ : Ren}
set_option maxHeartbeats 1000000 in
set_option maxRecDepth 100000 in
theorem chk_fresh(L:Lays.n240 P ρ)(X:Builder.X72 P ρ){e:TypeId}{cells:Nat}(b:Nat)(w:World)(h0:w.cell? ⟨b,0,none⟩=some (.pointer none))(hsh:w.shape? b=some (e,cells))(hlt:0<cells)
  (hlies:liesAt P P.depth e (cells/P.cellsOf e) 0 (ρ.t 72) 1=true) (hfz:w.frozen? ⟨b,0,none⟩=false):
  Calls P (ρ.f 240) #[.pointer (some ⟨b,0,none⟩)] w fun e w'=>e= .returned (.tuple #[])∧w'=w.setCell ⟨b,0,none⟩ (.pointer (some ⟨b,0,none⟩)):=by
 obtain⟨j,hj,hjs⟩:=Option.map_eq_some_iff.1 X.sizeBuilder;have mixed:=L.mixed;have t72:=L.t72;have a72:=L.a72;have z72:=L.z72;have v72:=L.v72;have u72:=run_underlying L.t72;have t70:=L.t70;have a70:=L.a70;have z70:=L.z70;have v70:=L.v70;have u70:=run_underlying L.t70;have t9:=L.t9;have a9:=L.a9;have z9:=L.z9;have v9:=L.v9;have u9:=run_underlying L.t9;have t4:=L.t4;have a4:=L.a4;have z4:=L.z4;have v4:=L.v4;have u4:=run_underlying L.t4;have t164:=L.t164;have a164:=L.a164;have z164:=L.z164;have v164:=L.v164;have u164:=run_underlying L.t164
 go_enter L.f240,Body.n240_ntmps ρ
 go_wp2
 rw[Lib.run_to_unsafe w ⟨b,0,none⟩ L.t70 L.t164 hj (by rw[hjs];decide) hsh hlt];simp only[Result.andThen];rw[Oper.upon_value]
 go_wp2
 rw[run_callFunc_extern L.f276 (by kernel_rfl) (by kernel_rfl) (by kernel_rfl) (e:=Extern.AbiNoEscape.same) (by kernel_rfl)];rw[Lib.run_noEscape];simp only[Result.andThen];rw[Oper.upon_value]
 go_wp2
 rw[Lib.run_from_unsafe w ⟨b,0,none⟩ L.t164 L.t70 hj hsh hlies];simp only[Result.andThen];rw[Oper.upon_value]
 go_wp2
 go_end0
 exact⟨rfl,rfl⟩
set_option maxHeartbeats 1000000 in
set_option maxRecDepth 100000 in
theorem str_row(L:Lays.n169 P ρ)(X:Builder.Extra P ρ)(b g cap:Nat)(cur:Array Value)(l:O)(w:World)(h0:l≠ [])
  (hb:w.cell? ⟨b,1,none⟩=some (.slice (some ⟨g,0,none⟩) l.length cap)) (hg:w.shape? g=some (ρ.t 5,cur.size)) (hcap:cap≠0) (hl:l.length≤cur.size) (h63:l.length≤9223372036854775807)
  (hc:∀j x,l[j]?=some x→w.cell? ((⟨g,0,none⟩:Addr).add j)=some (.int .u8 x.toNat)):
  Calls P (ρ.f 169) #[.pointer (some ⟨b,0,none⟩)] w fun e w'=>e= .returned (.string ⟨l.toArray⟩)∧w'=w.drew.freeze ⟨g,0,none⟩ l.length:=by
 have c1:w.drew.cell? ⟨b,1,none⟩=some (.slice (some ⟨g,0,none⟩) l.length cap):=hb
 have hSD:(Builtin.unsafeSliceData_ #[(ρ.t 37)] (ρ.t 127) #[.slice (some ⟨g,0,none⟩) l.length cap]).run P w.drew= .ok (.pointer (some ⟨g,0,none⟩)) w.drew:=
  Lib.run_unsafeSliceData_row _ _ _ _ _ _ (by omega)
 have hUS:(Builtin.unsafeString_ #[(ρ.t 127),(ρ.t 3)] (ρ.t 9) #[.pointer (some ⟨g,0,none⟩),.int .i64 l.length]).run P w.drew= .ok (.string ⟨l.toArray⟩) (w.drew.freeze ⟨g,0,none⟩ l.length):=
  Lib.run_unsafeString_row w.drew (ρ.t 127) (ρ.t 3) (ρ.t 9) (ρ.t 5) L.t127 X.cellsByte g cur.size hg l h0 hl h63 hc
 have mixed:=L.mixed;have t72:=L.t72;have a72:=L.a72;have z72:=L.z72;have v72:=L.v72;have u72:=run_underlying L.t72;have t70:=L.t70;have a70:=L.a70;have z70:=L.z70;have v70:=L.v70;have u70:=run_underlying L.t70;have t37:=L.t37;have a37:=L.a37;have z37:=L.z37;have v37:=L.v37;have u37:=run_underlying L.t37;have t127:=L.t127;have a127:=L.a127;have z127:=L.z127;have v127:=L.v127;have u127:=run_underlying L.t127;have t3:=L.t3;have a3:=L.a3;have z3:=L.z3;have v3:=L.v3;have u3:=run_underlying L.t3;have t9:=L.t9;have a9:=L.a9;have z9:=L.z9;have v9:=L.v9;have u9:=run_underlying L.t9;have t5:=X.t5;have a5:=X.a5;have z5:=X.z5;have v5:=X.v5;have u5:=run_underlying X.t5
 go_enter L.f169,Body.n169_ntmps ρ
 go_wp2
 go_region_o
 all_goals (go_wp2;go_ret;exact⟨rfl,rfl⟩)
set_option maxHeartbeats 2000000 in
set_option maxRecDepth 100000 in
theorem str_nil(L:Lays.n169 P ρ)(X:Builder.Extra P ρ)(b:Nat)(w:World)(hb:w.cell? ⟨b,1,none⟩=some (.slice none 0 0)):
  Calls P (ρ.f 169) #[.pointer (some ⟨b,0,none⟩)] w fun e w'=>e= .returned (.string ⟨#[]⟩)∧w'=w.drew:=by
 have hUS:=Any.unsafeString_none L X;have c1:w.drew.cell? ⟨b,1,none⟩=some (.slice none 0 0):=hb;have hSD:(Builtin.unsafeSliceData_ #[(ρ.t 37)] (ρ.t 127) #[.slice none 0 0]).run P w.drew= .ok (.pointer none) w.drew:=rfl;have mixed:=L.mixed;have t72:=L.t72;have a72:=L.a72;have z72:=L.z72;have v72:=L.v72;have u72:=run_underlying L.t72;have t70:=L.t70;have a70:=L.a70;have z70:=L.z70;have v70:=L.v70;have u70:=run_underlying L.t70;have t37:=L.t37;have a37:=L.a37;have z37:=L.z37;have v37:=L.v37;have u37:=run_underlying L.t37;have t127:=L.t127;have a127:=L.a127;have z127:=L.z127;have v127:=L.v127;have u127:=run_underlying L.t127;have t3:=L.t3;have a3:=L.a3;have z3:=L.z3;have v3:=L.v3;have u3:=run_underlying L.t3;have t9:=L.t9;have a9:=L.a9;have z9:=L.z9;have v9:=L.v9;have u9:=run_underlying L.t9;have t5:=X.t5;have a5:=X.a5;have z5:=X.z5;have v5:=X.v5;have u5:=run_underlying X.t5
 go_enter L.f169,Body.n169_ntmps ρ
 go_wp2
 go_region_o
 all_goals (go_wp2;go_ret;exact⟨rfl,rfl⟩)
set_option maxHeartbeats 1000000 in
set_option maxRecDepth 100000 in
theorem len_at(L:Lays.n170 P ρ)(b:Nat){ao:J}{q cap:Nat}(w:World)(c1:w.cell? ⟨b,1,none⟩=some (.slice ao q cap)):
  Calls P (ρ.f 170) #[.pointer (some ⟨b,0,none⟩)] w fun e w'=>e= .returned (.int .i64 q)∧w'=w:=by
 have mixed:=L.mixed;have t72:=L.t72;have a72:=L.a72;have z72:=L.z72;have v72:=L.v72;have u72:=run_underlying L.t72;have t70:=L.t70;have a70:=L.a70;have z70:=L.z70;have v70:=L.v70;have u70:=run_underlying L.t70;have t37:=L.t37;have a37:=L.a37;have z37:=L.z37;have v37:=L.v37;have u37:=run_underlying L.t37;have t3:=L.t3;have a3:=L.a3;have z3:=L.z3;have v3:=L.v3;have u3:=run_underlying L.t3
 go_enter L.f170,Body.n170_ntmps ρ
 go_wp2
 go_ret
 exact⟨rfl,rfl⟩
end
section
variable [Tabs] {N : Nat} {w0 w : World} {m : Lk} {ι : Nm}
theorem RelM.drew(h:RelM N w0 m ι w):RelM N w0 m ι w.drew:=h.grow (Below.drew (Below.refl _ w))
theorem freezeN_heap(w:World)(a:Addr){n:Nat}(hn:n≠0)(j:Nat):(w.freeze a n).heap[j]?=if j=a.block then(w.heap[j]?).map (fun o=>match o with | .cells c el (lo,hi)=> .cells c el (if lo==hi then(a.off,a.off+n)else(min lo a.off,max hi (a.off+n))) | o=>o)else w.heap[j]?:=by
 unfold World.freeze;rw[if_neg hn];simp only[Array.getElem?_modify];by_cases h:a.block=j
 ·subst h;rw[if_pos rfl,if_pos rfl];cases w.heap[a.block]? with
  | none=>rfl
  | some o=>cases o<;>rfl
 ·rw[if_neg h,if_neg (fun q=>h q.symm)]
theorem freezeN_cell(w:World)(a p:Addr){n:Nat}(hn:n≠0):(w.freeze a n).cell? p=w.cell? p:=by
 unfold World.cell?;rw[freezeN_heap w a hn];by_cases h:p.block=a.block
 ·rw[if_pos h];cases hh:w.heap[p.block]? with
  | none=>rfl
  | some o=>
   cases o with
   | cells c el fr=>obtain⟨lo,hi⟩:=fr;rfl
   | _=>rfl
 ·rw[if_neg h]
theorem RelM.frozenN(h:RelM N w0 m ι w){k:Nat}{b:Blk}(hk:m k=some b)(ho:b.own=true)(hit:Nat.ble itTy b.ty=false)(q:Nat){n:Nat}(hn:n≠0):
  RelM N w0 (m.upd k ⟨b.c,b.ty,false⟩) ι (w.freeze ⟨(ι k).1,q,none⟩ n):=by
 obtain⟨g1,g2,g3⟩:=h.blk k b hk ho
 have hsz:(w.freeze ⟨(ι k).1,q,none⟩ n).heap.size=w.heap.size:=by
  unfold World.freeze;rw[if_neg hn];simp
 have hoth:∀j,j≠(ι k).1→(w.freeze ⟨(ι k).1,q,none⟩ n).heap[j]?=w.heap[j]?:=fun j hj=>by rw[freezeN_heap _ _ hn,if_neg hj]
 have hget:∀j c,m.upd k ⟨b.c,b.ty,false⟩ j=some c→(j=k∧c=⟨b.c,b.ty,false⟩)∨(j≠k∧m j=some c):=fun j c hj=>by
  by_cases e:j=k
  ·subst e;rw[Lk.upd_same]at hj;cases hj;exact .inl ⟨rfl,rfl⟩
  ·rw[Lk.upd_other _ _ e]at hj;exact .inr ⟨e,hj⟩
 refine⟨⟨?_,?_,?_,?_,?_⟩,h.base,?_,?_,?_⟩
 ·rw[←h.below.os];unfold World.freeze;rw[if_neg hn]
 ·rw[←h.below.tape];unfold World.freeze;rw[if_neg hn]
 ·rw[←h.below.output];unfold World.freeze;rw[if_neg hn]
 ·rw[hsz];exact h.below.size
 ·intro j hj;rw[hoth j (by omega)];exact h.below.block j hj
 ·intro j c hj hc;rcases hget j c hj with⟨_,rfl⟩ | ⟨e,hj⟩
  ·cases hc
  ·obtain⟨q1,q2,q3⟩:=h.blk j c hj hc;refine⟨q1,q2,?_⟩;rw[hoth _ (h.inj j k c b hj hk hc e)];exact q3
 ·intro j c hj hc;rcases hget j c hj with⟨rfl,rfl⟩ | ⟨e,hj⟩
  ·refine⟨by rw[hsz];exact h.lt hk ho,fun i v hv=> ?_⟩;rw[freezeN_cell _ _ _ hn,World.cell?,g3,objOf_cells hit,g1,Nat.zero_add];simp only[Option.isSome_none,Bool.false_eq_true,if_false];have hv:b.c[i]?=some v:=hv;simp[hv]
  ·obtain⟨q1,q2⟩:=h.view j c hj hc;refine⟨by rw[hsz];exact q1,fun i v hv=> ?_⟩;rw[freezeN_cell _ _ _ hn];exact q2 i v hv
 ·intro j j' c c' hj hj' hc hne;rcases hget j c hj with⟨_,rfl⟩ | ⟨e,hj1⟩
  ·cases hc
  ·rcases hget j' c' hj' with⟨e',_⟩ | ⟨e',hj2⟩
   ·exact h.inj j j' c b hj1 (by rw[e'];exact hk) hc hne
   ·exact h.inj j j' c c' hj1 hj2 hc hne
end
def jjj(b:Blk):Bool:=b.own&& (Nat.beq b.ty 93&&Nat.beq b.c.length 2 || Nat.beq b.ty 95&&Nat.beq b.c.length 3)
def h134:U→Lk→Nat→(Value→Lk→Nat→Prop)→Prop:=fun args m n K=>match args with
 | [.pointer (some ⟨k,0,some sp⟩)]=>match m k with
  | some b=>match jjj b,b.c with
   | true,.pointer none::r=>K (.tuple ⟨[]⟩) (m.upd k ⟨.pointer (some ⟨k,0,some sp⟩)::r,b.ty,true⟩) n
   | true,.pointer (some ⟨k',0,some _⟩)::_=>match Nat.beq k' k with
    | true=>K (.tuple ⟨[]⟩) m n
    | false=>False
   | _,_=>False
  | none=>False
 | _=>False
def isB8:U→Bool
 | []=>true
 | .int .u8 n::r=>decide (0≤n∧n<256) &&isB8 r
 | _=>false
def h54:U→Lk→Nat→(Value→Lk→Nat→Prop)→Prop:=fun args m n K=>match args with
 | [.pointer (some ⟨k,0,some _⟩)]=>match m k with
  | some b=>match jjj b,b.c with
   | true,_:: .slice none 0 0::_=>K (.string ⟨#[]⟩) m n
   | true,_:: .slice (some ⟨g,0,some _⟩) q cap::_=>match m g with
    | some d=>match d.own&& (Nat.beq d.ty 5&& (!Nat.beq q 0&& (Nat.ble q d.c.length&& (Nat.ble q 9223372036854775807&& (isB8 (d.c.take q) &&Nat.ble q cap)))))with
     | true=>K (.string (jcm d.c 0 q)) (m.upd g ⟨d.c,d.ty,false⟩) n
     | false=>False
    | none=>False
   | _,_=>False
  | none=>False
 | _=>False
theorem jft{b:Blk}(h:jjj b=true):b.own=true∧Nat.ble itTy b.ty=false∧0<b.c.length∧liesAt Tryz.prog Tryz.prog.depth b.ty (b.c.length/Tryz.prog.cellsOf b.ty) 0 93 1=true:=by
 unfold jjj at h;simp only[jaf,Bool.or_eq_true,Nat.beq_eq]at h;obtain⟨h1,⟨h2,h3⟩ | ⟨h2,h3⟩⟩:=h
 ·rw[h2,h3];exact⟨h1,rfl,by decide,by kernel_rfl⟩
 ·rw[h2,h3];exact⟨h1,rfl,by decide,by kernel_rfl⟩
theorem isB8_spec:∀{l:U},isB8 l=true→(jcs l).length=l.length∧ ∀(j:Nat)(x:UInt8),(jcs l)[j]?=some x→l[j]?=some (.int .u8 x.toNat)
 | [],_=>⟨rfl,fun j x h=>by simp[jcs]at h⟩
 | v::r,h=>by
  unfold isB8 at h;split at h
  ·rename_i heq;cases heq
  ·rename_i n r' heq;cases heq;simp only[jaf,jae]at h;obtain⟨⟨h1,h2⟩,h3⟩:=h;obtain⟨q1,q2⟩:=isB8_spec h3;refine⟨by simp[jcs,q1],fun j x hx=> ?_⟩;cases j with
   | zero=>
    simp only[jcs,List.getElem?_cons_zero,Option.some.injEq]at hx;subst hx;have:((UInt8.ofNat n.toNat).toNat:Int)=n:=by rw[UInt8.toNat_ofNat'];omega
    rw[this];rfl
   | succ j=>exact q2 j x (by simpa[jcs]using hx)
  ·cases h
variable [Tabs]
theorem gen134:jef Tryz.prog 134 h134:=by
 refine⟨⟨_,Tryz.func134,by kernel_rfl,rfl⟩,fun args m n K hh N w0 ι w hrel hwf hargs=> ?_⟩;unfold h134 at hh;split at hh
 case h_2=>exact hh.elim
 rename_i k sp;split at hh
 case h_2=>exact hh.elim
 rename_i b hk;have hargs':([.pointer (some ⟨k,0,some sp⟩)]:U).map (ren ι)=[.pointer (some ⟨(ι k).1,0,none⟩)]→True:=fun _=>trivial
 split at hh
 ·rename_i r hb hc;obtain⟨ho,hit,hpos,hlies⟩:=jft hb;obtain⟨g1,g2,g3⟩:=hrel.blk k b hk ho;rw[objOf_cells hit]at g3;have e1:([.pointer (some ⟨k,0,some sp⟩)]:U).map (ren ι)=[.pointer (some ⟨(ι k).1,0,none⟩)]:=by simp[ren,ren1,g1]
  rw[e1]
  have hc0:w.cell? ⟨(ι k).1,0,none⟩=some (.pointer none):=by
   rw[World.cell?,g3,hc];rfl
  have hfz:w.frozen? ⟨(ι k).1,0,none⟩=false:=by simp[World.frozen?,g3]
  have hsh:w.shape? (ι k).1=some (b.ty,b.c.length):=by simp[World.shape?,g3]
  refine(chk_fresh (P:=Tryz.prog) (ρ:=Tryz.lays105_ren) {Tryz.lays105 with} Tryz.Builder_Extra_105.toX72 (ι k).1 w hc0 hsh hpos hlies hfz).mono fun e w' ⟨h1,h2⟩=> ?_
  subst h2;have hw:=hrel.write hk ho (b':=⟨.pointer (some ⟨k,0,some sp⟩)::r,b.ty,true⟩) rfl rfl (by rw[hc];rfl) (it_ble hit);refine⟨.tuple ⟨[]⟩,_,n,ι,by rw[h1];simp[ren,renL],hh,Nat.le_refl _,fun _ _=>rfl,?_,fun j c hj=> ?_,by simp[ids,idsL]⟩
  ·rw[setCell_eq_setRow _ _ _ _ _ _ _ g3]
   have:(⟨(⟨.pointer (some ⟨k,0,some sp⟩)::r,b.ty,true⟩:Blk).c.map (ren ι)⟩:Array Value)=(⟨b.c.map (ren ι)⟩:Array Value).setIfInBounds 0 (.pointer (some ⟨(ι k).1,0,none⟩)):=by
    rw[hc];simp[ren,ren1,g1]
   rw[this]at hw;exact hw
  ·by_cases e:j=k
   ·subst e;rw[Lk.upd_same]at hj;cases hj;obtain⟨q1,q2⟩:=hwf j b hk;refine⟨q1,fun i hi=> ?_⟩;simp only[idsL,ids,List.singleton_append,List.mem_cons]at hi;rcases hi with rfl | hi
    ·exact q1
    ·exact q2 i (by rw[hc];simp only[idsL,ids,List.nil_append];exact hi)
   ·rw[Lk.upd_other _ _ e]at hj;exact hwf j c hj
 ·rename_i k' sp' r hb hc;split at hh
  case h_2=>exact hh.elim
  rename_i hkk;have hkk:=jah hkk;subst hkk;obtain⟨ho,hit,hpos,hlies⟩:=jft hb;obtain⟨g1,g2,g3⟩:=hrel.blk k' b hk ho;rw[objOf_cells hit]at g3;have e1:([.pointer (some ⟨k',0,some sp⟩)]:U).map (ren ι)=[.pointer (some ⟨(ι k').1,0,none⟩)]:=by simp[ren,ren1,g1]
  rw[e1]
  have hc0:w.cell? ⟨(ι k').1,0,none⟩=some (.pointer (some ⟨(ι k').1,0,none⟩)):=by
   rw[World.cell?,g3,hc];simp[ren,ren1,g1]
  refine(Any.Builder_copyCheck_used (P:=Tryz.prog) (ρ:=Tryz.lays105_ren) {Tryz.lays105 with} Tryz.Builder_Extra_105.toX72 (ι k').1 w hc0).mono fun e w' ⟨h1,h2⟩=> ?_
  subst h2;exact⟨.tuple ⟨[]⟩,m,n,ι,by rw[h1];simp[ren,renL],hh,Nat.le_refl _,fun _ _=>rfl,hrel,hwf,by simp[ids,idsL]⟩
 ·exact hh.elim
def s53:Ab.Spec:=fun args bs=>match args,bs with
 | [.pointer (some ⟨_,0,some _⟩)],[some b]=>match b.own&& !Nat.ble itTy b.ty,b.c with
  | true,_:: .slice _ q _::_=>some (true,.int .i64 (Int.ofNat q))
  | _,_=>none
 | _,_=>none
theorem ok53:jal Tryz.prog 53 s53:=by
 refine⟨⟨_,Tryz.func53,by kernel_rfl,rfl⟩,fun args v N w0 lk ι w hrel hs hp=> ?_⟩;unfold s53 at hs;split at hs
 case h_2=>cases hs
 rename_i k sp b hbs;have hb:blkOf lk (.pointer (some ⟨k,0,some sp⟩))=some b:=by simpa using hbs
 split at hs
 case h_2=>cases hs
 rename_i v0 ao q cap r ho hc;simp only[jaf,Bool.not_eq_true']at ho;simp only[Option.some.injEq,Prod.mk.injEq,true_and]at hs;subst hs;have hk:=(je1 hb).1;obtain⟨g1,g2,g3⟩:=hrel.blk k b hk ho.1;rw[objOf_cells ho.2]at g3;have e1:([.pointer (some ⟨k,0,some sp⟩)]:U).map (ren ι)=[.pointer (some ⟨(ι k).1,0,none⟩)]:=by simp[ren,ren1,g1]
 rw[e1]
 have hc1:∃ao',w.cell? ⟨(ι k).1,1,none⟩=some (.slice ao' q cap):=by
  rw[World.cell?,g3,hc];cases ao with
  | none=>exact⟨none,by simp[ren]⟩
  | some a=>exact⟨_,by simp[ren];rfl⟩
 obtain⟨ao',hc1⟩:=hc1;refine(len_at (P:=Tryz.prog) (ρ:=Tryz.lays105_ren) {Tryz.lays105 with} (ι k).1 w hc1).mono fun e w' ⟨h1,h2⟩=> ?_
 subst h2;exact⟨h1,Below.refl _ _⟩
theorem gen54:jef Tryz.prog 54 h54:=by
 refine⟨⟨_,Tryz.func54,by kernel_rfl,rfl⟩,fun args m n K hh N w0 ι w hrel hwf hargs=> ?_⟩;unfold h54 at hh;split at hh
 case h_2=>exact hh.elim
 rename_i k sp;split at hh
 case h_2=>exact hh.elim
 rename_i b hk;split at hh
 ·rename_i v0 r hb hc;obtain⟨ho,hit,hpos,hlies⟩:=jft hb;obtain⟨g1,g2,g3⟩:=hrel.blk k b hk ho;rw[objOf_cells hit]at g3;have e1:([.pointer (some ⟨k,0,some sp⟩)]:U).map (ren ι)=[.pointer (some ⟨(ι k).1,0,none⟩)]:=by simp[ren,ren1,g1]
  rw[e1]
  have hc1:w.cell? ⟨(ι k).1,1,none⟩=some (.slice none 0 0):=by
   rw[World.cell?,g3,hc];rfl
  refine(str_nil (P:=Tryz.prog) (ρ:=Tryz.lays105_ren) {Tryz.lays105 with} Tryz.Builder_Extra_105 (ι k).1 w hc1).mono fun e w' ⟨h1,h2⟩=> ?_
  subst h2;exact⟨.string ⟨#[]⟩,m,n,ι,by rw[h1];simp[ren],hh,Nat.le_refl _,fun _ _=>rfl,RelM.drew hrel,hwf,by simp[ids]⟩
 ·rename_i v0 g sp' q cap r hb hc;split at hh
  case h_2=>exact hh.elim
  rename_i d hd;split at hh
  case h_2=>exact hh.elim
  rename_i hq;simp only[jaf,Nat.beq_eq,Bool.not_eq_true',Nat.ble_eq]at hq;obtain⟨d1,d2,d3,d5,d6,d7,d4⟩:=hq;have d3:q≠0:=fun e=>by rw[e]at d3;cases d3
  obtain⟨ho,hit,hpos,hlies⟩:=jft hb;obtain⟨g1,g2,g3⟩:=hrel.blk k b hk ho;rw[objOf_cells hit]at g3;have dit:Nat.ble itTy d.ty=false:=by rw[d2];rfl
  obtain⟨f1,f2,f3⟩:=hrel.blk g d hd d1;rw[objOf_cells dit]at f3;have e1:([.pointer (some ⟨k,0,some sp⟩)]:U).map (ren ι)=[.pointer (some ⟨(ι k).1,0,none⟩)]:=by simp[ren,ren1,g1]
  rw[e1];obtain⟨b1,b2⟩:=isB8_spec d7;have hl:(jcs (d.c.take q)).length=q:=by rw[b1,List.length_take];omega
  have hc1:w.cell? ⟨(ι k).1,1,none⟩=some (.slice (some ⟨(ι g).1,0,none⟩) (jcs (d.c.take q)).length cap):=by
   rw[World.cell?,g3,hc,hl];simp[ren,ren1,f1]
  have hsh:w.shape? (ι g).1=some (Tryz.lays105_ren.t 5,(⟨d.c.map (ren ι)⟩:Array Value).size):=by
   have:Tryz.lays105_ren.t 5=5:=rfl;rw[this,←d2];simp[World.shape?,f3]
  have hsz:(⟨d.c.map (ren ι)⟩:Array Value).size=d.c.length:=by simp
  refine(str_row (P:=Tryz.prog) (ρ:=Tryz.lays105_ren) {Tryz.lays105 with} Tryz.Builder_Extra_105 (ι k).1 (ι g).1 cap ⟨d.c.map (ren ι)⟩ (jcs (d.c.take q)) w (fun e=>by rw[e]at hl;exact d3 hl.symm) hc1 hsh (by omega) (by rw[hsz,hl];exact d5) (by rw[hl];exact d6) ?_).mono fun e w' ⟨h1,h2⟩=> ?_
  ·intro j x hx;have:=b2 j x hx;rw[List.getElem?_take]at this;split at this
   ·rw[World.cell?];have e2:((⟨(ι g).1,0,none⟩:Addr).add j)=⟨(ι g).1,j,none⟩:=by simp[Addr.add];omega
    rw[e2,f3];simp[this,ren]
   ·cases this
  ·subst h2;rw[hl];refine⟨.string (jcm d.c 0 q),_,n,ι,by rw[h1];simp[ren,jcm],hh,Nat.le_refl _,fun _ _=>rfl,RelM.frozenN (RelM.drew hrel) hd d1 dit 0 d3,fun j c hj=> ?_,by simp[ids]⟩;by_cases e:j=g
   ·subst e;rw[Lk.upd_same]at hj;cases hj;exact hwf j d hd
   ·rw[Lk.upd_other _ _ e]at hj;exact hwf j c hj
 ·exact hh.elim
end Go.Ff
end
noncomputable section
namespace Go.Ff
open Go Go.Ab Go.Proofs Go.Shelf Go.Px
theorem c187:ja6 Tryz.prog 187:=cal Tryz.func187 (by kernel_rfl) (by kernel_rfl)
theorem ok187:jal Tryz.prog 187 (sp2 s141):=jct c187 fun s c hc w _=>by
 have hc:0≤c.n∧c.n<256:=jab hc;refine(Any.stringslite_IndexByte (ρ:=Tryz.lays137_ren) {Tryz.lays137 with} s c.n w).mono fun e w' ⟨h1,h2⟩=>⟨?_,jbx h2⟩
 rw[h1,jip];simp only[s141]
 have:((c.n.toNat.toUInt8.toNat:Nat):Int)=c.n:=by
  simp only[Nat.toUInt8,UInt8.toNat_ofNat'];omega
 rw[this,jhu]
def anyI:E→E→Int
 | [],_=> -1
 | b::l,cs=>if hasZ cs b=true then 0 else if anyI l cs= -1 then -1 else anyI l cs+1
theorem anyI_zl(cs:O):∀l:O,Lib.indexAny l cs=anyI (zl l) (zl cs)
 | []=>rfl
 | b::l=>by
  have ih:=anyI_zl cs l;have hb:hasZ (zl cs) b.toNat=cs.contains b:=(jhr b cs).symm;simp only[zl,List.map_cons,anyI]at ih hb ⊢;rw[hb,Lib.indexAny,ih];simp only[beq_iff_eq]
theorem c87:ja6 Tryz.prog 87:=cal Tryz.func87 (by kernel_rfl) (by kernel_rfl)
def s87(s t:Y):Bool×Value:=(decide (s.size≤1000000) && (decide (t.size≤1000) && (asc (bz s) &&asc (bz t))),.int .i64 (anyI (bz s) (bz t)))
theorem ok87:jal Tryz.prog 87 (sp2 s87):=jct c87 fun s t hc w _=>by
 simp only[s87,jaf,jae]at hc;obtain⟨h1,h2,h3,h4⟩:=hc;refine(Any.strings_IndexAny_laid (ρ:=Tryz.lays150_ren) {Tryz.lays150 with} info128 s t w (by omega) (by omega) (jcz h3) (jcz h4)).mono fun e w' ⟨h5,h6⟩=>⟨?_,h6⟩
 rw[h5,anyI_zl,jhu,jhu];rfl
def tlsZ(l cs:E):E:=l.dropWhile (hasZ cs ·)
theorem tls_zl(cs:O)(l:O):zl (l.dropWhile (cs.contains ·))=tlsZ (zl l) (zl cs):=by
 rw[tlsZ,jem (q:=(hasZ (zl cs) ·)) (fun b=>jhr b cs)]
theorem c80:ja6 Tryz.prog 80:=cal Tryz.func80 (by kernel_rfl) (by kernel_rfl)
def s80(s t:Y):Bool×Value:=(decide (t.size≤1000) &&asc (bz t),.string (sz (tlsZ (bz s) (bz t))))
theorem ok80:jal Tryz.prog 80 (sp2 s80):=jct c80 fun s t hc w _=>by
 simp only[s80,jaf,jae]at hc;refine(Any.strings_TrimLeft_laid (ρ:=Tryz.lays161_ren) {Tryz.lays161 with} jg6 s t w (by omega) (jcz hc.2)).mono fun e w' ⟨h5,h6⟩=>⟨?_,h6⟩
 rw[h5,jgh,Lib.trimLeftS,tls_zl,jhu,jhu];rfl
def s103(s:Y)(c:U8):Bool×Value:=(decide (s.size≤4611686018427387903),.int .i64 (jbp (bz s) c.n))
theorem ok103:jal Tryz.prog 103 (sp2 s103):=jct c280 fun s c hc w _=>by
 have hc:=jab hc;refine(Any.strings_LastIndexByte Tryz.lays149 s c.n (by omega) w).mono fun e w' ⟨h1,h2⟩=>⟨?_,jbx h2⟩
 rw[h1,last_zl];rfl
end Go.Ff
end
noncomputable section
set_option maxHeartbeats 3200000
namespace Go.Ff
open Go Go.Ab Go.Proofs Go.Shelf Go.Px
def P0:Env:=(Env.nil.add 103 (sp2 s103))
theorem ok_P0:jao Tryz.prog P0:=jak jbr ok103
theorem jg3:∀(l:E)(c:Int),-1≤jbp l c∧jbp l c<l.length
 | [],_=>⟨Int.le_refl _,by simp[jbp]⟩
 | b::l,c=>by
  have:=jg3 l c;simp only[jbp,List.length_cons];split
  ·split<;>omega
  ·omega
def s85:Ab.Spec:=fun args bs=>match args,bs with
 | [.pointer (some ⟨_,0,some 0⟩)],[some ⟨[.string s,.int .i64 p],ty,o⟩]=>some (decide (0≤p∧p≤s.size),S (s.extract p.toNat s.size))
 | [.pointer (some ⟨_,0,some (sp+1)⟩)],[some ⟨[.string s,.int .i64 p],ty,o⟩]=>some (decide (0≤p∧p≤s.size),S (s.extract p.toNat s.size))
 | _,_=>none
theorem fn85:Fn1 Tryz.prog 85 Tryz.f85:= .m Tryz.func85
theorem v85_0(s:Y)(p:Int)(ty:TypeId)(o:Bool)(R:Value→Prop):jgk Tryz.prog P0 noL Tryz.f85 [.pointer (some ⟨0,0,some 0⟩)] (jcj [some ⟨[S s,I p],ty,o⟩]) 1 (fun v _ _=>R v)=(b7 (ck p (b4 s) s.size) (S (s.extract p.toNat s.size)) R):=by kernel_rfl
theorem v85_1(sp:Nat)(s:Y)(p:Int)(ty:TypeId)(o:Bool)(R:Value→Prop):jgk Tryz.prog P0 noL Tryz.f85 [.pointer (some ⟨0,0,some (sp+1)⟩)] (jcj [some ⟨[S s,I p],ty,o⟩]) 1 (fun v _ _=>R v)=(b7 (ck p (b4 s) s.size) (S (s.extract p.toNat s.size)) R):=by kernel_rfl
theorem k85_0(s:Y)(p:Int)(ty:TypeId)(o:Bool)(hc:(decide (0≤p∧p≤s.size))=true):je7 Tryz.prog P0 noL Tryz.f85 [.pointer (some ⟨0,0,some 0⟩)] [some ⟨[S s,I p],ty,o⟩] 1 (S (s.extract p.toNat s.size)):=by
 rw[je7,v85_0];delta b7 ck b4;have hc:=jab hc
 first
  | exact c_t (jaa ⟨hc.1,hc.2,Int.le_refl _⟩) rfl
  | trace_state
theorem k85_1(sp:Nat)(s:Y)(p:Int)(ty:TypeId)(o:Bool)(hc:(decide (0≤p∧p≤s.size))=true):je7 Tryz.prog P0 noL Tryz.f85 [.pointer (some ⟨0,0,some (sp+1)⟩)] [some ⟨[S s,I p],ty,o⟩] 1 (S (s.extract p.toNat s.size)):=by
 rw[je7,v85_1];delta b7 ck b4;have hc:=jab hc
 first
  | exact c_t (jaa ⟨hc.1,hc.2,Int.le_refl _⟩) rfl
  | trace_state
theorem ok85:jal Tryz.prog 85 s85:=by
 refine jf1 ok_P0 hmix fn85 jai fun args bs v hs=> ?_
 simp only[s85]at hs;split at hs
 ·simp only[Option.some.injEq,Prod.mk.injEq]at hs;obtain⟨hc,rfl⟩:=hs;exact⟨_,1,rfl,rfl,jag,k85_0 _ _ _ _ (by first | rfl | exact hc)⟩
 ·simp only[Option.some.injEq,Prod.mk.injEq]at hs;obtain⟨hc,rfl⟩:=hs;exact⟨_,1,rfl,rfl,jag,k85_1 _ _ _ _ _ (by first | rfl | exact hc)⟩
 ·cases hs
def s63:Ab.Spec:=fun args bs=>match args,bs with
 | [.pointer (some ⟨_,0,some 0⟩)],[some ⟨[.string s,.int .i64 p],ty,o⟩]=>some (decide (0≤p∧p≤s.size∧s.size≤1000000),I (p-jbp ((bz s).take p.toNat) 10))
 | [.pointer (some ⟨_,0,some (sp+1)⟩)],[some ⟨[.string s,.int .i64 p],ty,o⟩]=>some (decide (0≤p∧p≤s.size∧s.size≤1000000),I (p-jbp ((bz s).take p.toNat) 10))
 | _,_=>none
theorem fn63:Fn1 Tryz.prog 63 Tryz.f63:= .m Tryz.func63
def jy(b:Y)(a:Int)(c:Value→Prop):Prop:=bif ck 0 a b.size then b7 (decide ((b.extract 0 a.toNat).size≤4611686018427387903)) (.int .i64 (br a (jbp (bz (b.extract 0 a.toNat)) 10))) c else False
theorem v63_0(s:Y)(p:Int)(ty:TypeId)(o:Bool)(R:Value→Prop):jgk Tryz.prog P0 noL Tryz.f63 [.pointer (some ⟨0,0,some 0⟩)] (jcj [some ⟨[S s,I p],ty,o⟩]) 1 (fun v _ _=>R v)=(jy s p R):=by kernel_rfl
theorem v63_1(sp:Nat)(s:Y)(p:Int)(ty:TypeId)(o:Bool)(R:Value→Prop):jgk Tryz.prog P0 noL Tryz.f63 [.pointer (some ⟨0,0,some (sp+1)⟩)] (jcj [some ⟨[S s,I p],ty,o⟩]) 1 (fun v _ _=>R v)=(jy s p R):=by kernel_rfl
theorem k63_0(s:Y)(p:Int)(ty:TypeId)(o:Bool)(hc:(decide (0≤p∧p≤s.size∧s.size≤1000000))=true):je7 Tryz.prog P0 noL Tryz.f63 [.pointer (some ⟨0,0,some 0⟩)] [some ⟨[S s,I p],ty,o⟩] 1 (I (p-jbp ((bz s).take p.toNat) 10)):=by
 rw[je7,v63_0];delta b7 br ck jy;have hc:=jab hc;have hb:=jg3 ((bz s).take p.toNat) 10;rw[List.length_take,ja8]at hb;have e:bz (s.extract 0 p.toNat)=(bz s).take p.toNat:=by rw[jdr];rfl
 rw[e,w64 (by omega)];refine c_t (jaa ⟨Int.le_refl _,hc.1,hc.2.1⟩) (c_t ?_ rfl);rw[ByteArray.size_extract];exact jaa (by omega)
theorem k63_1(sp:Nat)(s:Y)(p:Int)(ty:TypeId)(o:Bool)(hc:(decide (0≤p∧p≤s.size∧s.size≤1000000))=true):je7 Tryz.prog P0 noL Tryz.f63 [.pointer (some ⟨0,0,some (sp+1)⟩)] [some ⟨[S s,I p],ty,o⟩] 1 (I (p-jbp ((bz s).take p.toNat) 10)):=by
 rw[je7,v63_1];delta b7 br ck jy;have hc:=jab hc;have hb:=jg3 ((bz s).take p.toNat) 10;rw[List.length_take,ja8]at hb;have e:bz (s.extract 0 p.toNat)=(bz s).take p.toNat:=by rw[jdr];rfl
 rw[e,w64 (by omega)];refine c_t (jaa ⟨Int.le_refl _,hc.1,hc.2.1⟩) (c_t ?_ rfl);rw[ByteArray.size_extract];exact jaa (by omega)
theorem ok63:jal Tryz.prog 63 s63:=by
 refine jf1 ok_P0 hmix fn63 jai fun args bs v hs=> ?_
 simp only[s63]at hs;split at hs
 ·simp only[Option.some.injEq,Prod.mk.injEq]at hs;obtain⟨hc,rfl⟩:=hs;exact⟨_,1,rfl,rfl,jag,k63_0 _ _ _ _ (by first | rfl | exact hc)⟩
 ·simp only[Option.some.injEq,Prod.mk.injEq]at hs;obtain⟨hc,rfl⟩:=hs;exact⟨_,1,rfl,rfl,jag,k63_1 _ _ _ _ _ (by first | rfl | exact hc)⟩
 ·cases hs
def s61:Ab.Spec:=fun args bs=>match args,bs with
 | [.pointer (some ⟨_,0,some 0⟩)],[some ⟨[.string s,.int .i64 p],ty,o⟩]=>some (true,I p)
 | [.pointer (some ⟨_,0,some (sp+1)⟩)],[some ⟨[.string s,.int .i64 p],ty,o⟩]=>some (true,I p)
 | _,_=>none
theorem fn61:Fn1 Tryz.prog 61 Tryz.f61:= .m Tryz.func61
theorem v61_0(s:Y)(p:Int)(ty:TypeId)(o:Bool)(R:Value→Prop):jgk Tryz.prog P0 noL Tryz.f61 [.pointer (some ⟨0,0,some 0⟩)] (jcj [some ⟨[S s,I p],ty,o⟩]) 1 (fun v _ _=>R v)=(R (I p)):=by kernel_rfl
theorem v61_1(sp:Nat)(s:Y)(p:Int)(ty:TypeId)(o:Bool)(R:Value→Prop):jgk Tryz.prog P0 noL Tryz.f61 [.pointer (some ⟨0,0,some (sp+1)⟩)] (jcj [some ⟨[S s,I p],ty,o⟩]) 1 (fun v _ _=>R v)=(R (I p)):=by kernel_rfl
theorem k61_0(s:Y)(p:Int)(ty:TypeId)(o:Bool)(hc:(true)=true):je7 Tryz.prog P0 noL Tryz.f61 [.pointer (some ⟨0,0,some 0⟩)] [some ⟨[S s,I p],ty,o⟩] 1 (I p):=by
 rw[je7,v61_0]
theorem k61_1(sp:Nat)(s:Y)(p:Int)(ty:TypeId)(o:Bool)(hc:(true)=true):je7 Tryz.prog P0 noL Tryz.f61 [.pointer (some ⟨0,0,some (sp+1)⟩)] [some ⟨[S s,I p],ty,o⟩] 1 (I p):=by
 rw[je7,v61_1]
theorem ok61:jal Tryz.prog 61 s61:=by
 refine jf1 ok_P0 hmix fn61 jai fun args bs v hs=> ?_
 simp only[s61]at hs;split at hs
 ·simp only[Option.some.injEq,Prod.mk.injEq]at hs;obtain⟨hc,rfl⟩:=hs;exact⟨_,1,rfl,rfl,jag,k61_0 _ _ _ _ (by first | rfl | exact hc)⟩
 ·simp only[Option.some.injEq,Prod.mk.injEq]at hs;obtain⟨hc,rfl⟩:=hs;exact⟨_,1,rfl,rfl,jag,k61_1 _ _ _ _ _ (by first | rfl | exact hc)⟩
 ·cases hs
/-- The tables; bytes that are made of a string may be written into. -/
instance tabsB:Tabs:={row:=jiu,plain:=tabs.plain,ownB:=true}
theorem RelM.toA{N:Nat}{w0:World}{m:Lk}{ι:Nm}{w:World}(h: @RelM tabsB N w0 m ι w): @RelM tabs N w0 m ι w:=
 @RelM.mk tabs N w0 m ι w h.below h.base h.blk h.view h.inj
theorem RelM.toB{N:Nat}{w0:World}{m:Lk}{ι:Nm}{w:World}(h: @RelM tabs N w0 m ι w): @RelM tabsB N w0 m ι w:=
 @RelM.mk tabsB N w0 m ι w (@RelM.below tabs N w0 m ι w h) (@RelM.base tabs N w0 m ι w h) (@RelM.blk tabs N w0 m ι w h) (@RelM.view tabs N w0 m ι w h) (@RelM.inj tabs N w0 m ι w h)
theorem pureB{f:FuncId}{s:Ab.Spec}(h: @jal tabs Tryz.prog f s): @jal tabsB Tryz.prog f s:=
 ⟨h.1,fun args v N w0 lk ι w hr hs hv=>h.2 args v N w0 lk ι w (RelM.toA hr) hs hv⟩
structure BrP (d:U)(m cap:Nat):Prop where
 bytes:jba d=true
 len:d.length=cap
 le:m≤cap
 lim:m≤1000
def brOK(d:U)(m cap:Nat):Bool:=jba d&& (Nat.beq d.length cap&& (Nat.ble m cap&&Nat.ble m 1000))
def jfj:Nat→E→E
 | 0,L=>if L.getD 0 0≠57 then L.set 0 (IntKind.u8.wrap (L.getD 0 0+1))else L
 | i+1,L=>if L.getD (i+1) 0≠57 then L.set (i+1) (IntKind.u8.wrap (L.getD (i+1) 0+1))else jfj i (L.set (i+1) 48)
def noN(L:E)(i:Nat):Bool:=(L.take (i+1)).any fun c=> !(c==57)
theorem jep{d:U}{m cap:Nat}:brOK d m cap=true↔BrP d m cap:=by
 simp only[brOK,jaf,Nat.ble_eq,Nat.beq_eq];exact⟨fun⟨h1,h2,h3,h4⟩=>⟨h1,h2,h3,h4⟩,fun⟨h1,h2,h3,h4⟩=>⟨h1,h2,h3,h4⟩⟩
theorem BrP.plain{d:U}{m cap:Nat}(h:BrP d m cap):jas d=true:=isB_plain h.bytes
theorem BrP.good{d:U}{m cap:Nat}(h:BrP d m cap)(ps:List (Nat×Nat)):(jau ps d&&true&&true)=true:=by rw[goodL_plain h.plain];rfl
theorem BrP.rlb{d:U}{m cap:Nat}(h:BrP d m cap)(ps:List (Nat×Nat)):rlbL ps d=d:=rlbL_plain ps h.plain
theorem BrP.zlen{d:U}{m cap:Nat}(h:BrP d m cap):(zc d m).length=m:=by
 have h1:=h.len;have h2:=h.le;simp only[zc,List.length_map,List.length_take];omega
theorem BrP.at{d:U}{m cap:Nat}(h:BrP d m cap){i:Int}(h0:0≤i)(hi:i<m):jap .u8 d i.toNat=true∧jaj d i.toNat=(zc d m).getD i.toNat 0:=by
 have h1:=h.len;have h2:=h.le;obtain⟨q1,q2⟩:=atB h.bytes (j:=i.toNat) (by omega);refine⟨q1,?_⟩;rw[q2,zc,List.getD_eq_getElem?_getD,List.getD_eq_getElem?_getD,List.getElem?_map,List.getElem?_map,List.getElem?_take_of_lt (by omega)]
theorem BrP.set{d:U}{m cap:Nat}(h:BrP d m cap)(k:Nat)(x:Int):BrP (d.set k (.int .u8 x)) m cap∧zc (d.set k (.int .u8 x)) m=(zc d m).set k x:=by
 refine⟨⟨jg5.2 fun v hv=> ?_,by rw[List.length_set];exact h.len,h.le,h.lim⟩,?_⟩
 ·rcases List.mem_or_eq_of_mem_set hv with q | q
  ·exact jg5.1 h.bytes v q
  ·exact⟨x,q⟩
 ·rw[zc,zc,List.take_set,List.map_set];rfl
theorem BrP.str{d:U}{m cap:Nat}(h:BrP d m cap):jd2 d 0 m=true∧jcm d 0 m=sz (zc d m):=by
 have hz:=h.zlen;have hb:jba (d.take m)=true:=jg5.2 fun v hv=>jg5.1 h.bytes v (List.mem_of_mem_take hv)
 have e:d=cz (zc d m)++d.drop m:=by rw[zc,jix hb,List.take_append_drop]
 have h1:=bytesOK_cz (zc d m) (d.drop m);have h2:=bytesOf_cz (zc d m) (d.drop m);rw[←e,hz]at h1 h2;exact⟨h1,h2⟩
def EN:Env:=Env.nil
theorem ok_EN:jao Tryz.prog EN:=jbr
theorem strFit_of{n:Nat}(h:n≤9223372036854775807):jii n=true:=Nat.ble_eq_true_of_le h
theorem noN_step{L:E}{k:Nat}(q:L.getD (k+1) 0=57)(h:noN L (k+1)=true)(hl:k+1<L.length):noN (L.set (k+1) 48) k=true:=by
 simp only[noN,List.any_eq_true]at h ⊢;obtain⟨c,hc,hn⟩:=h;refine⟨c,?_,hn⟩;rw[List.take_set_of_le (by omega)];rw[List.take_succ_eq_append_getElem hl]at hc;rcases List.mem_append.1 hc with hc | hc
 ·exact hc
 ·rw[List.getD_eq_getElem?_getD,List.getElem?_eq_getElem hl]at q;simp only[List.mem_singleton,Option.getD_some]at hc q;rw[hc,q]at hn;cases hn
def V180_0:Y×U×Nat×Nat×Int→U:=fun(r,d,m,cap,i)=> [S r,.slice (some ⟨3,0,some 1⟩) m cap,I i]
def B180_0:Y×U×Nat×Nat×Int→F:=fun(r,d,m,cap,i)=> [some ⟨d,itTy+1+5,true⟩]
def S180_0:LSpecA (Y×U×Nat×Nat×Int) where
 live:=[2,3,4]
 mid:=[3]
 n:=120
 ap:=[]
 dec vs bs:=match vs,bs with
  | [.string r,.slice (some ⟨3,0,some 1⟩) m cap,.int .i64 i],[some ⟨d,ty,true⟩]=>match Nat.beq ty (itTy+1+5)with | true=>some (r,d,m,cap,i) | false=>none
  | _,_=>none
 pre:=fun(r,d,m,cap,i)=>brOK d m cap&& (decide (0≤i∧i<m) &&noN (zc d m) i.toNat)
 fin:=fun(r,d,m,cap,i) Z=>∀d' i',brOK d' m cap=true→Z .ret [S (sz (jfj i.toNat (zc d m))),.slice (some ⟨3,0,some 1⟩) m cap,I i'] [some ⟨d',itTy+1+5,true⟩]
theorem r180_0(r:Y)(d:U)(m:Nat)(cap:Nat)(i:Int)(jk:Tmps)(R:Exit→U→F→Prop):(jb7 Tryz.prog EN noL Tryz.f180.ntmps (jbh Tryz.f180 0) (tl S180_0.live (V180_0 (r,d,m,cap,i)) jk) (ml S180_0.mid (B180_0 (r,d,m,cap,i))) S180_0.n fun e t' m' _=>S180_0.out R e t' m')=(bv (jap .u8 d (bq i)) i m (bif b9 i d !=57 then bif cu i m then bif jap .u8 d (bq i)then bif cu i m then bif Nat.ble (bq i+1) d.length then bif jd2 (setL d (bq i) [gq (b9 i d+1)]) 0 m then bif bm [] (setL d (bq i) [gq (b9 i d+1)])then R .ret [S (jcm (setL d (bq i) [gq (b9 i d+1)]) 0 m),au 3 0 m cap,ak i] [some (.mk (rlbL [] (setL d (bq i) [gq (b9 i d+1)])) 4611686018427387910 true)]else False else False else False else False else False else False else bif cu i m then bif Nat.ble (bq i+1) d.length then bw (bm [] (setL d (bq i) [.int .u8 48])) R [some (.mk (rlbL [] (setL d (bq i) [.int .u8 48])) 4611686018427387910 true)] [S r,au 3 0 m cap,I (br i 1)]else False else False)):=by kernel_rfl
theorem l180_0:LOKf Tryz.prog (oneL 0 S180_0.hA) Tryz.f180:=by
 refine jci (h:=S180_0.hA) (by kernel_rfl) (jbz ok_EN hmix (by kernel_rfl) (jbo _) S180_0 V180_0 B180_0 (fun(r,d,m,cap,i)=>i.toNat) ?_ ?_ ?_)
 ·intro vs bs s h;simp only[S180_0]at h;split at h
  all_goals first | (cases h;exact⟨rfl,rfl⟩) | cases h | (split at h<;>first | (rename_i hq;cases h;have hq:=jah hq;subst hq;exact⟨rfl,rfl⟩) | cases h)
 ·exact fun⟨r,d,m,cap,i⟩ hp=>by
   simp only[S180_0,jaf]at hp;simp[V180_0,B180_0,S180_0,jax,jbk,idsL,ids,jar (jep.1 hp.1).plain]
 ·intro⟨r,d,m,cap,i⟩ jk Z hp hf;rw[r180_0];delta bx cu bv bw br av au bq bm gq b9 ak;simp only[S180_0]at hp hf;simp only[jaf,jae]at hp;obtain⟨hv,⟨h0,hi⟩,hn⟩:=hp;have hv:=jep.1 hv;obtain⟨a1,a2⟩:=hv.at h0 hi;have hlen:=hv.len;have hle:=hv.le;have hlim:=hv.lim;have hz:=hv.zlen;rw[Nat.mul_one,Nat.zero_add];refine c_t (jaa ⟨h0,hi⟩) (c_t a1 (cond_intro (fun q=> ?_) (fun q=> ?_)))
  ·have q:jaj d i.toNat≠57:=by simpa using q
   obtain⟨b1,b2⟩:=hv.set i.toNat (IntKind.u8.wrap (jaj d i.toNat+1));have es:setL d i.toNat [.int .u8 (IntKind.u8.wrap (jaj d i.toNat+1))]=d.set i.toNat (.int .u8 (IntKind.u8.wrap (jaj d i.toNat+1))):=rfl;rw[es,b1.rlb];obtain⟨s1,s2⟩:=b1.str;refine c_t (jaa ⟨h0,hi⟩) (c_t a1 (c_t (jaa ⟨h0,hi⟩) (c_t (Nat.ble_eq_true_of_le (by omega)) (c_t s1 (c_t (b1.good _) ?_)))));rw[s2,b2]
   have e:jfj i.toNat (zc d m)=(zc d m).set i.toNat (IntKind.u8.wrap (jaj d i.toNat+1)):=by
    rw[a2]at q ⊢;cases hk:i.toNat with
    | zero=>rw[hk]at q;simp only[jfj];rw[if_pos q]
    | succ k=>rw[hk]at q;simp only[jfj];rw[if_pos q]
   have:=hf _ i (jep.2 b1);rw[e]at this;exact this
  ·have q:jaj d i.toNat=57:=by simpa using q
   obtain⟨b1,b2⟩:=hv.set i.toNat 48;have es:setL d i.toNat [.int .u8 48]=d.set i.toNat (.int .u8 48):=rfl;rw[es,b1.rlb];rw[a2]at q
   obtain⟨k,hk⟩:∃k,i.toNat=k+1:=by
    cases hk:i.toNat with
    | zero=>
     rw[hk]at q hn;simp only[noN]at hn;cases hL:zc d m with
     | nil=>rw[hL]at hz;simp at hz;omega
     | cons c r=>rw[hL]at q hn;simp at hn q;exact absurd q hn
    | succ k=>exact⟨k,rfl⟩
   refine c_t (jaa ⟨h0,hi⟩) (c_t (Nat.ble_eq_true_of_le (by omega)) (c_t (b1.good _) ?_));have e1:(i-1).toNat=k:=by omega
   rw[w64 (n:=i-1) (by omega)];refine⟨(r,d.set i.toNat (.int .u8 48),m,cap,i-1),rfl,rfl,?_,by simp only;omega,fun d' i' h1=> ?_⟩
   ·simp only[S180_0,jaf,jae];refine⟨jep.2 b1,by omega,?_⟩;rw[b2,e1,hk];exact noN_step (by rw[hk]at hn q;exact q) (by rw[hk]at hn;exact hn) (by omega)
   ·rw[b2,e1];have:=hf d' i' h1;rw[hk]at this q ⊢;simp only[jfj]at this;rw[if_neg (fun h=>h q)]at this;exact this
def s180(s:Y):Bool×Value:=(decide (s.size≤900),.string (sz (jfj s.size (48::bz s))))
theorem fn180:Fn1 Tryz.prog 180 Tryz.f180:= .m Tryz.func180
def iz(a:Y):Nat:=(ByteArray.mk #[48]++a).size
theorem v180(s:Y)(R:Value→Prop):jbe Tryz.prog EN (oneL 0 S180_0.hA) Tryz.f180 [Enc.enc s] (fun _=>none) 0 (fun v _ _=>R v)=(bif jii ((ByteArray.mk #[48]).size+s.size)then∀a:Nat,∀b:U,jih (⟨#[48]⟩++s) a b=true→(bif ig b 120 then bif Ff.S180_0.toLSpec.pre (ByteArray.mk #[],(aq b,(iz s,(a,br (natO (iz s)) 1))))then∀c:U,Int→Ff.brOK c (iz s) a=true→ek (bn c 120) (S (sz (Ff.jfj (du (natO (iz s)-1)) (zc (aq b) (iz s))))) R else False else False)else False):=by kernel_rfl
theorem ok180:jal Tryz.prog 180 (sp1 s180):=by
 refine je9 ok_EN hmix fn180 l180_0 jag fun s hc=> ?_
 rw[jdf,v180];delta ek iz aq du bn br dm bm ig;have hc:(s.size≤900):=jab hc
 try dsimp only[s180]
 refine c_t (strFit_of (by show 1+s.size≤_;omega)) fun cap d hd=> ?_
 simp only[jih,jaf,Nat.beq_eq,Nat.ble_eq,jae]at hd;obtain⟨k1,k2,k3,k4⟩:=hd;have zS:(ByteArray.mk #[48]++s).size=s.size+1:=by rw[ByteArray.size_append];show 1+s.size=_;omega
 have B:BrP d (ByteArray.mk #[48]++s).size cap:=⟨k3,k1,k2,by omega⟩
 have kz:zc d (ByteArray.mk #[48]++s).size=48::bz s:=by
  rw[zc,show iv=cInt from by funext v;cases v<;>rfl,k4];show bz (ByteArray.mk #[48]++s)=_;rw[bz_append];rfl
 have ei:IntKind.wrap .i64 (natO (ByteArray.mk #[48]++s).size-1)=(s.size:Int):=by
  rw[ja1,zS,w64 (by omega)];omega
 rw[B.rlb,kz,ei];refine c_t (by rw[B.good,jbc B.plain];rfl) (c_t ?_ fun d' i' hd'=>c_t (by rw[jbc (jep.1 hd').plain];rfl) fun x=> ?_)
 ·simp only[S180_0,jaf,jae];refine⟨jep.2 B,by rw[zS];omega,?_⟩;rw[kz];simp[noN]
 ·rw[Int.toNat_natCast]
end Go.Ff
end
noncomputable section
set_option maxHeartbeats 3200000
namespace Go.Ff
open Go Go.Ab Go.Proofs Go.Shelf Go.Px Go.Cv Go.Cx
open Go.Fx (Ty Vl)
attribute [local instance 5000] tabsB
structure Fo where
 k:Int
 w:Int
 d:Int
 s:Y
instance:Enc Fo where
 enc t:= .agg ⟨[.int .i64 t.k,.int .i64 t.w,.int .i64 t.d,.string t.s]⟩
 dec | .agg ⟨[.int .i64 k,.int .i64 w,.int .i64 d,.string s]⟩=>some ⟨k,w,d,s⟩ | _=>none
 dec_some:=by
  intro v a h;split at h
  ·cases h;rfl
  ·cases h
 plain_enc _:=rfl
def F3:Env:=Env.nil.add 65 (sp1 Px.s33)
theorem ok_F3:jao Tryz.prog F3:=jak jbr (pureB Px.ok33)
def jer(f:Fo):Bool:=decide (1≤f.k∧f.k≤7∧0≤f.w∧f.w≤255∧0≤f.d∧f.d≤9∧f.d≤f.w∧(0<f.d→f.k=3)) && (bif decide (f.k=4)then decide (pE (bz f.s)=0)else decide (f.s.size=0))
def s44(f:Fo):Bool×Value:=(decide (f.s.size≤9223372036854775807),B (jer f))
theorem fn44:Fn1 Tryz.prog 44 Tryz.f44:= .m Tryz.func44
def ko(b:Bool)(a:Ff.Fo):Bool:=go (am (Ff.Fo.w a) 0) (ar (Ff.Fo.w a) 255 || (am (Ff.Fo.d a) 0 || (ar (Ff.Fo.d a) 9 || (ar (Ff.Fo.d a) (Ff.Fo.w a) || b)))) (Ff.Fo.k a) 1 7
theorem v44(f:Fo)(R:Value→Prop):jbe Tryz.prog F3 noL Tryz.f44 [Enc.enc f] (fun _=>none) 0 (fun v _ _=>R v)=(bif ko (ar (Ff.Fo.d f) 0 || true) f then bif ko (ar (Ff.Fo.d f) 0&&Ff.Fo.k f !=3) f then R (B false)else bif Ff.Fo.k f==4 then b7 (e6 (Ff.Fo.s f)) (B (pE (bz (Ff.Fo.s f))==0)) R else R (B (gl (Ff.Fo.s f) ⟨#[]⟩))else False):=by kernel_rfl
theorem ok44:jal Tryz.prog 44 (sp1 s44):=by
 refine je9 ok_F3 hmix fn44 jai jag fun f hc=> ?_
 rw[jdf,v44];delta gl b7 e6 ar am go ko;have hc:(f.s.size≤9223372036854775807):=jab hc
 try dsimp only[s44]
 refine c_t (by simp) (cond_intro (fun h=> ?_) (fun h=>cond_intro (fun q=>c_t (jaa hc) ?_) (fun q=> ?_)))
 ·have e:jer f=false:=by
   rw[jer,Bool.and_eq_false_iff];refine .inl (jad fun⟨a,b,c,d,e,g,i,j⟩=> ?_);simp only[Bool.or_eq_true,jaf,jae,bne_iff_ne]at h;omega
  rw[e]
 ·have q:f.k=4:=by simpa using q
  simp only[Bool.or_eq_false_iff,Bool.and_eq_false_iff,decide_eq_false_iff_not,bne_eq_false_iff_eq]at h;rw[jer,jaa (by omega),jaa q];congr 1
 ·have q:¬f.k=4:=by simpa using q
  simp only[Bool.or_eq_false_iff,Bool.and_eq_false_iff,decide_eq_false_iff_not,bne_eq_false_iff_eq]at h;rw[jer,jaa (by omega),jad q,empty_iff];congr 1;rw[Bool.true_and,cond_false,Bool.eq_iff_iff,jae,jae,←ja8];exact List.length_eq_zero_iff.symm
def s71(f:Fo):Bool×Value:=(true,B (decide (f.k≤4)))
theorem fn71:Fn1 Tryz.prog 71 Tryz.f71:= .m Tryz.func71
theorem v71(f:Fo)(R:Value→Prop):jbe Tryz.prog F3 noL Tryz.f71 [Enc.enc f] (fun _=>none) 0 (fun v _ _=>R v)=(R (B (decide (Fo.k f≤4)))):=by kernel_rfl
theorem ok71:jal Tryz.prog 71 (sp1 s71):=by
 refine je9 ok_F3 hmix fn71 jai jag fun f hc=> ?_
 rw[jdf,v71]
 try dsimp only[s71]
def typE(t:Ty):Int:=if chk4 t≠0 then chk4 t else if t.k=6 then 5 else 0
def fitE(v:Vl)(t:Ty):Int:=if fit4 v t≠0 then fit4 v t else typE t
def c8(f:Fo)(v:Vl)(t:Ty):Prop:=((f.k=3∧0≤f.w∧f.w≤255∧0≤f.d∧f.d≤9∧t.k=1∧ -2147483648≤v.n∧v.n≤2147483648∧ -1000≤t.q∧t.q≤1000)∧f.s.size≤9223372036854775807∧t.s.size≤9223372036854775807∧v.s.size≤9223372036854775807∧jer f=true∧fitE v t=0)
instance (f:Fo)(v:Vl)(t:Ty):Decidable (c8 f v t):=by unfold c8;infer_instance
end Go.Ff
end
noncomputable section
set_option maxHeartbeats 3200000
set_option maxRecDepth 100000
namespace Go.Fg
open Go Go.Ab Go.Proofs Go.Shelf Go.Px Go.Cv Go.Cx Go.Ff
open Go.Fx (Ty Vl)
attribute [local instance 5000] tabsB
def fcL:List Fo→U
 | []=> []
 | f::r=> .int .i64 f.k:: .int .i64 f.w:: .int .i64 f.d:: .string f.s::fcL r
def fosN:Nat→U→Option (List Fo)
 | 0,_=>some []
 | n+1,.int .i64 k:: .int .i64 w:: .int .i64 d:: .string s::r=>match fosN n r with | some l=>some (⟨k,w,d,s⟩::l) | none=>none
 | _,_=>none
def szF(f:Fo):Bool:=Nat.ble f.s.size 9223372036854775807
theorem jir:∃d:U→Nat→Nat→List Fo,d=fun c off n=>(fosN n (c.drop off)).getD []:=⟨_,rfl⟩
def foA:U→Nat→Nat→List Fo:=Classical.choose jir
theorem foA_eq(c:U)(off n:Nat):foA c off n=(fosN n (c.drop off)).getD []:=by rw[foA,Classical.choose_spec jir]
def foOK(c:U)(off n:Nat):Bool:=(fosN n (c.drop off)).isSome&& (jas c&& (foA c off n).all szF)
theorem jbq:∀l:List Fo,(fcL l).length=l.length*4
 | []=>rfl
 | f::r=>by simp only[fcL,List.length_cons,jbq r];omega
theorem jga:∀l r:List Fo,fcL (l++r)=fcL l++fcL r
 | [],_=>rfl
 | f::l,r=>by simp only[List.cons_append,fcL,jga l r]
theorem jdo:∀l:List Fo,jas (fcL l)=true
 | []=>rfl
 | f::r=>by simp only[fcL,jas,plain,jdo r,Bool.and_self]
theorem jhb:∀(k:Nat)(l:List Fo),(fcL l).drop (k*4)=fcL (l.drop k)
 | 0,_=>by simp
 | k+1,[]=>by simp[fcL]
 | k+1,f::r=>by
  rw[show(k+1)*4=k*4+4 by omega];simp only[fcL,List.drop_succ_cons];exact jhb k r
theorem jha:∀(k:Nat)(l:List Fo),(fcL l).take (k*4)=fcL (l.take k)
 | 0,_=>by simp[fcL]
 | k+1,[]=>by simp[fcL]
 | k+1,f::r=>by
  rw[show(k+1)*4=k*4+4 by omega];simp only[fcL,List.take_succ_cons];rw[jha k r]
theorem jh9:∀(l:List Fo)(r:U),fosN l.length (fcL l++r)=some l
 | [],r=>rfl
 | f::l,r=>by simp only[List.length_cons,fcL,List.cons_append,fosN,jh9 l r]
theorem jg8:∀{n:Nat}{c:U}{l:List Fo},fosN n c=some l↔l.length=n∧ ∃r,c=fcL l++r
 | 0,c,l=>by
  constructor
  ·intro h;cases h;exact⟨rfl,c,rfl⟩
  ·rintro ⟨h,r,rfl⟩;obtain rfl:=List.length_eq_zero_iff.1 h;rfl
 | n+1,c,l=>by
  constructor
  ·intro h;unfold fosN at h;split at h
   ·rename_i hm;cases hm
   ·rename_i m k w d s r hm;cases hm;split at h
    ·rename_i l' hl;cases h;obtain⟨h1,r',rfl⟩:=jg8.1 hl;exact⟨by simp[h1],r',by simp[fcL]⟩
    ·cases h
   ·cases h
  ·rintro ⟨h,r,rfl⟩;rw[←h];exact jh9 l r
theorem jdy{c:U}{off n:Nat}:foOK c off n=true↔(foA c off n).length=n∧(∃r,c.drop off=fcL (foA c off n)++r)∧jas c=true∧ ∀f∈foA c off n,f.s.size≤9223372036854775807:=by
 simp only[foOK,jaf,List.all_eq_true,szF,Nat.ble_eq];constructor
 ·rintro ⟨h1,h2,h3⟩;cases hv:fosN n (c.drop off)with
  | none=>rw[hv]at h1;cases h1
  | some l=>
   have e:foA c off n=l:=by simp[foA_eq,hv]
   obtain⟨q1,q2⟩:=jg8.1 hv;rw[e]at h3 ⊢;exact⟨q1,q2,h2,h3⟩
 ·rintro ⟨h1,h2,h3,h4⟩;exact⟨by rw[jg8.2 ⟨h1,h2⟩];rfl,h3,h4⟩
theorem jja{c:U}{off:Nat}{l:List Fo}{r:U}(h:c.drop off=fcL l++r):foA c off l.length=l:=by
 rw[foA_eq,h,jh9];rfl
theorem foOK_of{c:U}{off:Nat}{l:List Fo}{r:U}(h:c.drop off=fcL l++r)(hp:jas c=true)(hs:∀f∈l,f.s.size≤9223372036854775807):foOK c off l.length=true:=by
 rw[jdy,jja h];exact⟨rfl,⟨r,h⟩,hp,hs⟩
theorem jdx{l:List Fo}{r:U}(hp:jas r=true)(hs:∀f∈l,f.s.size≤9223372036854775807):foOK (fcL l++r) 0 l.length=true:=
 foOK_of (r:=r) (by simp) (jaw.2 fun v hv=>(List.mem_append.1 hv).elim (jaw.1 (jdo l) v) (jaw.1 hp v)) hs
theorem jeb(l:List Fo)(r:U):foA (fcL l++r) 0 l.length=l:=jja (r:=r) (by simp)
theorem fcL_at:∀(l:List Fo)(r:U)(i:Nat)(f:Fo),l[i]?=some f→(fcL l++r)[i*4]?=some (.int .i64 f.k)∧(fcL l++r)[i*4+1]?=some (.int .i64 f.w)∧(fcL l++r)[i*4+2]?=some (.int .i64 f.d)∧(fcL l++r)[i*4+3]?=some (.string f.s)
 | [],_,_,_,h=>by simp at h
 | g::l,r,0,f,h=>by
  cases(by simpa using h:g=f);exact⟨rfl,rfl,rfl,rfl⟩
 | g::l,r,i+1,f,h=>by
  have:=fcL_at l r i f (by simpa using h);rw[show(i+1)*4=i*4+4 by omega,show i*4+4+1=i*4+1+4 by omega,show i*4+4+2=i*4+2+4 by omega,show i*4+4+3=i*4+3+4 by omega];simpa only[fcL,List.cons_append,List.getElem?_cons_succ]using this
theorem jcd{c:U}{off n:Nat}(h:foOK c off n=true):(foA c off n).length=n∧jas c=true∧ ∀(i:Nat),i<n→ ∃f,(foA c off n)[i]?=some f∧f.s.size≤9223372036854775807∧
  jap .i64 c (off+i*4)=true∧jap .i64 c (off+i*4+1)=true∧jap .i64 c (off+i*4+1+1)=true∧jbt c (off+i*4+1+1+1)=true∧
  jaj c (off+i*4)=f.k∧jaj c (off+i*4+1)=f.w∧jaj c (off+i*4+1+1)=f.d∧jck c (off+i*4+1+1+1)=f.s:=by
 obtain⟨h1,⟨r,h2⟩,h3,h4⟩:=jdy.1 h;refine⟨h1,h3,fun i hi=> ?_⟩;obtain⟨f,hf⟩:∃f,(foA c off n)[i]?=some f:=⟨_,List.getElem?_eq_getElem (by omega)⟩
 obtain⟨q1,q2,q3,q4⟩:=fcL_at _ r i f hf;rw[←h2,List.getElem?_drop]at q1 q2 q3 q4;refine⟨f,hf,h4 f (List.mem_of_getElem? hf),?_⟩;simp only[Nat.add_assoc]at*;simp only[jap,jbt,jaj,jck,q1,q2,q3,q4,beq_self_eq_true,and_self]
theorem jev{l:List Fo}{i:Nat}{f:Fo}(h:l[i]?=some f):l.drop i=f::l.drop (i+1):=by
 obtain⟨hi,rfl⟩:=List.getElem?_eq_some_iff.1 h;exact List.drop_eq_getElem_cons hi
theorem jbv{n:Nat}{c:U}(h:jas c=true):jax n c=true:=by simp[jax,jar h]
theorem jfw{c:U}{ty:TypeId}{o:Bool}(hp:jas c=true):jcj [some ⟨c,ty,o⟩]=vw c ty:=by
 funext k
 match k with
 | 0=>simp[jcj,jit,vw,hp]
 | k+1=>rfl
theorem jdg{c:U}{ty:TypeId}{o:Bool}(hp:jas c=true):jcj [some ⟨c,ty,o⟩,none]=vw c ty:=by
 funext k
 match k with
 | 0=>simp[jcj,jit,vw,hp]
 | 1=>rfl
 | k+2=>rfl
theorem jcq{c:U}{off n:Nat}{x:Bool}(h:(foOK c off n&&x)=true):jas c=true:=by
 simp only[jaf]at h;exact(jcd h.1).2.1
def ixF(p:Fo→Bool):List Fo→Int→Int
 | [],_=> -1
 | f::r,i=>bif p f then i else ixF p r (i+1)
theorem ixF_any(p:Fo→Bool):∀(l:List Fo)(i:Int),0≤i→(decide (0≤ixF p l i))=l.any p
 | [],_,_=>rfl
 | f::r,i,h=>by
  unfold ixF;cases hp:p f
  ·simp only[cond_false,List.any_cons,hp,Bool.false_or];exact ixF_any p r (i+1) (by omega)
  ·simp[h,hp]
def ixV(p:Fo→Bool)(c:U)(off n:Nat)(i:Int):Int:=ixF p ((foA c off n).drop i.toNat) i
theorem jh5(p:Fo→Bool)(c:U)(off n:Nat):(decide (0≤ixV p c off n 0))=(foA c off n).any p:=by
 rw[ixV,Int.toNat_zero,List.drop_zero];exact ixF_any p _ 0 (by omega)
def altS(s s':Ab.Spec):Ab.Spec:=fun a b=>match s a b with | some x=>some x | none=>s' a b
theorem jfr{f:FuncId}{s s':Ab.Spec}(h:jal Tryz.prog f s)(h':jal Tryz.prog f s'):jal Tryz.prog f (altS s s'):=
 ⟨h.1, fun args v N w0 lk ι w hr hs hp => by
  simp only[altS]at hs;split at hs
  ·rename_i x he;exact h.2 args v N w0 lk ι w hr (by rw[he,hs]) hp
  ·exact h'.2 args v N w0 lk ι w hr hs hp⟩
def jc9(f:Fo):Bool:=decide (200<(f.s.size:Int))
def pBad(f:Fo):Bool:= !jer f
def isD(f:Fo):Bool:=decide (f.k≤4)
theorem ok_F3':jao Tryz.prog (Env.nil.add 44 (sp1 Ff.s44)):=jak jbr Ff.ok44
def H0:Env:=Env.nil.add 44 (sp1 Ff.s44)
theorem ok_H0:jao Tryz.prog H0:=ok_F3'
def s42(f:Fo):Bool×Value:=(decide (f.s.size≤9223372036854775807),B (jc9 f))
theorem fn42:Fn1 Tryz.prog 42 Tryz.f42:= .m Tryz.func42
theorem v42(f:Fo)(R:Value→Prop):jbe Tryz.prog H0 noL Tryz.f42 [Enc.enc f] (fun _=>none) 0 (fun v _ _=>R v)=(R (B (decide ((((Fo.s f).size):Int)>200)))):=by kernel_rfl
theorem ok42:jal Tryz.prog 42 (sp1 s42):=by
 refine je9 ok_H0 hmix fn42 jai jag fun f hc=> ?_
 rw[jdf,v42];have hc:(f.s.size≤9223372036854775807):=jab hc
 try dsimp only[s42]
 rfl
def s43(f:Fo):Bool×Value:=(decide (f.s.size≤9223372036854775807),B (pBad f))
theorem fn43:Fn1 Tryz.prog 43 Tryz.f43:= .m Tryz.func43
theorem v43(f:Fo)(R:Value→Prop):jbe Tryz.prog H0 noL Tryz.f43 [Enc.enc f] (fun _=>none) 0 (fun v _ _=>R v)=(bif decide ((Fo.s f).size≤9223372036854775807)then R (B !jer f)else False):=by kernel_rfl
theorem ok43:jal Tryz.prog 43 (sp1 s43):=by
 refine je9 ok_H0 hmix fn43 jai jag fun f hc=> ?_
 rw[jdf,v43];have hc:(f.s.size≤9223372036854775807):=jab hc
 try dsimp only[s43]
 rw[jaa hc,cond_true];rfl
attribute [local instance 5000] tabsB
namespace K42
def H1:Env:=H0.add 42 (sp1 s42)
theorem ok_H1:jao Tryz.prog H1:=jak ok_H0 ok42
def V77_0:U×Nat×Nat×Nat×Nat×Int×Int×Int→U:=fun(c,ty,off,n,cap,r,m,i)=> [.slice (some ⟨0,off,some 1⟩) n cap,.func (.func 42) ⟨[]⟩ ⟨[]⟩,I r,I m,I i]
def B77_0:U×Nat×Nat×Nat×Nat×Int×Int×Int→F:=fun(c,ty,off,n,cap,r,m,i)=> [some ⟨c,ty,false⟩]
def S77_0:LSpec (U×Nat×Nat×Nat×Nat×Int×Int×Int) where
 live:=[0,1,4,7,8]
 mid:=[0]
 n:=60
 dec vs bs:=match vs,bs with | [.slice (some ⟨0,off,some 1⟩) n cap,.func (.func 42) ⟨[]⟩ ⟨[]⟩,.int .i64 r,.int .i64 m,.int .i64 i],[some ⟨c,ty,false⟩]=>some (c,ty,off,n,cap,r,m,i) | _,_=>none
 pre:=fun(c,ty,off,n,cap,r,m,i)=>foOK c off n&&decide (n≤1000000∧m=n∧0≤i∧i≤n)
 fin:=fun(c,ty,off,n,cap,r,m,i) Z=>(bif (ixV jc9 c off n i)== -1 then Z (.exit 0) [.slice (some ⟨0,off,some 1⟩) n cap,.func (.func 42) ⟨[]⟩ ⟨[]⟩,I r,I m,I n] [some ⟨c,ty,false⟩]else Z .ret [.slice (some ⟨0,off,some 1⟩) n cap,.func (.func 42) ⟨[]⟩ ⟨[]⟩,I (ixV jc9 c off n i),I m,I (ixV jc9 c off n i)] [some ⟨c,ty,false⟩])
def gy(a:FuncId):Value:= .func (.func a) ⟨[]⟩ ⟨[]⟩
def aw(a b c:Nat):Value:= .slice (av 0 a 1) b c
def co(b:Int)(a:Nat):Nat:=a+b.toNat*4
def e7(c d:Bool)(a:U)(b:Nat):Bool:=jap .i64 a b&& (jap .i64 a (b+1) && (c&&d))
def dz(c:Int)(a:U)(b:Nat):Bool:=jap .i64 a (Fg.K42.co c b) &&Fg.K42.e7 (jbt a (Fg.K42.co c b+1+1+1)) true a (Fg.K42.co c b+1)
def ju(g:Bool)(h:Exit→U→F→Prop)(j:FuncId)(a b k:Int)(d:U)(c e f i:Nat):Prop:=bif am a b then bv (Fg.K42.dz a d e) a c (bif e6 (jck d (Fg.K42.co a e+1+1+1))then fp (.mk d f false) g h b a (al a 1) [] [] (Fg.K42.aw e c i) (Fg.K42.gy j) (ak a) (Fg.K42.aw e c i) (Fg.K42.gy j) (ak k)else False)else h (.exit 0) [Fg.K42.aw e c i,Fg.K42.gy j,ak k,ak b,ak a] [some (.mk d f false)]
def jv(c:Int)(a:U)(b:Nat):Ff.Fo:=Ff.Fo.mk (jaj a (Fg.K42.co c b)) (jaj a (Fg.K42.co c b+1)) (jaj a (Fg.K42.co c b+1+1)) (jck a (Fg.K42.co c b+1+1+1))
theorem r77_0(c:U)(ty:Nat)(off:Nat)(n:Nat)(cap:Nat)(r:Int)(m:Int)(i:Int)(jk:Tmps)(R:Exit→U→F→Prop):(jb7 Tryz.prog H1 noL Tryz.f77.ntmps (jbh Tryz.f77 0) (tl S77_0.live (V77_0 (c,ty,off,n,cap,r,m,i)) jk) (ml S77_0.mid (B77_0 (c,ty,off,n,cap,r,m,i))) S77_0.n fun e t' m' _=>R e (List.map t' S77_0.live) (List.map m' S77_0.mid))=(Fg.K42.ju (Fg.jc9 (Fg.K42.jv i c off)) R 42 i m r c n off ty cap):=by kernel_rfl
theorem l77_0:LOKf Tryz.prog (oneL 0 S77_0.hQ) Tryz.f77:=by
 refine jci (h:=S77_0.hQ) (by kernel_rfl) (jdm ok_H1 hmix (by kernel_rfl) (jbo _) S77_0 V77_0 B77_0 (fun(c,ty,off,n,cap,r,m,i)=>(n-i).toNat) ?_ ?_ ?_)
 ·intro vs bs s h;simp only[S77_0]at h;split at h
  all_goals first | (cases h;exact⟨rfl,rfl⟩) | cases h | (split at h<;>first | (rename_i hq;cases h;have hq:=jah hq;subst hq;exact⟨rfl,rfl⟩) | (rename_i hq;cases h;simp only[cnd,jaf,Nat.beq_eq]at hq;obtain⟨rfl,rfl,rfl⟩:=hq;exact⟨rfl,rfl⟩) | cases h)
 ·exact fun k ⟨c,ty,off,n,cap,r,m,i⟩ ⟨c',ty',off',n',cap',r',m',i'⟩ hp h=>by
   simp only[S77_0,jaf]at hp;have hq:=jbv (n:=k) (jcd hp.1).2.1;simp_all[V77_0,B77_0,jbk,jax,idsL,ids]
 ·intro⟨c,ty,off,n,cap,r,m,i⟩ jk Z hp hf;rw[r77_0];delta ak Fg.K42.gy av Fg.K42.aw bx cu bv fp al e6 Fg.K42.co Fg.K42.e7 Fg.K42.dz am Fg.K42.ju Fg.K42.jv;simp only[S77_0]at hp hf;simp only[jaf,jae]at hp;obtain⟨ho,h1,rfl,h3,h4⟩:=hp;obtain⟨hl,hpl,hat⟩:=jcd ho;rw[ixV]at hf;apply cond_intro<;>intro h
  ·have h:=jab h;obtain⟨f,hf1,hsz,q1,q2,q3,q4,e1,e2,e3,e4⟩:=hat i.toNat (by omega);have hd:=jev hf1;have hi:(i+1).toNat=i.toNat+1:=by omega
   rw[hd,ixF]at hf;rw[q1,q2,q3,q4,e1,e2,e3,e4];refine c_t (jaa (by omega)) (c_t rfl (c_t (jaa hsz) ?_));have hp':jc9 ⟨f.k,f.w,f.d,f.s⟩=jc9 f:=rfl;rw[hp'];cases hq:jc9 f
   ·rw[hq,cond_false]at hf;refine c_f rfl ?_;rw[w64 (n:=i+1) (by omega)];refine⟨(c,ty,off,n,cap,r,n,i+1),rfl,rfl,?_,by simp only;omega,?_⟩
    ·simp only[S77_0,jaf,jae];exact⟨ho,h1,trivial,by omega,by omega⟩
    ·simp only[S77_0,ixV];rw[hi];exact hf
   ·rw[hq,cond_true,show(i== -1)=false by simp;omega]at hf;exact c_t rfl hf
  ·have h:=jac h;obtain rfl:i=n:=by omega
   rw[Int.toNat_natCast,List.drop_eq_nil_of_le (by omega)]at hf;exact hf
def s77n:Ab.Spec:=fun args bs=>match args,bs with
 | [.slice none 0 0,.func (.func 42) ⟨[]⟩ ⟨[]⟩],[none,none]=>some (true,I (-1))
 | _,_=>none
theorem fn77:Fn1 Tryz.prog 77 Tryz.f77:= .m Tryz.func77
theorem v77n_0(R:Value→Prop):jbe Tryz.prog H1 noL Tryz.f77 [.slice none 0 0,.func (.func 42) ⟨[]⟩ ⟨[]⟩] (jcj [none,none]) 2 (fun v _ _=>R v)=(bif decide (0<natO 0)then False else R (I (-1))):=by kernel_rfl
theorem k77n_0(hc:(true)=true):ja9 Tryz.prog H1 noL Tryz.f77 [.slice none 0 0,.func (.func 42) ⟨[]⟩ ⟨[]⟩] [none,none] 2 (I (-1)):=by
 rw[ja9,v77n_0];rw[ja1];rfl
theorem ok77n:jal Tryz.prog 77 s77n:=by
 refine jbn ok_H1 hmix fn77 jai fun args bs v hs=> ?_
 simp only[s77n]at hs;split at hs
 ·simp only[Option.some.injEq,Prod.mk.injEq]at hs;obtain⟨hc,rfl⟩:=hs;exact⟨_,2,rfl,rfl,jag,k77n_0 (by first | rfl | exact hc)⟩
 ·cases hs
def s77w:Ab.Spec:=fun args bs=>match args,bs with
 | [.slice (some ⟨_,off,some 1⟩) n cap,.func (.func 42) ⟨[]⟩ ⟨[]⟩],[some ⟨c,ty,o⟩,none]=>some ((foOK c off n&&decide (n≤1000000)),I (ixV jc9 c off n 0))
 | _,_=>none
def i6(g:Ff.Fo→Bool)(b:LSpec (Prod U (Prod Nat (Prod Nat (Prod Nat (Prod Nat (Prod Int (Prod Int Int))))))))(a:U)(d e f:Nat)(c:TypeId)(h:Value→Prop):Prop:=bif bn a 60 then bif b.pre (a,(c,(d,(e,(f,((0:Int),(natO e,(0:Int))))))))then bif Fg.ixV g a d e 0== -(1:Int)then ek (bn a 60) (.int .i64 (-1)) h else ek (bn a 60) (.int .i64 (Fg.ixV g a d e 0)) h else False else False
theorem v77w_0(c:U)(ty:TypeId)(o:Bool)(off:Nat)(n:Nat)(cap:Nat)(R:Value→Prop):jbe Tryz.prog H1 (oneL 0 S77_0.hQ) Tryz.f77 [.slice (some ⟨0,off,some 1⟩) n cap,.func (.func 42) ⟨[]⟩ ⟨[]⟩] (vw c ty) 2 (fun v _ _=>R v)=(Fg.K42.i6 Fg.jc9 Fg.K42.S77_0 c off n cap ty R):=by kernel_rfl
theorem k77w_0(c:U)(ty:TypeId)(o:Bool)(off:Nat)(n:Nat)(cap:Nat)(hc:((foOK c off n&&decide (n≤1000000)))=true):ja9 Tryz.prog H1 (oneL 0 S77_0.hQ) Tryz.f77 [.slice (some ⟨0,off,some 1⟩) n cap,.func (.func 42) ⟨[]⟩ ⟨[]⟩] [some ⟨c,ty,o⟩,none] 2 (I (ixV jc9 c off n 0)):=by
 rw[ja9,jdg (o:=o) (jcq hc),v77w_0 (o:=o)];delta ek bn Fg.K42.i6;rw[ja1];simp only[jaf,jae]at hc;obtain⟨ho,hn⟩:=hc;have hi:jax 60 c=true:=jbv (jcd ho).2.1;refine c_t (by simp[hi]) (c_t ?_ ?_)
 ·simp only[S77_0,jaf,jae];exact⟨ho,hn,trivial,by omega,by omega⟩
 ·skip
  apply cond_intro<;>intro h
  ·rw[eq_of_beq h];exact c_t (by simp[hi]) fun _=>rfl
  ·exact c_t (by simp[hi]) fun _=>rfl
theorem ok77w:jal Tryz.prog 77 s77w:=by
 refine jbn ok_H1 hmix fn77 l77_0 fun args bs v hs=> ?_
 simp only[s77w]at hs;split at hs
 ·simp only[Option.some.injEq,Prod.mk.injEq]at hs;obtain⟨hc,rfl⟩:=hs;exact⟨_,2,rfl,rfl,jag,k77w_0 _ _ _ _ _ _ (by first | rfl | exact hc)⟩
 ·cases hs
def s77:Ab.Spec:=altS s77n s77w
theorem ok77:jal Tryz.prog 77 s77:=jfr ok77n ok77w
def H2:Env:=H1.add 77 s77
theorem ok_H2:jao Tryz.prog H2:=jak ok_H1 ok77
def s41:Ab.Spec:=fun args bs=>match args,bs with
 | [.slice none 0 0,.func (.func 42) ⟨[]⟩ ⟨[]⟩],[none,none]=>some (true,B false)
 | [.slice (some ⟨_,off,some 1⟩) n cap,.func (.func 42) ⟨[]⟩ ⟨[]⟩],[some ⟨c,ty,o⟩,none]=>some ((foOK c off n&&decide (n≤1000000)),B ((foA c off n).any jc9))
 | _,_=>none
theorem fn41:Fn1 Tryz.prog 41 Tryz.f41:= .m Tryz.func41
theorem v41_0(R:Value→Prop):jbe Tryz.prog H2 noL Tryz.f41 [.slice none 0 0,.func (.func 42) ⟨[]⟩ ⟨[]⟩] (jcj [none,none]) 2 (fun v _ _=>R v)=(R (B (decide (-1≥0)))):=by kernel_rfl
theorem v41_1(c:U)(ty:TypeId)(o:Bool)(off:Nat)(n:Nat)(cap:Nat)(R:Value→Prop):jbe Tryz.prog H2 noL Tryz.f41 [.slice (some ⟨0,off,some 1⟩) n cap,.func (.func 42) ⟨[]⟩ ⟨[]⟩] (vw c ty) 2 (fun v _ _=>R v)=(bif foOK c off n&&decide (n≤1000000)then R (B (decide (ixV jc9 c off n 0≥0)))else False):=by kernel_rfl
theorem k41_0(hc:(true)=true):ja9 Tryz.prog H2 noL Tryz.f41 [.slice none 0 0,.func (.func 42) ⟨[]⟩ ⟨[]⟩] [none,none] 2 (B false):=by
 rw[ja9,v41_0];rfl
theorem k41_1(c:U)(ty:TypeId)(o:Bool)(off:Nat)(n:Nat)(cap:Nat)(hc:((foOK c off n&&decide (n≤1000000)))=true):ja9 Tryz.prog H2 noL Tryz.f41 [.slice (some ⟨0,off,some 1⟩) n cap,.func (.func 42) ⟨[]⟩ ⟨[]⟩] [some ⟨c,ty,o⟩,none] 2 (B ((foA c off n).any jc9)):=by
 rw[ja9,jdg (o:=o) (jcq hc),v41_1 (o:=o)];refine c_t hc ?_;rw[←jh5]
theorem ok41:jal Tryz.prog 41 s41:=by
 refine jbn ok_H2 hmix fn41 jai fun args bs v hs=> ?_
 simp only[s41]at hs;split at hs
 ·simp only[Option.some.injEq,Prod.mk.injEq]at hs;obtain⟨hc,rfl⟩:=hs;exact⟨_,2,rfl,rfl,jag,k41_0 (by first | rfl | exact hc)⟩
 ·simp only[Option.some.injEq,Prod.mk.injEq]at hs;obtain⟨hc,rfl⟩:=hs;exact⟨_,2,rfl,rfl,jag,k41_1 _ _ _ _ _ _ (by first | rfl | exact hc)⟩
 ·cases hs
def H3:Env:=H2.add 41 s41
theorem ok_H3:jao Tryz.prog H3:=jak ok_H2 ok41
def s11:Ab.Spec:=fun args bs=>match args,bs with
 | [.slice none 0 0],[none]=>some (true,B true)
 | [.slice (some ⟨_,off,some 1⟩) n cap],[some ⟨c,ty,o⟩]=>some ((foOK c off n&&true),B (decide ((n:Int)≤40) && !(foA c off n).any jc9))
 | _,_=>none
theorem fn11:Fn1 Tryz.prog 11 Tryz.f11:= .m Tryz.func11
theorem v11_0(R:Value→Prop):jbe Tryz.prog H3 noL Tryz.f11 [.slice none 0 0] (jcj [none]) 1 (fun v _ _=>R v)=(bif decide (natO 0≤40) || true then R (B (decide (natO 0≤40) && !false))else False):=by kernel_rfl
def ii(a:U)(b c:Nat):Bool:=Fg.foOK a b c&&decide (c≤1000000) &&true
theorem v11_1(c:U)(ty:TypeId)(o:Bool)(off:Nat)(n:Nat)(cap:Nat)(R:Value→Prop):jbe Tryz.prog H3 noL Tryz.f11 [.slice (some ⟨0,off,some 1⟩) n cap] (vw c ty) 1 (fun v _ _=>R v)=(b7 (bif decide (natO n≤40)then Fg.K42.ii c off n else true) (B (decide (natO n≤40) && !(Fg.foA c off n).any Fg.jc9)) R):=by kernel_rfl
theorem k11_0(hc:(true)=true):ja9 Tryz.prog H3 noL Tryz.f11 [.slice none 0 0] [none] 1 (B true):=by
 rw[ja9,v11_0];rw[ja1];rfl
theorem k11_1(c:U)(ty:TypeId)(o:Bool)(off:Nat)(n:Nat)(cap:Nat)(hc:((foOK c off n&&true))=true):ja9 Tryz.prog H3 noL Tryz.f11 [.slice (some ⟨0,off,some 1⟩) n cap] [some ⟨c,ty,o⟩] 1 (B (decide ((n:Int)≤40) && !(foA c off n).any jc9)):=by
 rw[ja9,jfw (o:=o) (jcq hc),v11_1 (o:=o)];delta b7 Fg.K42.ii;rw[ja1];simp only[jaf,and_true]at hc;rw[hc];refine c_t ?_ rfl;by_cases h:(n:Int)≤40
 ·rw[jaa h];simp;omega
 ·rw[jad h];rfl
theorem ok11:jal Tryz.prog 11 s11:=by
 refine jbn ok_H3 hmix fn11 jai fun args bs v hs=> ?_
 simp only[s11]at hs;split at hs
 ·simp only[Option.some.injEq,Prod.mk.injEq]at hs;obtain⟨hc,rfl⟩:=hs;exact⟨_,1,rfl,rfl,jag,k11_0 (by first | rfl | exact hc)⟩
 ·simp only[Option.some.injEq,Prod.mk.injEq]at hs;obtain⟨hc,rfl⟩:=hs;exact⟨_,1,rfl,rfl,jag,k11_1 _ _ _ _ _ _ (by first | rfl | exact hc)⟩
 ·cases hs
end K42
attribute [local instance 5000] tabsB
namespace K43
def H1:Env:=H0.add 43 (sp1 s43)
theorem ok_H1:jao Tryz.prog H1:=jak ok_H0 ok43
def V77_0:U×Nat×Nat×Nat×Nat×Int×Int×Int→U:=fun(c,ty,off,n,cap,r,m,i)=> [.slice (some ⟨0,off,some 1⟩) n cap,.func (.func 43) ⟨[]⟩ ⟨[]⟩,I r,I m,I i]
def B77_0:U×Nat×Nat×Nat×Nat×Int×Int×Int→F:=fun(c,ty,off,n,cap,r,m,i)=> [some ⟨c,ty,false⟩]
def S77_0:LSpec (U×Nat×Nat×Nat×Nat×Int×Int×Int) where
 live:=[0,1,4,7,8]
 mid:=[0]
 n:=60
 dec vs bs:=match vs,bs with | [.slice (some ⟨0,off,some 1⟩) n cap,.func (.func 43) ⟨[]⟩ ⟨[]⟩,.int .i64 r,.int .i64 m,.int .i64 i],[some ⟨c,ty,false⟩]=>some (c,ty,off,n,cap,r,m,i) | _,_=>none
 pre:=fun(c,ty,off,n,cap,r,m,i)=>foOK c off n&&decide (n≤1000000∧m=n∧0≤i∧i≤n)
 fin:=fun(c,ty,off,n,cap,r,m,i) Z=>(bif (ixV pBad c off n i)== -1 then Z (.exit 0) [.slice (some ⟨0,off,some 1⟩) n cap,.func (.func 43) ⟨[]⟩ ⟨[]⟩,I r,I m,I n] [some ⟨c,ty,false⟩]else Z .ret [.slice (some ⟨0,off,some 1⟩) n cap,.func (.func 43) ⟨[]⟩ ⟨[]⟩,I (ixV pBad c off n i),I m,I (ixV pBad c off n i)] [some ⟨c,ty,false⟩])
theorem r77b_0(c:U)(ty:Nat)(off:Nat)(n:Nat)(cap:Nat)(r:Int)(m:Int)(i:Int)(jk:Tmps)(R:Exit→U→F→Prop):(jb7 Tryz.prog H1 noL Tryz.f77.ntmps (jbh Tryz.f77 0) (tl S77_0.live (V77_0 (c,ty,off,n,cap,r,m,i)) jk) (ml S77_0.mid (B77_0 (c,ty,off,n,cap,r,m,i))) S77_0.n fun e t' m' _=>R e (List.map t' S77_0.live) (List.map m' S77_0.mid))=(Fg.K42.ju (Fg.pBad (Fg.K42.jv i c off)) R 43 i m r c n off ty cap):=by kernel_rfl
theorem l77_0:LOKf Tryz.prog (oneL 0 S77_0.hQ) Tryz.f77:=by
 refine jci (h:=S77_0.hQ) (by kernel_rfl) (jdm ok_H1 hmix (by kernel_rfl) (jbo _) S77_0 V77_0 B77_0 (fun(c,ty,off,n,cap,r,m,i)=>(n-i).toNat) ?_ ?_ ?_)
 ·intro vs bs s h;simp only[S77_0]at h;split at h
  all_goals first | (cases h;exact⟨rfl,rfl⟩) | cases h | (split at h<;>first | (rename_i hq;cases h;have hq:=jah hq;subst hq;exact⟨rfl,rfl⟩) | (rename_i hq;cases h;simp only[cnd,jaf,Nat.beq_eq]at hq;obtain⟨rfl,rfl,rfl⟩:=hq;exact⟨rfl,rfl⟩) | cases h)
 ·exact fun k ⟨c,ty,off,n,cap,r,m,i⟩ ⟨c',ty',off',n',cap',r',m',i'⟩ hp h=>by
   simp only[S77_0,jaf]at hp;have hq:=jbv (n:=k) (jcd hp.1).2.1;simp_all[V77_0,B77_0,jbk,jax,idsL,ids]
 ·intro⟨c,ty,off,n,cap,r,m,i⟩ jk Z hp hf;rw[r77b_0];delta ak Fg.K42.gy av Fg.K42.aw bx cu bv fp al e6 Fg.K42.co Fg.K42.e7 Fg.K42.dz am Fg.K42.ju Fg.K42.jv;simp only[S77_0]at hp hf;simp only[jaf,jae]at hp;obtain⟨ho,h1,rfl,h3,h4⟩:=hp;obtain⟨hl,hpl,hat⟩:=jcd ho;rw[ixV]at hf;apply cond_intro<;>intro h
  ·have h:=jab h;obtain⟨f,hf1,hsz,q1,q2,q3,q4,e1,e2,e3,e4⟩:=hat i.toNat (by omega);have hd:=jev hf1;have hi:(i+1).toNat=i.toNat+1:=by omega
   rw[hd,ixF]at hf;rw[q1,q2,q3,q4,e1,e2,e3,e4];refine c_t (jaa (by omega)) (c_t rfl (c_t (jaa hsz) ?_));have hp':pBad ⟨f.k,f.w,f.d,f.s⟩=pBad f:=rfl;rw[hp'];cases hq:pBad f
   ·rw[hq,cond_false]at hf;refine c_f rfl ?_;rw[w64 (n:=i+1) (by omega)];refine⟨(c,ty,off,n,cap,r,n,i+1),rfl,rfl,?_,by simp only;omega,?_⟩
    ·simp only[S77_0,jaf,jae];exact⟨ho,h1,trivial,by omega,by omega⟩
    ·simp only[S77_0,ixV];rw[hi];exact hf
   ·rw[hq,cond_true,show(i== -1)=false by simp;omega]at hf;exact c_t rfl hf
  ·have h:=jac h;obtain rfl:i=n:=by omega
   rw[Int.toNat_natCast,List.drop_eq_nil_of_le (by omega)]at hf;exact hf
def s77n:Ab.Spec:=fun args bs=>match args,bs with
 | [.slice none 0 0,.func (.func 43) ⟨[]⟩ ⟨[]⟩],[none,none]=>some (true,I (-1))
 | _,_=>none
theorem fn77:Fn1 Tryz.prog 77 Tryz.f77:= .m Tryz.func77
theorem v77nb_0(R:Value→Prop):jbe Tryz.prog H1 noL Tryz.f77 [.slice none 0 0,.func (.func 43) ⟨[]⟩ ⟨[]⟩] (jcj [none,none]) 2 (fun v _ _=>R v)=(bif decide (0<natO 0)then False else R (I (-1))):=by kernel_rfl
theorem k77nb_0(hc:(true)=true):ja9 Tryz.prog H1 noL Tryz.f77 [.slice none 0 0,.func (.func 43) ⟨[]⟩ ⟨[]⟩] [none,none] 2 (I (-1)):=by
 rw[ja9,v77nb_0];rw[ja1];rfl
theorem ok77n:jal Tryz.prog 77 s77n:=by
 refine jbn ok_H1 hmix fn77 jai fun args bs v hs=> ?_
 simp only[s77n]at hs;split at hs
 ·simp only[Option.some.injEq,Prod.mk.injEq]at hs;obtain⟨hc,rfl⟩:=hs;exact⟨_,2,rfl,rfl,jag,k77nb_0 (by first | rfl | exact hc)⟩
 ·cases hs
def s77w:Ab.Spec:=fun args bs=>match args,bs with
 | [.slice (some ⟨_,off,some 1⟩) n cap,.func (.func 43) ⟨[]⟩ ⟨[]⟩],[some ⟨c,ty,o⟩,none]=>some ((foOK c off n&&decide (n≤1000000)),I (ixV pBad c off n 0))
 | _,_=>none
theorem v77wb_0(c:U)(ty:TypeId)(o:Bool)(off:Nat)(n:Nat)(cap:Nat)(R:Value→Prop):jbe Tryz.prog H1 (oneL 0 S77_0.hQ) Tryz.f77 [.slice (some ⟨0,off,some 1⟩) n cap,.func (.func 43) ⟨[]⟩ ⟨[]⟩] (vw c ty) 2 (fun v _ _=>R v)=(Fg.K42.i6 Fg.pBad Fg.K43.S77_0 c off n cap ty R):=by kernel_rfl
theorem k77wb_0(c:U)(ty:TypeId)(o:Bool)(off:Nat)(n:Nat)(cap:Nat)(hc:((foOK c off n&&decide (n≤1000000)))=true):ja9 Tryz.prog H1 (oneL 0 S77_0.hQ) Tryz.f77 [.slice (some ⟨0,off,some 1⟩) n cap,.func (.func 43) ⟨[]⟩ ⟨[]⟩] [some ⟨c,ty,o⟩,none] 2 (I (ixV pBad c off n 0)):=by
 rw[ja9,jdg (o:=o) (jcq hc),v77wb_0 (o:=o)];delta ek bn Fg.K42.i6;rw[ja1];simp only[jaf,jae]at hc;obtain⟨ho,hn⟩:=hc;have hi:jax 60 c=true:=jbv (jcd ho).2.1;refine c_t (by simp[hi]) (c_t ?_ ?_)
 ·simp only[S77_0,jaf,jae];exact⟨ho,hn,trivial,by omega,by omega⟩
 ·skip
  apply cond_intro<;>intro h
  ·rw[eq_of_beq h];exact c_t (by simp[hi]) fun _=>rfl
  ·exact c_t (by simp[hi]) fun _=>rfl
theorem ok77w:jal Tryz.prog 77 s77w:=by
 refine jbn ok_H1 hmix fn77 l77_0 fun args bs v hs=> ?_
 simp only[s77w]at hs;split at hs
 ·simp only[Option.some.injEq,Prod.mk.injEq]at hs;obtain⟨hc,rfl⟩:=hs;exact⟨_,2,rfl,rfl,jag,k77wb_0 _ _ _ _ _ _ (by first | rfl | exact hc)⟩
 ·cases hs
def s77:Ab.Spec:=altS s77n s77w
theorem ok77:jal Tryz.prog 77 s77:=jfr ok77n ok77w
def H2:Env:=H1.add 77 s77
theorem ok_H2:jao Tryz.prog H2:=jak ok_H1 ok77
def s41:Ab.Spec:=fun args bs=>match args,bs with
 | [.slice none 0 0,.func (.func 43) ⟨[]⟩ ⟨[]⟩],[none,none]=>some (true,B false)
 | [.slice (some ⟨_,off,some 1⟩) n cap,.func (.func 43) ⟨[]⟩ ⟨[]⟩],[some ⟨c,ty,o⟩,none]=>some ((foOK c off n&&decide (n≤1000000)),B ((foA c off n).any pBad))
 | _,_=>none
theorem fn41:Fn1 Tryz.prog 41 Tryz.f41:= .m Tryz.func41
theorem v41b_0(R:Value→Prop):jbe Tryz.prog H2 noL Tryz.f41 [.slice none 0 0,.func (.func 43) ⟨[]⟩ ⟨[]⟩] (jcj [none,none]) 2 (fun v _ _=>R v)=(R (B (decide (-1≥0)))):=by kernel_rfl
theorem v41b_1(c:U)(ty:TypeId)(o:Bool)(off:Nat)(n:Nat)(cap:Nat)(R:Value→Prop):jbe Tryz.prog H2 noL Tryz.f41 [.slice (some ⟨0,off,some 1⟩) n cap,.func (.func 43) ⟨[]⟩ ⟨[]⟩] (vw c ty) 2 (fun v _ _=>R v)=(bif foOK c off n&&decide (n≤1000000)then R (B (decide (ixV pBad c off n 0≥0)))else False):=by kernel_rfl
theorem k41b_0(hc:(true)=true):ja9 Tryz.prog H2 noL Tryz.f41 [.slice none 0 0,.func (.func 43) ⟨[]⟩ ⟨[]⟩] [none,none] 2 (B false):=by
 rw[ja9,v41b_0];rfl
theorem k41b_1(c:U)(ty:TypeId)(o:Bool)(off:Nat)(n:Nat)(cap:Nat)(hc:((foOK c off n&&decide (n≤1000000)))=true):ja9 Tryz.prog H2 noL Tryz.f41 [.slice (some ⟨0,off,some 1⟩) n cap,.func (.func 43) ⟨[]⟩ ⟨[]⟩] [some ⟨c,ty,o⟩,none] 2 (B ((foA c off n).any pBad)):=by
 rw[ja9,jdg (o:=o) (jcq hc),v41b_1 (o:=o)];refine c_t hc ?_;rw[←jh5]
theorem ok41:jal Tryz.prog 41 s41:=by
 refine jbn ok_H2 hmix fn41 jai fun args bs v hs=> ?_
 simp only[s41]at hs;split at hs
 ·simp only[Option.some.injEq,Prod.mk.injEq]at hs;obtain⟨hc,rfl⟩:=hs;exact⟨_,2,rfl,rfl,jag,k41b_0 (by first | rfl | exact hc)⟩
 ·simp only[Option.some.injEq,Prod.mk.injEq]at hs;obtain⟨hc,rfl⟩:=hs;exact⟨_,2,rfl,rfl,jag,k41b_1 _ _ _ _ _ _ (by first | rfl | exact hc)⟩
 ·cases hs
def H3:Env:=H2.add 41 s41
theorem ok_H3:jao Tryz.prog H3:=jak ok_H2 ok41
def s12:Ab.Spec:=fun args bs=>match args,bs with
 | [.slice none 0 0],[none]=>some (true,I 0)
 | [.slice (some ⟨_,off,some 1⟩) n cap],[some ⟨c,ty,o⟩]=>some ((foOK c off n&&true),I (bif decide (16<(n:Int)) || (foA c off n).any pBad then 130 else 0))
 | _,_=>none
theorem fn12:Fn1 Tryz.prog 12 Tryz.f12:= .m Tryz.func12
theorem v12_0(R:Value→Prop):jbe Tryz.prog H3 noL Tryz.f12 [.slice none 0 0] (jcj [none]) 1 (fun v _ _=>R v)=(dl (ar (natO 0) 16) true (ar (natO 0) 16&&true) (R (ak 130)) (R (ak 0))):=by kernel_rfl
theorem v12_1(c:U)(ty:TypeId)(o:Bool)(off:Nat)(n:Nat)(cap:Nat)(R:Value→Prop):jbe Tryz.prog H3 noL Tryz.f12 [.slice (some ⟨0,off,some 1⟩) n cap] (vw c ty) 1 (fun v _ _=>R v)=(dl (ar (natO n) 16) (Fg.K42.ii c off n) (ar (natO n) 16 || (Fg.foA c off n).any Fg.pBad) (R (ak 130)) (R (ak 0))):=by kernel_rfl
theorem k12_0(hc:(true)=true):ja9 Tryz.prog H3 noL Tryz.f12 [.slice none 0 0] [none] 1 (I 0):=by
 rw[ja9,v12_0];delta dl ak ar;rw[ja1];rfl
theorem k12_1(c:U)(ty:TypeId)(o:Bool)(off:Nat)(n:Nat)(cap:Nat)(hc:((foOK c off n&&true))=true):ja9 Tryz.prog H3 noL Tryz.f12 [.slice (some ⟨0,off,some 1⟩) n cap] [some ⟨c,ty,o⟩] 1 (I (bif decide (16<(n:Int)) || (foA c off n).any pBad then 130 else 0)):=by
 rw[ja9,jfw (o:=o) (jcq hc),v12_1 (o:=o)];delta dl ak ar Fg.K42.ii;rw[ja1];simp only[jaf,and_true]at hc;rw[hc];refine c_t ?_ (cond_intro (fun h=> ?_) (fun h=> ?_))
 ·by_cases h:(n:Int)>16
  ·rw[jaa h];rfl
  ·simp;omega
 ·rw[show decide (16<(n:Int))=decide ((n:Int)>16)from rfl,h,cond_true]
 ·rw[show decide (16<(n:Int))=decide ((n:Int)>16)from rfl,h,cond_false]
theorem ok12:jal Tryz.prog 12 s12:=by
 refine jbn ok_H3 hmix fn12 jai fun args bs v hs=> ?_
 simp only[s12]at hs;split at hs
 ·simp only[Option.some.injEq,Prod.mk.injEq]at hs;obtain⟨hc,rfl⟩:=hs;exact⟨_,1,rfl,rfl,jag,k12_0 (by first | rfl | exact hc)⟩
 ·simp only[Option.some.injEq,Prod.mk.injEq]at hs;obtain⟨hc,rfl⟩:=hs;exact⟨_,1,rfl,rfl,jag,k12_1 _ _ _ _ _ _ (by first | rfl | exact hc)⟩
 ·cases hs
end K43
attribute [local instance 5000] tabsB
namespace K71
def H1:Env:=H0.add 71 (sp1 Ff.s71)
theorem ok_H1:jao Tryz.prog H1:=jak ok_H0 Ff.ok71
def V77_0:U×Nat×Nat×Nat×Nat×Int×Int×Int→U:=fun(c,ty,off,n,cap,r,m,i)=> [.slice (some ⟨0,off,some 1⟩) n cap,.func (.func 71) ⟨[]⟩ ⟨[]⟩,I r,I m,I i]
def B77_0:U×Nat×Nat×Nat×Nat×Int×Int×Int→F:=fun(c,ty,off,n,cap,r,m,i)=> [some ⟨c,ty,false⟩]
def S77_0:LSpec (U×Nat×Nat×Nat×Nat×Int×Int×Int) where
 live:=[0,1,4,7,8]
 mid:=[0]
 n:=60
 dec vs bs:=match vs,bs with | [.slice (some ⟨0,off,some 1⟩) n cap,.func (.func 71) ⟨[]⟩ ⟨[]⟩,.int .i64 r,.int .i64 m,.int .i64 i],[some ⟨c,ty,false⟩]=>some (c,ty,off,n,cap,r,m,i) | _,_=>none
 pre:=fun(c,ty,off,n,cap,r,m,i)=>foOK c off n&&decide (n≤1000000∧m=n∧0≤i∧i≤n)
 fin:=fun(c,ty,off,n,cap,r,m,i) Z=>(bif (ixV isD c off n i)== -1 then Z (.exit 0) [.slice (some ⟨0,off,some 1⟩) n cap,.func (.func 71) ⟨[]⟩ ⟨[]⟩,I r,I m,I n] [some ⟨c,ty,false⟩]else Z .ret [.slice (some ⟨0,off,some 1⟩) n cap,.func (.func 71) ⟨[]⟩ ⟨[]⟩,I (ixV isD c off n i),I m,I (ixV isD c off n i)] [some ⟨c,ty,false⟩])
theorem r77c_0(c:U)(ty:Nat)(off:Nat)(n:Nat)(cap:Nat)(r:Int)(m:Int)(i:Int)(jk:Tmps)(R:Exit→U→F→Prop):(jb7 Tryz.prog H1 noL Tryz.f77.ntmps (jbh Tryz.f77 0) (tl S77_0.live (V77_0 (c,ty,off,n,cap,r,m,i)) jk) (ml S77_0.mid (B77_0 (c,ty,off,n,cap,r,m,i))) S77_0.n fun e t' m' _=>R e (List.map t' S77_0.live) (List.map m' S77_0.mid))=(bif am i m then bv (Fg.K42.dz i c off) i n (fp (.mk c ty false) (decide (jaj c (Fg.K42.co i off)≤4)) R m i (al i 1) [] [] (Fg.K42.aw off n cap) (Fg.K42.gy 71) (ak i) (Fg.K42.aw off n cap) (Fg.K42.gy 71) (ak r))else R (.exit 0) [Fg.K42.aw off n cap,Fg.K42.gy 71,ak r,ak m,ak i] [some (.mk c ty false)]):=by kernel_rfl
theorem l77_0:LOKf Tryz.prog (oneL 0 S77_0.hQ) Tryz.f77:=by
 refine jci (h:=S77_0.hQ) (by kernel_rfl) (jdm ok_H1 hmix (by kernel_rfl) (jbo _) S77_0 V77_0 B77_0 (fun(c,ty,off,n,cap,r,m,i)=>(n-i).toNat) ?_ ?_ ?_)
 ·intro vs bs s h;simp only[S77_0]at h;split at h
  all_goals first | (cases h;exact⟨rfl,rfl⟩) | cases h | (split at h<;>first | (rename_i hq;cases h;have hq:=jah hq;subst hq;exact⟨rfl,rfl⟩) | (rename_i hq;cases h;simp only[cnd,jaf,Nat.beq_eq]at hq;obtain⟨rfl,rfl,rfl⟩:=hq;exact⟨rfl,rfl⟩) | cases h)
 ·exact fun k ⟨c,ty,off,n,cap,r,m,i⟩ ⟨c',ty',off',n',cap',r',m',i'⟩ hp h=>by
   simp only[S77_0,jaf]at hp;have hq:=jbv (n:=k) (jcd hp.1).2.1;simp_all[V77_0,B77_0,jbk,jax,idsL,ids]
 ·intro⟨c,ty,off,n,cap,r,m,i⟩ jk Z hp hf;rw[r77c_0];delta ak Fg.K42.gy av Fg.K42.aw bx cu bv fp al Fg.K42.co Fg.K42.e7 Fg.K42.dz am;simp only[S77_0]at hp hf;simp only[jaf,jae]at hp;obtain⟨ho,h1,rfl,h3,h4⟩:=hp;obtain⟨hl,hpl,hat⟩:=jcd ho;rw[ixV]at hf;apply cond_intro<;>intro h
  ·have h:=jab h;obtain⟨f,hf1,hsz,q1,q2,q3,q4,e1,e2,e3,e4⟩:=hat i.toNat (by omega);have hd:=jev hf1;have hi:(i+1).toNat=i.toNat+1:=by omega
   rw[hd,ixF]at hf;rw[q1,q2,q3,q4,e1];refine c_t (jaa (by omega)) (c_t rfl ?_);have hp':decide (f.k≤4)=isD f:=rfl;rw[hp'];cases hq:isD f
   ·rw[hq,cond_false]at hf;refine c_f rfl ?_;rw[w64 (n:=i+1) (by omega)];refine⟨(c,ty,off,n,cap,r,n,i+1),rfl,rfl,?_,by simp only;omega,?_⟩
    ·simp only[S77_0,jaf,jae];exact⟨ho,h1,trivial,by omega,by omega⟩
    ·simp only[S77_0,ixV];rw[hi];exact hf
   ·rw[hq,cond_true,show(i== -1)=false by simp;omega]at hf;exact c_t rfl hf
  ·have h:=jac h;obtain rfl:i=n:=by omega
   rw[Int.toNat_natCast,List.drop_eq_nil_of_le (by omega)]at hf;exact hf
def s77n:Ab.Spec:=fun args bs=>match args,bs with
 | [.slice none 0 0,.func (.func 71) ⟨[]⟩ ⟨[]⟩],[none,none]=>some (true,I (-1))
 | _,_=>none
theorem fn77:Fn1 Tryz.prog 77 Tryz.f77:= .m Tryz.func77
theorem v77nc_0(R:Value→Prop):jbe Tryz.prog H1 noL Tryz.f77 [.slice none 0 0,.func (.func 71) ⟨[]⟩ ⟨[]⟩] (jcj [none,none]) 2 (fun v _ _=>R v)=(bif decide (0<natO 0)then False else R (I (-1))):=by kernel_rfl
theorem k77nc_0(hc:(true)=true):ja9 Tryz.prog H1 noL Tryz.f77 [.slice none 0 0,.func (.func 71) ⟨[]⟩ ⟨[]⟩] [none,none] 2 (I (-1)):=by
 rw[ja9,v77nc_0];rw[ja1];rfl
theorem ok77n:jal Tryz.prog 77 s77n:=by
 refine jbn ok_H1 hmix fn77 jai fun args bs v hs=> ?_
 simp only[s77n]at hs;split at hs
 ·simp only[Option.some.injEq,Prod.mk.injEq]at hs;obtain⟨hc,rfl⟩:=hs;exact⟨_,2,rfl,rfl,jag,k77nc_0 (by first | rfl | exact hc)⟩
 ·cases hs
def s77w:Ab.Spec:=fun args bs=>match args,bs with
 | [.slice (some ⟨_,off,some 1⟩) n cap,.func (.func 71) ⟨[]⟩ ⟨[]⟩],[some ⟨c,ty,o⟩,none]=>some ((foOK c off n&&decide (n≤1000000)),I (ixV isD c off n 0))
 | _,_=>none
theorem v77wc_0(c:U)(ty:TypeId)(o:Bool)(off:Nat)(n:Nat)(cap:Nat)(R:Value→Prop):jbe Tryz.prog H1 (oneL 0 S77_0.hQ) Tryz.f77 [.slice (some ⟨0,off,some 1⟩) n cap,.func (.func 71) ⟨[]⟩ ⟨[]⟩] (vw c ty) 2 (fun v _ _=>R v)=(Fg.K42.i6 Fg.isD Fg.K71.S77_0 c off n cap ty R):=by kernel_rfl
theorem k77wc_0(c:U)(ty:TypeId)(o:Bool)(off:Nat)(n:Nat)(cap:Nat)(hc:((foOK c off n&&decide (n≤1000000)))=true):ja9 Tryz.prog H1 (oneL 0 S77_0.hQ) Tryz.f77 [.slice (some ⟨0,off,some 1⟩) n cap,.func (.func 71) ⟨[]⟩ ⟨[]⟩] [some ⟨c,ty,o⟩,none] 2 (I (ixV isD c off n 0)):=by
 rw[ja9,jdg (o:=o) (jcq hc),v77wc_0 (o:=o)];delta ek bn Fg.K42.i6;rw[ja1];simp only[jaf,jae]at hc;obtain⟨ho,hn⟩:=hc;have hi:jax 60 c=true:=jbv (jcd ho).2.1;refine c_t (by simp[hi]) (c_t ?_ ?_)
 ·simp only[S77_0,jaf,jae];exact⟨ho,hn,trivial,by omega,by omega⟩
 ·skip
  apply cond_intro<;>intro h
  ·rw[eq_of_beq h];exact c_t (by simp[hi]) fun _=>rfl
  ·exact c_t (by simp[hi]) fun _=>rfl
theorem ok77w:jal Tryz.prog 77 s77w:=by
 refine jbn ok_H1 hmix fn77 l77_0 fun args bs v hs=> ?_
 simp only[s77w]at hs;split at hs
 ·simp only[Option.some.injEq,Prod.mk.injEq]at hs;obtain⟨hc,rfl⟩:=hs;exact⟨_,2,rfl,rfl,jag,k77wc_0 _ _ _ _ _ _ (by first | rfl | exact hc)⟩
 ·cases hs
def s77:Ab.Spec:=altS s77n s77w
theorem ok77:jal Tryz.prog 77 s77:=jfr ok77n ok77w
def H2:Env:=H1.add 77 s77
theorem ok_H2:jao Tryz.prog H2:=jak ok_H1 ok77
def s41:Ab.Spec:=fun args bs=>match args,bs with
 | [.slice none 0 0,.func (.func 71) ⟨[]⟩ ⟨[]⟩],[none,none]=>some (true,B false)
 | [.slice (some ⟨_,off,some 1⟩) n cap,.func (.func 71) ⟨[]⟩ ⟨[]⟩],[some ⟨c,ty,o⟩,none]=>some ((foOK c off n&&decide (n≤1000000)),B ((foA c off n).any isD))
 | _,_=>none
theorem fn41:Fn1 Tryz.prog 41 Tryz.f41:= .m Tryz.func41
theorem v41c_0(R:Value→Prop):jbe Tryz.prog H2 noL Tryz.f41 [.slice none 0 0,.func (.func 71) ⟨[]⟩ ⟨[]⟩] (jcj [none,none]) 2 (fun v _ _=>R v)=(R (B (decide (-1≥0)))):=by kernel_rfl
theorem v41c_1(c:U)(ty:TypeId)(o:Bool)(off:Nat)(n:Nat)(cap:Nat)(R:Value→Prop):jbe Tryz.prog H2 noL Tryz.f41 [.slice (some ⟨0,off,some 1⟩) n cap,.func (.func 71) ⟨[]⟩ ⟨[]⟩] (vw c ty) 2 (fun v _ _=>R v)=(bif foOK c off n&&decide (n≤1000000)then R (B (decide (ixV isD c off n 0≥0)))else False):=by kernel_rfl
theorem k41c_0(hc:(true)=true):ja9 Tryz.prog H2 noL Tryz.f41 [.slice none 0 0,.func (.func 71) ⟨[]⟩ ⟨[]⟩] [none,none] 2 (B false):=by
 rw[ja9,v41c_0];rfl
theorem k41c_1(c:U)(ty:TypeId)(o:Bool)(off:Nat)(n:Nat)(cap:Nat)(hc:((foOK c off n&&decide (n≤1000000)))=true):ja9 Tryz.prog H2 noL Tryz.f41 [.slice (some ⟨0,off,some 1⟩) n cap,.func (.func 71) ⟨[]⟩ ⟨[]⟩] [some ⟨c,ty,o⟩,none] 2 (B ((foA c off n).any isD)):=by
 rw[ja9,jdg (o:=o) (jcq hc),v41c_1 (o:=o)];refine c_t hc ?_;rw[←jh5]
theorem ok41:jal Tryz.prog 41 s41:=by
 refine jbn ok_H2 hmix fn41 jai fun args bs v hs=> ?_
 simp only[s41]at hs;split at hs
 ·simp only[Option.some.injEq,Prod.mk.injEq]at hs;obtain⟨hc,rfl⟩:=hs;exact⟨_,2,rfl,rfl,jag,k41c_0 (by first | rfl | exact hc)⟩
 ·simp only[Option.some.injEq,Prod.mk.injEq]at hs;obtain⟨hc,rfl⟩:=hs;exact⟨_,2,rfl,rfl,jag,k41c_1 _ _ _ _ _ _ (by first | rfl | exact hc)⟩
 ·cases hs
def H3:Env:=H2.add 41 s41
theorem ok_H3:jao Tryz.prog H3:=jak ok_H2 ok41
def s45:Ab.Spec:=fun args bs=>match args,bs with
 | [.slice none 0 0],[none]=>some (true,B true)
 | [.slice (some ⟨_,off,some 1⟩) n cap],[some ⟨c,ty,o⟩]=>some ((foOK c off n&&decide (n≤1000000)),B (decide ((n:Int)=0) || (foA c off n).any isD))
 | _,_=>none
theorem fn45:Fn1 Tryz.prog 45 Tryz.f45:= .m Tryz.func45
theorem v45_0(R:Value→Prop):jbe Tryz.prog H3 noL Tryz.f45 [.slice none 0 0] (jcj [none]) 1 (fun v _ _=>R v)=(bif natO 0==0 || true then R (B (natO 0==0&&true))else False):=by kernel_rfl
theorem v45_1(c:U)(ty:TypeId)(o:Bool)(off:Nat)(n:Nat)(cap:Nat)(R:Value→Prop):jbe Tryz.prog H3 noL Tryz.f45 [.slice (some ⟨0,off,some 1⟩) n cap] (vw c ty) 1 (fun v _ _=>R v)=(b7 (natO n==0 || Fg.K42.ii c off n) (B (natO n==0 || (Fg.foA c off n).any Fg.isD)) R):=by kernel_rfl
theorem k45_0(hc:(true)=true):ja9 Tryz.prog H3 noL Tryz.f45 [.slice none 0 0] [none] 1 (B true):=by
 rw[ja9,v45_0];rw[ja1];rfl
theorem k45_1(c:U)(ty:TypeId)(o:Bool)(off:Nat)(n:Nat)(cap:Nat)(hc:((foOK c off n&&decide (n≤1000000)))=true):ja9 Tryz.prog H3 noL Tryz.f45 [.slice (some ⟨0,off,some 1⟩) n cap] [some ⟨c,ty,o⟩] 1 (B (decide ((n:Int)=0) || (foA c off n).any isD)):=by
 rw[ja9,jfw (o:=o) (jcq hc),v45_1 (o:=o)];delta b7 Fg.K42.ii;rw[ja1,hc];refine c_t (by simp) ?_;rfl
theorem ok45:jal Tryz.prog 45 s45:=by
 refine jbn ok_H3 hmix fn45 jai fun args bs v hs=> ?_
 simp only[s45]at hs;split at hs
 ·simp only[Option.some.injEq,Prod.mk.injEq]at hs;obtain⟨hc,rfl⟩:=hs;exact⟨_,1,rfl,rfl,jag,k45_0 (by first | rfl | exact hc)⟩
 ·simp only[Option.some.injEq,Prod.mk.injEq]at hs;obtain⟨hc,rfl⟩:=hs;exact⟨_,1,rfl,rfl,jag,k45_1 _ _ _ _ _ _ (by first | rfl | exact hc)⟩
 ·cases hs
end K71
attribute [local instance 5000] tabsB
def fo1(f f':Fo):Bool:=f.k==f'.k&& (f.w==f'.w&& (f.d==f'.d&& (f.s.toList==f'.s.toList&&true)))
def foEq:List Fo→List Fo→Bool
 | [],[]=>true
 | f::r,f'::r'=>fo1 f f'&&foEq r r'
 | _,_=>false
def eqV(c:U)(off:Nat)(d:U)(off' n:Nat)(i:Int):Bool:=foEq ((foA c off n).drop i.toNat) ((foA d off' n).drop i.toNat)
def vwD(c d:U)(ty ty':TypeId):Lk:=fun k=>match Nat.beq k 0 with | true=>some ⟨c,ty,false⟩ | false=>match Nat.beq k 1 with | true=>some ⟨d,ty',false⟩ | false=>none
theorem tl_inj{a b:Y}(h:a.toList=b.toList):a=b:=by
 rw[Go.Lib.toList_data,Go.Lib.toList_data]at h;exact ByteArray.ext (Array.ext' h)
theorem fo1_iff{f f':Fo}:fo1 f f'=true↔f=f':=by
 obtain⟨a,b,c,d⟩:=f;obtain⟨a',b',c',d'⟩:=f';simp only[fo1,jaf,beq_iff_eq,and_true,Fo.mk.injEq];constructor
 ·rintro ⟨h1,h2,h3,h4⟩;exact⟨h1,h2,h3,tl_inj h4⟩
 ·rintro ⟨h1,h2,h3,h4⟩;exact⟨h1,h2,h3,by rw[h4]⟩
theorem jdz:∀{l r:List Fo},foEq l r=true↔l=r
 | [],[]=>by simp[foEq]
 | [],_::_=>by simp[foEq]
 | _::_,[]=>by simp[foEq]
 | f::r,f'::r'=>by simp[foEq,jdz (l:=r) (r:=r'),fo1_iff]
theorem viewL_vwD{c d:U}{ty ty':TypeId}{o o':Bool}(hp:jas c=true)(hp':jas d=true):jcj [some ⟨c,ty,o⟩,some ⟨d,ty',o'⟩]=vwD c d ty ty':=by
 funext k
 match k with
 | 0=>simp[jcj,jit,vwD,hp]
 | 1=>simp[jcj,jit,vwD,hp']
 | k+2=>rfl
theorem fo_plain2{c:U}{off n:Nat}{x y:Bool}(h:(x&& (foOK c off n&&y))=true):jas c=true:=by
 simp only[jaf]at h;exact(jcd h.2.1).2.1
def J0:Env:=Env.nil
theorem ok_J0:jao Tryz.prog J0:=jbr
def V14_0:U×Nat×Nat×Nat×Nat×U×Nat×Nat×Nat×Nat×Bool×Int×Int→U:=fun(c,ty,off,n,cap,d,ty2,off2,m,cap2,r,z,i)=> [.slice (some ⟨0,off,some 1⟩) n cap,.slice (some ⟨1,off2,some 1⟩) m cap2,B r,I z,I i]
def B14_0:U×Nat×Nat×Nat×Nat×U×Nat×Nat×Nat×Nat×Bool×Int×Int→F:=fun(c,ty,off,n,cap,d,ty2,off2,m,cap2,r,z,i)=> [some ⟨c,ty,false⟩,some ⟨d,ty2,false⟩]
def S14_0:LSpec (U×Nat×Nat×Nat×Nat×U×Nat×Nat×Nat×Nat×Bool×Int×Int) where
 live:=[0,1,4,12,13]
 mid:=[0,1]
 n:=60
 dec vs bs:=match vs,bs with | [.slice (some ⟨0,off,some 1⟩) n cap,.slice (some ⟨1,off2,some 1⟩) m cap2,.bool r,.int .i64 z,.int .i64 i],[some ⟨c,ty,false⟩,some ⟨d,ty2,false⟩]=>some (c,ty,off,n,cap,d,ty2,off2,m,cap2,r,z,i) | _,_=>none
 pre:=fun(c,ty,off,n,cap,d,ty2,off2,m,cap2,r,z,i)=>foOK c off n&& (foOK d off2 m&&decide (m=n∧n≤1000000∧z=n∧0≤i∧i≤n))
 fin:=fun(c,ty,off,n,cap,d,ty2,off2,m,cap2,r,z,i) Z=>(bif eqV c off d off2 n i then Z (.exit 0) [.slice (some ⟨0,off,some 1⟩) n cap,.slice (some ⟨1,off2,some 1⟩) m cap2,B r,I z,I z] [some ⟨c,ty,false⟩,some ⟨d,ty2,false⟩]else∀j:Int,Z .ret [.slice (some ⟨0,off,some 1⟩) n cap,.slice (some ⟨1,off2,some 1⟩) m cap2,B false,I z,I j] [some ⟨c,ty,false⟩,some ⟨d,ty2,false⟩])
def ji(a c:U)(b d:Nat):Bool:= !(jaj a b==jaj c d&& (jaj a (b+1)==jaj c (d+1) && (jaj a (b+1+1)==jaj c (d+1+1) && (gl (jck a (b+1+1+1)) (jck c (d+1+1+1)) &&true))))
theorem r14_0(c:U)(ty:Nat)(off:Nat)(n:Nat)(cap:Nat)(d:U)(ty2:Nat)(off2:Nat)(m:Nat)(cap2:Nat)(r:Bool)(z:Int)(i:Int)(jk:Tmps)(R:Exit→U→F→Prop):(jb7 Tryz.prog J0 noL Tryz.f14.ntmps (jbh Tryz.f14 0) (tl S14_0.live (V14_0 (c,ty,off,n,cap,d,ty2,off2,m,cap2,r,z,i)) jk) (ml S14_0.mid (B14_0 (c,ty,off,n,cap,d,ty2,off2,m,cap2,r,z,i))) S14_0.n fun e t' m' _=>R e (List.map t' S14_0.live) (List.map m' S14_0.mid))=(bif am i z then bv (Fg.K42.dz i c off) i n (bif cu i m then bif Fg.K42.dz i d off2 then fp (.mk c ty false) (ji c d (Fg.K42.co i off) (Fg.K42.co i off2)) R z i (al i 1) [some (.mk d ty2 false)] [] (Fg.K42.aw off n cap) (au 1 off2 m cap2) (B false) (Fg.K42.aw off n cap) (au 1 off2 m cap2) (B r)else False else False)else R (.exit 0) [Fg.K42.aw off n cap,au 1 off2 m cap2,B r,ak z,ak i] [some (.mk c ty false),some (.mk d ty2 false)]):=by kernel_rfl
theorem l14_0:LOKf Tryz.prog (oneL 0 S14_0.hQ) Tryz.f14:=by
 refine jci (h:=S14_0.hQ) (by kernel_rfl) (jdm ok_J0 hmix (by kernel_rfl) (jbo _) S14_0 V14_0 B14_0 (fun(c,ty,off,n,cap,d,ty2,off2,m,cap2,r,z,i)=>(n-i).toNat) ?_ ?_ ?_)
 ·intro vs bs s h;simp only[S14_0]at h;split at h
  all_goals first | (cases h;exact⟨rfl,rfl⟩) | cases h | (split at h<;>first | (rename_i hq;cases h;have hq:=jah hq;subst hq;exact⟨rfl,rfl⟩) | (rename_i hq;cases h;simp only[cnd,jaf,Nat.beq_eq]at hq;obtain⟨rfl,rfl,rfl⟩:=hq;exact⟨rfl,rfl⟩) | cases h)
 ·exact fun k ⟨c,ty,off,n,cap,d,ty2,off2,m,cap2,r,z,i⟩ ⟨c',ty',off',n',cap',d',ty2',off2',m',cap2',r',z',i'⟩ hp h=>by
   simp only[S14_0,jaf]at hp;have hq:=jbv (n:=k) (jcd hp.1).2.1;have hq':=jbv (n:=k) (jcd hp.2.1).2.1;simp_all[V14_0,B14_0,jbk,jax,idsL,ids]
 ·intro⟨c,ty,off,n,cap,d,ty2,off2,m,cap2,r,z,i⟩ jk Z hp hf;rw[r14_0];delta ak av au Fg.K42.aw bx cu bv fp al gl ji Fg.K42.co Fg.K42.e7 Fg.K42.dz am;simp only[S14_0]at hp hf;simp only[jaf,jae]at hp;obtain⟨ho,ho',rfl,h1,rfl,h3,h4⟩:=hp;obtain⟨hl,hpl,hat⟩:=jcd ho;obtain⟨hl',hpl',hat'⟩:=jcd ho';rw[eqV]at hf;apply cond_intro<;>intro h
  ·have h:=jab h;obtain⟨f,hf1,hsz,q1,q2,q3,q4,e1,e2,e3,e4⟩:=hat i.toNat (by omega);obtain⟨f',hf1',hsz',q1',q2',q3',q4',e1',e2',e3',e4'⟩:=hat' i.toNat (by omega);have hi:(i+1).toNat=i.toNat+1:=by omega
   rw[jev hf1,jev hf1',foEq]at hf;rw[q1,q2,q3,q4,e1,e2,e3,e4,q1',q2',q3',q4',e1',e2',e3',e4'];refine c_t (jaa (by omega)) (c_t rfl (c_t (jaa (by omega)) (c_t rfl ?_)));have hp':(f.k==f'.k&& (f.w==f'.w&& (f.d==f'.d&& (f.s.toList==f'.s.toList&&true))))=fo1 f f':=rfl;rw[hp'];cases hq:fo1 f f'
   ·rw[hq,Bool.false_and,cond_false]at hf;exact c_t rfl (hf i)
   ·rw[hq,Bool.true_and]at hf;refine c_f rfl ?_;rw[w64 (n:=i+1) (by omega)];refine⟨(c,ty,off,m,cap,d,ty2,off2,m,cap2,r,m,i+1),rfl,rfl,?_,by simp only;omega,?_⟩
    ·simp only[S14_0,jaf,jae];exact⟨ho,ho',trivial,h1,trivial,by omega,by omega⟩
    ·simp only[S14_0,eqV];rw[hi];exact hf
  ·have h:=jac h;obtain rfl:i=m:=by omega
   rw[Int.toNat_natCast,List.drop_eq_nil_of_le (by omega),List.drop_eq_nil_of_le (by omega)]at hf;exact hf
def s14n:Ab.Spec:=fun args bs=>match args,bs with
 | [.slice none 0 0,.slice none 0 0],[none,none]=>some (true,B true)
 | _,_=>none
theorem fn14:Fn1 Tryz.prog 14 Tryz.f14:= .m Tryz.func14
theorem v14n_0(R:Value→Prop):jbe Tryz.prog J0 noL Tryz.f14 [.slice none 0 0,.slice none 0 0] (jcj [none,none]) 2 (fun v _ _=>R v)=(bif natO 0 !=natO 0 then R (B false)else bif decide (0<natO 0)then False else R (B true)):=by kernel_rfl
theorem k14n_0(hc:(true)=true):ja9 Tryz.prog J0 noL Tryz.f14 [.slice none 0 0,.slice none 0 0] [none,none] 2 (B true):=by
 rw[ja9,v14n_0];rw[ja1];rfl
theorem ok14n:jal Tryz.prog 14 s14n:=by
 refine jbn ok_J0 hmix fn14 jai fun args bs v hs=> ?_
 simp only[s14n]at hs;split at hs
 ·simp only[Option.some.injEq,Prod.mk.injEq]at hs;obtain⟨hc,rfl⟩:=hs;exact⟨_,2,rfl,rfl,jag,k14n_0 (by first | rfl | exact hc)⟩
 ·cases hs
def s14w:Ab.Spec:=fun args bs=>match args,bs with
 | [.slice (some ⟨_,off,some 1⟩) n cap,.slice (some ⟨_,off2,some 1⟩) m cap2],[some ⟨c,ty,o⟩,some ⟨d,ty2,o2⟩]=>some ((foOK c off n&& (foOK d off2 m&&decide (n≤1000000∧m≤1000000))),B (decide ((n:Int)=m) &&eqV c off d off2 n 0))
 | _,_=>none
theorem v14w_0(c:U)(d:U)(ty:TypeId)(ty2:TypeId)(o:Bool)(o2:Bool)(off:Nat)(n:Nat)(cap:Nat)(off2:Nat)(m:Nat)(cap2:Nat)(R:Value→Prop):jbe Tryz.prog J0 (oneL 0 S14_0.hQ) Tryz.f14 [.slice (some ⟨0,off,some 1⟩) n cap,.slice (some ⟨1,off2,some 1⟩) m cap2] (vwD c d ty ty2) 2 (fun v _ _=>R v)=(bif natO n !=natO m then R (B false)else b8 (jax 60 c) (bn d 60) (Fg.S14_0.pre (c,(ty,(off,(n,(cap,(d,(ty2,(off2,(m,(cap2,(false,(natO n,(0:Int)))))))))))))) (bif Fg.eqV c off d off2 n 0 then ek (jax 60 c&&bn d 60) (B true) R else Int→ek (jax 60 c&&bn d 60) (B false) R) False):=by kernel_rfl
theorem k14w_0(c:U)(d:U)(ty:TypeId)(ty2:TypeId)(o:Bool)(o2:Bool)(off:Nat)(n:Nat)(cap:Nat)(off2:Nat)(m:Nat)(cap2:Nat)(hc:((foOK c off n&& (foOK d off2 m&&decide (n≤1000000∧m≤1000000))))=true):ja9 Tryz.prog J0 (oneL 0 S14_0.hQ) Tryz.f14 [.slice (some ⟨0,off,some 1⟩) n cap,.slice (some ⟨1,off2,some 1⟩) m cap2] [some ⟨c,ty,o⟩,some ⟨d,ty2,o2⟩] 2 (B (decide ((n:Int)=m) &&eqV c off d off2 n 0)):=by
 rw[ja9,viewL_vwD (o:=o) (jcq hc) (fo_plain2 hc),v14w_0 (o:=o) (o2:=o2)];delta b8 ek bn;rw[ja1,ja1];simp only[jaf,jae]at hc;obtain⟨ho,ho',hn,hm⟩:=hc;have hi:jax 60 c=true:=jbv (jcd ho).2.1;have hi':jax 60 d=true:=jbv (jcd ho').2.1;apply cond_intro<;>intro h
 ·have h:¬(n:Int)=m:=by simpa using h
  rw[jad h,Bool.false_and]
 ·have h:(n:Int)=m:=by simpa using h
  obtain rfl:m=n:=by omega
  rw[jaa rfl,Bool.true_and];refine c_t (by simp[hi,hi']) (c_t ?_ (cond_intro (fun q=> ?_) (fun q=> ?_)))
  ·simp only[S14_0,jaf,jae];exact⟨ho,ho',trivial,hn,trivial,by omega,by omega⟩
  ·rw[q];exact c_t (by simp[hi,hi']) fun _=>rfl
  ·rw[q];exact fun _=>c_t (by simp[hi,hi']) fun _=>rfl
theorem ok14w:jal Tryz.prog 14 s14w:=by
 refine jbn ok_J0 hmix fn14 l14_0 fun args bs v hs=> ?_
 simp only[s14w]at hs;split at hs
 ·simp only[Option.some.injEq,Prod.mk.injEq]at hs;obtain⟨hc,rfl⟩:=hs;exact⟨_,2,rfl,rfl,jag,k14w_0 _ _ _ _ _ _ _ _ _ _ _ _ (by first | rfl | exact hc)⟩
 ·cases hs
def s14:Ab.Spec:=altS s14n s14w
theorem ok14:jal Tryz.prog 14 s14:=jfr ok14n ok14w
end Go.Fg
end
noncomputable section
namespace Go.Px
open Go Go.Ab Go.Proofs Go.Shelf Go.ChangeMaps Go.ChangeShapes Go.WideShapes Go.ChangeAt Go.RowKit Go.Joins Go.Ff Go.Fg
open Go.Proofs.YtoofiemfbldebaaGreatDoor
theorem laid_ok:laidOutB Tryz.prog=true:=by kernel_rfl
theorem rd37:Tryz.prog.readableRec 37=true∧37<Tryz.prog.types.size:=⟨by kernel_rfl,jab (by kernel_rfl)⟩
theorem rd3:Tryz.prog.readableRec 3=true∧3<Tryz.prog.types.size:=⟨by kernel_rfl,jab (by kernel_rfl)⟩
theorem cel30:Tryz.prog.cellsOf 30=4:=by kernel_rfl
theorem cel3:Tryz.prog.cellsOf 3=1:=by kernel_rfl
theorem cel9:Tryz.prog.cellsOf 9=1:=by kernel_rfl
theorem list4{α:Type}{cs:List α}(h:cs.length=4):∃c0 c1 c2 c3,cs=[c0,c1,c2,c3]:=by
 match cs,h with
 | [c0,c1,c2,c3],_=>exact⟨c0,c1,c2,c3,rfl⟩
set_option maxRecDepth 100000 in
theorem fo_cells{cs:U}(hsz:cs.length=4)
  (hf : ∀ (i : Nat) (f : Field), (#[{ name := "Kind", type := 3, offset := 0, embedded := false, tag := "", pkgPath := "", byteOffset := 0 }, { name := "W", type := 3, offset := 1, embedded := false, tag := "", pkgPath := "", byteOffset := 8 }, { name := "D", type := 3, offset := 2, embedded := false, tag := "", pkgPath := "", byteOffset := 16 }, { name := "Pic", type := 9, offset := 3, embedded := false, tag := "", pkgPath := "", byteOffset := 24 }] : Array Field)[i]? = some f → ∃ (H : Type) (enc : TypeId × Value → H) (w : World) (base : Nat) (spare : Nat → Bool) (held : Bool) (n : Nat) (y : DataW H × List MemPlace),
   DataW.trod enc Tryz.prog w base spare held n f.type ((cs.drop f.offset).take (Tryz.prog.cellsOf f.type))=some y):∃a:Fo,cs=[.int .i64 a.k,.int .i64 a.w,.int .i64 a.d,.string a.s]∧a.s.size≤9223372036854775807:=by
 obtain⟨c0,c1,c2,c3,rfl⟩:=list4 hsz
 obtain ⟨H, enc, w, base, spare, held, n, y, h0⟩ := hf 0 { name := "Kind", type := 3, offset := 0, embedded := false, tag := "", pkgPath := "", byteOffset := 0 } rfl
 obtain ⟨H, enc, w, base, spare, held, n, y, h1⟩ := hf 1 { name := "W", type := 3, offset := 1, embedded := false, tag := "", pkgPath := "", byteOffset := 8 } rfl
 obtain ⟨H, enc, w, base, spare, held, n, y, h2⟩ := hf 2 { name := "D", type := 3, offset := 2, embedded := false, tag := "", pkgPath := "", byteOffset := 16 } rfl
 obtain ⟨H, enc, w, base, spare, held, n, y, hs⟩ := hf 3 { name := "Pic", type := 9, offset := 3, embedded := false, tag := "", pkgPath := "", byteOffset := 24 } rfl
 obtain⟨k,e0,_,_⟩:=DataW.trod_int Tryz.underlying3 h0;obtain⟨p,e1,_,_⟩:=DataW.trod_int Tryz.underlying3 h1;obtain⟨q,e2,_,_⟩:=DataW.trod_int Tryz.underlying3 h2;obtain⟨s,e3,_,w4⟩:=DataW.trod_string Tryz.underlying9 hs;simp only[cel3,cel9,List.drop_zero,List.drop_succ_cons,List.take_succ_cons,List.take_zero,List.cons.injEq,and_true]at e0 e1 e2 e3;exact⟨⟨k,p,q,s⟩,by rw[e0,e1,e2,e3],Nat.le_trans w4 (by decide)⟩
theorem slice_has{P:Program}{w:World}{base:Nat}{t e:TypeId}{a:Addr}{len cap:Nat}(ht:P.underlying t=some (.slice e))(h:Value.okWide P w .any base t (.slice (some a) len cap)):a.spot=none∧a.block<w.heap.size∧len≤cap:=by
 unfold Value.okWide at h;rw[ht]at h;simp only[Cell.okWide,ht,Cell.ok]at h;obtain⟨hc,_,_,hs,row,cells,hsh,_⟩:=h;refine⟨hs,?_,hc⟩;unfold World.shape? at hsh;split at hsh
 ·rename_i hq;exact(Array.getElem?_eq_some_iff.1 hq).1
 ·cases hsh
theorem fcL_get:∀(l:List Fo)(i:Nat)(v:Value),(fcL l)[i]?=some v→ ∃j q f,l[j]?=some f∧i=j*4+q∧[Value.int .i64 f.k,.int .i64 f.w,.int .i64 f.d,.string f.s][q]?=some v
 | [],i,v,h=>by simp[fcL]at h
 | f::r,0,v,h=>⟨0,0,f,rfl,rfl,by simpa[fcL]using h⟩
 | f::r,1,v,h=>⟨0,1,f,rfl,rfl,by simpa[fcL]using h⟩
 | f::r,2,v,h=>⟨0,2,f,rfl,rfl,by simpa[fcL]using h⟩
 | f::r,3,v,h=>⟨0,3,f,rfl,rfl,by simpa[fcL]using h⟩
 | f::r,i+4,v,h=>by
  obtain⟨j,q,g,h1,rfl,h2⟩:=fcL_get r i v (by simpa[fcL]using h);exact⟨j+1,q,g,by simpa using h1,by omega,h2⟩
def SlF(w:World)(v:Value):Prop:=v= .slice none 0 0∨ ∃(b off cap:Nat)(l:List Fo),v= .slice (some ⟨b,off,none⟩) l.length cap∧b<w.heap.size∧l.length≤cap∧(∀f∈l,f.s.size≤9223372036854775807)∧
 ∀i x,(fcL l)[i]?=some x→w.cell? ⟨b,off+i,none⟩=some x∧plain x=true
set_option maxRecDepth 100000 in
theorem open_formats{H:Type}{enc:TypeId×Value→H}{w:World}{base:Nat}{v:Value}{d:DataW H}{p:List MemPlace}(hv:Value.okWide Tryz.prog w .any base 37 v)
  (h:DataW.Trod enc Tryz.prog w 0 (fun _=>true) true 37 v d p):SlF w v:=by
 obtain⟨fuel,h⟩:=h;have hsl:=okWide_slice (e:=30) Tryz.underlying37 hv;obtain⟨a,len,cap,rfl⟩:=hsl
 replace h:DataW.trod enc Tryz.prog w 0 (fun _=>true) true fuel 37 [.slice a len cap]=some (d,p):=h
 rcases Go.Deep.open_slice Tryz.underlying37 h with⟨h1,_⟩ | ⟨a',len',cap',m,n,D,Pl,h1,hb,hl,hm,hmm,_,hx⟩
 ·simp only[List.cons.injEq,and_true]at h1;exact .inl h1
 ·simp only[List.cons.injEq,and_true]at h1;cases h1;obtain⟨hs,hlt,hcap⟩:=slice_has Tryz.underlying37 hv;obtain⟨b,off,sp⟩:=a';simp only at hs hlt;subst hs;have hlm:len≤m:=by rw[hmm];simp;omega
  have hT:∀i,i<len→ ∃t:Fo,t.s.size≤9223372036854775807∧ ∀q x,[Value.int .i64 t.k,.int .i64 t.w,.int .i64 t.d,.string t.s][q]?=some x→w.cell? ⟨b,off+(i*4+q),none⟩=some x:=fun i hi=>by
   obtain⟨cs,h1,h2⟩:=hx i (by omega);rw[cel30]at h1;obtain⟨_,hlen,hcell⟩:=World.cells?_some h1;obtain⟨xs,k,_,_,_,hxl,hf⟩:=DataW.trod_struct Tryz.underlying30 h2
   obtain⟨t,ht,hok⟩:=fo_cells hlen fun j f hj=>by
    have hlt:j<xs.length:=by
     have:=(Array.getElem?_eq_some_iff.1 hj).1;rw[hxl];exact this
    exact⟨H,enc,w,0,_,true,k,xs[j],by rw[hf j f hj,List.getElem?_eq_getElem hlt]⟩
   refine⟨t,hok,fun q x hq=> ?_⟩;have add:∀o q,(⟨b,o,none⟩:Addr).add q=⟨b,o+q,none⟩:=fun o q=>by unfold Addr.add;split<;>simp_all
   have hq5:q<4:=(List.getElem?_eq_some_iff.1 hq).1;have:=hcell q hq5;rw[add,add,ht,hq]at this;rw[←Nat.add_assoc];exact this
  haveI:Inhabited Fo:=⟨⟨0,0,0,⟨#[]⟩⟩⟩
  obtain⟨T,hT⟩:=Go.Deep.choose_lt hT;refine .inr ⟨b,off,cap,(List.range len).map T,?_,hlt,?_,?_,fun i x hi=> ?_⟩
  ·rw[List.length_map,List.length_range]
  ·rw[List.length_map,List.length_range];exact hcap
  ·intro f hf;obtain⟨i,hi,rfl⟩:=List.mem_map.1 hf;exact(hT i (List.mem_range.1 hi)).1
  ·refine⟨?_,jaw.1 (jdo _) x (List.mem_of_getElem? hi)⟩;obtain⟨j,q,f,hj,rfl,hq⟩:=fcL_get _ i x hi;rw[List.getElem?_map]at hj;cases hr:(List.range len)[j]? with
   | none=>rw[hr]at hj;cases hj
   | some k=>
    rw[hr]at hj;obtain⟨hjl,rfl⟩:=List.getElem?_eq_some_iff.1 hr;simp only[List.length_range]at hjl;simp only[Option.map_some,List.getElem_range,Option.some.injEq]at hj;subst hj;exact(hT j hjl).2 q x hq
end Go.Px
end
noncomputable section
set_option maxHeartbeats 3200000
set_option maxRecDepth 100000
namespace Go.Fg
open Go Go.Ab Go.Proofs Go.Shelf Go.Px Go.Cv Go.Cx Go.Ff
open Go.Fx (Ty Vl)
attribute [local instance 5000] tabsB
def icL(l:E):U:=l.map fun n=> .int .i64 n
def isInts:U→Bool
 | []=>true
 | .int .i64 _::r=>isInts r
 | _::_=>false
def zI(d:U)(m:Nat):E:=(d.take m).map iv
def rowI(d:U)(m cap:Nat):Bool:=isInts (d.take m) && (jas d&& (Nat.beq d.length cap&& (Nat.ble m cap&&Nat.ble cap 9223372036854775807)))
inductive RwI where
 | nil
 | own (d:U) (m cap:Nat)
def RwI.v(q:Nat):RwI→Value
 | .nil=> .slice none 0 0
 | .own _ m cap=> .slice (some ⟨q,0,some 1⟩) m cap
def RwI.b:RwI→Option Blk
 | .nil=>none
 | .own d _ _=>some ⟨d,3,true⟩
def RwI.z:RwI→E
 | .nil=> []
 | .own d m _=>zI d m
def RwI.ok:RwI→Bool
 | .nil=>true
 | .own d m cap=>rowI d m cap&&Nat.ble 1 m
def plZ:List Fo→Int→E
 | [],_=> []
 | f::r,i=>bif isD f then i::plZ r (i+1)else plZ r (i+1)
def plV(c:U)(off n:Nat)(i:Int):E:=plZ ((foA c off n).drop i.toNat) i
theorem isInts_cL:∀l:E,isInts (icL l)=true
 | []=>rfl
 | _::r=>isInts_cL r
theorem icL_of:∀{d:U},isInts d=true→icL (d.map iv)=d
 | [],_=>rfl
 | .int .i64 n::r,h=>by
  have:=icL_of (d:=r) h;simp only[icL,List.map_cons,List.map_map]at this ⊢;rw[this];rfl
theorem icL_iv(l:E):(icL l).map iv=l:=by
 simp only[icL,List.map_map];have:(iv∘fun n:Int=>Value.int .i64 n)=id:=by funext n;rfl
 rw[this,List.map_id]
theorem icL_plain(l:E):jas (icL l)=true:=jaw.2 fun v hv=>by
 obtain⟨n,_,rfl⟩:=List.mem_map.1 hv;rfl
theorem jdw(l:E):(icL l).length=l.length:=by simp[icL]
theorem jfq{d:U}{m cap:Nat}:rowI d m cap=true↔ ∃l r,d=icL l++r∧l.length=m∧jas r=true∧m+r.length=cap∧cap≤9223372036854775807∧zI d m=l:=by
 simp only[rowI,jaf,Nat.ble_eq,Nat.beq_eq];constructor
 ·rintro ⟨h1,h2,h3,h4,h5⟩;refine⟨zI d m,d.drop m,?_,?_,?_,?_,h5,rfl⟩
  ·rw[zI,icL_of h1,List.take_append_drop]
  ·rw[zI,List.length_map,List.length_take];omega
  ·exact jaw.2 fun v hv=>jaw.1 h2 v (List.mem_of_mem_drop hv)
  ·rw[List.length_drop];omega
 ·rintro ⟨l,r,rfl,rfl,h1,h2,h3,h4⟩;have e:(icL l++r).take l.length=icL l:=by rw[List.take_append_of_le_length (by rw[jdw];omega),List.take_of_length_le (by rw[jdw];omega)]
  refine⟨by rw[e];exact isInts_cL l,jaw.2 fun v hv=>(List.mem_append.1 hv).elim (jaw.1 (icL_plain l) v) (jaw.1 h1 v),?_,by omega,h3⟩;rw[List.length_append,jdw];omega
theorem jjp(l:E)(r:U):zI (icL l++r) l.length=l:=by
 rw[zI,List.take_append_of_le_length (by rw[jdw];omega),List.take_of_length_le (by rw[jdw];omega),icL_iv]
theorem rowI_of{l:E}{r:U}{cap:Nat}(h:ja0 r cap l.length 1=true):rowI (icL l++r) l.length cap=true:=by
 obtain⟨h1,h2,h3,h4⟩:=jbl h;exact jfq.2 ⟨l,r,rfl,rfl,h1,by omega,h4,jjp l r⟩
theorem jc1{d:U}{m cap:Nat}(h:rowI d m cap=true):jas d=true:=by
 simp only[rowI,jaf]at h;exact h.2.1
theorem rwI_own{d:U}{m cap:Nat}(h:(RwI.own d m cap).ok=true):rowI d m cap=true:=by
 simp only[RwI.ok,jaf]at h;exact h.1
def I0:Env:=Env.nil.add 71 (sp1 Ff.s71)
theorem ok_I0:jao Tryz.prog I0:=jak jbr Ff.ok71
def V46_0:Blk×U×Nat×Nat×Nat×Nat×Nat×Nat×Nat×Int×RwI×Int×Int→U:=fun(b,c,ty,off,n,cap,off1,n1,cap1,i0,o,z,i)=> [.slice (some ⟨0,off,some 1⟩) n cap,I i0,.slice none 0 0,.pointer (some ⟨3,0,some 0⟩),o.v 200,.slice (some ⟨0,off1,some 1⟩) n1 cap1,I z,I i]
def B46_0:Blk×U×Nat×Nat×Nat×Nat×Nat×Nat×Nat×Int×RwI×Int×Int→F:=fun(b,c,ty,off,n,cap,off1,n1,cap1,i0,o,z,i)=> [some ⟨c,ty,false⟩,some b,o.b]
def S46_0:LSpecA (Blk×U×Nat×Nat×Nat×Nat×Nat×Nat×Nat×Int×RwI×Int×Int) where
 live:=[0,1,4,5,6,12,13,14]
 mid:=[0,3,200]
 n:=220
 ap:=[(.tmp 6,200)]
 dec vs bs:=match vs,bs with
  | [.slice (some ⟨0,off,some 1⟩) n cap,.int .i64 i0,.slice none 0 0,.pointer (some ⟨3,0,some 0⟩),.slice none 0 0,.slice (some ⟨0,off',some 1⟩) n' cap',.int .i64 z,.int .i64 i],[some ⟨c,ty,false⟩,some b,none]=>some (b,c,ty,off,n,cap,off',n',cap',i0,.nil,z,i)
  | [.slice (some ⟨0,off,some 1⟩) n cap,.int .i64 i0,.slice none 0 0,.pointer (some ⟨3,0,some 0⟩),.slice (some ⟨200,0,some 1⟩) m cp,.slice (some ⟨0,off',some 1⟩) n' cap',.int .i64 z,.int .i64 i],[some ⟨c,ty,false⟩,some b,some ⟨d,3,true⟩]=>some (b,c,ty,off,n,cap,off',n',cap',i0,.own d m cp,z,i)
  | _,_=>none
 pre:=fun(b,c,ty,off,n,cap,off1,n1,cap1,i0,o,z,i)=>jas b.c&& (o.ok&& (foOK c off n&&decide (n≤1000000∧z=n∧0≤i∧i≤n∧o.z.length≤i∧off1=off∧n1=n∧cap1=cap)))
 fin:=fun(b,c,ty,off,n,cap,off1,n1,cap1,i0,o,z,i) Z=>(o.z++plV c off n i=[]→Z (.exit 0) [.slice (some ⟨0,off,some 1⟩) n cap,I i0,.slice none 0 0,.pointer (some ⟨3,0,some 0⟩),.slice none 0 0,.slice (some ⟨0,off1,some 1⟩) n1 cap1,I z,I z] [some ⟨c,ty,false⟩,some b,none])∧(o.z++plV c off n i≠ []→ ∀d' m' cp',rowI d' m' cp'=true→zI d' m'=o.z++plV c off n i→Z (.exit 0) [.slice (some ⟨0,off,some 1⟩) n cap,I i0,.slice none 0 0,.pointer (some ⟨3,0,some 0⟩),(.slice (some ⟨200,0,some 1⟩) m' cp'),.slice (some ⟨0,off1,some 1⟩) n1 cap1,I z,I z] [some ⟨c,ty,false⟩,some b,some ⟨d',3,true⟩])
def ij(e:Blk)(a:List (Prod Nat Nat))(b:U)(d:Nat)(f:Option Blk):F:=[some (.mk (rlbL a b) d false),some (.mk (rlbL a e.c) e.ty e.own),f]
def i7(c:Blk)(b d:U)(a:Nat):Bool:=jau [(a,200)] b&&il c d a 200&&true
theorem r46_0n(b:Blk)(c:U)(ty:Nat)(off:Nat)(n:Nat)(cap:Nat)(off1:Nat)(n1:Nat)(cap1:Nat)(i0:Int)(z:Int)(i:Int)(jk:Tmps)(R:Exit→U→F→Prop):(jb7 Tryz.prog I0 noL Tryz.f46.ntmps (jbh Tryz.f46 0) (tl S46_0.live (V46_0 (b,c,ty,off,n,cap,off1,n1,cap1,i0,.nil,z,i)) jk) (ml S46_0.mid (B46_0 (b,c,ty,off,n,cap,off1,n1,cap1,i0,.nil,z,i))) S46_0.n fun e t' m' _=>S46_0.out R e t' m')=(bif am i z then bv (Fg.K42.dz i c off1) i n1 (bif decide (jaj c (Fg.K42.co i off1)≤4)then∀a:Nat,∀d:U,a0 d a 1 1→bw (i7 b c (ak i::d) 232) R (ij b [(232,200)] c ty (some (.mk (rlbL [(232,200)] (ak i::d)) 3 true))) (Fg.K42.aw off n cap::ak i0::bu::cv::au 200 0 1 a::b5 z i 0 off1 n1 cap1)else bw (er [] c b.c) R (ij b [] c ty none) (Fg.K42.aw off n cap::ak i0::bu::cv::bu::b5 z i 0 off1 n1 cap1))else bt (er [] c b.c) R (ij b [] c ty none) (Fg.K42.aw off n cap::ak i0::bu::cv::bu::bp z i 0 off1 n1 cap1) 0):=by kernel_rfl
theorem r46_0o(b:Blk)(c:U)(ty:Nat)(off:Nat)(n:Nat)(cap:Nat)(off1:Nat)(n1:Nat)(cap1:Nat)(i0:Int)(d:U)(m:Nat)(cp:Nat)(z:Int)(i:Int)(jk:Tmps)(R:Exit→U→F→Prop):(jb7 Tryz.prog I0 noL Tryz.f46.ntmps (jbh Tryz.f46 0) (tl S46_0.live (V46_0 (b,c,ty,off,n,cap,off1,n1,cap1,i0,.own d m cp,z,i)) jk) (ml S46_0.mid (B46_0 (b,c,ty,off,n,cap,off1,n1,cap1,i0,.own d m cp,z,i))) S46_0.n fun e t' m' _=>S46_0.out R e t' m')=(bif am i z then bv (Fg.K42.dz i c off1) i n1 (bif decide (jaj c (Fg.K42.co i off1)≤4)then gv d cp m (∀a:Nat,∀e:U,fk e a m→bw (i7 b c (e9 i d e m) 232) R (ij b [(232,200)] c ty (some (.mk (rlbL [(232,200)] (e9 i d e m)) 3 true))) (Fg.K42.aw off n cap::ak i0::bu::cv::au 200 0 (m+1) a::b5 z i 0 off1 n1 cap1))else bw (i7 b c d 200) R (ij b [(200,200)] c ty (c9 d 200 200 3)) (Fg.K42.aw off n cap::ak i0::bu::cv::au 200 0 m cp::b5 z i 0 off1 n1 cap1))else bt (i7 b c d 200) R (ij b [(200,200)] c ty (c9 d 200 200 3)) (Fg.K42.aw off n cap::ak i0::bu::cv::au 200 0 m cp::bp z i 0 off1 n1 cap1) 0):=by kernel_rfl
theorem l46_0:LOKf Tryz.prog (oneL 0 S46_0.hA) Tryz.f46:=by
 refine jci (h:=S46_0.hA) (by kernel_rfl) (jbz ok_I0 hmix (by kernel_rfl) (jbo _) S46_0 V46_0 B46_0 (fun(b,c,ty,off,n,cap,off1,n1,cap1,i0,o,z,i)=>(n-i).toNat) ?_ ?_ ?_)
 ·intro vs bs s h;simp only[S46_0]at h;split at h
  all_goals first | (cases h;exact⟨rfl,rfl⟩) | cases h | (split at h<;>first | (rename_i hq;cases h;have hq:=jah hq;subst hq;exact⟨rfl,rfl⟩) | (rename_i hq;cases h;simp only[cnd,jaf,Nat.beq_eq]at hq;obtain⟨rfl,rfl,rfl⟩:=hq;exact⟨rfl,rfl⟩) | cases h)
 ·exact fun⟨b,c,ty,off,n,cap,off1,n1,cap1,i0,o,z,i⟩ hp=>by
   simp only[S46_0,jaf]at hp;have hq:=jar (jcd hp.2.2.1).2.1;have hb:=jar hp.1;cases o with
   | nil=>simp[V46_0,B46_0,S46_0,jax,jbk,idsL,ids,RwI.v,RwI.b,hb,hq]
   | own d m cap=>simp[V46_0,B46_0,S46_0,jax,jbk,idsL,ids,RwI.v,RwI.b,hb,hq,jar (jc1 (rwI_own hp.2.1))]
 ·intro⟨b,c,ty,off,n,cap,off1,n1,cap1,i0,o,z,i⟩ jk Z hp hf;simp only[S46_0]at hp hf;simp only[jaf,jae]at hp;obtain⟨hb,hr,ho,h1,rfl,h3,h4,h5,x1,x2,x3⟩:=hp
  replace x1:=x1.symm
  replace x2:=x2.symm
  replace x3:=x3.symm
  subst x1 x2 x3;obtain⟨hl,hpl,hat⟩:=jcd ho;have eb:∀ps,rlbL ps b.c=b.c:=fun ps=>rlbL_plain ps hb
  have gb:∀ps,jau ps b.c=true:=fun ps=>goodL_plain hb
  have ec:∀ps,rlbL ps c=c:=fun ps=>rlbL_plain ps hpl
  have gc:∀ps,jau ps c=true:=fun ps=>goodL_plain hpl
  have hstep:i<(n:Int)→ ∃f,(foA c off n)[i.toNat]?=some f∧f.s.size≤9223372036854775807∧
    jap .i64 c (off+i.toNat*4)=true∧jap .i64 c (off+i.toNat*4+1)=true∧jap .i64 c (off+i.toNat*4+1+1)=true∧jbt c (off+i.toNat*4+1+1+1)=true∧
    jaj c (off+i.toNat*4)=f.k∧plV c off n i=bif isD f then i::plV c off n (i+1)else plV c off n (i+1):=fun h=>by
   obtain⟨f,hf1,hsz,q1,q2,q3,q4,e1,e2,e3,e4⟩:=hat i.toNat (by omega);refine⟨f,hf1,hsz,q1,q2,q3,q4,e1,?_⟩;rw[plV,plV,jev hf1,plZ,show(i+1).toNat=i.toNat+1 by omega]
  have hend:i=n→plV c off n i=[]:=fun h=>by
   rw[plV,h,Int.toNat_natCast,List.drop_eq_nil_of_le (by omega),plZ]
  cases o with
  | nil=>
   rw[r46_0n];delta bt ak av au bp bu cv Fg.K42.aw ij er bx cu bv bw al dp b5 il i7 a0 Fg.K42.co Fg.K42.e7 Fg.K42.dz am;simp only[RwI.z,List.length_nil,List.nil_append]at hf h5;apply cond_intro<;>intro h
   ·have h:=jab h;obtain⟨f,hf1,hsz,q1,q2,q3,q4,e1,ep⟩:=hstep h;rw[q1,q2,q3,q4,e1];rw[ep]at hf;refine c_t (jaa (by omega)) (c_t rfl (cond_intro (fun q=>fun cq tail ht=> ?_) (fun q=> ?_)))
    ·have hr1:=rowI_of (l:=[i]) ht;have hz1:=jjp [i] tail;have q:isD f=true:=q;rw[q,cond_true]at hf;refine c_t (by simp[gc,gb,goodL_plain (jc1 (d:=Value.int IntKind.i64 i::tail) hr1)]) ?_;rw[ec,eb,rlbL_plain _ (jc1 (d:=Value.int IntKind.i64 i::tail) hr1),w64 (by omega)];refine⟨(b,c,ty,off,n,cap,off,n,cap,i0,.own (.int .i64 i::tail) 1 cq,n,i+1),rfl,rfl,?_,by simp only;omega,?_⟩
     ·simp only[S46_0,jaf,jae];exact⟨hb,by simp only[RwI.ok,jaf];exact⟨hr1,rfl⟩,ho,h1,trivial,by omega,by omega,by simp only[RwI.z];rw[show zI (Value.int IntKind.i64 i::tail) 1=[i]from hz1];simp;omega,by trivial,by trivial,by trivial⟩
     ·simp only[S46_0,RwI.z];rw[show zI (Value.int IntKind.i64 i::tail) 1=[i]from hz1];exact hf
    ·have q:isD f=false:=q;rw[q,cond_false]at hf;refine c_t (by simp[gc,gb]) ?_;rw[ec,eb,w64 (by omega)];refine⟨(b,c,ty,off,n,cap,off,n,cap,i0,.nil,n,i+1),rfl,rfl,?_,by simp only;omega,?_⟩
     ·simp only[S46_0,jaf,jae];exact⟨hb,hr,ho,h1,trivial,by omega,by omega,by simp only[RwI.z,List.length_nil];omega,by trivial,by trivial,by trivial⟩
     ·simp only[S46_0,RwI.z,List.nil_append];exact hf
   ·have h:=jac h;obtain rfl:i=n:=by omega
    refine c_t (by simp[gc,gb]) ?_;rw[ec,eb];exact hf.1 (hend rfl)
  | own d m cp=>
   rw[r46_0o];delta bt ak av au bp cv bu Fg.K42.aw ij c9 il i7 bx cu bv bw al dp b5 jf gv e9 fk Fg.K42.co Fg.K42.e7 Fg.K42.dz am;simp only[RwI.z]at hf h5;simp only[RwI.ok,jaf,Nat.ble_eq]at hr;obtain⟨hr,hm1⟩:=hr;have hdp:=jc1 hr;have ed:∀ps,rlbL ps d=d:=fun ps=>rlbL_plain ps hdp
   have gd:∀ps,jau ps d=true:=fun ps=>goodL_plain hdp
   apply cond_intro<;>intro h
   ·have h:=jab h;obtain⟨f,hf1,hsz,q1,q2,q3,q4,e1,ep⟩:=hstep h;rw[q1,q2,q3,q4,e1];rw[ep]at hf;obtain⟨l,r,rfl,rfl,t1,t2,t3,t4⟩:=jfq.1 hr;rw[t4]at hf h5;refine c_t (jaa (by omega)) (c_t rfl (cond_intro (fun q=>c_t ?_ fun cq tail ht=> ?_) (fun q=> ?_)))
    ·simp only[jaf,Nat.beq_eq,Nat.ble_eq,jb1,List.length_append,jdw];exact⟨⟨⟨⟨by omega,by omega⟩,by omega⟩,trivial⟩,by omega,by omega⟩
    ·have e:List.take (l.length*1) (icL l++r)++ [Value.int IntKind.i64 i]++tail=icL (l++ [i])++tail:=by
      rw[List.take_append_of_le_length (by rw[jdw];omega),List.take_of_length_le (by rw[jdw];omega)];simp[icL]
     have hr1:=rowI_of (l:=l++ [i]) (r:=tail) (cap:=cq) (by rw[List.length_append];exact ht);have hz1:=jjp (l++ [i]) tail;have q:isD f=true:=q;rw[q,cond_true]at hf;rw[e];have gp:=jc1 hr1;refine c_t (by simp[gc,gb,goodL_plain gp]) ?_;rw[ec,eb,rlbL_plain _ gp,w64 (by omega)];refine⟨(b,c,ty,off,n,cap,off,n,cap,i0,.own (icL (l++ [i])++tail) (l.length+1) cq,n,i+1),rfl,rfl,?_,by simp only;omega,?_⟩
     ·rw[List.length_append]at hr1;simp only[S46_0,jaf,jae];rw[List.length_append]at hz1;exact⟨hb,by simp only[RwI.ok,jaf,Nat.ble_eq];exact⟨hr1,by omega⟩,ho,h1,trivial,by omega,by omega,by simp only[RwI.z];rw[show zI (icL (l++ [i])++tail) (l.length+1)=l++ [i]from hz1];simp;omega,by trivial,by trivial,by trivial⟩
     ·simp only[S46_0,RwI.z];rw[List.length_append]at hz1;rw[show zI (icL (l++ [i])++tail) (l.length+1)=l++ [i]from hz1,List.append_assoc];exact hf
    ·have q:isD f=false:=q;rw[q,cond_false]at hf;refine c_t (by simp[gc,gb,gd]) ?_;rw[ec,eb,ed,w64 (by omega)];refine⟨(b,c,ty,off,n,cap,off,n,cap,i0,.own (icL l++r) l.length cp,n,i+1),rfl,rfl,?_,by simp only;omega,?_⟩
     ·simp only[S46_0,jaf,jae];exact⟨hb,by simp only[RwI.ok,jaf,Nat.ble_eq];exact⟨hr,hm1⟩,ho,h1,trivial,by omega,by omega,by simp only[RwI.z,t4];omega,by trivial,by trivial,by trivial⟩
     ·simp only[S46_0,RwI.z,t4];exact hf
   ·have h:=jac h;obtain rfl:i=n:=by omega
    refine c_t (by simp[gc,gb,gd]) ?_;rw[ec,eb,ed];rw[hend rfl,List.append_nil]at hf
    have hz:zI d m≠ []:=by
     obtain⟨l,r,rfl,rfl,t1,t2,t3,t4⟩:=jfq.1 hr;rw[t4];intro e;rw[e]at hm1;simp at hm1
    exact hf.2 hz d m cp hr rfl
attribute [local instance 5000] tabsB
def jg1(m:Lk):Value→F
 | .tuple ⟨.slice (some a) _ _::_⟩=> [m a.block]
 | _=> []
def ja(a:Int)(b:Nat):Nat:=0+(a.tmod (natO b)).toNat*1
def c7(b:Int)(a:U)(c:Nat):Nat:=(jaj a (ja b c)).toNat
def jx(b:Int)(k:F)(a e:U)(c d f i j:Nat)(h:J)(g:Value→F→Prop):Prop:=bif b6 (jaj a (ja b c)) (d:Int)then bif Fg.K42.e7 (jap .i64 (aq e) (f+c7 b a c*4+1+1)) (jbt (aq e) (f+c7 b a c*4+1+1+1) &&true) (aq e) (f+c7 b a c*4)then g (ax [.slice h i j,.agg ⟨[.int .i64 (jaj (aq e) (f+c7 b a c*4)),.int .i64 (jaj (aq e) (f+c7 b a c*4+1)),.int .i64 (jaj (aq e) (f+c7 b a c*4+1+1)),.string (jck (aq e) (f+c7 b a c*4+1+1+1))]⟩]) k else False else False
def gz(a b c:Nat):Nat:=bif a.beq b then c else c+b*4
def gn(c:U)(a b:Nat):Bool:=Nat.ble (a+b*4) c.length&& ((c.drop a).take (b*4)).all jcu
def jw(a c:Int)(b j:U)(d g h i k m:Nat)(l:Value→F→Prop):Prop:=bif ck a (jaj b (ja c d)) g then b8 (gn (aq j) (gz g h i) (c7 c b d-h)) (jb1 (c7 c b d-h) 40) (Nat.beq (c7 c b d-h) 0) (jx c [] b j d k i 0 0 none l) (∀e:Nat,∀f:U,a0 f e (c7 c b d-h) 4→jx c [some (.mk (((aq j).drop (gz g h i)).take ((c7 c b d-h)*4)++f) 30 true)] b j d k i (c7 c b d-h) e (av m 0 1) l)else False
def dv(a b:Nat):Nat:=0+du (natO a-1)*b
def d8(a:U)(b:Nat):Nat:=du (jaj a (dv b 1)+1)
def ip(a b c:Nat):Nat:=bif a.beq b then c else c+b*4
def kp(c:U)(f g:Nat):E:=Fg.plZ (((Classical.indefiniteDescription (fun a:U→Nat→Nat→List Ff.Fo=>a=(fun b:U=>fun d=>fun e=>(Fg.fosN e (b.drop d)).getD ([]:List Ff.Fo))) Fg.jir).val (aq c) f g).drop (Int.toNat 0)) 0
theorem w46(c:U)(ty:Nat)(off:Nat)(n:Nat)(cap:Nat)(i:Int)(R:Value→F→Prop):(jbe Tryz.prog I0 (oneL 0 S46_0.hA) Tryz.f46 [.slice (some ⟨0,off,some 1⟩) n cap,I i] (vw c ty) 2 (fun v m' _=>R v (jg1 m' v)))=(bif ig c 220 then bif Fg.S46_0.toLSpec.pre (Blk.mk [ak 0,ak 0,ak 0,dx] 30 true,(aq c,(ty,(off,(n,(cap,(off,(n,(cap,(i,(Fg.RwI.nil,(natO n,(0:Int)))))))))))))then(kp c off n=([]:E)→ib (aq c) 220 (bif decide (natO 0≠0)then False else False))∧(kp c off n≠([]:E)→(∀a:U,∀b:Nat,∀d:Nat,Fg.rowI a b d=true→List.map iv (a.take b)=Fg.RwI.z Fg.RwI.nil++Fg.plV (aq c) off n 0→im (decide (natO b≠0)) (aq c) a 220 (bif b6 (i.tmod (natO b)) (b:Int)then bif jap .i64 a (ja i b)then bif ar (i.tmod (natO b)) 0 then bif b6 (br (i.tmod (natO b)) 1) (b:Int)then bif jap .i64 a (0+du (i.tmod (natO b)-1)*1)then jw (al (jaj a (0+du (i.tmod (natO b)-1)*1)) 1) i a c b cap (du (jaj a (0+(br (i.tmod (natO b)) 1).toNat*1)+1)) off n 244 R else False else False else bif ar i 0 then bif b6 (br (natO b) 1) (b:Int)then bif jap .i64 a (dv b 1)then bif ck (al (jaj a (dv b 1)) 1) (n:Int) cap then b8 (gn (aq c) (ip cap (d8 a b) off) (n-d8 a b)) (jb1 (n-d8 a b) 40) (Nat.beq (n-d8 a b) 0) (jw 0 i a c b cap 0 off n 253 R) (∀e:Nat,∀f:U,a0 f e (n-d8 a b) 4→(bif ck 0 (jaj a (ja i b)) cap then gm (gn (aq c) (gz cap 0 off) (c7 i a b-0)) (((aq c).drop (ip cap (d8 a b) off)).take ((n-d8 a b)*4)++f) e 4 (n-d8 a b) (c7 i a b-0) 40 (∀g:Nat,∀h:U,a0 h g (n-d8 a b+(c7 i a b-0)) 4→jx i [some (.mk ((((aq c).drop (ip cap (d8 a b) off)).take ((n-d8 a b)*4)++f).take ((n-d8 a b)*4)++((aq c).drop (gz cap 0 off)).take ((c7 i a b-0)*4)++h) 30 true)] a c b n off (n-d8 a b+(c7 i a b-0)) g (av 253 0 1) R)else False))else False else False else False else jw 0 i a c b cap 0 off n 241 R else False else False)))else False else False):=by kernel_rfl
end Go.Fg
end
noncomputable section
set_option maxHeartbeats 3200000
set_option maxRecDepth 100000
namespace Go.Fg
open Go Go.Ab Go.Proofs Go.Shelf Go.Px Go.Cv Go.Cx Go.Ff
attribute [local instance 5000] tabsB
theorem jhz:∀(l:List Fo)(k:Nat),plZ l k=(plc isD l k).map fun n:Nat=>(n:Int)
 | [],_=>rfl
 | f::r,k=>by
  have ih:=jhz r (k+1);rw[plZ,plc];rw[show((k+1:Nat):Int)=(k:Int)+1 from rfl]at ih;cases isD f
  ·exact ih
  ·exact congrArg (List.cons (k:Int)) ih
theorem jd0:∀(l:List Fo),(fcL l).all jcu=true
 | []=>rfl
 | f::r=>by simp[fcL,jcu,jd0 r]
theorem cut_cells{c:U}{off n:Nat}(h:foOK c off n=true){lo q:Nat}(h2:lo+q≤n):List.take (q*4) (List.drop (off+lo*4) c)=fcL (((foA c off n).drop lo).take q):=by
 obtain⟨h1,⟨r,hr⟩,_⟩:=jdy.1 h;rw[←List.drop_drop,hr,List.drop_append_of_le_length (by rw[jbq];omega),jhb,List.take_append_of_le_length (by rw[jbq,List.length_drop];omega),jha]
theorem cutF{c:U}{off n cap:Nat}(h:foOK c off n=true)(hn:1≤n)(hn':n≤1000000)(hc:n≤cap){lo hi:Nat}(h1:lo≤hi)(h2:hi≤n):
  List.take ((hi-lo)*4) (List.drop (bif Nat.beq cap lo then off else off+lo*4) c)=fcL (((foA c off n).drop lo).take (hi-lo))∧
  Nat.ble ((bif Nat.beq cap lo then off else off+lo*4)+(hi-lo)*4) c.length=true∧jb1 (hi-lo) 40=true:=by
 obtain⟨g1,⟨r,hr⟩,_⟩:=jdy.1 h;have hlen:=congrArg List.length hr;rw[List.length_drop,List.length_append,jbq,g1]at hlen;refine⟨?_,?_,?_⟩
 ·cases hb:Nat.beq cap lo
  ·rw[cond_false];exact cut_cells h (by omega)
  ·have:=jah hb;rw[show hi-lo=0 by omega];simp[fcL]
 ·rw[Nat.ble_eq];cases hb:Nat.beq cap lo
  ·rw[cond_false];omega
  ·have:=jah hb;rw[cond_true];omega
 ·simp only[jb1,jaf,Nat.ble_eq];omega
def ctL(l:List Fo)(i:Nat):List Fo:=(if i%(grp isD l).1.length=0∧0<i then(grp isD l).2 else [])++((grp isD l).1.getD (i%(grp isD l).1.length) []).dropLast
def dfL(l:List Fo)(i:Nat):Fo:=(((grp isD l).1.getD (i%(grp isD l).1.length) []).getLast?).getD ⟨0,0,0,⟨#[]⟩⟩
theorem it_split{l:List Fo}{i:Nat}(h:0<(grp isD l).1.length):itL isD l i=ctL l i++ [dfL l i]:=by
 have h1:=jea isD l (i%(grp isD l).1.length) (Nat.mod_lt _ h);unfold itL ctL dfL;rw[List.append_assoc];congr 1;generalize (grp isD l).1.getD (i%(grp isD l).1.length) []=g at h1 ⊢;have hne:g≠ []:=by rintro rfl;simp at h1
 rw[List.getLast?_eq_some_getLast hne,Option.getD_some,List.dropLast_concat_getLast hne]
abbrev fv(f:Fo):Value:= .agg ⟨[.int .i64 f.k,.int .i64 f.w,.int .i64 f.d,.string f.s]⟩
def R46(o:List Fo)(f:Fo)(v:Value)(bs:F):Prop:=
 (o=[]∧v= .tuple ⟨[.slice none 0 0,fv f]⟩)∨(o≠ []∧ ∃a cap tail,v= .tuple ⟨[oslc a 0 o.length cap,fv f]⟩∧bs=[some ⟨fcL o++tail,30,true⟩]∧ja0 tail cap o.length 4=true)
theorem jie{o:List Fo}{f:Fo}{v:Value}{bs:F}(h:o=[])(hv:v= .tuple ⟨[.slice none 0 0,fv f]⟩):R46 o f v bs:= .inl ⟨h,hv⟩
theorem jhf{o o':List Fo}{f:Fo}{q a cap:Nat}{cs tail:U}(he:o'=o)(hq:q=o.length)(h:q≠0)(hc:cs=fcL o')(ht:ja0 tail cap q 4=true):R46 o f (.tuple ⟨[.slice (some ⟨a,0,some 1⟩) q cap,fv f]⟩) [some ⟨cs++tail,30,true⟩]:=by
 subst he hq hc;exact .inr ⟨fun e=>h (by rw[e];rfl),a,cap,tail,rfl,rfl,ht⟩
theorem ji8{l:E}{r:U}{z:Int}{j:Nat}{x:Int}(hz:z.toNat=j)(h:l[j]?=some x):jap .i64 (icL l++r) (0+z.toNat*1)=true∧jaj (icL l++r) (0+z.toNat*1)=x:=by
 rw[hz];obtain⟨hj,rfl⟩:=List.getElem?_eq_some_iff.1 h
 have:(icL l++r)[0+j*1]?=some (.int .i64 l[j]):=by
  rw[Nat.zero_add,Nat.mul_one,List.getElem?_append_left (by rw[jdw];exact hj)];simp[icL,hj]
 simp only[jap,jaj,this,beq_self_eq_true,and_self]
theorem fo_load{c:U}{off n:Nat}(h:foOK c off n=true){a:Nat}{f:Fo}(ha:(foA c off n)[a]?=some f):
  (jap .i64 c (off+a*4) && (jap .i64 c (off+a*4+1) && (jap .i64 c (off+a*4+1+1) && (jbt c (off+a*4+1+1+1) &&true))))=true∧
  jaj c (off+a*4)=f.k∧jaj c (off+a*4+1)=f.w∧jaj c (off+a*4+1+1)=f.d∧jck c (off+a*4+1+1+1)=f.s:=by
 obtain⟨hl,_,hat⟩:=jcd h;have hi:=(List.getElem?_eq_some_iff.1 ha).1;obtain⟨f',hf',_,q1,q2,q3,q4,e1,e2,e3,e4⟩:=hat a (by omega);rw[ha]at hf';cases hf';exact⟨by rw[q1,q2,q3,q4];rfl,e1,e2,e3,e4⟩
theorem own_last{l:List Fo}{o:Nat}(h:o<(grp isD l).1.length):l[((grp isD l).1.take o).flatten.length+((grp isD l).1.getD o []).length-1]?=some ((((grp isD l).1.getD o []).getLast?).getD ⟨0,0,0,⟨#[]⟩⟩)∧
  (l.drop ((grp isD l).1.take o).flatten.length).take (((grp isD l).1.getD o []).length-1)=((grp isD l).1.getD o []).dropLast:=by
 have h1:=jea isD l o h;have h2:=grp_cut isD l o h;generalize ((grp isD l).1.take o).flatten.length=S at h2 ⊢;generalize hg:(grp isD l).1.getD o []=g at h1 h2 ⊢;have hne:g≠ []:=by rintro rfl;simp at h1
 constructor
 ·rw[List.getLast?_eq_getElem?]
  conv=>rhs;rw[←h2]
  rw[List.getElem?_take_of_lt (by rw[h2];omega),List.getElem?_drop,h2,show S+(g.length-1)=S+g.length-1 by omega]
  have hlt:S+g.length-1<l.length:=by
   have:=congrArg List.length h2;rw[List.length_take,List.length_drop]at this;omega
  rw[List.getElem?_eq_getElem hlt];rfl
 ·rw[List.dropLast_eq_take]
  conv=>rhs;rw[←h2]
  rw[List.take_take,h2,show min (g.length-1) g.length=g.length-1 by omega]
theorem S_le{l:List Fo}{o:Nat}(h:o<(grp isD l).1.length):((grp isD l).1.take o).flatten.length+((grp isD l).1.getD o []).length≤l.length:=by
 have h2:=congrArg List.length (grp_cut isD l o h);have h1:=jea isD l o h;rw[List.length_take,List.length_drop]at h2;omega
theorem w46_ok{c:U}{ty off n cap:Nat}{i:Int}(ho:foOK c off n=true)(hn:n≤1000000)(hc:n≤cap)(hg:0<(grp isD (foA c off n)).1.length)(hi:0≤i):
  jbe Tryz.prog I0 (oneL 0 S46_0.hA) Tryz.f46 [.slice (some ⟨0,off,some 1⟩) n cap,I i] (vw c ty) 2 (fun v m' _=>R46 (ctL (foA c off n) i.toNat) (dfL (foA c off n) i.toNat) v (jg1 m' v)):=by
 obtain⟨hl,hpl,_⟩:=jcd ho;have hid:jax 220 c=true:=jbv hpl;have ec:rlbL [] c=c:=rlbL_plain [] hpl;rw[w46];delta bn im b8 ax ja c7 aq Fg.K42.e7 b6 jx av gz a0 gn ck jw gm du dv d8 ip al br ar kp dm ib dx ak bm ig;rw[ec];refine c_t (by rw[hid,goodL_plain hpl];rfl) (c_t ?_ ⟨fun h=> ?_,fun h d' m' cp hr hz=> ?_⟩)
 ·simp only[S46_0,jaf,jae];exact⟨rfl,rfl,ho,hn,ja1 n,by omega,by omega,by simp[RwI.z],trivial,trivial,trivial⟩
 ·exfalso;have e:plZ (foA c off n) 0=[]:=h;have:=congrArg List.length e;rw[show(0:Int)=((0:Nat):Int)from rfl,jhz,List.length_map,jhy,←jeu,List.length_nil]at this;omega
 obtain⟨P,r,rfl,rfl,t1,t2,t3,t4⟩:=jfq.1 hr
 have hP:P=(plc isD (foA c off n) 0).map fun n:Nat=>(n:Int):=by
  rw[←jhz,←t4];exact hz
 clear hz t4;generalize hL:foA c off n=L at*;have hPl:P.length=(grp isD L).1.length:=by rw[hP,List.length_map,jhy,jeu]
 have hkn:(grp isD L).1.length≤n:=by
  rw[jeu,←hl];exact List.countP_le_length
 have n1:1≤n:=by omega
 generalize hk:(grp isD L).1.length=k at*
 have him:i.tmod (P.length:Int)=((i.toNat%k:Nat):Int):=by
  rw[hPl,Int.tmod_eq_emod_of_nonneg hi];obtain⟨j,rfl⟩:=Int.eq_ofNat_of_zero_le hi;simp
 have hok:i.toNat%k<k:=Nat.mod_lt _ hg;have hdp:=jc1 hr;rw[ja1,him];generalize hoo:i.toNat%k=o at*;have hAt:=plc_own isD L o (by omega);have hS:=S_le (l:=L) (o:=o) (by omega);have hg1:=jea isD L o (by omega);obtain⟨hA,hcut⟩:=own_last (l:=L) (o:=o) (by omega);obtain⟨f1,f2,f3,f4,f5⟩:=fo_load ho (a:=Int.toNat ((((grp isD L).1.take o).flatten.length+((grp isD L).1.getD o []).length-1:Nat):Int)) (by rw[hL];exact hA);have hdf:dfL L i.toNat=(((grp isD L).1.getD o []).getLast?).getD ⟨0,0,0,⟨#[]⟩⟩:=by unfold dfL;rw[hk,hoo]
 have hct:ctL L i.toNat=(if o=0∧0<i.toNat then(grp isD L).2 else [])++((grp isD L).1.getD o []).dropLast:=by unfold ctL;rw[hk,hoo]
 have hdl:(((grp isD L).1.getD o []).dropLast).length=((grp isD L).1.getD o []).length-1:=List.length_dropLast;generalize hG:(grp isD L).1.getD o []=g at*;generalize hSS:((grp isD L).1.take o).flatten.length=S at*;obtain⟨iA,eA⟩:=ji8 (l:=P) (r:=r) (z:=(o:Int)) (j:=o) rfl (x:=((S+g.length-1:Nat):Int)) (by rw[hP,List.getElem?_map,hAt];rfl);rw[←hdf]at f2 f3 f4 f5;refine c_t (by rw[hid];simp[jbv hdp]) fun _=>c_t (jaa (by omega)) (c_t (jaa (by omega)) ?_)
 rw[iA,eA];refine c_t rfl ?_;rw[f1,f2,f3,f4,f5];have hcond:decide (0≤((S+g.length-1:Nat):Int)∧((S+g.length-1:Nat):Int)<(n:Int))=true:=jaa (by omega);rw[hcond];simp only[cond_true];apply cond_intro<;>intro h0
 ·have h0:(o:Int)>0:=jab h0;obtain⟨p,hp1,hp2⟩:=plc_prev isD L o (by omega) (by omega);rw[hSS]at hp2;have ew:IntKind.wrap .i64 ((o:Int)-1)=((o-1:Nat):Int):=by rw[w64 (by omega)];omega
  obtain⟨iP,eP⟩:=ji8 (l:=P) (r:=r) (z:=((o-1:Nat):Int)) (j:=o-1) rfl (x:=(p:Int)) (by rw[hP,List.getElem?_map,hp1];rfl);rw[ew];rw[iP,eP];have ew2:IntKind.wrap .i64 ((p:Int)+1)=(S:Int):=by rw[w64 (by omega)];omega
  rw[ew2];obtain⟨c1,c2,c3⟩:=cutF ho n1 hn hc (lo:=Int.toNat (S:Int)) (hi:=Int.toNat ((S+g.length-1:Nat):Int)) (by omega) (by omega);rw[c1,c2,c3,hL,jd0];have e1:Int.toNat ((S+g.length-1:Nat):Int)-Int.toNat (S:Int)=g.length-1:=by omega
  rw[e1];have hctl:ctL L i.toNat=g.dropLast:=by rw[hct,if_neg (by omega),List.nil_append]
  refine c_t (jaa (by omega)) (c_t rfl (c_t (jaa (by omega)) (c_t rfl (cond_intro (fun q=> ?_) (fun q=>fun cap1 tail ht=> ?_)))))
  ·have q:=jah q;exact jie (by rw[hctl];exact List.length_eq_zero_iff.1 (by omega)) rfl
  ·have q:g.length-1≠0:=fun e=>by rw[e]at q;cases q
   exact jhf (o':=(L.drop (Int.toNat (S:Int))).take (g.length-1)) (by rw[hctl];exact hcut) (by rw[hctl];omega) q rfl ht
 ·have h0:¬(o:Int)>0:=jac h0;have ho0:o=0:=by omega
  have hS0:S=0:=by rw[←hSS,ho0];rfl
  obtain⟨c1,c2,c3⟩:=cutF ho n1 hn hc (lo:=0) (hi:=Int.toNat ((S+g.length-1:Nat):Int)) (by omega) (by omega);have e1:Int.toNat ((S+g.length-1:Nat):Int)-0=g.length-1:=by omega
  rw[c1,c2,c3,hL,jd0];rw[e1];rw[hS0]at hcut;apply cond_intro<;>intro h1
  ·have h1:i>0:=jab h1;obtain⟨p,hp1,hp2,hp3⟩:=plc_last isD L (by omega);rw[hk]at hp1;have ew:IntKind.wrap .i64 ((P.length:Int)-1)=((k-1:Nat):Int):=by rw[w64 (by omega)];omega
   obtain⟨iP,eP⟩:=ji8 (l:=P) (r:=r) (z:=((k-1:Nat):Int)) (j:=k-1) rfl (x:=(p:Int)) (by rw[hP,List.getElem?_map,hp1];rfl);rw[ew];rw[iP,eP];have hflat:=congrArg List.length (jcc isD L);rw[List.length_append]at hflat;have ew2:IntKind.wrap .i64 ((p:Int)+1)=((p+1:Nat):Int):=by rw[w64 (by omega)];rfl
   rw[ew2];obtain⟨d1,d2,d3⟩:=cutF ho n1 hn hc (lo:=Int.toNat ((p+1:Nat):Int)) (hi:=n) (by omega) (by omega)
   have hrest:(L.drop (Int.toNat ((p+1:Nat):Int))).take (n-Int.toNat ((p+1:Nat):Int))=(grp isD L).2:=by
    rw[Int.toNat_natCast,hp3,List.take_of_length_le (by omega)]
   rw[hL]at d1;rw[d1,d2,d3,jd0,hrest];have hrl:n-Int.toNat ((p+1:Nat):Int)=(grp isD L).2.length:=by omega
   have hctl:ctL L i.toNat=(grp isD L).2++g.dropLast:=by rw[hct,if_pos ⟨ho0,by omega⟩]
   refine c_t (jaa (by omega)) (c_t rfl (c_t (jaa (by omega)) (c_t rfl (cond_intro (fun q1=> ?_) (fun q1=>fun cap1 tail ht1=> ?_)))))
   ·have q1:=jah q1;have hr0:(grp isD L).2=[]:=List.length_eq_zero_iff.1 (by omega);refine c_t (jaa (by omega)) (c_t rfl (cond_intro (fun q=> ?_) (fun q=>fun cap1 tail ht=> ?_)))
    ·have q:=jah q;exact jie (by rw[hctl,hr0,List.nil_append];exact List.length_eq_zero_iff.1 (by omega)) rfl
    ·have q:g.length-1≠0:=fun e=>by rw[e]at q;cases q
     exact jhf (o':=(L.drop 0).take (g.length-1)) (by rw[hctl,hr0];exact hcut) (by rw[hctl,hr0,List.nil_append];omega) q rfl ht
   ·have q1:n-Int.toNat ((p+1:Nat):Int)≠0:=fun e=>by rw[e]at q1;cases q1
    rw[hrl]at ht1 ⊢;obtain⟨u1,u2,u3,u4⟩:=jbl ht1;refine c_t (jaa (by omega)) (c_t ?_ fun cap2 tail2 ht=> ?_)
    ·simp only[jaf,Nat.beq_eq,Nat.ble_eq,jb1,List.length_append,jbq,Bool.true_and];exact⟨⟨⟨⟨by omega,u3⟩,u4⟩,trivial⟩,by omega,by omega⟩
    ·have ec2:List.take ((grp isD L).2.length*4) (fcL (grp isD L).2++tail)++fcL (List.take (g.length-1) (List.drop 0 L))=fcL ((grp isD L).2++g.dropLast):=by
      rw[List.take_append_of_le_length (by rw[jbq];omega),List.take_of_length_le (by rw[jbq];omega),hcut,jga]
     exact jhf (o':=(grp isD L).2++g.dropLast) hctl.symm (by rw[hctl,List.length_append];omega) (by omega) ec2 ht
  ·have h1:¬i>0:=jac h1;have hctl:ctL L i.toNat=g.dropLast:=by rw[hct,if_neg (by omega),List.nil_append]
   refine c_t (jaa (by omega)) (c_t rfl (cond_intro (fun q=> ?_) (fun q=>fun cap1 tail ht=> ?_)))
   ·have q:=jah q;exact jie (by rw[hctl];exact List.length_eq_zero_iff.1 (by omega)) rfl
   ·have q:g.length-1≠0:=fun e=>by rw[e]at q;cases q
    exact jhf (o':=(L.drop 0).take (g.length-1)) (by rw[hctl];exact hcut) (by rw[hctl];omega) q rfl ht
end Go.Fg
end
noncomputable section
set_option maxHeartbeats 3200000
set_option maxRecDepth 100000
namespace Go.Fg
open Go Go.Ab Go.Proofs Go.Shelf Go.Px Go.Cv Go.Cx Go.Ff
open Go.Fx (Ty Vl)
attribute [local instance 5000] tabsB
def gN(l:List Fo):Nat:=(grp isD l).1.length
structure CtIs (l:List Fo)(i:Nat)(o:List Fo)(f:Fo):Prop where
 ct:ctL l i=o
 df:dfL l i=f
def out46(o:List Fo)(f:Fo)(m:Lk)(n:Nat)(K:Value→Lk→Nat→Prop):Prop:=
 (o=[]→K (.tuple ⟨[.slice none 0 0,fv f]⟩) m n)∧(o≠ []→ ∀(q cap:Nat)(tail:U),o.length=q→ja0 tail cap q 4=true→K (.tuple ⟨[oslc n 0 q cap,fv f]⟩) (m.upd n ⟨fcL o++tail,30,true⟩) (n+1))
def h46:U→Lk→Nat→(Value→Lk→Nat→Prop)→Prop:=fun args m n K=>match args with
 | [.slice (some ⟨k,off,some 1⟩) len cap,.int .i64 i]=>match noIt (m k)with
  | some b=>match cnd (foOK b.c off len&& (decide (len≤1000000∧len≤cap∧0≤i) &&Nat.ble 1 (gN (foA b.c off len))))with
   | true=>∀(o:List Fo)(f:Fo),CtIs (foA b.c off len) i.toNat o f→out46 o f m n K
   | false=>False
  | none=>False
 | _=>False
theorem sub_row{m:Lk}{k:Nat}{b:Blk}(h:noIt (m k)=some b)(hp:jas b.c=true)(ty:TypeId):SubM m (fun _=>k) (vw b.c ty) 2:=by
 have hg:∀j b',vw b.c ty j=some b'→j=0∧b'=⟨b.c,ty,false⟩:=fun j b' hj=>vw_get hj
 refine⟨fun j b' hj=> ?_,fun j b' hj=> ?_⟩
 ·obtain⟨rfl,rfl⟩:=hg j b' hj;exact⟨by omega,fun i hi=>by rw[jar hp]at hi;cases hi⟩
 ·obtain⟨rfl,rfl⟩:=hg j b' hj;exact⟨rfl,b,h,fun ι=>renMap_congr fun i hi=>by rw[jar hp]at hi;cases hi⟩
section
variable {P : Program} {G : Env} {L : Nat → Option jbg} {f : FuncId} {fn : Func}
theorem gen_newL{h:U→Lk→Nat→(Value→Lk→Nat→Prop)→Prop}(lk:Lk→Value→F)(hG:jao P G)(hm:P.follows .mixedOrders=true)(hf:Fn1 P f fn)(hL:LOKf P L fn)
  (H : ∀ args m n K, h args m n K → ∃ (args' : U) (m0 : Lk) (n0 : Nat) (ρ : Nat → Nat) (R : Value → F → Prop), SubM m ρ m0 n0 ∧ (∀ ι : Nm, args'.map (ren fun j => ι (ρ j)) = args.map (ren ι)) ∧ args'.length ≤ fn.ntmps ∧ (∀ v ∈ args', ∀ j ∈ ids v, j<n0) ∧
   jfp P G L fn args' m0 n0 (fun v' m' _=>R v' (lk m' v'))∧
   ∀v' m',R v' (lk m' v')→ ∃v mm nn σ,((∀k b,m k=some b→k<n)→NewM m n m' mm nn σ)∧(∀i∈ids v,n≤i∧i<nn)∧(∀ι' ι'':Nm,(∀i,n≤i→ι'' i=ι' (σ i))→ren ι'' v=ren ι' v')∧K v mm nn):jef P f h:=by
 obtain⟨h1,h2,h3,h4⟩:=hf;cases hb:fn.body with
 | none=>rw[hb]at h2;cases h2
 | some c=>
  simp only[hb]at h4;simp only[LOKf,hb]at hL;refine⟨⟨fn,h1,h3,by rw[hb];rfl⟩,fun args m n K hh N w0 ι w hrel hwf hargs=> ?_⟩;obtain⟨args',m0,n0,ρ,R,hs,ha,hlen,hids,hd,hR⟩:=H _ _ _ _ hh;rw[jfp]at hd;rw[←ha ι];refine(jco (N:=w.heap.size) (w0:=w) (ι:=fun j=>ι (ρ j)) hG hm h1 hb h4 hL hlen hd (hs.rel hrel) hs.lt hids).mono fun e w' ⟨v',m',n',ι',he,hv',_,_,hm',_,_⟩=> ?_
  obtain⟨v,mm,nn,σ,hn,hvi,hvr,hk⟩:=hR v' m' hv';have hn:=hn fun k b hk=>(hwf k b hk).1
  obtain⟨q1,q2⟩:=hn.rel hrel hwf hm';refine⟨v,mm,nn,_,?_,hk,hn.le,fun k hk=>nmJ_old hk,q1,q2,fun j hj=>(hvi j hj).2⟩;rw[he,hvr ι' _ fun i hi=>nmJ_new hi]
end
theorem jf2{l r:U}(h1:jas l=true)(h2:jas r=true):jas (l++r)=true:=jcx.2 ⟨h1,h2⟩
theorem R46_new{o:List Fo}{f:Fo}{m:Lk}{n:Nat}{K:Value→Lk→Nat→Prop}(h:out46 o f m n K){v':Value}{m':Lk}(hR:R46 o f v' (jg1 m' v')):
  ∃v mm nn σ,((∀k b,m k=some b→k<n)→NewM m n m' mm nn σ)∧(∀i∈ids v,n≤i∧i<nn)∧(∀ι' ι'':Nm,(∀i,n≤i→ι'' i=ι' (σ i))→ren ι'' v=ren ι' v')∧K v mm nn:=by
 rcases hR with⟨h0,rfl⟩ | ⟨h0,a,cap,tail,rfl,hl,ht⟩
 ·exact⟨_,m,n,id,fun hwf=>je2 hwf m' id,by simp[ids,idsL,fv],fun _ _ _=>by simp[ren,renL,fv],h.1 h0⟩
 ·obtain⟨u1,_⟩:=jbl ht
  have hb:m' a=some ⟨fcL o++tail,30,true⟩:=by
   have:[m' a]=_:=hl;simpa using this
  refine⟨_,_,_,fun _=>a,fun hwf=>jh1 hwf hb (jf2 (jdo _) u1) rfl,?_,fun ι' ι'' hi=> ?_,h.2 h0 _ cap tail rfl ht⟩
  ·intro i hi;simp[ids,idsL,oslc,fv]at hi;omega
  ·simp[ren,renL,oslc,ren1,fv,hi n (Nat.le_refl n)]
theorem fn46:Fn1 Tryz.prog 46 Tryz.f46:= .m Tryz.func46
theorem slc_args{k off len cap:Nat}{i:Int}(ι:Nm):[Value.slice (some ⟨0,off,some 1⟩) len cap,I i].map (ren fun _=>ι k)=[Value.slice (some ⟨k,off,some 1⟩) len cap,I i].map (ren ι):=by simp[ren,ren1]
theorem slc_ids{off len cap:Nat}{i:Int}:∀v∈ [Value.slice (some ⟨0,off,some 1⟩) len cap,I i],∀j∈ids v,j<2:=fun v hv j hj=>by
 simp only[List.mem_cons,List.not_mem_nil,or_false]at hv;rcases hv with rfl | rfl
 ·simp[ids]at hj;omega
 ·simp[ids]at hj
theorem gen46:jef Tryz.prog 46 h46:=by
 refine gen_newL jg1 ok_I0 hmix fn46 l46_0 fun args m n K h=> ?_
 unfold h46 at h;split at h
 ·rename_i k off len cap i;split at h
  ·rename_i b hb;split at h
   ·rename_i hc;simp only[cnd,jaf,jae,Nat.ble_eq]at hc;obtain⟨ho,⟨h1,h2,h3⟩,h4⟩:=hc;refine⟨_,_,2,_,_,sub_row hb (jcd ho).2.1 30,fun ι=>slc_args ι,jag,slc_ids,by rw[jfp];exact w46_ok ho h1 h2 h4 h3,fun v' m' hv=>R46_new (h _ _ ⟨rfl,rfl⟩) hv⟩
   ·exact h.elim
  ·exact h.elim
 ·exact h.elim
def I1:Env:=((Env.nil.add 12 K43.s12).add 45 K71.s45).addG 46 h46
theorem ok_I1:jao Tryz.prog I1:=jaq (jak (jak jbr K43.ok12) K71.ok45) gen46
def a8(a:List Ff.Fo)(b:U):U:=Fg.fcL a++b
def jb(b:U)(a c:Nat):Int:=bif am 16 (a:Int) || (Fg.foA b c a).any Fg.pBad then 130 else 0
theorem w13(c:U)(ty:Nat)(off:Nat)(n:Nat)(cap:Nat)(i:Int)(R:Value→F→Prop):(jbe Tryz.prog I1 noL Tryz.f13 [.slice (some ⟨0,off,some 1⟩) n cap,I i] (vw c ty) 2 (fun v m' _=>R v (jg1 m' v)))=(b8 (Fg.foOK c off n) true (jb c n off !=0) (R (ax [bu,.int .i64 (jb c n off)]) []) (bif go (natO n==0) (Fg.K42.ii c off n) i 0 999 then bif go (natO n==0) (!(decide ((n:Int)=0) || (Fg.foA c off n).any Fg.isD)) i 0 999 then R (ax [bu,ak 1]) []else bif Fg.foOK c off n&& (decide (n≤1000000∧n≤cap∧0≤i) &&Nat.ble 1 (Fg.gN (Fg.foA c off n)))then∀a:List Ff.Fo,∀b:Ff.Fo,Fg.CtIs (Fg.foA c off n) i.toNat a b→(a=([]:List Ff.Fo)→(∀e:Nat,∀f:U,a0 f e 1 4→R (ax [au 37 0 1 e,ak 0]) [some (.mk (.int .i64 (Ff.Fo.k b):: .int .i64 (Ff.Fo.w b):: .int .i64 (Ff.Fo.d b):: .string (Ff.Fo.s b)::f) 30 true)]))∧(a≠([]:List Ff.Fo)→(∀e:Nat,∀f:Nat,∀g:U,a.length=e→a0 g f e 4→gm true (a8 a g) f 4 e 1 40 (∀h:Nat,∀j:U,a0 j h (e+1) 4→R (ax [au 38 0 (e+1) h,ak 0]) [some (.mk ((a8 a g).take (e*4)++ [.int .i64 (Ff.Fo.k b),.int .i64 (Ff.Fo.w b),.int .i64 (Ff.Fo.d b),.string (Ff.Fo.s b)]++j) 30 true)])))else False else False)):=by kernel_rfl
theorem w13n(i:Int)(R:Value→F→Prop):(jbe Tryz.prog I1 noL Tryz.f13 [.slice none 0 0,I i] (fun _=>none) 0 (fun v m' _=>R v (jg1 m' v)))=(bif decide (i<0) || (decide (i>999) || (natO 0==0 || true))then bif decide (i<0) || (decide (i>999) || (natO 0==0 || !true))then R (.tuple (.mk [.slice none 0 0,I 1])) []else False else False):=by kernel_rfl
end Go.Fg
end
noncomputable section
set_option maxHeartbeats 3200000
set_option maxRecDepth 100000
namespace Go.Fg
open Go Go.Ab Go.Proofs Go.Shelf Go.Px Go.Cv Go.Cx Go.Ff
attribute [local instance 5000] tabsB
def eIt(l:List Fo)(i:Int):Int:=if 16<l.length∨l.any pBad=true then 130 else if i<0∨999<i∨gN l=0 then 1 else 0
structure ItE (l:List Fo)(i e:Int):Prop where
 eq:eIt l i=e
structure ItIs (l:List Fo)(i:Int)(o:List Fo):Prop where
 eq:itL isD l i.toNat=o
def outI(l:List Fo)(i:Int)(m:Lk)(n:Nat)(K:Value→Lk→Nat→Prop):Prop:=
 (∀e:Int,ItE l i e→e≠0→K (.tuple ⟨[.slice none 0 0,.int .i64 e]⟩) m n)∧
 (ItE l i 0→ ∀(o:List Fo)(q cap:Nat)(tail:U),ItIs l i o→o.length=q→ja0 tail cap q 4=true→K (.tuple ⟨[oslc n 0 q cap,.int .i64 0]⟩) (m.upd n ⟨fcL o++tail,30,true⟩) (n+1))
def jh8:U→Lk→Nat→(Value→Lk→Nat→Prop)→Prop:=fun args m n K=>match args with
 | [.slice (some ⟨k,off,some 1⟩) len cap,.int .i64 i]=>match noIt (m k)with
  | some b=>match cnd (foOK b.c off len&&decide (len≤1000000∧len≤cap))with
   | true=>outI (foA b.c off len) i m n K
   | false=>False
  | none=>False
 | [.slice none 0 0,.int .i64 _]=>K (.tuple ⟨[.slice none 0 0,.int .i64 1]⟩) m n
 | _=>False
theorem gN_any(l:List Fo):(l.any isD=true)↔gN l≠0:=by
 rw[gN,jeu];have:0<l.countP isD↔ ∃a∈l,isD a=true:=List.countP_pos_iff;rw[List.any_eq_true];constructor
 ·intro h;have:=this.2 h;omega
 ·intro h;exact this.1 (by omega)
def R13(l:List Fo)(i:Int)(v:Value)(bs:F):Prop:=
 (eIt l i≠0∧v= .tuple ⟨[.slice none 0 0,.int .i64 (eIt l i)]⟩)∨(eIt l i=0∧ ∃a cap tail,v= .tuple ⟨[oslc a 0 (itL isD l i.toNat).length cap,.int .i64 0]⟩∧bs=[some ⟨fcL (itL isD l i.toNat)++tail,30,true⟩]∧ja0 tail cap (itL isD l i.toNat).length 4=true)
theorem R13_own{l o:List Fo}{i:Int}{q a cap:Nat}{cs tail:U}(he:eIt l i=0)(ho:o=itL isD l i.toNat)(hq:q=o.length)(hc:cs=fcL o)(ht:ja0 tail cap q 4=true):R13 l i (.tuple ⟨[.slice (some ⟨a,0,some 1⟩) q cap,.int .i64 0]⟩) [some ⟨cs++tail,30,true⟩]:=by
 subst ho hq hc;exact .inr ⟨he,a,cap,tail,rfl,rfl,ht⟩
theorem w13_ok{c:U}{ty off n cap:Nat}{i:Int}(ho:foOK c off n=true)(hn:n≤1000000)(hc:n≤cap):
  jbe Tryz.prog I1 noL Tryz.f13 [.slice (some ⟨0,off,some 1⟩) n cap,I i] (vw c ty) 2 (fun v m' _=>R13 (foA c off n) i v (jg1 m' v)):=by
 obtain⟨hl,hpl,_⟩:=jcd ho;rw[w13];delta b8 gm a8 ax ak av au a0 bu ar am go Fg.K42.ii jb;rw[ho,ja1];have hn':decide (n≤1000000)=true:=jaa hn
 try rw[hn']
 generalize hL:foA c off n=L at*;refine c_t rfl (cond_intro (fun h=> ?_) (fun h=> ?_))
 ·have hb:(decide (16<(n:Int)) || L.any pBad)=true:=by
   cases hq:(decide (16<(n:Int)) || L.any pBad)
   ·rw[hq]at h;cases h
   ·rfl
  rw[hb]
  have:eIt L i=130:=by
   rw[eIt,if_pos];rw[Bool.or_eq_true,jae]at hb;exact hb.imp (fun x=>by omega) id
  exact .inl ⟨by rw[this];decide,by rw[this];rfl⟩
 ·have hb:(decide (16<(n:Int)) || L.any pBad)=false:=by
   cases hq:(decide (16<(n:Int)) || L.any pBad)
   ·rfl
   ·rw[hq]at h;cases h
  have hb':¬(16<L.length∨L.any pBad=true):=by
   intro q
   have:(decide (16<(n:Int)) || L.any pBad)=true:=by
    rw[Bool.or_eq_true,jae];exact q.imp (fun x=>by omega) id
   rw[this]at hb;cases hb
  refine c_t (by simp) (cond_intro (fun h1=> ?_) (fun h1=> ?_))
  ·have:eIt L i=1:=by
    rw[eIt,if_neg hb',if_pos];simp only[Bool.or_eq_true,jae,beq_iff_eq,Bool.not_eq_true',Bool.or_eq_false_iff,decide_eq_false_iff_not]at h1;rcases h1 with h1 | h1 | h1 | ⟨_,h1⟩
    ·exact .inl h1
    ·exact .inr (.inl (by omega))
    ·refine .inr (.inr ?_);have:L=[]:=List.length_eq_zero_iff.1 (by omega);rw[this];rfl
    ·refine .inr (.inr ?_);cases hg:gN L with
     | zero=>rfl
     | succ k=>rw[(gN_any L).2 (by omega)]at h1;cases h1
   exact .inl ⟨by rw[this];decide,by rw[this]⟩
  ·simp only[Bool.or_eq_false_iff,decide_eq_false_iff_not,beq_eq_false_iff_ne,Bool.not_eq_false',Bool.or_eq_true,jae]at h1;obtain⟨g1,g2,g3,g4⟩:=h1;have hg:gN L≠0:=(gN_any L).1 (g4.resolve_left g3);have he:eIt L i=0:=by rw[eIt,if_neg hb',if_neg (by omega)]
   have hsp:=it_split (l:=L) (i:=i.toNat) (by rw[←gN];omega);refine c_t (by simp;omega) fun o f hof=> ?_
   obtain⟨rfl,rfl⟩:=hof;refine⟨fun h0 cap1 tail ht=> ?_,fun h0 q cap1 tail hq ht=> ?_⟩
   ·exact R13_own (cs:=[.int .i64 (dfL L i.toNat).k,.int .i64 (dfL L i.toNat).w,.int .i64 (dfL L i.toNat).d,.string (dfL L i.toNat).s]) (o:=[dfL L i.toNat]) he (by rw[hsp,h0];rfl) rfl rfl ht
   ·subst hq
    have hcl:(ctL L i.toNat).length≤2000001:=by
     have h9:=congrArg List.length (jcc isD L);have hk:i.toNat%(grp isD L).1.length<(grp isD L).1.length:=Nat.mod_lt _ (by rw[←gN];omega);have h8:=S_le (l:=L) hk;have h7:=congrArg List.length hsp;unfold itL at h7;simp only[List.length_append,List.length_cons,List.length_nil]at h7 h9;split at h7<;>(try simp only[List.length_nil]at h7) <;>omega
    obtain⟨u1,u2,u3,u4⟩:=jbl ht;refine c_t ?_ fun cap2 tail2 ht2=> ?_
    ·simp only[jaf,Nat.beq_eq,Nat.ble_eq,jb1,List.length_append,jbq];exact⟨⟨⟨⟨by omega,u3⟩,u4⟩,trivial⟩,by omega,by omega⟩
    ·refine R13_own (o:=ctL L i.toNat++ [dfL L i.toNat]) he hsp.symm (by simp) ?_ ht2;rw[List.take_append_of_le_length (by rw[jbq];omega),List.take_of_length_le (by rw[jbq];omega),jga];rfl
theorem w13n_ok{i:Int}:jbe Tryz.prog I1 noL Tryz.f13 [.slice none 0 0,I i] (fun _=>none) 0 (fun v _ _=>v= .tuple ⟨[.slice none 0 0,.int .i64 1]⟩):=by
 have:=w13n i (fun v _=>v= .tuple ⟨[.slice none 0 0,.int .i64 1]⟩);rw[this,ja1];have e:∀x y z:Bool,(x || (y || ((((0:Nat):Int)==0) || z)))=true:=by decide
 rw[e,e];rfl
theorem R13_new{l:List Fo}{i:Int}{m:Lk}{n:Nat}{K:Value→Lk→Nat→Prop}(h:outI l i m n K){v':Value}{m':Lk}(hR:R13 l i v' (jg1 m' v')):
  ∃v mm nn σ,((∀k b,m k=some b→k<n)→NewM m n m' mm nn σ)∧(∀i∈ids v,n≤i∧i<nn)∧(∀ι' ι'':Nm,(∀i,n≤i→ι'' i=ι' (σ i))→ren ι'' v=ren ι' v')∧K v mm nn:=by
 rcases hR with⟨h0,rfl⟩ | ⟨h0,a,cap,tail,rfl,hl,ht⟩
 ·exact⟨_,m,n,id,fun hwf=>je2 hwf m' id,by simp[ids,idsL],fun _ _ _=>by simp[ren,renL],h.1 _ ⟨rfl⟩ h0⟩
 ·obtain⟨u1,_⟩:=jbl ht
  have hb:m' a=some ⟨fcL (itL isD l i.toNat)++tail,30,true⟩:=by
   have:[m' a]=_:=hl;simpa using this
  refine⟨_,_,_,fun _=>a,fun hwf=>jh1 hwf hb (jf2 (jdo _) u1) rfl,?_,fun ι' ι'' hi=> ?_,h.2 ⟨h0⟩ _ _ cap tail ⟨rfl⟩ rfl ht⟩
  ·intro i hi;simp[ids,idsL,oslc]at hi;omega
  ·simp[ren,renL,oslc,ren1,hi n (Nat.le_refl n)]
theorem fn13:Fn1 Tryz.prog 13 Tryz.f13:= .m Tryz.func13
theorem gen13:jef Tryz.prog 13 jh8:=by
 refine gen_newL jg1 ok_I1 hmix fn13 jai fun args m n K h=> ?_
 unfold jh8 at h;split at h
 ·rename_i k off len cap i;split at h
  ·rename_i b hb;split at h
   ·rename_i hc;simp only[cnd,jaf,jae]at hc;obtain⟨ho,h1,h2⟩:=hc;refine⟨_,_,2,_,_,sub_row hb (jcd ho).2.1 30,fun ι=>slc_args ι,jag,slc_ids,by rw[jfp];exact w13_ok ho h1 h2,fun v' m' hv=>R13_new h hv⟩
   ·exact h.elim
  ·exact h.elim
 ·rename_i i
  exact⟨[.slice none 0 0,I i],fun _=>none,0,id,fun v _=>v= .tuple ⟨[.slice none 0 0,.int .i64 1]⟩,jgs m id 0,fun ι=>rfl,jag,fun v hv j hj=>by simp only[List.mem_cons,List.not_mem_nil,or_false]at hv;rcases hv with rfl | rfl<;>simp[ids]at hj,
   by rw[jfp];exact w13n_ok,fun v' m' hv=>by
    subst hv;exact⟨_,m,n,id,fun hwf=>je2 hwf m' id,by simp[ids,idsL],fun _ _ _=>by simp[ren,renL],h⟩⟩
 ·exact h.elim
theorem okIt_ex:∃d:List Fo→Int→Bool,d=fun l i=>decide (eIt l i=0):=⟨_,rfl⟩
def okIt:List Fo→Int→Bool:=Classical.choose okIt_ex
theorem jfb(l:List Fo)(i:Int):okIt l i=decide (eIt l i=0):=by rw[okIt,Classical.choose_spec okIt_ex]
def hItS:U→Lk→Nat→(Value→Lk→Nat→Prop)→Prop:=fun args m n K=>match args with
 | [.slice (some ⟨k,off,some 1⟩) len cap,.int .i64 i]=>match noIt (m k)with
  | some b=>match cnd (foOK b.c off len&& (decide (len≤1000000∧len≤cap) &&okIt (foA b.c off len) i))with
   | true=>∀(o:List Fo)(q cap:Nat)(tail:U),ItIs (foA b.c off len) i o→o.length=q→ja0 tail cap q 4=true→K (.tuple ⟨[oslc n 0 q cap,.int .i64 0]⟩) (m.upd n ⟨fcL o++tail,30,true⟩) (n+1)
   | false=>False
  | none=>False
 | _=>False
def hItE:U→Lk→Nat→(Value→Lk→Nat→Prop)→Prop:=fun args m n K=>match args with
 | [.slice (some ⟨k,off,some 1⟩) len cap,.int .i64 i]=>match noIt (m k)with
  | some b=>match cnd (foOK b.c off len&& (decide (len≤1000000∧len≤cap) && !okIt (foA b.c off len) i))with
   | true=>∀e:Int,ItE (foA b.c off len) i e→e≠0→K (.tuple ⟨[.slice none 0 0,.int .i64 e]⟩) m n
   | false=>False
  | none=>False
 | [.slice none 0 0,.int .i64 _]=>K (.tuple ⟨[.slice none 0 0,.int .i64 1]⟩) m n
 | _=>False
theorem gen_imp [T:Tabs]{f:FuncId}{h h':U→Lk→Nat→(Value→Lk→Nat→Prop)→Prop}(hg: @jef T Tryz.prog f h)(hi:∀args m n K,h' args m n K→h args m n K): @jef T Tryz.prog f h':=
 ⟨hg.1,fun args m n K hh=>hg.2 args m n K (hi args m n K hh)⟩
theorem itS_imp(args:U)(m:Lk)(n:Nat)(K:Value→Lk→Nat→Prop)(h:hItS args m n K):jh8 args m n K:=by
 unfold hItS at h;split at h
 ·rename_i k off len cap i;split at h
  ·rename_i b hb;split at h
   ·rename_i hc;simp only[cnd,jaf,jfb,jae]at hc;unfold jh8;simp only[hb];have:(foOK b.c off len&&decide (len≤1000000∧len≤cap))=true:=by rw[jaf,jae];exact⟨hc.1,hc.2.1⟩
    rw[this];exact⟨fun e he hne=>(hne (by rw[←he.eq];exact hc.2.2)).elim,fun _=>h⟩
   ·exact h.elim
  ·exact h.elim
 ·exact h.elim
theorem itE_imp(args:U)(m:Lk)(n:Nat)(K:Value→Lk→Nat→Prop)(h:hItE args m n K):jh8 args m n K:=by
 unfold hItE at h;split at h
 ·rename_i k off len cap i;split at h
  ·rename_i b hb;split at h
   ·rename_i hc;simp only[cnd,jaf,jfb,jae,Bool.not_eq_true',decide_eq_false_iff_not]at hc;unfold jh8;simp only[hb];have:(foOK b.c off len&&decide (len≤1000000∧len≤cap))=true:=by rw[jaf,jae];exact⟨hc.1,hc.2.1⟩
    rw[this];exact⟨h,fun he=>(hc.2.2 he.eq).elim⟩
   ·exact h.elim
  ·exact h.elim
 ·exact h
 ·exact h.elim
end Go.Fg
end
noncomputable section
set_option maxHeartbeats 3200000
namespace Go.Ff
open Go Go.Ab Go.Proofs Go.Shelf Go.Px Go.Cv Go.Cx
open Go.Fx (Ty Vl)
end Go.Ff
end
noncomputable section
namespace Go.Cs
open Go Go.Ab Go.Proofs Go.Shelf Go.Px Go.Cx Go.RowKit
class MaxL where
 mx:Int
variable [MaxL]
def rowsC:Nat→Option U:=fun b=>match Nat.beq b 1 with
 | true=>some [.int .i64 MaxL.mx]
 | false=>jiu b
/-- The tables; lengths and characters are computed. -/
instance tabsC:Tabs where
 row:=rowsC
 plain:=fun b r h=>by
  unfold rowsC at h;split at h
  ·cases h;rfl
  ·exact tabs.plain b r h
 conc:=true
 wide:=true
theorem rowsC_of{b:Nat}{r:U}(h:jiu b=some r):rowsC b=some r:=by
 unfold rowsC;split
 ·rename_i hb;obtain rfl:=jah hb;cases h
 ·exact h
theorem tabsIn_T{N:Nat}{w:World}(h: @TabsIn tabsC N w): @TabsIn tabs N w:=fun b r hr=>h b r (rowsC_of hr)
theorem tabsIn_B{N:Nat}{w:World}(h: @TabsIn tabsC N w): @TabsIn Ff.tabsB N w:=fun b r hr=>h b r (rowsC_of hr)
theorem RelM.toT{N:Nat}{w0:World}{m:Lk}{ι:Nm}{w:World}(h: @RelM tabsC N w0 m ι w): @RelM tabs N w0 m ι w:=
 @RelM.mk tabs N w0 m ι w h.below ⟨h.base.1,tabsIn_T h.base.2⟩ h.blk h.view h.inj
theorem RelM.toB{N:Nat}{w0:World}{m:Lk}{ι:Nm}{w:World}(h: @RelM tabsC N w0 m ι w): @RelM Ff.tabsB N w0 m ι w:=
 @RelM.mk Ff.tabsB N w0 m ι w h.below ⟨h.base.1,tabsIn_B h.base.2⟩ h.blk h.view h.inj
theorem RelM.toC{N:Nat}{w0:World}{m:Lk}{ι:Nm}{w:World}(hb: @TabsIn tabsC N w0)(h: @RelM tabs N w0 m ι w): @RelM tabsC N w0 m ι w:=
 @RelM.mk tabsC N w0 m ι w (@RelM.below tabs N w0 m ι w h) ⟨(@RelM.base tabs N w0 m ι w h).1,hb⟩ (@RelM.blk tabs N w0 m ι w h) (@RelM.view tabs N w0 m ι w h) (@RelM.inj tabs N w0 m ι w h)
theorem jcw{f:FuncId}{s:Ab.Spec}(h: @jal tabs Tryz.prog f s): @jal tabsC Tryz.prog f s:=
 ⟨h.1,fun args v N w0 lk ι w hr hs hv=>h.2 args v N w0 lk ι w (RelM.toT hr) hs hv⟩
theorem pureCB{f:FuncId}{s:Ab.Spec}(h: @jal Ff.tabsB Tryz.prog f s): @jal tabsC Tryz.prog f s:=
 ⟨h.1,fun args v N w0 lk ι w hr hs hv=>h.2 args v N w0 lk ι w (RelM.toB hr) hs hv⟩
theorem jgy{f:FuncId}{s:Ab.Spec}(h:jal Tryz.prog f s){l:List (U×Value)}(hl:∀a v,(a,v)∈l→ ∀bs,s a bs=some (true,v)):jal Tryz.prog f (memo l):=
 ⟨h.1,fun args v N w0 lk ι w hr hs hv=>h.2 args v N w0 lk ι w hr (hl _ _ (je3 hs).2 _) hv⟩
def s154(s t:Y):Bool×Value:=(oneB t&&asc (bz t),.string (sz (tlZ (bz s) ((bz t).getD 0 0))))
theorem ok154:jal Tryz.prog 80 (sp2 s154):=by
 have e:s154=Cx.s154:=by funext s t;simp only[s154,Cx.s154,jd3]
 rw[e];exact jcw Cx.ok154
def s131(s t:Y):Bool×Value:=(decide (s.size≤9223372036854775807) && (oneB t&&asc (bz t)),.string (sz (trZ (bz s) ((bz t).getD 0 0))))
theorem ok131:jal Tryz.prog 218 (sp2 s131):=by
 have e:s131=Cx.s131:=by funext s t;simp only[s131,Cx.s131,jd3]
 rw[e];exact jcw Cx.ok131
def s55(s t:Y):Bool×Value:=(decide (s.size≤9223372036854775807) && (decide (t.size≤1000) &&asc (bz t)),.string (sz (je8 (bz s) (bz t))))
theorem ok55:jal Tryz.prog 67 (sp2 s55):=by
 have e:s55=Cx.s55:=by funext s t;simp only[s55,Cx.s55,jd3]
 rw[e];exact jcw Cx.ok55
def s30(s:Y)(n:Int):Bool×Value:=(decide (0≤n∧n≤1000∧s.size≤1000),.string (sz (repZ (bz s) n.toNat)))
theorem ok30:jal Tryz.prog 72 (sp2 s30):=by
 have e:s30=Cx.s30:=by funext s n;simp only[s30,Cx.s30,jd3]
 rw[e];exact jcw Cx.ok30
theorem dec125:Lib.decDigits 125=[49,50,53]:=by
 rw[Lib.decDigits,dif_neg (by decide),Lib.decDigits_two (by decide) (by decide)];rfl
theorem dec150:Lib.decDigits 150=[49,53,48]:=by
 rw[Lib.decDigits,dif_neg (by decide),Lib.decDigits_two (by decide) (by decide)];rfl
theorem dec123:Lib.decDigits 123=[49,50,51]:=by
 rw[Lib.decDigits,dif_neg (by decide),Lib.decDigits_two (by decide) (by decide)];rfl
theorem dec1234:Lib.decDigits 1234=[49,50,51,52]:=by
 rw[Lib.decDigits,dif_neg (by decide),Lib.decDigits,dif_neg (by decide),Lib.decDigits_two (by decide) (by decide)];rfl
theorem dec5:Lib.decDigits 5=[53]:=by
 rw[Lib.decDigits,dif_pos (by decide)];rfl
theorem ito{n:Nat}{l:O}(h:Lib.decDigits n=l):Cx.s29 (n:Int)=(decide (-9223372036854775808≤(n:Int)∧(n:Int)≤9223372036854775807),.string ⟨l.toArray⟩):=by
 rw[Cx.s29,jd3,itoZ,Lib.itoa_nonneg,h,jgh]
theorem fmt{n:Nat}{l:O}(h:Lib.decDigits n=l):Px.s87 ⟨(n:Int)⟩ 10=(decide (0≤(n:Int)∧(n:Int)<18446744073709551616) &&jjw 10,.string ⟨l.toArray⟩):=by
 show(_,Value.string (sz (zl (Lib.decDigits (n:Int).toNat))))=_;rw[Int.toNat_natCast,h,jgh]
def m29:List (U×Value):=[([.int .i64 125],.string ⟨#[49,50,53]⟩),([.int .i64 150],.string ⟨#[49,53,48]⟩),([.int .i64 5],.string ⟨#[53]⟩),([.int .i64 1234],.string ⟨#[49,50,51,52]⟩)]
theorem jf4{α:Type}{p:α→Prop}:∀{l:List α},(l.foldr (fun a q=>p a∧q) True)→ ∀a∈l,p a
 | _::_,h,_,ha=>by
  rcases List.mem_cons.1 ha with rfl | ha
  ·exact h.1
  ·exact jf4 h.2 _ ha
theorem pk29:jal Tryz.prog 175 (memo m29):=jgy (jcw Cx.ok29) fun a v h bs=>by
 have:=jf4 (p:=fun x:U×Value=>sp1 Cx.s29 x.1 bs=some (true,x.2)) (l:=m29) ⟨congrArg some (ito dec125),congrArg some (ito dec150),congrArg some (ito dec5),congrArg some (ito dec1234),trivial⟩ _ h;exact this
def m81:List (U×Value):=[([.int .u64 123,.int .i64 10],.string ⟨#[49,50,51]⟩)]
theorem pk81:jal Tryz.prog 131 (memo m81):=jgy (jcw Px.ok87) fun a v h bs=>by
 have:=jf4 (p:=fun x:U×Value=>sp2 Px.s87 x.1 bs=some (true,x.2)) (l:=m81) ⟨congrArg some (fmt dec123),trivial⟩ _ h;exact this
def m180:List (U×Value):=[([.string ⟨#[49,50]⟩],.string ⟨#[48,49,51]⟩),([.string ⟨#[]⟩],.string ⟨#[49]⟩)]
theorem pk180:jal Tryz.prog 180 (memo m180):=jgy (pureCB Ff.ok180) fun a v h bs=>by
 have:=jf4 (p:=fun x:U×Value=>sp1 Ff.s180 x.1 bs=some (true,x.2)) (l:=m180) ⟨by kernel_rfl,by kernel_rfl,trivial⟩ _ h;exact this
def m118:List (U×Value):=[([.string ⟨#[49,50,53]⟩],.tuple ⟨[.int .i64 125,.nilIface]⟩)]
theorem pk118:jal Tryz.prog 118 (memo m118):=jgy (jcw Px.ok68) fun a v h bs=>by
 have:=jf4 (p:=fun x:U×Value=>sp1 Px.s68 x.1 bs=some (true,x.2)) (l:=m118) ⟨by kernel_rfl,trivial⟩ _ h;exact this
theorem Tryz.Builder_Extra_155:Builder.Extra Tryz.prog Tryz.lays155_ren:={
 sizeBuilder:=by kernel_rfl
 liesBuilder:=by kernel_rfl
 t5:=Tryz.underlying5
 a5:=Tryz.isAgg5
 z5:=Tryz.sizeOf5
 v5:=Tryz.zeroValue5
 infoByte:=by kernel_rfl
 cellsByte:=by kernel_rfl
 sizeByte:=by kernel_rfl
 neB5:=by decide}
theorem pure_shelfC{P:Program}{f:FuncId}{s:Ab.Spec}(hc:ja6 P f)
  (h:∀args bs v,s args bs=some (true,v)→jas args=true∧ ∀w,TabsIn w.heap.size w→Calls P f args.toArray w fun e w'=>e= .returned v∧RowKit.Below w.heap.size w w'):jal P f s:=by
 refine⟨hc,fun args v N w0 lk ι w hrel hs hp=> ?_⟩;obtain⟨h1,h2⟩:=h _ _ _ hs;have hren:args.map (ren ι)=args:=by rw[←jbd,jbf _ h1]
 rw[hren];exact h2 w hrel.tabs
def m93:List (U×Value):=[([.string ⟨#[105,116,39,39,115]⟩,.string ⟨#[39,39]⟩,.string ⟨#[39]⟩],.string ⟨#[105,116,39,115]⟩)]
theorem pk93:jal Tryz.prog 93 (memo m93):=pure_shelfC (cal Tryz.func93 (by kernel_rfl) (by kernel_rfl)) fun args bs v hs=>by
 have hm:(args,v)∈m93:=(je3 hs).2;have hm:=List.mem_singleton.1 hm;cases hm;refine⟨rfl,fun w hw=> ?_⟩;have hc:w.cell? ⟨1,0,none⟩=some (.int .i64 MaxL.mx):=hw.cell (b:=1) rfl (i:=0) rfl;exact(Any.strings_ReplaceAll (ρ:=Tryz.lays155_ren) Tryz.lays155 Tryz.Builder_Extra_155 ⟨#[105,116,39,39,115]⟩ ⟨#[39,39]⟩ ⟨#[39]⟩ MaxL.mx w (by decide) hc (by decide) (by decide)).mono fun e w' ⟨h1,h2⟩=>⟨by rw[h1];kernel_rfl,h2⟩
theorem genC: @jef tabsC Tryz.prog 126 h100:=by
 obtain⟨h1,h2⟩:= @gen100;refine⟨h1,fun args m n K hh N w0 ι w hrel hwf hargs=> ?_⟩;refine(h2 args m n K hh N w0 ι w (RelM.toT hrel) hwf hargs).mono fun e w' ⟨v,m',n',ι',h⟩=>⟨v,m',n',ι',h.1,h.2.1,h.2.2.1,h.2.2.2.1,RelM.toC hrel.base.2 h.2.2.2.2.1,h.2.2.2.2.2⟩
def S0:Env:=Env.nil.add 80 (sp2 s154) |>.add 218 (sp2 s131) |>.add 67 (sp2 s55) |>.add 72 (sp2 s30) |>.add 175 (memo m29) |>.add 131 (memo m81) |>.add 140 (sp2 Px.s141) |>.add 185 (sp2 Px.s157) |>.add 150 (sp2 s132) |>.add 148 (sp2 s130) |>.add 114 (sp2 s102) |>.add 103 (sp2 s280) |>.add 180 (memo m180) |>.add 118 (memo m118) |>.add 93 (memo m93) |>.addG 126 h100
theorem ok_S0:jao Tryz.prog S0:=jaq (jak (jak (jak (jak (jak (jak (jak (jak (jak (jak (jak (jak (jak (jak (jak jbr ok154) ok131) ok55) ok30) pk29) pk81) (jcw Px.ok141)) (jcw Px.ok157)) (jcw ok132)) (jcw ok130)) (jcw ok102)) (jcw ok280)) pk180) pk118) pk93) genC
end Go.Cs
end
noncomputable section
set_option maxRecDepth 100000
set_option maxHeartbeats 3200000
namespace Go.Cs
open Go Go.Ab Go.Proofs Go.Px Go.Cx
variable [MaxL]
theorem fn146:Fn1 Tryz.prog 146 Tryz.f146:= .m Tryz.func146
def Fs1e1:Env:=S0.addG 146 (inlQ Tryz.prog S0 noL Tryz.f146)
theorem ok_Fs1e1:jao Tryz.prog Fs1e1:=jaq ok_S0 (jat ok_S0 hmix fn146 jai)
theorem fn147:Fn1 Tryz.prog 147 Tryz.f147:= .m Tryz.func147
def Fs1e2:Env:=Fs1e1.addG 147 (inlQ Tryz.prog Fs1e1 noL Tryz.f147)
theorem ok_Fs1e2:jao Tryz.prog Fs1e2:=jaq ok_Fs1e1 (jat ok_Fs1e1 hmix fn147 jai)
theorem fn113:Fn1 Tryz.prog 113 Tryz.f113:= .m Tryz.func113
def m113:List (U×Value):=[([.string ⟨#[57,57,86,57]⟩],.tuple ⟨[.string ⟨#[57,57,86,57]⟩,.bool true]⟩)]
theorem pk113:jal Tryz.prog 113 (memo m113):=jan [.app none 1 1 (.app (some 0) 2 1 (.app (some 0) 3 1 (.app (some 0) 4 1 .leaf)))] ok_Fs1e2 hmix fn113 jai (by kernel_rfl) (by kernel_rfl)
def Fs1e3:Env:=Fs1e2.add 113 (memo m113)
theorem ok_Fs1e3:jao Tryz.prog Fs1e3:=jak ok_Fs1e2 pk113
theorem fn192:Fn1 Tryz.prog 192 Tryz.f192:= .m Tryz.func192
def Fs1e4:Env:=Fs1e3.addG 192 (inlQ Tryz.prog Fs1e3 noL Tryz.f192)
theorem ok_Fs1e4:jao Tryz.prog Fs1e4:=jaq ok_Fs1e3 (jat ok_Fs1e3 hmix fn192 jai)
theorem fn149:Fn1 Tryz.prog 149 Tryz.f149:= .m Tryz.func149
def Fs1e5:Env:=Fs1e4.addG 149 (inlQ Tryz.prog Fs1e4 noL Tryz.f149)
theorem ok_Fs1e5:jao Tryz.prog Fs1e5:=jaq ok_Fs1e4 (jat ok_Fs1e4 hmix fn149 jai)
theorem fn151:Fn1 Tryz.prog 151 Tryz.f151:= .m Tryz.func151
def Fs1e6:Env:=Fs1e5.addG 151 (inlQ Tryz.prog Fs1e5 noL Tryz.f151)
theorem ok_Fs1e6:jao Tryz.prog Fs1e6:=jaq ok_Fs1e5 (jat ok_Fs1e5 hmix fn151 jai)
theorem fn152:Fn1 Tryz.prog 152 Tryz.f152:= .m Tryz.func152
def Fs1e7:Env:=Fs1e6.addG 152 (inlQ Tryz.prog Fs1e6 noL Tryz.f152)
theorem ok_Fs1e7:jao Tryz.prog Fs1e7:=jaq ok_Fs1e6 (jat ok_Fs1e6 hmix fn152 jai)
theorem fn153:Fn1 Tryz.prog 153 Tryz.f153:= .m Tryz.func153
def Fs1e8:Env:=Fs1e7.addG 153 (inlQ Tryz.prog Fs1e7 noL Tryz.f153)
theorem ok_Fs1e8:jao Tryz.prog Fs1e8:=jaq ok_Fs1e7 (jat ok_Fs1e7 hmix fn153 jai)
theorem fn115:Fn1 Tryz.prog 115 Tryz.f115:= .m Tryz.func115
def Fs1e9:Env:=Fs1e8.addG 115 (inlQ Tryz.prog Fs1e8 noL Tryz.f115)
theorem ok_Fs1e9:jao Tryz.prog Fs1e9:=jaq ok_Fs1e8 (jat ok_Fs1e8 hmix fn115 jai)
theorem fn68:Fn1 Tryz.prog 68 Tryz.f68:= .m Tryz.func68
def Fs1e10:Env:=Fs1e9.addG 68 (inlQ Tryz.prog Fs1e9 noL Tryz.f68)
theorem ok_Fs1e10:jao Tryz.prog Fs1e10:=jaq ok_Fs1e9 (jat ok_Fs1e9 hmix fn68 jai)
theorem fn102:Fn1 Tryz.prog 102 Tryz.f102:= .m Tryz.func102
def m102:List (U×Value):=[([.string ⟨#[57,57,86,57]⟩],.tuple ⟨[.agg ⟨[.string ⟨#[57,57,86,57]⟩,.bool true,.int .i64 3,.int .i64 3,.int .i64 1,.bool false]⟩,.int .i64 0]⟩)]
theorem pk102:jal Tryz.prog 102 (memo m102):=jan [.bts 4 (.app none 1 1 (.app (some 0) 2 1 (.app (some 0) 3 1 (.app (some 0) 4 1 (.bts 4 .leaf)))))] ok_Fs1e10 hmix fn102 jai (by kernel_rfl) (by kernel_rfl)
def Fs1e11:Env:=Fs1e10.add 102 (memo m102)
theorem ok_Fs1e11:jao Tryz.prog Fs1e11:=jak ok_Fs1e10 pk102
theorem fn65:Fn1 Tryz.prog 65 Tryz.f65:= .m Tryz.func65
def m65:List (U×Value):=[([.string ⟨#[57,57,86,57]⟩],.int .i64 0)]
theorem pk65:jal Tryz.prog 65 (memo m65):=jan [] ok_Fs1e11 hmix fn65 jai (by kernel_rfl) (by kernel_rfl)
def Fs1e12:Env:=Fs1e11.add 65 (memo m65)
theorem ok_Fs1e12:jao Tryz.prog Fs1e12:=jak ok_Fs1e11 pk65
theorem fn130:Fn1 Tryz.prog 130 Tryz.f130:= .m Tryz.func130
def m130:List (U×Value):=[([.string ⟨#[57,57,86,57]⟩],.tuple ⟨[.agg ⟨[.int .i64 1,.int .i64 3,.int .i64 1,.bool false,.string ⟨#[]⟩]⟩,.int .i64 0]⟩)]
theorem pk130:jal Tryz.prog 130 (memo m130):=jan [] ok_Fs1e12 hmix fn130 jai (by kernel_rfl) (by kernel_rfl)
def Fs1e13:Env:=Fs1e12.add 130 (memo m130)
theorem ok_Fs1e13:jao Tryz.prog Fs1e13:=jak ok_Fs1e12 pk130
theorem fn116:Fn1 Tryz.prog 116 Tryz.f116:= .m Tryz.func116
def Fs1e14:Env:=Fs1e13.addG 116 (inlQ Tryz.prog Fs1e13 noL Tryz.f116)
theorem ok_Fs1e14:jao Tryz.prog Fs1e14:=jaq ok_Fs1e13 (jat ok_Fs1e13 hmix fn116 jai)
theorem fn128:Fn1 Tryz.prog 128 Tryz.f128:= .m Tryz.func128
def m128:List (U×Value):=[([.string ⟨#[57,57,86,57]⟩],.bool true)]
theorem pk128:jal Tryz.prog 128 (memo m128):=jan [.bts 4 (.app none 1 1 (.app (some 0) 2 1 (.app (some 0) 3 1 (.app (some 0) 4 1 (.bts 4 .leaf)))))] ok_Fs1e14 hmix fn128 jai (by kernel_rfl) (by kernel_rfl)
def Fs1e15:Env:=Fs1e14.add 128 (memo m128)
theorem ok_Fs1e15:jao Tryz.prog Fs1e15:=jak ok_Fs1e14 pk128
theorem fn70:Fn1 Tryz.prog 70 Tryz.f70:= .m Tryz.func70
def Fs1e16:Env:=Fs1e15.addG 70 (inlQ Tryz.prog Fs1e15 noL Tryz.f70)
theorem ok_Fs1e16:jao Tryz.prog Fs1e16:=jaq ok_Fs1e15 (jat ok_Fs1e15 hmix fn70 jai)
theorem fn206:Fn1 Tryz.prog 206 Tryz.f206:= .m Tryz.func206
def Fs1e17:Env:=Fs1e16.addG 206 (inlQ Tryz.prog Fs1e16 noL Tryz.f206)
theorem ok_Fs1e17:jao Tryz.prog Fs1e17:=jaq ok_Fs1e16 (jat ok_Fs1e16 hmix fn206 jai)
theorem fn198:Fn1 Tryz.prog 198 Tryz.f198:= .m Tryz.func198
def Fs1e18:Env:=Fs1e17.addG 198 (inlQ Tryz.prog Fs1e17 noL Tryz.f198)
theorem ok_Fs1e18:jao Tryz.prog Fs1e18:=jaq ok_Fs1e17 (jat ok_Fs1e17 hmix fn198 jai)
theorem fn199:Fn1 Tryz.prog 199 Tryz.f199:= .m Tryz.func199
def Fs1e19:Env:=Fs1e18.addG 199 (inlQ Tryz.prog Fs1e18 noL Tryz.f199)
theorem ok_Fs1e19:jao Tryz.prog Fs1e19:=jaq ok_Fs1e18 (jat ok_Fs1e18 hmix fn199 jai)
theorem fn157:Fn1 Tryz.prog 157 Tryz.f157:= .m Tryz.func157
def Fs1e20:Env:=Fs1e19.addG 157 (inlQ Tryz.prog Fs1e19 noL Tryz.f157)
theorem ok_Fs1e20:jao Tryz.prog Fs1e20:=jaq ok_Fs1e19 (jat ok_Fs1e19 hmix fn157 jai)
theorem fn158:Fn1 Tryz.prog 158 Tryz.f158:= .m Tryz.func158
def Fs1e21:Env:=Fs1e20.addG 158 (inlQ Tryz.prog Fs1e20 noL Tryz.f158)
theorem ok_Fs1e21:jao Tryz.prog Fs1e21:=jaq ok_Fs1e20 (jat ok_Fs1e20 hmix fn158 jai)
theorem fn159:Fn1 Tryz.prog 159 Tryz.f159:= .m Tryz.func159
def Fs1e22:Env:=Fs1e21.addG 159 (inlQ Tryz.prog Fs1e21 noL Tryz.f159)
theorem ok_Fs1e22:jao Tryz.prog Fs1e22:=jaq ok_Fs1e21 (jat ok_Fs1e21 hmix fn159 jai)
theorem fn160:Fn1 Tryz.prog 160 Tryz.f160:= .m Tryz.func160
def Fs1e23:Env:=Fs1e22.addG 160 (inlQ Tryz.prog Fs1e22 noL Tryz.f160)
theorem ok_Fs1e23:jao Tryz.prog Fs1e23:=jaq ok_Fs1e22 (jat ok_Fs1e22 hmix fn160 jai)
theorem fn161:Fn1 Tryz.prog 161 Tryz.f161:= .m Tryz.func161
def Fs1e24:Env:=Fs1e23.addG 161 (inlQ Tryz.prog Fs1e23 noL Tryz.f161)
theorem ok_Fs1e24:jao Tryz.prog Fs1e24:=jaq ok_Fs1e23 (jat ok_Fs1e23 hmix fn161 jai)
theorem fn162:Fn1 Tryz.prog 162 Tryz.f162:= .m Tryz.func162
def Fs1e25:Env:=Fs1e24.addG 162 (inlQ Tryz.prog Fs1e24 noL Tryz.f162)
theorem ok_Fs1e25:jao Tryz.prog Fs1e25:=jaq ok_Fs1e24 (jat ok_Fs1e24 hmix fn162 jai)
theorem fn119:Fn1 Tryz.prog 119 Tryz.f119:= .m Tryz.func119
def Fs1e26:Env:=Fs1e25.addG 119 (inlQ Tryz.prog Fs1e25 noL Tryz.f119)
theorem ok_Fs1e26:jao Tryz.prog Fs1e26:=jaq ok_Fs1e25 (jat ok_Fs1e25 hmix fn119 jai)
theorem fn170:Fn1 Tryz.prog 170 Tryz.f170:= .m Tryz.func170
def m170:List (U×Value):=[([.int .i64 123,.int .i64 1,.string ⟨#[57,57,86,57]⟩],.tuple ⟨[.string ⟨#[49,50,51]⟩,.bool true,.int .i64 0]⟩)]
theorem pk170:jal Tryz.prog 170 (memo m170):=jan [.bts 4 (.app none 1 1 (.app (some 0) 2 1 (.app (some 0) 3 1 (.app (some 0) 4 1 (.bts 4 (.app none 1 1 (.app (some 0) 2 1 (.app (some 0) 3 1 .leaf))))))))] ok_Fs1e26 hmix fn170 jai (by kernel_rfl) (by kernel_rfl)
def Fs1e27:Env:=Fs1e26.add 170 (memo m170)
theorem ok_Fs1e27:jao Tryz.prog Fs1e27:=jak ok_Fs1e26 pk170
def Fs1e28:Env:=Fs1e27.add 216 (sp1 Cx.s152)
theorem ok_Fs1e28:jao Tryz.prog Fs1e28:=jak ok_Fs1e27 (jcw Cx.ok152)
def Fs1e29:Env:=Fs1e28.add 236 (sp1 Cx.s213)
theorem ok_Fs1e29:jao Tryz.prog Fs1e29:=jak ok_Fs1e28 (jcw Cx.ok213)
def Fs1e30:Env:=Fs1e29.add 104 (sp1 Cx.s141)
theorem ok_Fs1e30:jao Tryz.prog Fs1e30:=jak ok_Fs1e29 (jcw Cx.ok141)
def Fs1e31:Env:=Fs1e30.add 64 (sp1 Cx.s66)
theorem ok_Fs1e31:jao Tryz.prog Fs1e31:=jak ok_Fs1e30 (jcw Cx.ok66)
def Fs1e32:Env:=Fs1e31.add 227 (sp1 Cx.s85)
theorem ok_Fs1e32:jao Tryz.prog Fs1e32:=jak ok_Fs1e31 (jcw Cx.ok85)
theorem fn33:Fn1 Tryz.prog 33 Tryz.f33:= .m Tryz.func33
def m33:List (U×Value):=[([.agg ⟨[.int .i64 1,.int .i64 5,.int .i64 2,.bool false,.string ⟨#[]⟩]⟩],.int .i64 0),([.agg ⟨[.int .i64 1,.int .i64 3,.int .i64 1,.bool false,.string ⟨#[]⟩]⟩],.int .i64 0),([.agg ⟨[.int .i64 1,.int .i64 4,.int .i64 2,.bool false,.string ⟨#[]⟩]⟩],.int .i64 0),([.agg ⟨[.int .i64 1,.int .i64 9,.int .i64 2,.bool false,.string ⟨#[]⟩]⟩],.int .i64 0),([.agg ⟨[.int .i64 1,.int .i64 3,.int .i64 1,.bool false,.string ⟨#[]⟩]⟩],.int .i64 0),([.agg ⟨[.int .i64 3,.int .i64 1,.int .i64 0,.bool false,.string ⟨#[]⟩]⟩],.int .i64 0),([.agg ⟨[.int .i64 3,.int .i64 2,.int .i64 0,.bool false,.string ⟨#[]⟩]⟩],.int .i64 0),([.agg ⟨[.int .i64 3,.int .i64 4,.int .i64 0,.bool false,.string ⟨#[]⟩]⟩],.int .i64 0),([.agg ⟨[.int .i64 3,.int .i64 6,.int .i64 0,.bool false,.string ⟨#[]⟩]⟩],.int .i64 0),([.agg ⟨[.int .i64 4,.int .i64 2,.int .i64 0,.bool false,.string ⟨#[]⟩]⟩],.int .i64 0),([.agg ⟨[.int .i64 4,.int .i64 3,.int .i64 0,.bool false,.string ⟨#[]⟩]⟩],.int .i64 0),([.agg ⟨[.int .i64 4,.int .i64 4,.int .i64 0,.bool false,.string ⟨#[]⟩]⟩],.int .i64 0),([.agg ⟨[.int .i64 5,.int .i64 0,.int .i64 0,.bool false,.string ⟨#[57,57,86,57]⟩]⟩],.int .i64 0)]
theorem pk33:jal Tryz.prog 33 (memo m33):=jan [.leaf,.leaf,.leaf,.leaf,.leaf,.both .leaf .leaf,.both .leaf .leaf,.both .leaf .leaf,.both .leaf .leaf] ok_Fs1e32 hmix fn33 jai (by kernel_rfl) (by kernel_rfl)
def Fs1e33:Env:=Fs1e32.add 33 (memo m33)
theorem ok_Fs1e33:jao Tryz.prog Fs1e33:=jak ok_Fs1e32 pk33
theorem fn105:Fn1 Tryz.prog 105 Tryz.f105:= .m Tryz.func105
def m105:List (U×Value):=[([],.agg ⟨[.int .i64 1,.int .i64 10,.int .i64 100,.int .i64 1000,.int .i64 10000,.int .i64 100000,.int .i64 1000000,.int .i64 10000000,.int .i64 100000000,.int .i64 1000000000,.int .i64 10000000000,.int .i64 100000000000,.int .i64 1000000000000,.int .i64 10000000000000,.int .i64 100000000000000,.int .i64 1000000000000000,.int .i64 10000000000000000,.int .i64 100000000000000000,.int .i64 1000000000000000000]⟩)]
theorem pk105:jal Tryz.prog 105 (memo m105):=jan [] ok_Fs1e33 hmix fn105 jai (by kernel_rfl) (by kernel_rfl)
def Fs1e34:Env:=Fs1e33.add 105 (memo m105)
theorem ok_Fs1e34:jao Tryz.prog Fs1e34:=jak ok_Fs1e33 pk105
theorem fn66:Fn1 Tryz.prog 66 Tryz.f66:= .m Tryz.func66
def m66:List (U×Value):=[([.agg ⟨[.int .i64 1,.int .i64 5,.int .i64 2,.bool false,.string ⟨#[]⟩]⟩],.int .i64 100000),([.agg ⟨[.int .i64 1,.int .i64 3,.int .i64 1,.bool false,.string ⟨#[]⟩]⟩],.int .i64 1000),([.agg ⟨[.int .i64 1,.int .i64 4,.int .i64 2,.bool false,.string ⟨#[]⟩]⟩],.int .i64 10000),([.agg ⟨[.int .i64 1,.int .i64 9,.int .i64 2,.bool false,.string ⟨#[]⟩]⟩],.int .i64 1000000000)]
theorem pk66:jal Tryz.prog 66 (memo m66):=jan [] ok_Fs1e34 hmix fn66 jai (by kernel_rfl) (by kernel_rfl)
def Fs1e35:Env:=Fs1e34.add 66 (memo m66)
theorem ok_Fs1e35:jao Tryz.prog Fs1e35:=jak ok_Fs1e34 pk66
theorem fn34:Fn1 Tryz.prog 34 Tryz.f34:= .m Tryz.func34
def m34:List (U×Value):=[([.agg ⟨[.int .i64 (-125),.string ⟨#[]⟩]⟩,.agg ⟨[.int .i64 1,.int .i64 5,.int .i64 2,.bool false,.string ⟨#[]⟩]⟩],.int .i64 0),([.agg ⟨[.int .i64 5,.string ⟨#[]⟩]⟩,.agg ⟨[.int .i64 1,.int .i64 3,.int .i64 1,.bool false,.string ⟨#[]⟩]⟩],.int .i64 0),([.agg ⟨[.int .i64 1234,.string ⟨#[]⟩]⟩,.agg ⟨[.int .i64 1,.int .i64 4,.int .i64 2,.bool false,.string ⟨#[]⟩]⟩],.int .i64 0),([.agg ⟨[.int .i64 150,.string ⟨#[]⟩]⟩,.agg ⟨[.int .i64 1,.int .i64 5,.int .i64 2,.bool false,.string ⟨#[]⟩]⟩],.int .i64 0),([.agg ⟨[.int .i64 125,.string ⟨#[]⟩]⟩,.agg ⟨[.int .i64 1,.int .i64 9,.int .i64 2,.bool false,.string ⟨#[]⟩]⟩],.int .i64 0)]
theorem pk34:jal Tryz.prog 34 (memo m34):=jan [] ok_Fs1e35 hmix fn34 jai (by kernel_rfl) (by kernel_rfl)
def Fs1e36:Env:=Fs1e35.add 34 (memo m34)
theorem ok_Fs1e36:jao Tryz.prog Fs1e36:=jak ok_Fs1e35 pk34
theorem fn35:Fn1 Tryz.prog 35 Tryz.f35:= .m Tryz.func35
def m35:List (U×Value):=[([.string ⟨#[49,49]⟩],.bool true),([.string ⟨#[49,48,49]⟩],.bool true),([.string ⟨#[120]⟩],.bool false)]
theorem pk35:jal Tryz.prog 35 (memo m35):=jan [] ok_Fs1e36 hmix fn35 jai (by kernel_rfl) (by kernel_rfl)
def Fs1e37:Env:=Fs1e36.add 35 (memo m35)
theorem ok_Fs1e37:jao Tryz.prog Fs1e37:=jak ok_Fs1e36 pk35
theorem fn7:Fn1 Tryz.prog 7 Tryz.f7:= .m Tryz.func7
def m7:List (U×Value):=[([.agg ⟨[.int .i64 (-125),.string ⟨#[]⟩]⟩,.agg ⟨[.int .i64 1,.int .i64 5,.int .i64 2,.bool false,.string ⟨#[]⟩]⟩],.int .i64 0),([.agg ⟨[.int .i64 5,.string ⟨#[]⟩]⟩,.agg ⟨[.int .i64 1,.int .i64 3,.int .i64 1,.bool false,.string ⟨#[]⟩]⟩],.int .i64 0),([.agg ⟨[.int .i64 1234,.string ⟨#[]⟩]⟩,.agg ⟨[.int .i64 1,.int .i64 4,.int .i64 2,.bool false,.string ⟨#[]⟩]⟩],.int .i64 0),([.agg ⟨[.int .i64 150,.string ⟨#[]⟩]⟩,.agg ⟨[.int .i64 1,.int .i64 5,.int .i64 2,.bool false,.string ⟨#[]⟩]⟩],.int .i64 0),([.agg ⟨[.int .i64 125,.string ⟨#[]⟩]⟩,.agg ⟨[.int .i64 1,.int .i64 9,.int .i64 2,.bool false,.string ⟨#[]⟩]⟩],.int .i64 0),([.agg ⟨[.int .i64 0,.string ⟨#[97,98]⟩]⟩,.agg ⟨[.int .i64 3,.int .i64 2,.int .i64 0,.bool false,.string ⟨#[]⟩]⟩],.int .i64 0),([.agg ⟨[.int .i64 0,.string ⟨#[49,49]⟩]⟩,.agg ⟨[.int .i64 4,.int .i64 2,.int .i64 0,.bool false,.string ⟨#[]⟩]⟩],.int .i64 0),([.agg ⟨[.int .i64 0,.string ⟨#[120]⟩]⟩,.agg ⟨[.int .i64 3,.int .i64 1,.int .i64 0,.bool false,.string ⟨#[]⟩]⟩],.int .i64 0),([.agg ⟨[.int .i64 0,.string ⟨#[121]⟩]⟩,.agg ⟨[.int .i64 3,.int .i64 1,.int .i64 0,.bool false,.string ⟨#[]⟩]⟩],.int .i64 0),([.agg ⟨[.int .i64 0,.string ⟨#[49,48,49]⟩]⟩,.agg ⟨[.int .i64 4,.int .i64 3,.int .i64 0,.bool false,.string ⟨#[]⟩]⟩],.int .i64 0),([.agg ⟨[.int .i64 0,.string ⟨#[105,116,39,115]⟩]⟩,.agg ⟨[.int .i64 3,.int .i64 4,.int .i64 0,.bool false,.string ⟨#[]⟩]⟩],.int .i64 0),([.agg ⟨[.int .i64 0,.string ⟨#[49,50]⟩]⟩,.agg ⟨[.int .i64 3,.int .i64 2,.int .i64 0,.bool false,.string ⟨#[]⟩]⟩],.int .i64 0),([.agg ⟨[.int .i64 0,.string ⟨#[51,52]⟩]⟩,.agg ⟨[.int .i64 3,.int .i64 2,.int .i64 0,.bool false,.string ⟨#[]⟩]⟩],.int .i64 0),([.agg ⟨[.int .i64 0,.string ⟨#[53,54]⟩]⟩,.agg ⟨[.int .i64 3,.int .i64 2,.int .i64 0,.bool false,.string ⟨#[]⟩]⟩],.int .i64 0)]
theorem pk7:jal Tryz.prog 7 (memo m7):=jan [] ok_Fs1e37 hmix fn7 jai (by kernel_rfl) (by kernel_rfl)
def Fs1e38:Env:=Fs1e37.add 7 (memo m7)
theorem ok_Fs1e38:jao Tryz.prog Fs1e38:=jak ok_Fs1e37 pk7
theorem fn124:Fn1 Tryz.prog 124 Tryz.f124:= .m Tryz.func124
def m124:List (U×Value):=[([.agg ⟨[.int .i64 1234,.string ⟨#[]⟩]⟩,.agg ⟨[.int .i64 1,.int .i64 4,.int .i64 2,.bool false,.string ⟨#[]⟩]⟩],.iface 213 (.agg ⟨[.int .i64 1234,.int .i64 1,.int .i64 4,.int .i64 2,.bool false,.string ⟨#[]⟩]⟩)),([.agg ⟨[.int .i64 150,.string ⟨#[]⟩]⟩,.agg ⟨[.int .i64 1,.int .i64 5,.int .i64 2,.bool false,.string ⟨#[]⟩]⟩],.iface 213 (.agg ⟨[.int .i64 150,.int .i64 1,.int .i64 5,.int .i64 2,.bool false,.string ⟨#[]⟩]⟩)),([.agg ⟨[.int .i64 125,.string ⟨#[]⟩]⟩,.agg ⟨[.int .i64 1,.int .i64 9,.int .i64 2,.bool false,.string ⟨#[]⟩]⟩],.iface 213 (.agg ⟨[.int .i64 125,.int .i64 1,.int .i64 9,.int .i64 2,.bool false,.string ⟨#[]⟩]⟩)),([.agg ⟨[.int .i64 0,.string ⟨#[97,98]⟩]⟩,.agg ⟨[.int .i64 3,.int .i64 2,.int .i64 0,.bool false,.string ⟨#[]⟩]⟩],.iface 217 (.string ⟨#[97,98]⟩)),([.agg ⟨[.int .i64 0,.string ⟨#[49,49]⟩]⟩,.agg ⟨[.int .i64 4,.int .i64 2,.int .i64 0,.bool false,.string ⟨#[]⟩]⟩],.iface 214 (.string ⟨#[49,49]⟩)),([.agg ⟨[.int .i64 0,.string ⟨#[120]⟩]⟩,.agg ⟨[.int .i64 3,.int .i64 1,.int .i64 0,.bool false,.string ⟨#[]⟩]⟩],.iface 217 (.string ⟨#[120]⟩)),([.agg ⟨[.int .i64 0,.string ⟨#[121]⟩]⟩,.agg ⟨[.int .i64 3,.int .i64 1,.int .i64 0,.bool false,.string ⟨#[]⟩]⟩],.iface 217 (.string ⟨#[121]⟩)),([.agg ⟨[.int .i64 0,.string ⟨#[105,116,39,115]⟩]⟩,.agg ⟨[.int .i64 3,.int .i64 4,.int .i64 0,.bool false,.string ⟨#[]⟩]⟩],.iface 217 (.string ⟨#[105,116,39,115]⟩)),([.agg ⟨[.int .i64 0,.string ⟨#[49,50]⟩]⟩,.agg ⟨[.int .i64 3,.int .i64 2,.int .i64 0,.bool false,.string ⟨#[]⟩]⟩],.iface 217 (.string ⟨#[49,50]⟩)),([.agg ⟨[.int .i64 0,.string ⟨#[51,52]⟩]⟩,.agg ⟨[.int .i64 3,.int .i64 2,.int .i64 0,.bool false,.string ⟨#[]⟩]⟩],.iface 217 (.string ⟨#[51,52]⟩)),([.agg ⟨[.int .i64 0,.string ⟨#[53,54]⟩]⟩,.agg ⟨[.int .i64 3,.int .i64 2,.int .i64 0,.bool false,.string ⟨#[]⟩]⟩],.iface 217 (.string ⟨#[53,54]⟩))]
theorem pk124:jal Tryz.prog 124 (memo m124):=jan [] ok_Fs1e38 hmix fn124 jai (by kernel_rfl) (by kernel_rfl)
def Fs1e39:Env:=Fs1e38.add 124 (memo m124)
theorem ok_Fs1e39:jao Tryz.prog Fs1e39:=jak ok_Fs1e38 pk124
theorem fn266:Fn1 Tryz.prog 266 Tryz.f266:= .m Tryz.func266
def m266:List (U×Value):=[([.agg ⟨[.int .i64 1,.int .i64 5,.int .i64 2,.bool false,.string ⟨#[]⟩]⟩],.int .i64 8)]
theorem pk266:jal Tryz.prog 266 (memo m266):=jan [] ok_Fs1e39 hmix fn266 jai (by kernel_rfl) (by kernel_rfl)
def Fs1e40:Env:=Fs1e39.add 266 (memo m266)
theorem ok_Fs1e40:jao Tryz.prog Fs1e40:=jak ok_Fs1e39 pk266
theorem fn265:Fn1 Tryz.prog 265 Tryz.f265:= .m Tryz.func265
def m265:List (U×Value):=[([.agg ⟨[.int .i64 150,.int .i64 1,.int .i64 5,.int .i64 2,.bool false,.string ⟨#[]⟩]⟩],.string ⟨#[32,32,32,32,49,46,53,48]⟩)]
theorem pk265:jal Tryz.prog 265 (memo m265):=jan [] ok_Fs1e40 hmix fn265 jai (by kernel_rfl) (by kernel_rfl)
def Fs1e41:Env:=Fs1e40.add 265 (memo m265)
theorem ok_Fs1e41:jao Tryz.prog Fs1e41:=jak ok_Fs1e40 pk265
theorem fn269:Fn1 Tryz.prog 269 Tryz.f269:= .m Tryz.func269
def m269:List (U×Value):=[([.string ⟨#[97,98]⟩],.string ⟨#[97,98]⟩),([.string ⟨#[120]⟩],.string ⟨#[120]⟩),([.string ⟨#[121]⟩],.string ⟨#[121]⟩),([.string ⟨#[105,116,39,115]⟩],.string ⟨#[105,116,39,115]⟩),([.string ⟨#[49,50]⟩],.string ⟨#[49,50]⟩),([.string ⟨#[51,52]⟩],.string ⟨#[51,52]⟩),([.string ⟨#[53,54]⟩],.string ⟨#[53,54]⟩)]
theorem pk269:jal Tryz.prog 269 (memo m269):=jan [] ok_Fs1e41 hmix fn269 jai (by kernel_rfl) (by kernel_rfl)
def Fs1e42:Env:=Fs1e41.add 269 (memo m269)
theorem ok_Fs1e42:jao Tryz.prog Fs1e42:=jak ok_Fs1e41 pk269
theorem fn73:Fn1 Tryz.prog 73 Tryz.f73:= .m Tryz.func73
def m73:List (U×Value):=[([.agg ⟨[.int .i64 150,.string ⟨#[]⟩]⟩,.agg ⟨[.int .i64 1,.int .i64 5,.int .i64 2,.bool false,.string ⟨#[]⟩]⟩],.tuple ⟨[.string ⟨#[32,32,32,32,49,46,53,48]⟩,.int .i64 0]⟩),([.agg ⟨[.int .i64 0,.string ⟨#[97,98]⟩]⟩,.agg ⟨[.int .i64 3,.int .i64 2,.int .i64 0,.bool false,.string ⟨#[]⟩]⟩],.tuple ⟨[.string ⟨#[97,98]⟩,.int .i64 0]⟩),([.agg ⟨[.int .i64 0,.string ⟨#[120]⟩]⟩,.agg ⟨[.int .i64 3,.int .i64 1,.int .i64 0,.bool false,.string ⟨#[]⟩]⟩],.tuple ⟨[.string ⟨#[120]⟩,.int .i64 0]⟩),([.agg ⟨[.int .i64 0,.string ⟨#[121]⟩]⟩,.agg ⟨[.int .i64 3,.int .i64 1,.int .i64 0,.bool false,.string ⟨#[]⟩]⟩],.tuple ⟨[.string ⟨#[121]⟩,.int .i64 0]⟩)]
theorem pk73:jal Tryz.prog 73 (memo m73):=jan [] ok_Fs1e42 hmix fn73 jai (by kernel_rfl) (by kernel_rfl)
def Fs1e43:Env:=Fs1e42.add 73 (memo m73)
theorem ok_Fs1e43:jao Tryz.prog Fs1e43:=jak ok_Fs1e42 pk73
theorem fn178:Fn1 Tryz.prog 178 Tryz.f178:= .m Tryz.func178
def m178:List (U×Value):=[([.bool false,.string ⟨#[49,50,51,52]⟩,.int .i64 2],.agg ⟨[.bool false,.string ⟨#[49,50,51,52]⟩,.int .i64 2]⟩),([.bool false,.string ⟨#[49,50,53]⟩,.int .i64 2],.agg ⟨[.bool false,.string ⟨#[49,50,53]⟩,.int .i64 2]⟩)]
theorem pk178:jal Tryz.prog 178 (memo m178):=jan [] ok_Fs1e43 hmix fn178 jai (by kernel_rfl) (by kernel_rfl)
def Fs1e44:Env:=Fs1e43.add 178 (memo m178)
theorem ok_Fs1e44:jao Tryz.prog Fs1e44:=jak ok_Fs1e43 pk178
theorem fn226:Fn1 Tryz.prog 226 Tryz.f226:= .m Tryz.func226
def m226:List (U×Value):=[([.agg ⟨[.bool false,.string ⟨#[49,50,51,52]⟩,.int .i64 2]⟩],.bool true),([.agg ⟨[.bool false,.string ⟨#[49,50,53]⟩,.int .i64 2]⟩],.bool true)]
theorem pk226:jal Tryz.prog 226 (memo m226):=jan [] ok_Fs1e44 hmix fn226 jai (by kernel_rfl) (by kernel_rfl)
def Fs1e45:Env:=Fs1e44.add 226 (memo m226)
theorem ok_Fs1e45:jao Tryz.prog Fs1e45:=jak ok_Fs1e44 pk226
theorem fn228:Fn1 Tryz.prog 228 Tryz.f228:= .m Tryz.func228
def m228:List (U×Value):=[([.agg ⟨[.bool false,.string ⟨#[49,50,51,52]⟩,.int .i64 2]⟩,.int .i64 1],.string ⟨#[49,50,51]⟩),([.agg ⟨[.bool false,.string ⟨#[49,50,53]⟩,.int .i64 2]⟩,.int .i64 2],.string ⟨#[49,50,53]⟩)]
theorem pk228:jal Tryz.prog 228 (memo m228):=jan [] ok_Fs1e45 hmix fn228 jai (by kernel_rfl) (by kernel_rfl)
def Fs1e46:Env:=Fs1e45.add 228 (memo m228)
theorem ok_Fs1e46:jao Tryz.prog Fs1e46:=jak ok_Fs1e45 pk228
theorem fn202:Fn1 Tryz.prog 202 Tryz.f202:= .m Tryz.func202
def m202:List (U×Value):=[([.agg ⟨[.bool false,.string ⟨#[49,50,51,52]⟩,.int .i64 2]⟩,.agg ⟨[.int .i64 1,.int .i64 3,.int .i64 1,.bool false,.string ⟨#[]⟩]⟩],.tuple ⟨[.agg ⟨[.int .i64 123,.string ⟨#[]⟩]⟩,.int .i64 0,.int .i64 0]⟩),([.agg ⟨[.bool false,.string ⟨#[49,50,53]⟩,.int .i64 2]⟩,.agg ⟨[.int .i64 1,.int .i64 5,.int .i64 2,.bool false,.string ⟨#[]⟩]⟩],.tuple ⟨[.agg ⟨[.int .i64 125,.string ⟨#[]⟩]⟩,.int .i64 0,.int .i64 0]⟩)]
theorem pk202:jal Tryz.prog 202 (memo m202):=jan [] ok_Fs1e46 hmix fn202 jai (by kernel_rfl) (by kernel_rfl)
def Fs1e47:Env:=Fs1e46.add 202 (memo m202)
theorem ok_Fs1e47:jao Tryz.prog Fs1e47:=jak ok_Fs1e46 pk202
theorem fn201:Fn1 Tryz.prog 201 Tryz.f201:= .m Tryz.func201
def m201:List (U×Value):=[([.iface 213 (.agg ⟨[.int .i64 1234,.int .i64 1,.int .i64 4,.int .i64 2,.bool false,.string ⟨#[]⟩]⟩)],.tuple ⟨[.agg ⟨[.bool false,.string ⟨#[49,50,51,52]⟩,.int .i64 2]⟩,.nilIface]⟩),([.iface 213 (.agg ⟨[.int .i64 125,.int .i64 1,.int .i64 9,.int .i64 2,.bool false,.string ⟨#[]⟩]⟩)],.tuple ⟨[.agg ⟨[.bool false,.string ⟨#[49,50,53]⟩,.int .i64 2]⟩,.nilIface]⟩)]
theorem pk201:jal Tryz.prog 201 (memo m201):=jan [] ok_Fs1e47 hmix fn201 jai (by kernel_rfl) (by kernel_rfl)
def Fs1e48:Env:=Fs1e47.add 201 (memo m201)
theorem ok_Fs1e48:jao Tryz.prog Fs1e48:=jak ok_Fs1e47 pk201
theorem fn167:Fn1 Tryz.prog 167 Tryz.f167:= .m Tryz.func167
def m167:List (U×Value):=[([.iface 213 (.agg ⟨[.int .i64 1234,.int .i64 1,.int .i64 4,.int .i64 2,.bool false,.string ⟨#[]⟩]⟩),.agg ⟨[.int .i64 1,.int .i64 3,.int .i64 1,.bool false,.string ⟨#[]⟩]⟩],.tuple ⟨[.agg ⟨[.int .i64 123,.string ⟨#[]⟩]⟩,.int .i64 0,.nilIface]⟩),([.iface 213 (.agg ⟨[.int .i64 125,.int .i64 1,.int .i64 9,.int .i64 2,.bool false,.string ⟨#[]⟩]⟩),.agg ⟨[.int .i64 1,.int .i64 5,.int .i64 2,.bool false,.string ⟨#[]⟩]⟩],.tuple ⟨[.agg ⟨[.int .i64 125,.string ⟨#[]⟩]⟩,.int .i64 0,.nilIface]⟩)]
theorem pk167:jal Tryz.prog 167 (memo m167):=jan [] ok_Fs1e48 hmix fn167 jai (by kernel_rfl) (by kernel_rfl)
def Fs1e49:Env:=Fs1e48.add 167 (memo m167)
theorem ok_Fs1e49:jao Tryz.prog Fs1e49:=jak ok_Fs1e48 pk167
theorem fn168:Fn1 Tryz.prog 168 Tryz.f168:= .m Tryz.func168
def m168:List (U×Value):=[([.string ⟨#[]⟩,.int .i64 3,.string ⟨#[48]⟩],.string ⟨#[48,48,48]⟩),([.string ⟨#[49,49]⟩,.int .i64 4,.string ⟨#[48]⟩],.string ⟨#[49,49,48,48]⟩),([.string ⟨#[105,116,39,115]⟩,.int .i64 6,.string ⟨#[32]⟩],.string ⟨#[105,116,39,115,32,32]⟩),([.string ⟨#[49,50]⟩,.int .i64 2,.string ⟨#[32]⟩],.string ⟨#[49,50]⟩),([.string ⟨#[51,52]⟩,.int .i64 2,.string ⟨#[32]⟩],.string ⟨#[51,52]⟩),([.string ⟨#[53,54]⟩,.int .i64 2,.string ⟨#[32]⟩],.string ⟨#[53,54]⟩)]
theorem pk168:jal Tryz.prog 168 (memo m168):=jan [] ok_Fs1e49 hmix fn168 jai (by kernel_rfl) (by kernel_rfl)
def Fs1e50:Env:=Fs1e49.add 168 (memo m168)
theorem ok_Fs1e50:jao Tryz.prog Fs1e50:=jak ok_Fs1e49 pk168
theorem fn169:Fn1 Tryz.prog 169 Tryz.f169:= .m Tryz.func169
def m169:List (U×Value):=[([.iface 214 (.string ⟨#[49,49]⟩)],.tuple ⟨[.string ⟨#[49,49]⟩,.nilIface]⟩),([.iface 217 (.string ⟨#[120]⟩)],.tuple ⟨[.string ⟨#[]⟩,.iface 176 (.agg ⟨[.string ⟨#[120]⟩]⟩)]⟩)]
theorem pk169:jal Tryz.prog 169 (memo m169):=jan [] ok_Fs1e50 hmix fn169 jai (by kernel_rfl) (by kernel_rfl)
def Fs1e51:Env:=Fs1e50.add 169 (memo m169)
theorem ok_Fs1e51:jao Tryz.prog Fs1e51:=jak ok_Fs1e50 pk169
theorem fn125:Fn1 Tryz.prog 125 Tryz.f125:= .m Tryz.func125
def m125:List (U×Value):=[([.iface 213 (.agg ⟨[.int .i64 1234,.int .i64 1,.int .i64 4,.int .i64 2,.bool false,.string ⟨#[]⟩]⟩),.agg ⟨[.int .i64 5,.int .i64 0,.int .i64 0,.bool false,.string ⟨#[57,57,86,57]⟩]⟩],.tuple ⟨[.agg ⟨[.int .i64 0,.string ⟨#[49,50,51]⟩]⟩,.int .i64 0,.nilIface]⟩),([.iface 213 (.agg ⟨[.int .i64 125,.int .i64 1,.int .i64 9,.int .i64 2,.bool false,.string ⟨#[]⟩]⟩),.agg ⟨[.int .i64 1,.int .i64 5,.int .i64 2,.bool false,.string ⟨#[]⟩]⟩],.tuple ⟨[.agg ⟨[.int .i64 125,.string ⟨#[]⟩]⟩,.int .i64 0,.nilIface]⟩),([.iface 214 (.string ⟨#[49,49]⟩),.agg ⟨[.int .i64 4,.int .i64 4,.int .i64 0,.bool false,.string ⟨#[]⟩]⟩],.tuple ⟨[.agg ⟨[.int .i64 0,.string ⟨#[49,49,48,48]⟩]⟩,.int .i64 0,.nilIface]⟩),([.iface 217 (.string ⟨#[120]⟩),.agg ⟨[.int .i64 4,.int .i64 3,.int .i64 0,.bool false,.string ⟨#[]⟩]⟩],.tuple ⟨[.agg ⟨[.int .i64 0,.string ⟨#[48,48,48]⟩]⟩,.int .i64 0,.iface 176 (.agg ⟨[.string ⟨#[120]⟩]⟩)]⟩),([.iface 217 (.string ⟨#[105,116,39,115]⟩),.agg ⟨[.int .i64 3,.int .i64 6,.int .i64 0,.bool false,.string ⟨#[]⟩]⟩],.tuple ⟨[.agg ⟨[.int .i64 0,.string ⟨#[105,116,39,115,32,32]⟩]⟩,.int .i64 0,.nilIface]⟩),([.iface 217 (.string ⟨#[49,50]⟩),.agg ⟨[.int .i64 3,.int .i64 2,.int .i64 0,.bool false,.string ⟨#[]⟩]⟩],.tuple ⟨[.agg ⟨[.int .i64 0,.string ⟨#[49,50]⟩]⟩,.int .i64 0,.nilIface]⟩),([.iface 217 (.string ⟨#[51,52]⟩),.agg ⟨[.int .i64 3,.int .i64 2,.int .i64 0,.bool false,.string ⟨#[]⟩]⟩],.tuple ⟨[.agg ⟨[.int .i64 0,.string ⟨#[51,52]⟩]⟩,.int .i64 0,.nilIface]⟩),([.iface 217 (.string ⟨#[53,54]⟩),.agg ⟨[.int .i64 3,.int .i64 2,.int .i64 0,.bool false,.string ⟨#[]⟩]⟩],.tuple ⟨[.agg ⟨[.int .i64 0,.string ⟨#[53,54]⟩]⟩,.int .i64 0,.nilIface]⟩)]
theorem pk125:jal Tryz.prog 125 (memo m125):=jan [] ok_Fs1e51 hmix fn125 jai (by kernel_rfl) (by kernel_rfl)
def Fs1e52:Env:=Fs1e51.add 125 (memo m125)
theorem ok_Fs1e52:jao Tryz.prog Fs1e52:=jak ok_Fs1e51 pk125
theorem fn127:Fn1 Tryz.prog 127 Tryz.f127:= .m Tryz.func127
def m127:List (U×Value):=[([.agg ⟨[.int .i64 4,.int .i64 3,.int .i64 0,.bool false,.string ⟨#[]⟩]⟩],.agg ⟨[.int .i64 0,.string ⟨#[48,48,48]⟩]⟩)]
theorem pk127:jal Tryz.prog 127 (memo m127):=jan [] ok_Fs1e52 hmix fn127 jai (by kernel_rfl) (by kernel_rfl)
def Fs1e53:Env:=Fs1e52.add 127 (memo m127)
theorem ok_Fs1e53:jao Tryz.prog Fs1e53:=jak ok_Fs1e52 pk127
theorem fn74:Fn1 Tryz.prog 74 Tryz.f74:= .m Tryz.func74
def m74:List (U×Value):=[([.agg ⟨[.int .i64 1234,.string ⟨#[]⟩]⟩,.agg ⟨[.int .i64 1,.int .i64 4,.int .i64 2,.bool false,.string ⟨#[]⟩]⟩,.agg ⟨[.int .i64 5,.int .i64 0,.int .i64 0,.bool false,.string ⟨#[57,57,86,57]⟩]⟩],.tuple ⟨[.agg ⟨[.int .i64 0,.string ⟨#[49,50,51]⟩]⟩,.int .i64 0,.int .i64 0]⟩),([.agg ⟨[.int .i64 125,.string ⟨#[]⟩]⟩,.agg ⟨[.int .i64 1,.int .i64 9,.int .i64 2,.bool false,.string ⟨#[]⟩]⟩,.agg ⟨[.int .i64 1,.int .i64 5,.int .i64 2,.bool false,.string ⟨#[]⟩]⟩],.tuple ⟨[.agg ⟨[.int .i64 125,.string ⟨#[]⟩]⟩,.int .i64 0,.int .i64 0]⟩),([.agg ⟨[.int .i64 0,.string ⟨#[49,49]⟩]⟩,.agg ⟨[.int .i64 4,.int .i64 2,.int .i64 0,.bool false,.string ⟨#[]⟩]⟩,.agg ⟨[.int .i64 4,.int .i64 4,.int .i64 0,.bool false,.string ⟨#[]⟩]⟩],.tuple ⟨[.agg ⟨[.int .i64 0,.string ⟨#[49,49,48,48]⟩]⟩,.int .i64 0,.int .i64 0]⟩),([.agg ⟨[.int .i64 0,.string ⟨#[120]⟩]⟩,.agg ⟨[.int .i64 3,.int .i64 1,.int .i64 0,.bool false,.string ⟨#[]⟩]⟩,.agg ⟨[.int .i64 4,.int .i64 3,.int .i64 0,.bool false,.string ⟨#[]⟩]⟩],.tuple ⟨[.agg ⟨[.int .i64 0,.string ⟨#[48,48,48]⟩]⟩,.int .i64 4,.int .i64 0]⟩),([.agg ⟨[.int .i64 0,.string ⟨#[105,116,39,115]⟩]⟩,.agg ⟨[.int .i64 3,.int .i64 4,.int .i64 0,.bool false,.string ⟨#[]⟩]⟩,.agg ⟨[.int .i64 3,.int .i64 6,.int .i64 0,.bool false,.string ⟨#[]⟩]⟩],.tuple ⟨[.agg ⟨[.int .i64 0,.string ⟨#[105,116,39,115,32,32]⟩]⟩,.int .i64 0,.int .i64 0]⟩),([.agg ⟨[.int .i64 0,.string ⟨#[49,50]⟩]⟩,.agg ⟨[.int .i64 3,.int .i64 2,.int .i64 0,.bool false,.string ⟨#[]⟩]⟩,.agg ⟨[.int .i64 3,.int .i64 2,.int .i64 0,.bool false,.string ⟨#[]⟩]⟩],.tuple ⟨[.agg ⟨[.int .i64 0,.string ⟨#[49,50]⟩]⟩,.int .i64 0,.int .i64 0]⟩),([.agg ⟨[.int .i64 0,.string ⟨#[51,52]⟩]⟩,.agg ⟨[.int .i64 3,.int .i64 2,.int .i64 0,.bool false,.string ⟨#[]⟩]⟩,.agg ⟨[.int .i64 3,.int .i64 2,.int .i64 0,.bool false,.string ⟨#[]⟩]⟩],.tuple ⟨[.agg ⟨[.int .i64 0,.string ⟨#[51,52]⟩]⟩,.int .i64 0,.int .i64 0]⟩),([.agg ⟨[.int .i64 0,.string ⟨#[53,54]⟩]⟩,.agg ⟨[.int .i64 3,.int .i64 2,.int .i64 0,.bool false,.string ⟨#[]⟩]⟩,.agg ⟨[.int .i64 3,.int .i64 2,.int .i64 0,.bool false,.string ⟨#[]⟩]⟩],.tuple ⟨[.agg ⟨[.int .i64 0,.string ⟨#[53,54]⟩]⟩,.int .i64 0,.int .i64 0]⟩)]
theorem pk74:jal Tryz.prog 74 (memo m74):=jan [] ok_Fs1e53 hmix fn74 jai (by kernel_rfl) (by kernel_rfl)
def Fs1e54:Env:=Fs1e53.add 74 (memo m74)
theorem ok_Fs1e54:jao Tryz.prog Fs1e54:=jak ok_Fs1e53 pk74
end Go.Cs
end
