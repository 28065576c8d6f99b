/-
  Part 3: the run and laws.
-/
import Derived.Test.YtoofiemfbldebaaGreatDoorR12
set_option linter.unusedVariables false
set_option linter.unusedSimpArgs false
set_option linter.unusedSectionVars false
noncomputable section
namespace Go.Px
open Go Go.Ab Go.Proofs Go.Shelf Go.ChangeMaps Go.ChangeShapes Go.WideShapes Go.ChangeAt Go.RowKit Go.Joins
open Go.Proofs.YtoofiemfbldebaaGreatDoor
theorem own:ownKnob Tryz.prog.godebug=none:=by kernel_rfl
def laidL:List (String×DataW Unit):=Rows.formatRoundsRow.laid
theorem tab_is{P:Program}{W:World}{name:String}{k:IntKind}{zs:F}{g:Nat}{t e:TypeId}{n:Nat}(hr:Lib.VarReads P W name (Lib.tabData k zs))
  (hg:P.globalNamed name=some g) (hty:(P.globals[g]?).map (·.type)=some t) (ht:P.underlying t=some (.array n e)) (he:P.underlying e=some (.int k)) (hce:P.cellsOf e=1) (hct:P.cellsOf t=n):
  g<W.heap.size∧ ∃ty fr,W.heap[g]?=some (.cells ⟨zs.map fun z=>Value.int k z⟩ ty fr):=by
 obtain⟨g',t',cs,fuel,p,h1,h2,h3,h4⟩:=hr;obtain rfl:=Option.some.inj (hg.symm.trans h1);obtain rfl:=Option.some.inj (hty.symm.trans h2);have hc:=Lib.cells_of_tab ht he hce hct h4;unfold World.var? at h3;rw[hg,Option.bind_some]at h3;split at h3
 case h_2=>cases h3
 rename_i cs' ty fr hh;have h3:=Option.some.inj h3;refine⟨(Array.getElem?_eq_some_iff.1 hh).1,ty,fr,?_⟩;rw[hh,h3];congr 2;rw[←hc]
theorem rt : (Tryz.prog.cutTypes.find? (·.1 == "internal/reflectlite.rtype")).map (·.2) = some 266 := by kernel_rfl
theorem tsz:Tryz.prog.types.size=335:=by kernel_rfl
theorem oneRow:((List.range 335).filter fun t=>Tryz.prog.rowNamed t [101,114,114,111,114])=[132]:=by kernel_rfl
theorem hdl:typeHandle Tryz.prog 132= .pointer (some ⟨10,132,none⟩):=by kernel_rfl
theorem gE : Tryz.prog.globalNamed "errors.errorType" = some 0 := by kernel_rfl
theorem laid_h : laidL.filter (fun x => x.2.handleName?.isSome) = [("errors.errorType", Rows.laid_errors_errorType)] := by kernel_rfl
theorem laid_d : laidL.filter (fun x => x.2.handleName?.isNone) = ([("math/bits.deBruijn32tab", YtoofiemfbldebaaGreatDoor.Rows.laid_math_bits_deBruijn32tab), ("math/bits.deBruijn64tab", YtoofiemfbldebaaGreatDoor.Rows.laid_math_bits_deBruijn64tab), ("internal/strconv.uint64pow10", YtoofiemfbldebaaGreatDoor.Rows.laid_internal_strconv_uint64pow10), ("unicode/utf8.acceptRanges", YtoofiemfbldebaaGreatDoor.Rows.laid_unicode_utf8_acceptRanges), ("strconv.ErrRange", YtoofiemfbldebaaGreatDoor.Rows.laid_strconv_ErrRange), ("strconv.ErrSyntax", YtoofiemfbldebaaGreatDoor.Rows.laid_strconv_ErrSyntax), ("pliant/picture.punched", YtoofiemfbldebaaGreatDoor.Rows.laid_pliant_picture_punched), ("unicode/utf8.first", YtoofiemfbldebaaGreatDoor.Rows.laid_unicode_utf8_first)]) := by kernel_rfl
theorem handle_of_laid {W : World} (h : handlesMet Tryz.prog [("errors.errorType", Rows.laid_errors_errorType)] W) : 0 < W.heap.size ∧ ∃ ty fr, W.heap[0]? = some (.cells #[.iface 266 (.agg #[.pointer (some ⟨10, 132, none⟩)])] ty fr) := by
 obtain⟨name,u,ty,e1,e2,e3,e4,e5⟩:=h _ (List.mem_singleton.2 rfl);have en:name=[101,114,114,111,114]:=(Option.some.inj e1).symm;subst en;obtain rfl:=Option.some.inj (rt.symm.trans e2);have hm:ty∈(List.range 335).filter fun t=>Tryz.prog.rowNamed t [101,114,114,111,114]:=List.mem_filter.2 ⟨List.mem_range.2 (by rw[←tsz];exact e3),e4⟩
 rw[oneRow]at hm;obtain rfl:=List.mem_singleton.1 hm;rw[hdl]at e5;unfold World.var? at e5;rw[gE,Option.bind_some]at e5;split at e5
 case h_2=>cases e5
 rename_i cs' ty fr hh;have e5:=Option.some.inj e5;exact⟨(Array.getElem?_eq_some_iff.1 hh).1,ty,fr,by rw[hh,e5]⟩
set_option maxRecDepth 100000 in
theorem tabs_of_laid{W:World}(h:laidMetH Tryz.prog laidL W):TabsIn W.heap.size W:=by
 obtain⟨hd,hh⟩:=laidMetH_iff.1 h;rw[laid_h]at hh;rw[laid_d]at hd;intro b r hb
 have key:∀b:Nat,jjv b=some r→b=2∧r=punchedZ.map (fun n=>Value.int .u8 n)∨b=7∧r=pow10Z.map (fun n=>Value.int .u64 n)∨b=0∧r=[.iface 266 (.agg ⟨[.pointer (some ⟨10,132,none⟩)]⟩)]:=by
  intro b hb;unfold jjv at hb;split at hb
  ·cases hb;exact .inl ⟨rfl,rfl⟩
  ·cases hb;exact .inr (.inl ⟨rfl,rfl⟩)
  ·cases hb;exact .inr (.inr ⟨rfl,rfl⟩)
  ·cases hb
 have t5:Tryz.prog.cellsOf 5=1:=by kernel_rfl
 rcases key b hb with⟨rfl,rfl⟩ | ⟨rfl,rfl⟩ | ⟨rfl,rfl⟩
 ·have hr : Lib.VarReads Tryz.prog W "pliant/picture.punched" (Lib.tabData .u8 punchedZ) := Lib.laidMet.reads hd (.tail _ (.tail _ (.tail _ (.tail _ (.tail _ (.tail _ (.head _)))))))
  exact tab_is hr (g:=2) (t:=247) (n:=20) (e:=5) (by kernel_rfl) (by kernel_rfl) (by kernel_rfl) (by kernel_rfl) t5 (by kernel_rfl)
 ·have hr : Lib.VarReads Tryz.prog W "internal/strconv.uint64pow10" (Lib.tabData .u64 pow10Z) := Lib.laidMet.reads hd (.tail _ (.tail _ (.head _)))
  exact tab_is hr (g:=7) (t:=298) (n:=20) (e:=182) (by kernel_rfl) (by kernel_rfl) (by kernel_rfl) (by kernel_rfl) (by kernel_rfl) (by kernel_rfl)
 ·exact handle_of_laid hh
noncomputable def handleWorld (os : Os) : World :=
 let w0:=World.holding Tryz.prog os ⟨#[], #[],[]⟩
 {w0 with heap:=w0.heap.modify 0 fun
   | .cells _ t frozen=> .cells #[.iface 266 (.agg #[.pointer (some ⟨10,132,none⟩)])] t frozen
   | o=>o}
def laidD:List (String×DataW Unit):=laidL.filter fun x=>x.2.handleName?.isNone
noncomputable def laidWorld (os : Os) : World := (handleWorld os).layVars Tryz.prog laidD
theorem laidWorld_os(os:Os):(laidWorld os).os=os:=World.layVars_os _ _ _
theorem laidWorld_met(os:Os)(args:Array Value):laidMetH Tryz.prog laidL ((laidWorld os).forCall (fun _ _=>0) ⟨#[],args,[]⟩).memory:=by
 refine laidMetH_of_parts ?_ (by kernel_rfl);have e1:(laidD.filter fun x=>(laidD.map (·.1)).contains x.1)=laidD:=List.filter_eq_self.2 fun x hx=>List.contains_iff_mem.2 (List.mem_map.2 ⟨x,hx,rfl⟩)
 have e2:(laidD.filter fun x=> !(laidD.map (·.1)).contains x.1)=[]:=List.filter_eq_nil_iff.2 fun x hx=>by rw[List.contains_iff_mem.2 (List.mem_map.2 ⟨x,hx,rfl⟩)];simp
 have h:laidMet Tryz.prog laidD (laidWorld os):=laidMet_layVars (w0:=handleWorld os) (laidD.map (·.1)) [] (by rw[e1];rfl) (by rw[e1];kernel_rfl) (by rw[e1];kernel_rfl) (by rw[e2];exact LaidIn.none);exact h.of_heap (by simp[World.memory,World.forCall,Input.heap])
def jfp(P:Program)(t:TypeId)(α:Type) [Enc α](Q:α→Prop):Prop:=
 ∀{H:Type}{enc:TypeId×Value→H}{w:World}{base:Nat}{spare:Nat→Bool}{held:Bool}{r:Reach}{b0:Nat}{v:Value}{d:DataW H}{p:List MemPlace},Value.okWide P w r b0 t v→DataW.Trod enc P w base spare held t v d p→
  ∃a:α,v=Enc.enc a∧Q a∧p=[]∧ ∀(w':World)(b':Nat)(sp':Nat→Bool)(hd':Bool),DataW.Trod enc P w' b' sp' hd' t v d []
theorem opensP_string{P:Program}{t:TypeId}(ht:P.underlying t=some .string):jfp P t Y fun s=>s.size≤9223372036854775807:=by
 intro H enc w base spare held r b0 v d p hv h;obtain⟨n,rfl,rfl,rfl,hw⟩:=open_string ht hv h;exact⟨n,rfl,Nat.le_trans hw (by decide),rfl,fun w' b' sp' hd'=>shut_string ht hw⟩
theorem oS:jfp Tryz.prog 9 Y fun s=>s.size≤9223372036854775807:=opensP_string Tryz.underlying9
theorem opensP_int{P:Program}{t:TypeId}(ht:P.underlying t=some (.int .i64)):jfp P t Int fun n=> -9223372036854775808≤n∧n≤9223372036854775807:=by
 intro H enc w base spare held r b0 v d p hv h;obtain⟨n,rfl,rfl,rfl,hw⟩:=open_int ht hv h;exact⟨n,rfl,by simpa[Lit.wf,IntKind.min,IntKind.max,IntKind.signed,IntKind.bits]using hw,rfl,fun w' b' sp' hd'=>shut_int ht hw⟩
theorem oI:jfp Tryz.prog 3 Int fun n=> -9223372036854775808≤n∧n≤9223372036854775807:=opensP_int Tryz.underlying3
theorem opensP_bool{P:Program}{t:TypeId}(ht:P.underlying t=some .bool):jfp P t Bool fun _=>True:=by
 intro H enc w base spare held r b0 v d p hv h;obtain⟨n,rfl,rfl,rfl⟩:=open_bool ht hv h;exact⟨n,rfl,trivial,rfl,fun w' b' sp' hd'=>shut_bool ht n⟩
theorem oB:jfp Tryz.prog 4 Bool fun _=>True:=opensP_bool Tryz.underlying4
theorem opensP_leaves{P:Program}{α:Type} [Enc α]{t:TypeId}{fs:Array Field}{Q:α→Prop}(hs:P.underlying t=some (.struct fs))(hl:fs.toList.all (fun f=>jkq P f.type)=true)
  (hc : ∀ cs : Array Value, cs.size = P.cellsOf t → (∀ (i : Nat) (f : Field), fs[i]? = some f → ∃ (H : Type) (enc : TypeId × Value → H) (w : World) (base : Nat) (spare : Nat → Bool) (held : Bool) (n : Nat) (y : DataW H × List MemPlace),
   DataW.trod enc P w base spare held n f.type ((cs.toList.drop f.offset).take (P.cellsOf f.type))=some y)→ ∃a:α,Value.agg cs=Enc.enc a∧Q a):jfp P t α Q:=by
 intro H enc w base spare held r b0 v d p hv h;obtain⟨cs,rfl,hsz⟩:=okWide_struct hs hv;obtain⟨fuel,hf⟩:=h;simp only[Value.cells]at hf;obtain⟨hp,hany⟩:=leaves_any hs hl hf;obtain⟨xs,n,_,_,hlen,hxs,hg⟩:=DataW.trod_struct hs hf
 obtain⟨a,ha,hq⟩:=hc cs hsz fun i f hi=>by
  have hlt:i<xs.length:=by
   have:=(Array.getElem?_eq_some_iff.1 hi).1;omega
  exact⟨H,enc,w,base,spare,held,n,xs[i],by rw[hg i f hi,List.getElem?_eq_getElem hlt]⟩
 simp only at hp;subst hp;exact⟨a,ha,hq,rfl,fun w' b' sp' hd'=>⟨2,by simpa[Value.cells]using hany w' b' sp' hd'⟩⟩
def r64(n:Int):Prop:= -9223372036854775808≤n∧n≤9223372036854775807
def rS(s:Y):Prop:=s.size≤9223372036854775807
theorem r64_wf{n:Int}(h:(Lit.int .i64 n).wf=true):r64 n:=by simpa[Lit.wf,IntKind.min,IntKind.max,IntKind.signed,IntKind.bits,r64]using h
theorem array5{α:Type}{cs:Array α}(h:cs.size=5):∃c0 c1 c2 c3 c4,cs= #[c0,c1,c2,c3,c4]:=by
 obtain⟨l⟩:=cs
 match l,h with
 | [c0,c1,c2,c3,c4],_=>exact⟨c0,c1,c2,c3,c4,rfl⟩
theorem oT:jfp Tryz.prog 23 Fx.Ty fun t=>r64 t.k∧r64 t.p∧r64 t.q∧rS t.s:=by
 refine opensP_leaves Tryz.underlying23 (by kernel_rfl) fun cs hsz hf=> ?_
 have hc:Tryz.prog.cellsOf 23=5:=by kernel_rfl
 have h3:Tryz.prog.cellsOf 3=1:=by kernel_rfl
 have h4:Tryz.prog.cellsOf 4=1:=by kernel_rfl
 have h9:Tryz.prog.cellsOf 9=1:=by kernel_rfl
 rw[hc]at hsz;obtain⟨c0,c1,c2,c3,c4,rfl⟩:=array5 hsz
 ·obtain ⟨H, enc, w, base, spare, held, n, y, h0⟩ := hf 0 { name := "Kind", type := 3, offset := 0, embedded := false, tag := "", pkgPath := "", byteOffset := 0 } rfl
  obtain ⟨H, enc, w, base, spare, held, n, y, h1⟩ := hf 1 { name := "P", type := 3, offset := 1, embedded := false, tag := "", pkgPath := "", byteOffset := 8 } rfl
  obtain ⟨H, enc, w, base, spare, held, n, y, h2⟩ := hf 2 { name := "Q", type := 3, offset := 2, embedded := false, tag := "", pkgPath := "", byteOffset := 16 } rfl
  obtain ⟨H, enc, w, base, spare, held, n, y, hv⟩ := hf 3 { name := "Vary", type := 4, offset := 3, embedded := false, tag := "", pkgPath := "", byteOffset := 24 } rfl
  obtain ⟨H, enc, w, base, spare, held, n, y, hs⟩ := hf 4 { name := "Pic", type := 9, offset := 4, embedded := false, tag := "", pkgPath := "", byteOffset := 32 } rfl
  obtain⟨k,e0,_,w0⟩:=DataW.trod_int Tryz.underlying3 h0;obtain⟨p,e1,_,w1⟩:=DataW.trod_int Tryz.underlying3 h1;obtain⟨q,e2,_,w2⟩:=DataW.trod_int Tryz.underlying3 h2;obtain⟨v,e3,_⟩:=DataW.trod_bool Tryz.underlying4 hv;obtain⟨s,e4,_,w4⟩:=DataW.trod_string Tryz.underlying9 hs;simp only[h3,h4,h9,List.drop_zero,List.drop_succ_cons,List.take_succ_cons,List.take_zero,List.cons.injEq,and_true]at e0 e1 e2 e3 e4;exact⟨⟨k,p,q,v,s⟩,by rw[e0,e1,e2,e3,e4];rfl,r64_wf w0,r64_wf w1,r64_wf w2,Nat.le_trans w4 (by decide)⟩
noncomputable def hAB (fn : Func) (s : ChangeSpec) (c : OpenClaim) : Bool := c.wf (OpenSpec.ofChange s) && fn.params.all (Tryz.prog.readableRec ·) && namedTie Tryz.prog c.named s.vars && (c.stops == []) && (c.knobs == [])
noncomputable def hRB (fn : Func) (s : ChangeSpec) (c : OpenClaim) : Bool := (c.maps == (fn.params.toList ++ s.plain.varTypes Tryz.prog).any (Tryz.prog.mapsRec ·)) && (c.ifaces == (fn.params.toList ++ s.plain.varTypes Tryz.prog).any (Tryz.prog.ifacesRec ·)) && (c.mapsOut == Tryz.prog.mapsAmong fn.resultTypes.toList) && (c.loops == (fn.params.toList ++ s.plain.varTypes Tryz.prog).any (Tryz.prog.loopsFrom ·))
noncomputable def hSB (fn : Func) (s : ChangeSpec) (c : OpenClaim) : Bool := (c.wideKeys == (fn.params.toList ++ s.plain.varTypes Tryz.prog ++ fn.resultTypes.toList).any (Tryz.prog.wideKeysFrom ·)) && s.vars.all (Tryz.prog.varReadable ·) && fn.resultTypes.all (fun t => Tryz.prog.readableRec t && decide (t<Tryz.prog.types.size)) && (c.ifacesOut == fn.resultTypes.toList.any (Tryz.prog.ifacesRec ·)) && (c.loopsOut == fn.resultTypes.toList.any (Tryz.prog.loopsFrom ·)) && c.shortTexts.isNone
noncomputable def hTB (fn : Func) (s : ChangeSpec) (c : OpenClaim) : Bool := (c.kinds == (if c.domain.isEmpty then [] else fn.params.toList.map fun t => match Tryz.prog.underlying t with | some (.int k) => some k | _ => none)) && (c.pinned == c.pinnedBy) && (c.veiled == (fn.params.toList ++ s.plain.varTypes Tryz.prog ++ fn.resultTypes.toList).any (Tryz.prog.veiledRec ·)) && c.veiledFits Tryz.prog fn.params.toList (fn.params.toList ++ s.plain.varTypes Tryz.prog ++ fn.resultTypes.toList)
set_option maxRecDepth 100000 in
theorem jf_mk{f:FuncId}{fn:Func}{s:ChangeSpec}{c:OpenClaim}(hA:hAB fn s c=true)(h1:(c.inPlace==Tryz.prog.inPlace f)=true)(h2:(c.unfollowed==Tryz.prog.unfollowed f)=true)(h3:(c.recurses==Tryz.prog.recurses f)=true)(h4:(c.named==Tryz.prog.varsNamed f)=true)
  (hR:hRB fn s c=true) (hS:hSB fn s c=true)
  (hk:(c.plainKeys==Tryz.prog.plainKeys)=true) (hl:(c.lifted==Tryz.prog.liftsFinal)=true) (hm:(Tryz.prog.make==some c.make)=true)
  (hT:hTB fn s c=true):joinedFacts Tryz.prog f fn s c=true:=by
 unfold joinedFacts;simp only[hAB,hRB,hSB,hTB,jaf]at hA hR hS hT;obtain⟨⟨⟨⟨a1,a2⟩,a3⟩,a4⟩,a5⟩:=hA;obtain⟨⟨⟨r1,r2⟩,r3⟩,r4⟩:=hR;obtain⟨⟨⟨⟨⟨s1,s2⟩,s3⟩,s4⟩,s5⟩,s6⟩:=hS;obtain⟨⟨⟨t1,t2⟩,t3⟩,t4⟩:=hT;rw[a1,a2,a3,a4,a5,h1,h2,h3,h4,r1,r2,r3,r4,s1,s2,s3,s4,s5,s6,t2,t3,t4,q_laid,q_maps,q_stop,q_knob,q_heard,q_enter,hk,hl,hm];simp only[Bool.true_and,Bool.and_true];exact t1
end Go.Px
end
noncomputable section
set_option maxHeartbeats 3200000
namespace Go.Ff
open Go Go.Ab Go.Proofs Go.Shelf Go.Px
/-- The tables; bytes that are made of a string may be written into. -/
instance tabsB:Tabs:={row:=jjv,plain:=tabs.plain,ownB:=true}
theorem RelM.toA{N:Nat}{w0:World}{m:Lk}{ι:Nm}{w:World}(h: @RelM tabsB N w0 m ι w): @RelM tabs N w0 m ι w:=
 @RelM.mk tabs N w0 m ι w h.below h.base h.blk h.view h.inj
theorem RelM.toB{N:Nat}{w0:World}{m:Lk}{ι:Nm}{w:World}(h: @RelM tabs N w0 m ι w): @RelM tabsB N w0 m ι w:=
 @RelM.mk tabsB N w0 m ι w (@RelM.below tabs N w0 m ι w h) (@RelM.base tabs N w0 m ι w h) (@RelM.blk tabs N w0 m ι w h) (@RelM.view tabs N w0 m ι w h) (@RelM.inj tabs N w0 m ι w h)
theorem jik{f:FuncId}{s:Ab.Spec}(h: @jam tabs Tryz.prog f s): @jam tabsB Tryz.prog f s:=
 ⟨h.1,fun args v N w0 lk ι w hr hs hv=>h.2 args v N w0 lk ι w (RelM.toA hr) hs hv⟩
structure BrP (d:E)(m cap:Nat):Prop where
 bytes:jbg d=true
 len:d.length=cap
 le:m≤cap
 lim:m≤1000
def brOK(d:E)(m cap:Nat):Bool:=jbg d&& (Nat.beq d.length cap&& (Nat.ble m cap&&Nat.ble m 1000))
def jb8:Nat→F→F
 | 0,L=>if L.getD 0 0≠57 then L.set 0 (IntKind.u8.wrap (L.getD 0 0+1))else L
 | i+1,L=>if L.getD (i+1) 0≠57 then L.set (i+1) (IntKind.u8.wrap (L.getD (i+1) 0+1))else jb8 i (L.set (i+1) 48)
def noN(L:F)(i:Nat):Bool:=(L.take (i+1)).any fun c=> !(c==57)
theorem jel{d:E}{m cap:Nat}:brOK d m cap=true↔BrP d m cap:=by
 simp only[brOK,jaf,Nat.ble_eq,Nat.beq_eq];exact⟨fun⟨h1,h2,h3,h4⟩=>⟨h1,h2,h3,h4⟩,fun⟨h1,h2,h3,h4⟩=>⟨h1,h2,h3,h4⟩⟩
theorem BrP.plain{d:E}{m cap:Nat}(h:BrP d m cap):jay d=true:=isB_plain h.bytes
theorem BrP.good{d:E}{m cap:Nat}(h:BrP d m cap)(ps:List (Nat×Nat)):(jat ps d&&true&&true)=true:=by rw[goodL_plain h.plain];rfl
theorem BrP.rlb{d:E}{m cap:Nat}(h:BrP d m cap)(ps:List (Nat×Nat)):rlbL ps d=d:=rlbL_plain ps h.plain
theorem BrP.zlen{d:E}{m cap:Nat}(h:BrP d m cap):(zc d m).length=m:=by
 have h1:=h.len;have h2:=h.le;simp only[zc,List.length_map,List.length_take];omega
theorem BrP.at{d:E}{m cap:Nat}(h:BrP d m cap){i:Int}(h0:0≤i)(hi:i<m):jbd .u8 d i.toNat=true∧jan d i.toNat=(zc d m).getD i.toNat 0:=by
 have h1:=h.len;have h2:=h.le;obtain⟨q1,q2⟩:=atB h.bytes (j:=i.toNat) (by omega);refine⟨q1,?_⟩;rw[q2,zc,List.getD_eq_getElem?_getD,List.getD_eq_getElem?_getD,List.getElem?_map,List.getElem?_map,List.getElem?_take_of_lt (by omega)]
theorem BrP.set{d:E}{m cap:Nat}(h:BrP d m cap)(k:Nat)(x:Int):BrP (d.set k (.int .u8 x)) m cap∧zc (d.set k (.int .u8 x)) m=(zc d m).set k x:=by
 refine⟨⟨jhw.2 fun v hv=> ?_,by rw[List.length_set];exact h.len,h.le,h.lim⟩,?_⟩
 ·rcases List.mem_or_eq_of_mem_set hv with q | q
  ·exact jhw.1 h.bytes v q
  ·exact⟨x,q⟩
 ·rw[zc,zc,List.take_set,List.map_set];rfl
theorem BrP.str{d:E}{m cap:Nat}(h:BrP d m cap):ja6 d 0 m=true∧ja3 d 0 m=sz (zc d m):=by
 have hz:=h.zlen;have hb:jbg (d.take m)=true:=jhw.2 fun v hv=>jhw.1 h.bytes v (List.mem_of_mem_take hv)
 have e:d=cz (zc d m)++d.drop m:=by rw[zc,jjy hb,List.take_append_drop]
 have h1:=bytesOK_cz (zc d m) (d.drop m);have h2:=bytesOf_cz (zc d m) (d.drop m);rw[←e,hz]at h1 h2;exact⟨h1,h2⟩
def EN:Env:=Env.nil
theorem ok_EN:jap Tryz.prog EN:=ja5
theorem jcr{n:Nat}(h:n≤9223372036854775807):jdy n=true:=Nat.ble_eq_true_of_le h
theorem noN_step{L:F}{k:Nat}(q:L.getD (k+1) 0=57)(h:noN L (k+1)=true)(hl:k+1<L.length):noN (L.set (k+1) 48) k=true:=by
 simp only[noN,List.any_eq_true]at h ⊢;obtain⟨c,hc,hn⟩:=h;refine⟨c,?_,hn⟩;rw[List.take_set_of_le (by omega)];rw[List.take_succ_eq_append_getElem hl]at hc;rcases List.mem_append.1 hc with hc | hc
 ·exact hc
 ·rw[List.getD_eq_getElem?_getD,List.getElem?_eq_getElem hl]at q;simp only[List.mem_singleton,Option.getD_some]at hc q;rw[hc,q]at hn;cases hn
def V180_0:Y×E×Nat×Nat×Int→E:=fun(r,d,m,cap,i)=> [S r,.slice (some ⟨3,0,some 1⟩) m cap,I i]
def B180_0:Y×E×Nat×Nat×Int→J:=fun(r,d,m,cap,i)=> [some ⟨d,itTy+1+5,true⟩]
def S180_0:LSpecA (Y×E×Nat×Nat×Int) where
 live:=[2,3,4]
 mid:=[3]
 n:=120
 ap:=[]
 dec vs bs:=match vs,bs with
  | [.string r,.slice (some ⟨3,0,some 1⟩) m cap,.int .i64 i],[some ⟨d,ty,true⟩]=>match Nat.beq ty (itTy+1+5)with | true=>some (r,d,m,cap,i) | false=>none
  | _,_=>none
 pre:=fun(r,d,m,cap,i)=>brOK d m cap&& (decide (0≤i∧i<m) &&noN (zc d m) i.toNat)
 fin:=fun(r,d,m,cap,i) Z=>∀d' i',brOK d' m cap=true→Z .ret [S (sz (jb8 i.toNat (zc d m))),.slice (some ⟨3,0,some 1⟩) m cap,I i'] [some ⟨d',itTy+1+5,true⟩]
def j0(b:Int)(a:E):E:=setL a (bx b) [il (ax b a+1)]
theorem r180_0(r:Y)(d:E)(m:Nat)(cap:Nat)(i:Int)(jk:Tmps)(R:Exit→E→J→Prop):(jb3 Tryz.prog EN noL Tryz.f180.ntmps (jbk Tryz.f180 0) (tl S180_0.live (V180_0 (r,d,m,cap,i)) jk) (ml S180_0.mid (B180_0 (r,d,m,cap,i))) S180_0.n fun e t' m' _=>S180_0.out R e t' m')=(dq i .u8 d m (bif ax i d !=57 then bif dv i m then bif jbd .u8 d (bx i)then bif dv i m then bif Nat.ble (bx i+1) d.length then bif ja6 (j0 i d) 0 m then bif ay [] (j0 i d)then R .ret [S (ja3 (j0 i d) 0 m),bk 3 m cap,ak i] [av true (rlbL [] (j0 i d)) 4611686018427387910]else False else False else False else False else False else False else bif dv i m then bif Nat.ble (bx i+1) d.length then a0 (ay [] (setL d (bx i) [am 48])) R [av true (rlbL [] (setL d (bx i) [am 48])) 4611686018427387910] [S r,bk 3 m cap,I (a8 i 1)]else False else False)):=by kernel_rfl
theorem l180_0:LOKf Tryz.prog (oneL 0 S180_0.hA) Tryz.f180:=by
 refine jcc (h:=S180_0.hA) (by kernel_rfl) (jbo ok_EN hmix (by kernel_rfl) (jbi _) S180_0 V180_0 B180_0 (fun(r,d,m,cap,i)=>i.toNat) ?_ ?_ ?_)
 ·intro vs bs s h;simp only[S180_0]at h;split at h
  all_goals first | (cases h;exact⟨rfl,rfl⟩) | cases h | (split at h<;>first | (rename_i hq;cases h;have hq:=jah hq;subst hq;exact⟨rfl,rfl⟩) | cases h)
 ·exact fun⟨r,d,m,cap,i⟩ hp=>by
   simp only[S180_0,jaf]at hp;simp[V180_0,B180_0,S180_0,jax,jbs,idsL,ids,jal (jel.1 hp.1).plain]
 ·intro⟨r,d,m,cap,i⟩ jk Z hp hf;rw[r180_0];delta bx dv dq a0 a8 bv bk av am ay il ax j0 ak;simp only[S180_0]at hp hf;simp only[jaf,jae]at hp;obtain⟨hv,⟨h0,hi⟩,hn⟩:=hp;have hv:=jel.1 hv;obtain⟨a1,a2⟩:=hv.at h0 hi;have hlen:=hv.len;have hle:=hv.le;have hlim:=hv.lim;have hz:=hv.zlen;rw[Nat.mul_one,Nat.zero_add];refine c_t (jaa ⟨h0,hi⟩) (c_t a1 (cond_intro (fun q=> ?_) (fun q=> ?_)))
  ·have q:jan d i.toNat≠57:=by simpa using q
   obtain⟨b1,b2⟩:=hv.set i.toNat (IntKind.u8.wrap (jan d i.toNat+1));have es:setL d i.toNat [.int .u8 (IntKind.u8.wrap (jan d i.toNat+1))]=d.set i.toNat (.int .u8 (IntKind.u8.wrap (jan d i.toNat+1))):=rfl;rw[es,b1.rlb];obtain⟨s1,s2⟩:=b1.str;refine c_t (jaa ⟨h0,hi⟩) (c_t a1 (c_t (jaa ⟨h0,hi⟩) (c_t (Nat.ble_eq_true_of_le (by omega)) (c_t s1 (c_t (b1.good _) ?_)))));rw[s2,b2]
   have e:jb8 i.toNat (zc d m)=(zc d m).set i.toNat (IntKind.u8.wrap (jan d i.toNat+1)):=by
    rw[a2]at q ⊢;cases hk:i.toNat with
    | zero=>rw[hk]at q;simp only[jb8];rw[if_pos q]
    | succ k=>rw[hk]at q;simp only[jb8];rw[if_pos q]
   have:=hf _ i (jel.2 b1);rw[e]at this;exact this
  ·have q:jan d i.toNat=57:=by simpa using q
   obtain⟨b1,b2⟩:=hv.set i.toNat 48;have es:setL d i.toNat [.int .u8 48]=d.set i.toNat (.int .u8 48):=rfl;rw[es,b1.rlb];rw[a2]at q
   obtain⟨k,hk⟩:∃k,i.toNat=k+1:=by
    cases hk:i.toNat with
    | zero=>
     rw[hk]at q hn;simp only[noN]at hn;cases hL:zc d m with
     | nil=>rw[hL]at hz;simp at hz;omega
     | cons c r=>rw[hL]at q hn;simp at hn q;exact absurd q hn
    | succ k=>exact⟨k,rfl⟩
   refine c_t (jaa ⟨h0,hi⟩) (c_t (Nat.ble_eq_true_of_le (by omega)) (c_t (b1.good _) ?_));have e1:(i-1).toNat=k:=by omega
   rw[w64 (n:=i-1) (by omega)];refine⟨(r,d.set i.toNat (.int .u8 48),m,cap,i-1),rfl,rfl,?_,by simp only;omega,fun d' i' h1=> ?_⟩
   ·simp only[S180_0,jaf,jae];refine⟨jel.2 b1,by omega,?_⟩;rw[b2,e1,hk];exact noN_step (by rw[hk]at hn q;exact q) (by rw[hk]at hn;exact hn) (by omega)
   ·rw[b2,e1];have:=hf d' i' h1;rw[hk]at this q ⊢;simp only[jb8]at this;rw[if_neg (fun h=>h q)]at this;exact this
def s180(s:Y):Bool×Value:=(decide (s.size≤900),.string (sz (jb8 s.size (48::bz s))))
theorem fn180:Fn1 Tryz.prog 180 Tryz.f180:= .m Tryz.func180
def jp(a:Y):Nat:=(ByteArray.mk #[48]++a).size
def gp(a b:Y):Bool:=jdy (a.size+b.size)
theorem v180(s:Y)(R:Value→Prop):jbu Tryz.prog EN (oneL 0 S180_0.hA) Tryz.f180 [Enc.enc s] (fun _=>none) 0 (fun v _ _=>R v)=(bif gp ⟨#[48]⟩ s then∀a:Nat,∀b:E,jji (⟨#[48]⟩++s) a b=true→cu (ay [] b) (b4 (rlbL [] b) 120) (Ff.S180_0.toLSpec.pre (az,(rlbL [] b,(jp s,(a,a8 (natO (jp s)) 1))))) (∀c:E,Int→Ff.brOK c (jp s) a=true→ek c 120 (R (S (sz (Ff.jb8 (a8 (natO (jp s)) 1).toNat (zc (rlbL [] b) (jp s))))))) False else False):=by kernel_rfl
theorem ok180:jam Tryz.prog 180 (sp1 s180):=by
 refine jda ok_EN hmix fn180 l180_0 jag fun s hc=> ?_
 rw[jbv,v180];delta cu b4 ek jp a8 az ay gp;have hc:(s.size≤900):=jab hc
 try dsimp only[s180]
 refine c_t (jcr (by show 1+s.size≤_;omega)) fun cap d hd=> ?_
 simp only[jji,jaf,Nat.beq_eq,Nat.ble_eq,jae]at hd;obtain⟨k1,k2,k3,k4⟩:=hd;have zS:(ByteArray.mk #[48]++s).size=s.size+1:=by rw[ByteArray.size_append];show 1+s.size=_;omega
 have B:BrP d (ByteArray.mk #[48]++s).size cap:=⟨k3,k1,k2,by omega⟩
 have kz:zc d (ByteArray.mk #[48]++s).size=48::bz s:=by
  rw[zc,show iv=cInt from by funext v;cases v<;>rfl,k4];show bz (ByteArray.mk #[48]++s)=_;rw[jct];rfl
 have ei:IntKind.wrap .i64 (natO (ByteArray.mk #[48]++s).size-1)=(s.size:Int):=by
  rw[jbx,zS,w64 (by omega)];omega
 rw[B.rlb,kz,ei];refine c_t (by rw[B.good,jbh B.plain];rfl) (c_t ?_ fun d' i' hd'=>c_t (by rw[jbh (jel.1 hd').plain];rfl) fun x=> ?_)
 ·simp only[S180_0,jaf,jae];refine⟨jel.2 B,by rw[zS];omega,?_⟩;rw[kz];simp[noN]
 ·rw[Int.toNat_natCast]
end Go.Ff
end
noncomputable section
set_option maxHeartbeats 3200000
namespace Go.Ff
open Go Go.Ab Go.Proofs Go.Shelf Go.Px Go.Cv Go.Cx
open Go.Fx (Ty Vl)
def F0:Env:=(((((Env.nil.add 80 (sp2 Cx.s154)).add 72 (sp2 Cx.s30)).add 175 (sp1 Cx.s29)).add 180 (sp1 s180)))
theorem ok_F0:jap Tryz.prog F0:=jak (jak (jak (jak ja5 (jik Cx.ok154)) (jik Cx.ok30)) (jik Cx.ok29)) ok180
def scZ(n q:Int):Num:=if trZ (itoZ (n.natAbs:Int)) 48=[]then(false,[],0)else(decide (n<0),trZ (itoZ (n.natAbs:Int)) 48,q-(((itoZ (n.natAbs:Int)).length:Int)-(trZ (itoZ (n.natAbs:Int)) 48).length))
def upS(l:F)(k:Nat):F:=if 53≤l.getD k 0 then jb8 k (48::l.take k)else l.take k
def roF(l:F)(c b:Int):F×Bool:=
 if c≤b then if l≠ []∧(l.length:Int)+(b-c)>300 then([],false)else(tlZ (l++repZ [48] (min (b-c) 300).toNat) 48,decide (((l++repZ [48] (min (b-c) 300).toNat).length:Int)≤300))
 else if(l.length:Int)+(b-c)<0 then([],true)else
  (tlZ (upS l ((l.length:Int)+(b-c)).toNat) 48,decide (((upS l ((l.length:Int)+(b-c)).toNat).length:Int)≤300))
theorem plus_len:∀(i:Nat)(L:F),(jb8 i L).length=L.length
 | 0,L=>by simp only[jb8];split<;>simp
 | i+1,L=>by
  simp only[jb8];split
  ·simp
  ·rw[plus_len i,List.length_set]
theorem jiz{L:F}(h:IsB L)(k:Nat){c:Int}(hc:0≤c∧c<256):IsB (L.set k c):=fun x hx=>by
 rcases List.mem_or_eq_of_mem_set hx with h' | rfl
 ·exact h x h'
 ·exact hc
theorem plus_isB{L:F}(h:IsB L):∀i,IsB (jb8 i L):=by
 have w:∀n:Int,0≤IntKind.u8.wrap n∧IntKind.u8.wrap n<256:=fun n=>by rw[w8e];omega
 intro i
 induction i generalizing L with
 | zero=>simp only[jb8];split;exact jiz h _ (w _);exact h
 | succ i ih=>simp only[jb8];split;exact jiz h _ (w _);exact ih (jiz h _ (by omega))
theorem less5{c:UInt8}{l:Ya}:Op.bytesLess (c::l) [53]=decide (c.toNat<53):=by
 have e:Op.bytesLess l []=false:=by cases l<;>rfl
 rw[Op.bytesLess,e,Bool.and_false,Bool.or_false,Bool.eq_iff_iff];simp only[jae];exact Iff.rfl
theorem up_iff{s:Y}{k:Nat}(h:k<s.size):(!Op.bytesLess (s.extract k s.size).toList (ByteArray.mk #[53]).toList)=decide (53≤(bz s).getD k 0):=by
 have hl:k<s.data.toList.length:=by rw[Array.length_toList];exact h
 have hd:(s.extract k s.size).toList=s.data.toList.drop k:=by
  rw[ByteArray.toList_eq,ByteArray.data_extract,Array.toList_extract,List.extract_eq_take_drop,List.take_of_length_le];show(List.drop k s.data.toList).length≤s.data.size-k;rw[List.length_drop,Array.length_toList];exact Nat.le_refl _
 have h5:(ByteArray.mk #[53]).toList=[53]:=by rw[ByteArray.toList_eq]
 have hb:(bz s).getD k 0=((s.data.toList[k]).toNat:Int):=by
  rw[←jgz,jau,List.getElem?_eq_getElem hl];rfl
 rw[hd,h5,List.drop_eq_getElem_cons hl,less5,hb,Bool.eq_iff_iff];simp only[Bool.not_eq_true',decide_eq_false_iff_not,jae];omega
def V129_0:Bool×Y×Int×Bool×Y×Int→E:=fun(xb,x,xi,ng,d,c)=> [.pointer (some ⟨0,0,some 0⟩),.pointer (some ⟨10,0,some 0⟩)]
def B129_0:Bool×Y×Int×Bool×Y×Int→J:=fun(xb,x,xi,ng,d,c)=> [some ⟨[B xb,S x,I xi],125,true⟩,some ⟨[B ng,S d,I c],125,true⟩]
def S129_0:LSpec (Bool×Y×Int×Bool×Y×Int) where
 live:=[4,5]
 mid:=[0,10]
 n:=60
 dec vs bs:=match vs,bs with | [.pointer (some ⟨0,0,some 0⟩),.pointer (some ⟨10,0,some 0⟩)],[some ⟨[.bool xb,.string x,.int .i64 xi],125,true⟩,some ⟨[.bool ng,.string d,.int .i64 c],125,true⟩]=>some (xb,x,xi,ng,d,c) | _,_=>none
 pre:=fun(xb,x,xi,ng,d,c)=>decide (d.size≤100∧ -100000≤c-d.size∧c≤100000)
 fin:=fun(xb,x,xi,ng,d,c) Z=>∀d':Y,bz d'=trZ (bz d) 48→Z (.exit 0) [.pointer (some ⟨0,0,some 0⟩),.pointer (some ⟨10,0,some 0⟩)] [some ⟨[B xb,S x,I xi],125,true⟩,some ⟨[B ng,S d',I (c-((d.size:Int)-d'.size))],125,true⟩]
theorem r129_0(xb:Bool)(x:Y)(xi:Int)(ng:Bool)(d:Y)(c:Int)(jk:Tmps)(R:Exit→E→J→Prop):(jb3 Tryz.prog F0 noL Tryz.f129.ntmps (jbk Tryz.f129 0) (tl S129_0.live (V129_0 (xb,x,xi,ng,d,c)) jk) (ml S129_0.mid (B129_0 (xb,x,xi,ng,d,c))) S129_0.n fun e t' m' _=>R e (List.map t' S129_0.live) (List.map m' S129_0.mid))=(ig (!cv d az) (bn (b7 d 1) (al d) &&true) true (!cv d az&&jau d (b7 d 1).toNat==48) (a0 (co d 0 (b7 d 1)) R [av true [B xb,S x,ak xi] 125,av true [B ng,S (dt d 1),I (a8 c 1)] 125] [aw 0,aw 10]) (R (.exit 0) [aw 0,aw 10] [av true [B xb,S x,ak xi] 125,av true [B ng,S d,ak c] 125])):=by kernel_rfl
theorem l129_0:LOKf Tryz.prog (oneL 0 S129_0.h) Tryz.f129:=by
 refine jcc (h:=S129_0.h) (by kernel_rfl) (jdi ok_F0 hmix (by kernel_rfl) (jbi _) S129_0 V129_0 B129_0 (fun(xb,x,xi,ng,d,c)=>d.size) ?_ ?_ ?_)
 ·intro vs bs s h;simp only[S129_0]at h;split at h
  all_goals first | (cases h;exact⟨rfl,rfl⟩) | cases h | (split at h<;>first | (rename_i hq;cases h;have hq:=jah hq;subst hq;exact⟨rfl,rfl⟩) | cases h)
 ·exact fun _ _ _ h=>h
 ·intro⟨xb,x,xi,ng,d,c⟩ jk Z hp hf;rw[r129_0];delta ig av ak bv aw a0 a8 al b7 dt co cv az bn;simp only[S129_0]at hp hf;have hp:=jab hp;have hl:∀h:0<d.size,IntKind.i64.wrap ((d.size:Int)-1)=((d.size-1:Nat):Int):=fun h=>by rw[w64 (by omega)];omega
  have he:(d.toList==(ByteArray.mk #[]).toList)=decide (d.size=0):=by rw[jcl,Bool.eq_iff_iff];simp[←List.length_eq_zero_iff]
  rw[he]
  refine c_t (by
    rcases Nat.eq_zero_or_pos d.size with q | q
    ·simp[q]
    ·rw[hl q];simp
     try omega) (cond_intro (fun h=> ?_) (fun h=> ?_))
  ·simp only[jaf,Bool.not_eq_true',decide_eq_false_iff_not]at h;have h0:0<d.size:=by omega
   rw[hl h0]at h ⊢;have hb:=jib (s:=d) (n:=((d.size-1:Nat):Int)) (by omega) (by omega);rw[Int.toNat_natCast]at hb;have hc:jau d (d.size-1)=48:=by simpa using h.2
   rw[hc]at hb;have hb':=hb;rw[hb,tr_snoc]at hf;refine c_t (by simp;try omega) ?_;rw[w64 (n:=c-1) (by omega)];refine⟨(xb,x,xi,ng,d.extract 0 (d.size-1),c-1),rfl,rfl,by simp only[S129_0,jae,jdb];omega,by simp only[jdb];omega,fun d' e=> ?_⟩;have e2:c-1-(((d.extract 0 (d.size-1)).size:Int)-d'.size)=c-((d.size:Int)-d'.size):=by rw[jdb];omega
   rw[e2];exact hf d' e
  ·have hz:bz d=trZ (bz d) 48:=by
    rcases Nat.eq_zero_or_pos d.size with h0 | h0
    ·rw[jkm h0];rfl
    ·have hb:=jib (s:=d) (n:=((d.size-1:Nat):Int)) (by omega) (by omega);rw[Int.toNat_natCast]at hb;rw[hb];refine(tr_ne (fun q=> ?_) _).symm;rw[hl h0]at h;have:d.size≠0:=by omega
     simp[q,this]at h
   have e:=hf d hz;rw[show c-((d.size:Int)-d.size)=c by omega]at e;exact e
def s129(n:Int)(q:Int):Bool×Value:=(decide (-2147483648≤n∧n≤2147483648∧ -1000≤q∧q≤1000),numV (scZ n q))
theorem fn129:Fn1 Tryz.prog 129 Tryz.f129:= .m Tryz.func129
def j1(a b c d:Int):Bool:=decide (a≤imax b c∧imax b c≤d)
theorem v129(n:Int)(q:Int)(R:Value→Prop):jbu Tryz.prog F0 (oneL 0 S129_0.h) Tryz.f129 [Enc.enc n,Enc.enc q] (fun _=>none) 0 (fun v _ _=>R v)=(bif j1 (-9223372036854775808) n (a8 0 n) 9223372036854775807 then bif Ff.S129_0.pre (false,(az,((0:Int),(au n 0,(szO (itoZ (imax n (a8 0 n))),q)))))then∀a:Y,bz a=trZ (bz (szO (itoZ (imax n (a8 0 n))))) 48→Tmps→(bif cv a az then R (.agg ⟨[B false,dy,ak 0]⟩)else R (.agg ⟨[B (au n 0),S a,I (q-(al (szO (itoZ (imax n (a8 0 n))))-al a))]⟩))else False else False):=by kernel_rfl
theorem ok129:jam Tryz.prog 129 (sp2 s129):=by
 refine jfq ok_F0 hmix fn129 l129_0 jag fun n q hc=> ?_
 rw[jbv,v129];delta al a8 au ak az dy cv j1;have hc:(-2147483648≤n∧n≤2147483648∧ -1000≤q∧q≤1000):=jab hc
 try dsimp only[s129]
 have hw:IntKind.i64.wrap (0-n)=0-n:=w64 (by omega);have hm:imax n (0-n)=(n.natAbs:Int):=by rw[imax];split<;>omega
 rw[hw,hm];have hb:bz (szO (itoZ (n.natAbs:Int)))=itoZ (n.natAbs:Int):=jd6 (ito_isB _);have hl:=ji5 (m:=(n.natAbs:Int)) (by omega);rw[hb,jcx];refine c_t (jaa (by omega)) (c_t ?_ fun d' e x=> ?_)
 ·simp only[S129_0,jae,jcx];omega
 ·have hs:d'.size=(trZ (itoZ (n.natAbs:Int)) 48).length:=by rw[←jav,e]
  rw[jcl,e,hs,jj3 e];apply cond_intro<;>intro h
  ·have h:=jab h;rw[scZ,if_pos h];show _=Value.agg ⟨[.bool false,.string (szO []),.int .i64 0]⟩;rw[jhk]
  ·have h:=jac h;rw[scZ,if_neg h]
def s133(x:Nu)(b:Int):Bool×Value:=(decide (x.d.size≤900∧0≤b∧b≤9∧ -100000≤x.c∧x.c≤100000),.tuple ⟨[S (szO (roF (bz x.d) x.c b).1),B (roF (bz x.d) x.c b).2]⟩)
theorem fn133:Fn1 Tryz.prog 133 Tryz.f133:= .m Tryz.func133
def kr(a:Y):E:=[.string (szO (tlZ (bz a) (j5 48))),.bool (decide (al a≤300))]
def g0(a:Cx.Nu)(b:Int):Int:=IntKind.i64.wrap (al (Nu.d a)+IntKind.i64.wrap (b-Nu.c a))
def je(b:Int)(a:UInt8):Y:=szO (repZ (bz ⟨#[a]⟩) b.toNat)
theorem v133(x:Nu)(b:Int)(R:Value→Prop):jbu Tryz.prog F0 noL Tryz.f133 [Enc.enc x,Enc.enc b] (fun _=>none) 0 (fun v _ _=>R v)=(bif decide (a8 b (Nu.c x)≥0)then bm (aq (al (Nu.d x)) 0) true (aq (al (Nu.d x)) 0&&aq (g0 x b) 300) (bw io R) (bif jd ⟨#[48]⟩ (imin (a8 b (Nu.c x)) 300)then e9 (gp (Nu.d x) (je (imin (a8 b (Nu.c x)) 300) 48)) (kr (Nu.d x++je (imin (a8 b (Nu.c x)) 300) 48)) R else False)else bif au (g0 x b) 0 then bw [dy,B true] R else bif co (Nu.d x) (g0 x b) (al (Nu.d x))then bif co (Nu.d x) 0 (g0 x b)then bif !Op.bytesLess ((Nu.d x).extract (g0 x b).toNat (Nu.d x).size).toList (ByteArray.mk #[53]).toList then e9 (decide (((Nu.d x).extract 0 (g0 x b).toNat).size≤900)) (kr (sz (Ff.jb8 ((Nu.d x).extract 0 (g0 x b).toNat).size (48::bz ((Nu.d x).extract 0 (g0 x b).toNat))))) R else bw (kr ((Nu.d x).extract 0 (g0 x b).toNat)) R else False else False):=by kernel_rfl
theorem ok133:jam Tryz.prog 133 (sp2 s133):=by
 refine jfq ok_F0 hmix fn133 jai jag fun x b hc=> ?_
 rw[jbv,v133];delta bw al j5 kr g0 e9 co az dy au bm je a8 gp jd io aq;have hc:(x.d.size≤900∧0≤b∧b≤9∧ -100000≤x.c∧x.c≤100000):=jab hc
 try dsimp only[s133]
 have d48:(bz (ByteArray.mk #[48])).getD 0 0=48:=rfl;have b48:bz (ByteArray.mk #[48])=[48]:=rfl;have z48:(ByteArray.mk #[48]).size=1:=rfl;rw[d48,b48,z48,w64 (n:=b-x.c) (by omega)];have hz:(x.d.size:Int)=(bz x.d).length:=by rw[jav]
 apply cond_intro<;>intro h
 ·have h:=jab h;have h:x.c≤b:=by omega
  have e1:roF (bz x.d) x.c b=if bz x.d≠ []∧((bz x.d).length:Int)+(b-x.c)>300 then([],false)else(tlZ (bz x.d++repZ [48] (min (b-x.c) 300).toNat) 48,decide (((bz x.d++repZ [48] (min (b-x.c) 300).toNat).length:Int)≤300)):=by rw[roF,if_pos h]
  rw[w64 (n:=(x.d.size:Int)+(b-x.c)) (by omega)];refine c_t (by simp) (cond_intro (fun h2=> ?_) (fun h2=> ?_))
  ·simp only[jaf,jae]at h2;rw[e1,if_pos ⟨fun q=>by have q:=congrArg List.length q;rw[jav,List.length_nil]at q;omega,by omega⟩,jhk]
  ·have hr:(repZ [48] (min (b-x.c) 300).toNat).length=(min (b-x.c) 300).toNat:=by rw[jdz,List.length_replicate]
   have hi:imin (b-x.c) 300=min (b-x.c) 300:=by rw[imin];split<;>omega
   have hiB:IsB (repZ [48] (min (b-x.c) 300).toNat):=by rw[jdz];exact rep48_isB _
   rw[hi];have hs:bz (x.d++szO (repZ [48] (min (b-x.c) 300).toNat))=bz x.d++repZ [48] (min (b-x.c) 300).toNat:=by rw[jct,jd6 hiB]
   refine c_t (jaa (by omega)) (c_t (jcr (by rw[jcx,hr];omega)) ?_);rw[hs,←jav (x.d++_),hs,e1,if_neg ?_];intro⟨q1,q2⟩;have q3:(bz x.d).length≠0:=fun q=>q1 (List.length_eq_zero_iff.1 q)
   have:(x.d.size:Int)>0:=by omega
   have hq:(x.d.size:Int)+(b-x.c)>300:=by omega
   simp only[this,hq,decide_true,Bool.and_true]at h2;cases h2
 ·have h:=jac h;have h:¬x.c≤b:=by omega
  rw[w64 (n:=(x.d.size:Int)+(b-x.c)) (by omega)];rw[roF,if_neg h,hz];apply cond_intro<;>intro h2
  ·have h2:=jab h2;rw[if_pos (by omega),jhk]
  ·have h2:=jac h2;rw[if_neg (by omega)];obtain⟨k,hk⟩:∃k:Nat,((bz x.d).length:Int)+(b-x.c)=(k:Int):=⟨(((bz x.d).length:Int)+(b-x.c)).toNat,by omega⟩
   rw[hk,Int.toNat_natCast];have hkl:k<x.d.size:=by omega
   have hx:(x.d.extract 0 k).size=k:=by rw[jdb];omega
   have hbx:bz (x.d.extract 0 k)=(bz x.d).take k:=jje k;refine c_t (jaa (by omega)) (c_t (jaa (by omega)) ?_);rw[hx,hbx,up_iff hkl];apply cond_intro<;>intro h3
   ·have h3:=jab h3;have hB:IsB (jb8 k (48::(bz x.d).take k)):=plus_isB (IsB.cons (by omega) ((jfo _).take _)) _;have hL:(jb8 k (48::(bz x.d).take k)).length=k+1:=by rw[plus_len,List.length_cons,List.length_take,jav];omega
    refine c_t (jaa (by omega)) ?_;rw[jg5 hB,jiy,upS,if_pos h3]
   ·have h3:=jac h3;rw[upS,if_neg h3];have hL:((bz x.d).take k).length=k:=by rw[List.length_take,jav];omega
    rw[hL]
def F1:Env:=Env.nil.add 133 (sp2 s133)
theorem ok_F1:jap Tryz.prog F1:=jak ja5 ok133
def ptZ(p:F)(b:Int):F:=if 0<b then p.take (p.length-b.toNat)++ [46]++p.drop (p.length-b.toNat)else p
def padN(l:F)(n:Int):F:=List.replicate (n-l.length).toNat 48++l
def fixF(g:Bool)(s:F)(b:Int):F:=(if g=true∧s≠ []then [45]else [])++ptZ (padN s (b+1)) b
theorem roF_len{l:F}{c b:Int}(h:(roF l c b).2=true):(roF l c b).1.length≤300:=by
 unfold roF at h ⊢
 have key:∀s:F,decide ((s.length:Int)≤300)=true→(tlZ s 48).length≤300:=fun s hs=>by
  have:=jab hs;have:=jig s 48;omega
 split at h
 ·split at h
  ·cases h
  ·rename_i h1 h2;rw[if_pos h1,if_neg h2];exact key _ h
 ·split at h
  ·rename_i h1 h2;rw[if_neg h1,if_pos h2];simp
  ·rename_i h1 h2;rw[if_neg h1,if_neg h2];exact key _ h
theorem up_isB{l:F}(h:IsB l)(k:Nat):IsB (upS l k):=by
 unfold upS;split
 ·exact plus_isB (IsB.cons (by omega) (h.take _)) _
 ·exact h.take _
theorem roF_isB{l:F}(h:IsB l)(c b:Int):IsB (roF l c b).1:=by
 unfold roF;split
 ·split
  ·exact IsB.nil
  ·exact jkd (h.append (by rw[jdz];exact rep48_isB _)) _
 ·split
  ·exact IsB.nil
  ·exact jkd (up_isB h _) _
theorem pad_step{l:F}{n:Int}(h:(l.length:Int)<n):padN (48::l) n=padN l n:=by
 obtain⟨k,hk⟩:∃k:Nat,n-(l.length:Int)=((k+1:Nat):Int):=⟨(n-l.length-1).toNat,by omega⟩
 have e1:(n-((48::l).length:Nat)).toNat=k:=by rw[List.length_cons];omega
 have e2:(n-(l.length:Int)).toNat=k+1:=by omega
 rw[padN,padN,e1,e2,List.replicate_succ',List.append_assoc];rfl
theorem pad_done{l:F}{n:Int}(h:¬(l.length:Int)<n):padN l n=l:=by
 have e2:(n-(l.length:Int)).toNat=0:=by omega
 rw[padN,e2];rfl
theorem pad_isB{l:F}(h:IsB l)(n:Int):IsB (padN l n):=by
 refine IsB.append (fun c hc=> ?_) h;rw[List.eq_of_mem_replicate hc];omega
theorem pad_len{l:F}{n:Int}(h:(l.length:Int)≤300)(hn:0≤n∧n≤10):n≤((padN l n).length:Int)∧(padN l n).length≤310∧(l.length:Int)≤(padN l n).length:=by
 rw[padN,List.length_append,List.length_replicate];omega
def l3(a b:Y)(c:Value→Prop):Prop:=e9 (gp a b) [.string (a++b),.bool true] c
def k76(sg s':Y)(b:Int)(R:Value→Prop):Prop:=bif aq b 0 then bif co s' 0 (b7 s' b)then bif gp (dt s' b) ⟨#[46]⟩then bif co s' (b7 s' b) (al s')then bif gp (dt s' b++⟨#[46]⟩) (s'.extract (b7 s' b).toNat s'.size)then l3 sg (dt s' b++⟨#[46]⟩++s'.extract (b7 s' b).toNat s'.size) R else False else False else False else False else l3 sg s' R
theorem k76_ok{sg s':Y}{b:Int}{P:F}{R:Value→Prop}(h:bz s'=P)(hb:0≤b∧b≤9)(hs:b+1≤(s'.size:Int))(hl:s'.size≤310)(hg:sg.size≤1)
  (hR:R (Value.tuple ⟨[S (szO (bz sg++ptZ P b)),B true]⟩)):k76 sg s' b R:=by
 have hz:(s'.size:Int)=P.length:=by rw[←h,jav]
 unfold k76;delta bw e9 gp l3 al b7 dt co aq;apply cond_intro<;>intro h1
 ·have h1:=jab h1;obtain⟨k,hk⟩:∃k:Nat,(s'.size:Int)-b=(k:Int):=⟨((s'.size:Int)-b).toNat,by omega⟩
  have hw:IntKind.i64.wrap ((s'.size:Int)-b)=(k:Int):=by rw[w64 (by omega),hk]
  have x1:(s'.extract 0 k).size=k:=by rw[jdb];omega
  have x2:(s'.extract k s'.size).size=s'.size-k:=by rw[jdb];omega
  have x3:(ByteArray.mk #[46]).size=1:=rfl;have kP:P.length-b.toNat=k:=by omega
  have e:sg++(s'.extract 0 k++ByteArray.mk #[46]++s'.extract k s'.size)=szO (bz sg++ptZ P b):=by
   refine jj3 ?_;have q:(bz s').take s'.size=bz s':=List.take_of_length_le (by rw[jav];exact Nat.le_refl _);rw[jct,jct,jct,jje,jci,q,h,ptZ,if_pos h1,kP];rfl
  rw[hw,Int.toNat_natCast,e];simp only[ByteArray.size_append,x1,x2,x3];exact c_t (jaa (by omega)) (c_t (jcr (by omega)) (c_t (jaa (by omega)) (c_t (jcr (by omega)) (c_t (jcr (by omega)) hR))))
 ·have h1:=jac h1
  have e:sg++s'=szO (bz sg++ptZ P b):=by
   refine jj3 ?_;rw[jct,h,ptZ,if_neg (by omega)]
  rw[e];exact c_t (jcr (by omega)) hR
def V76_0:Int×Y×Y→E:=fun(b,s,q)=> [I b,S s,S q]
def B76_0:Int×Y×Y→J:=fun _=> []
def S76_0:LSpec (Int×Y×Y) where
 live:=[1,6,8]
 mid:=[]
 n:=60
 dec vs bs:=match vs,bs with | [.int .i64 b,.string s,.string q],[]=>some (b,s,q) | _,_=>none
 pre:=fun(b,s,q)=>decide (0≤b∧b≤9∧s.size≤300)
 fin:=fun(b,s,q) Z=>∀s':Y,bz s'=padN (bz s) (b+1)→Z (.exit 0) [I b,S s',S q] []
theorem r76_0(b:Int)(s:Y)(q:Y)(jk:Tmps)(R:Exit→E→J→Prop):(jb3 Tryz.prog F1 noL Tryz.f76.ntmps (jbk Tryz.f76 0) (tl S76_0.live (V76_0 (b,s,q)) jk) (ml S76_0.mid (B76_0 (b,s,q))) S76_0.n fun e t' m' _=>R e (List.map t' S76_0.live) (List.map m' S76_0.mid))=(bif au (al s) (ar b 1)then a0 (gp ⟨#[48]⟩ s) R [] [ak b,S (⟨#[48]⟩++s),S q]else R (.exit 0) [ak b,S s,S q] []):=by kernel_rfl
theorem l76_0:LOKf Tryz.prog (oneL 0 S76_0.h) Tryz.f76:=by
 refine jcc (h:=S76_0.h) (by kernel_rfl) (jdi ok_F1 hmix (by kernel_rfl) (jbi _) S76_0 V76_0 B76_0 (fun(b,s,q)=>(b+1-s.size).toNat) ?_ ?_ ?_)
 ·intro vs bs s h;simp only[S76_0]at h;split at h
  all_goals first | (cases h;exact⟨rfl,rfl⟩) | cases h | (split at h<;>first | (rename_i hq;cases h;have hq:=jah hq;subst hq;exact⟨rfl,rfl⟩) | cases h)
 ·exact fun _ _ _ h=>h
 ·intro⟨b,s,q⟩ jk Z hp hf;rw[r76_0];delta ak a0 gp au ar al;simp only[S76_0]at hp hf;have hp:=jab hp;rw[w64 (n:=b+1) (by omega)];apply cond_intro<;>intro h
  ·have h:=jab h;have hz:bz (ByteArray.mk #[48]++s)=48::bz s:=by rw[jct];rfl
   have hs:(ByteArray.mk #[48]++s).size=s.size+1:=by rw[←jav,hz,List.length_cons,jav]
   refine c_t (jcr (by show 1+s.size≤_;omega)) ?_;refine⟨(b,ByteArray.mk #[48]++s,q),rfl,rfl,by simp only[S76_0,jae,hs];omega,by simp only[hs];omega,fun s' e=>hf s' ?_⟩;rw[e,hz,pad_step (by rw[jav];omega)]
  ·have h:=jac h;exact hf s (pad_done (by rw[jav];omega)).symm
def s76(x:Nu)(b:Int):Bool×Value:=(decide (x.d.size≤900∧0≤b∧b≤9∧ -100000≤x.c∧x.c≤100000),.tuple ⟨[S (szO (bif (roF (bz x.d) x.c b).2 then fixF x.g (roF (bz x.d) x.c b).1 b else [])),B (roF (bz x.d) x.c b).2]⟩)
theorem fn76:Fn1 Tryz.prog 76 Tryz.f76:= .m Tryz.func76
def lv(e:Cx.Nu)(b:Int)(f:Ya)(g:Value→Prop):Prop:=bif Ff.S76_0.pre (b,(szO (Ff.roF (bz (Nu.d e)) (Nu.c e) b).fst,ByteArray.mk f.toArray))then∀a:Y,bz a=Ff.padN (bz (szO (Ff.roF (bz (Nu.d e)) (Nu.c e) b).fst)) (b+1)→Tmps→Ff.k76 ⟨f.toArray⟩ a b g else False
def ku(a:Y)(b c:Int):Bool:=decide (a.size≤900∧0≤b∧b≤9∧ -(100000:Int)≤c∧c≤100000)
theorem v76(x:Nu)(b:Int)(R:Value→Prop):jbu Tryz.prog F1 (oneL 0 S76_0.h) Tryz.f76 [Enc.enc x,Enc.enc b] (fun _=>none) 0 (fun v _ _=>R v)=(bif ku (Nu.d x) b (Nu.c x)then bif !(Ff.roF (bz (Nu.d x)) (Nu.c x) b).snd then bw io R else bm (Nu.g x) true (Nu.g x&& !cv (szO (Ff.roF (bz (Nu.d x)) (Nu.c x) b).fst) az) (lv x b [45] R) (lv x b [] R)else False):=by kernel_rfl
theorem ok76:jam Tryz.prog 76 (sp2 s76):=by
 refine jfq ok_F1 hmix fn76 l76_0 jag fun x b hc=> ?_
 rw[jbv,v76];delta bm lv cv az bw dy io ku;have hc:(x.d.size≤900∧0≤b∧b≤9∧ -100000≤x.c∧x.c≤100000):=jab hc
 try dsimp only[s76]
 have hI:=roF_isB (jfo x.d) x.c b;have hbz:bz (szO (roF (bz x.d) x.c b).1)=(roF (bz x.d) x.c b).1:=jd6 hI;refine c_t (jaa hc) (cond_intro (fun h=> ?_) (fun h=> ?_))
 ·have h:(roF (bz x.d) x.c b).2=false:=by simpa using h
  rw[h];show _=Value.tuple ⟨[S (szO []),B false]⟩;rw[jhk]
 have h:(roF (bz x.d) x.c b).2=true:=by simpa using h
 have hlen:=roF_len h;rw[hbz,h,jcl,hbz]
 have hpre:∀q:Y,S76_0.pre (b,szO (roF (bz x.d) x.c b).1,q)=true:=fun q=>by
  simp only[S76_0,jae,jcx];omega
 obtain⟨p1,p2,p3⟩:=pad_len (l:=(roF (bz x.d) x.c b).1) (n:=b+1) (by omega) (by omega);refine c_t (by simp) (cond_intro (fun h2=>c_t (hpre _) fun s' e y=> ?_) (fun h2=>c_t (hpre _) fun s' e y=> ?_))
 ·have hz:s'.size=(padN (roF (bz x.d) x.c b).1 (b+1)).length:=by rw[←jav,e]
  refine k76_ok e (by omega) (by omega) (by omega) (by decide) ?_;simp only[jaf,Bool.not_eq_true',decide_eq_false_iff_not]at h2;show Value.tuple ⟨[S (szO (bz (ByteArray.mk #[45])++ptZ _ b)),B true]⟩=Value.tuple ⟨[S (szO (fixF x.g _ b)),B true]⟩;rw[fixF,if_pos h2];rfl
 ·have hz:s'.size=(padN (roF (bz x.d) x.c b).1 (b+1)).length:=by rw[←jav,e]
  refine k76_ok e (by omega) (by omega) (by omega) (by decide) ?_;show Value.tuple ⟨[S (szO (bz (ByteArray.mk #[])++ptZ _ b)),B true]⟩=Value.tuple ⟨[S (szO (fixF x.g _ b)),B true]⟩;rw[fixF,if_neg ?_]
  ·rfl
  ·intro⟨q1,q2⟩;simp[q1,q2]at h2
attribute [local instance 5000] tabsB
structure Fo where
 k:Int
 w:Int
 d:Int
 s:Y
instance:Enc Fo where
 enc t:= .agg ⟨[.int .i64 t.k,.int .i64 t.w,.int .i64 t.d,.string t.s]⟩
 dec | .agg ⟨[.int .i64 k,.int .i64 w,.int .i64 d,.string s]⟩=>some ⟨k,w,d,s⟩ | _=>none
 dec_some:=by
  intro v a h;split at h
  ·cases h;rfl
  ·cases h
 plain_enc _:=rfl
def nvL(i:Nat):Nat→Option jbr:=oneL i fun _ _ _ _=>False
theorem jio{P:Program}{nt i:Nat}:∀c:Code,LOK P (nvL i) nt c
 | .seq a b | .cond _ a b=>⟨jio a,jio b⟩
 | .block id b=>by
  simp only[LOK,nvL,oneL];cases Nat.beq id i
  ·exact jio b
  ·exact fun _ _ _ _ h=>h.elim
 | .loop b | .scope b=>jio b
 | .skip | .label _ | .region _ _ _ | .exit _ | .ret | .goto _ | .rangeFunc _ _ _ _ | .refuse _=>trivial
theorem lokf_nv{P:Program}{fn:Func}{i:Nat}:LOKf P (nvL i) fn:=by
 unfold LOKf;split
 ·exact jio _
 ·trivial
def F3:Env:=(((Env.nil.add 80 (sp2 Cx.s154)).add 129 (sp2 s129)).add 33 (sp1 s20f)).add 65 (sp1 Px.s33)
theorem ok_F3:jap Tryz.prog F3:=jak (jak (jak (jak ja5 (jik Cx.ok154)) ok129) (jik ok20f)) (jik Px.ok33)
def s75(v:Vl)(t:Ty):Bool×Value:=(decide (t.k=1∧ -2147483648≤v.n∧v.n≤2147483648∧ -1000≤t.q∧t.q≤1000),.tuple ⟨[Cx.numV (scZ v.n t.q),B true]⟩)
theorem fn75:Fn1 Tryz.prog 75 Tryz.f75:= .m Tryz.func75
def jf(b:Fx.Ty)(a:Fx.Vl):Prod F Int:=Prod.snd (Ff.scZ (Fx.Vl.n a) (Fx.Ty.q b))
theorem v75(v:Vl)(t:Ty)(R:Value→Prop):jbu Tryz.prog F3 (nvL 1) Tryz.f75 [Enc.enc v,Enc.enc t] (fun _=>none) 0 (fun v _ _=>R v)=(bif dl t 5 then False else bm (dl t 1) true (dl t 1 || dl t 2) (e9 (decide (-(2147483648:Int)≤Fx.Vl.n v∧Fx.Vl.n v≤2147483648∧ -(1000:Int)≤Fx.Ty.q t∧Fx.Ty.q t≤1000)) [.agg ⟨kp (Prod.fst (Ff.scZ (Fx.Vl.n v) (Fx.Ty.q t))) (jf t v)⟩,B true] R) (bif dl t 4 then False else False)):=by kernel_rfl
theorem ok75:jam Tryz.prog 75 (sp2 s75):=by
 refine jfq ok_F3 hmix fn75 (lokf_nv (i:=1)) jag fun v t hc=> ?_
 rw[jbv,v75];delta bm dl bw e9 kp jf;have hc:(t.k=1∧ -2147483648≤v.n∧v.n≤2147483648∧ -1000≤t.q∧t.q≤1000):=jab hc
 try dsimp only[s75]
 rw[show(t.k==5)=false by simp[hc.1],show(t.k==1)=true by simp[hc.1],cond_false];exact c_t rfl (c_t rfl (c_t (jaa hc.2) rfl))
def s62(f:Fo):Bool×Value:=(decide (f.k≠4),I f.w)
theorem fn62:Fn1 Tryz.prog 62 Tryz.f62:= .m Tryz.func62
theorem v62(f:Fo)(R:Value→Prop):jbu Tryz.prog F3 noL Tryz.f62 [Enc.enc f] (fun _=>none) 0 (fun v _ _=>R v)=(bif Fo.k f !=4 then R (I (Fo.w f))else False):=by kernel_rfl
theorem ok62:jam Tryz.prog 62 (sp1 s62):=by
 refine jda ok_F3 hmix fn62 jai jag fun f hc=> ?_
 rw[jbv,v62];have hc:(f.k≠4):=jab hc
 try dsimp only[s62]
 exact c_t (by simpa using hc) rfl
def jdd(f:Fo):Bool:=decide (1≤f.k∧f.k≤7∧0≤f.w∧f.w≤255∧0≤f.d∧f.d≤9∧f.d≤f.w∧(0<f.d→f.k=3)) && (bif decide (f.k=4)then decide (pE (bz f.s)=0)else decide (f.s.size=0))
def s44(f:Fo):Bool×Value:=(decide (f.s.size≤9223372036854775807),B (jdd f))
theorem fn44:Fn1 Tryz.prog 44 Tryz.f44:= .m Tryz.func44
def lw(b:Bool)(a:Ff.Fo):Bool:=au (Ff.Fo.w a) 0 || (aq (Ff.Fo.w a) 255 || ij (aq (Ff.Fo.d a) (Ff.Fo.w a) || b) (Ff.Fo.d a) 0 9)
theorem v44(f:Fo)(R:Value→Prop):jbu Tryz.prog F3 noL Tryz.f44 [Enc.enc f] (fun _=>none) 0 (fun v _ _=>R v)=(bm (au (Ff.Fo.k f) 1) (aq (Ff.Fo.k f) 7 || lw (aq (Ff.Fo.d f) 0 || true) f) (ij (lw (aq (Ff.Fo.d f) 0&&Ff.Fo.k f !=3) f) (Ff.Fo.k f) 1 7) (R (B false)) (bif Ff.Fo.k f==4 then b5 (cl (Ff.Fo.s f)) (B (pE (bz (Ff.Fo.s f))==0)) R else R (B (cv (Ff.Fo.s f) az)))):=by kernel_rfl
theorem ok44:jam Tryz.prog 44 (sp1 s44):=by
 refine jda ok_F3 hmix fn44 jai jag fun f hc=> ?_
 rw[jbv,v44];delta bm cv az b5 cl aq au ij lw;have hc:(f.s.size≤9223372036854775807):=jab hc
 try dsimp only[s44]
 refine c_t (by simp) (cond_intro (fun h=> ?_) (fun h=>cond_intro (fun q=>c_t (jaa hc) ?_) (fun q=> ?_)))
 ·have e:jdd f=false:=by
   rw[jdd,Bool.and_eq_false_iff];refine .inl (jad fun⟨a,b,c,d,e,g,i,j⟩=> ?_);simp only[Bool.or_eq_true,jaf,jae,bne_iff_ne]at h;omega
  rw[e]
 ·have q:f.k=4:=by simpa using q
  simp only[Bool.or_eq_false_iff,Bool.and_eq_false_iff,decide_eq_false_iff_not,bne_eq_false_iff_eq]at h;rw[jdd,jaa (by omega),jaa q];congr 1
 ·have q:¬f.k=4:=by simpa using q
  simp only[Bool.or_eq_false_iff,Bool.and_eq_false_iff,decide_eq_false_iff_not,bne_eq_false_iff_eq]at h;rw[jdd,jaa (by omega),jad q,jcl];congr 1;rw[Bool.true_and,cond_false,Bool.eq_iff_iff,jae,jae,←jav];exact List.length_eq_zero_iff.symm
def s71(f:Fo):Bool×Value:=(true,B (decide (f.k≤4)))
theorem fn71:Fn1 Tryz.prog 71 Tryz.f71:= .m Tryz.func71
theorem v71(f:Fo)(R:Value→Prop):jbu Tryz.prog F3 noL Tryz.f71 [Enc.enc f] (fun _=>none) 0 (fun v _ _=>R v)=(R (B (decide (Fo.k f≤4)))):=by kernel_rfl
theorem ok71:jam Tryz.prog 71 (sp1 s71):=by
 refine jda ok_F3 hmix fn71 jai jag fun f hc=> ?_
 rw[jbv,v71]
 try dsimp only[s71]
def typE(t:Ty):Int:=if chk4 t≠0 then chk4 t else if t.k=6 then 5 else 0
def s55(t:Ty):Bool×Value:=(decide (t.s.size≤9223372036854775807),I (typE t))
theorem fn55:Fn1 Tryz.prog 55 Tryz.f55:= .m Tryz.func55
theorem v55(t:Ty)(R:Value→Prop):jbu Tryz.prog F3 noL Tryz.f55 [Enc.enc t] (fun _=>none) 0 (fun v _ _=>R v)=(f0 (decide (sz63 t)) (chk4 t !=0) (R (I (chk4 t))) (bif dl t 6 then R (ak 5)else R (ak 0))):=by kernel_rfl
theorem ok55:jam Tryz.prog 55 (sp1 s55):=by
 refine jda ok_F3 hmix fn55 jai jag fun t hc=> ?_
 rw[jbv,v55];delta f0 ak dl;have hc:(t.s.size≤9223372036854775807):=jab hc
 try dsimp only[s55]
 refine c_t (jaa hc) (cond_intro (fun h=> ?_) (fun h=>cond_intro (fun q=> ?_) (fun q=> ?_)))
 ·rw[typE,if_pos (by simpa using h)]
 ·rw[typE,if_neg (by simpa using h),if_pos (by simpa using q)]
 ·rw[typE,if_neg (by simpa using h),if_neg (by simpa using q)]
def F4:Env:=(((((((Env.nil.add 72 (sp2 Cx.s30)).add 76 (sp2 s76)).add 7 (sp2 s22f)).add 75 (sp2 s75)).add 62 (sp1 s62)).add 44 (sp1 s44)).add 71 (sp1 s71)).add 55 (sp1 s55)
theorem ok_F4:jap Tryz.prog F4:=jak (jak (jak (jak (jak (jak (jak (jak ja5 (jik Cx.ok30)) ok76) (jik ok22f)) ok75) ok62) ok44) ok71) ok55
def s37(f:Fo):Bool×Value:=(decide (f.s.size≤9223372036854775807),I (if jdd f=true∧f.k≤4 then 0 else 130))
theorem fn37:Fn1 Tryz.prog 37 Tryz.f37:= .m Tryz.func37
theorem v37(f:Fo)(R:Value→Prop):jbu Tryz.prog F4 noL Tryz.f37 [Enc.enc f] (fun _=>none) 0 (fun v _ _=>R v)=(bif decide ((Fo.s f).size≤9223372036854775807) && (!jdd f || true)then bif !jdd f || !decide (Fo.k f≤4)then R (I 130)else R (I 0)else False):=by kernel_rfl
theorem ok37:jam Tryz.prog 37 (sp1 s37):=by
 refine jda ok_F4 hmix fn37 jai jag fun f hc=> ?_
 rw[jbv,v37];have hc:(f.s.size≤9223372036854775807):=jab hc
 try dsimp only[s37]
 refine c_t (by simp[hc]) (cond_intro (fun h=> ?_) (fun h=> ?_))
 ·rw[if_neg];rintro ⟨a,b⟩;simp[a,b]at h
 ·simp only[Bool.or_eq_false_iff,Bool.not_eq_false',jae]at h;rw[if_pos h]
def fitE(v:Vl)(t:Ty):Int:=if fit4 v t≠0 then fit4 v t else typE t
def edF(w b n q:Int):F:=bif (roF (scZ n q).2.1 (scZ n q).2.2 b).2&&decide (((fixF (scZ n q).1 (roF (scZ n q).2.1 (scZ n q).2.2 b).1 b).length:Int)≤w)then repZ [32] (w-(fixF (scZ n q).1 (roF (scZ n q).2.1 (scZ n q).2.2 b).1 b).length).toNat++fixF (scZ n q).1 (roF (scZ n q).2.1 (scZ n q).2.2 b).1 b else repZ [42] w.toNat
def s38(v:Vl)(t:Ty):Bool×Value:=(decide (t.s.size≤9223372036854775807∧v.s.size≤9223372036854775807),I (fitE v t))
theorem fn38:Fn1 Tryz.prog 38 Tryz.f38:= .m Tryz.func38
theorem v38(v:Vl)(t:Ty)(R:Value→Prop):jbu Tryz.prog F4 noL Tryz.f38 [Enc.enc v,Enc.enc t] (fun _=>none) 0 (fun v _ _=>R v)=(bif jq t v then bif fit4 v t !=0 then R (I (fit4 v t))else b5 (cl (Fx.Ty.s t)) (I (Ff.typE t)) R else False):=by kernel_rfl
theorem ok38:jam Tryz.prog 38 (sp2 s38):=by
 refine jfq ok_F4 hmix fn38 jai jag fun v t hc=> ?_
 rw[jbv,v38];delta b5 cl gl jq;have hc:(t.s.size≤9223372036854775807∧v.s.size≤9223372036854775807):=jab hc
 try dsimp only[s38]
 refine c_t (jaa hc) (cond_intro (fun h=> ?_) (fun h=>c_t (jaa hc.1) ?_))
 ·rw[fitE,if_pos (by simpa using h)]
 ·rw[fitE,if_neg (by simpa using h)]
theorem scZ_ok{n q:Int}(hn: -2147483648≤n∧n≤2147483648)(hq: -1000≤q∧q≤1000):IsB (scZ n q).2.1∧(scZ n q).2.1.length≤10∧ -2000≤(scZ n q).2.2∧(scZ n q).2.2≤2000:=by
 have hl:=ji5 (m:=(n.natAbs:Int)) (by omega);have ht:=tr_len (itoZ (n.natAbs:Int)) 48;unfold scZ;split
 ·exact⟨IsB.nil,by simp,by simp,by simp⟩
 ·exact⟨isB_tr (ito_isB _) _,by simp only;omega,by simp only;omega,by simp only;omega⟩
theorem ptZ_isB{p:F}(h:IsB p)(b:Int):IsB (ptZ p b):=by
 unfold ptZ;split
 ·exact((h.take _).append (IsB.cons (by omega) IsB.nil)).append (h.drop _)
 ·exact h
theorem fixF_isB{s:F}(h:IsB s)(g:Bool)(b:Int):IsB (fixF g s b):=by
 refine IsB.append ?_ (ptZ_isB (pad_isB h _) b);split
 ·exact IsB.cons (by omega) IsB.nil
 ·exact IsB.nil
theorem fixF_len{s:F}(h:s.length≤300)(g:Bool){b:Int}(hb:0≤b∧b≤9):(fixF g s b).length≤320:=by
 obtain⟨p1,p2,p3⟩:=pad_len (l:=s) (n:=b+1) (by omega) (by omega)
 have e:(ptZ (padN s (b+1)) b).length≤311:=by
  unfold ptZ;split
  ·simp only[List.length_append,List.length_take,List.length_drop,List.length_cons,List.length_nil];omega
  ·omega
 rw[fixF,List.length_append];split<;>simp<;>omega
theorem szO_two{a b:F}(ha:IsB a)(hb:IsB b):szO a++szO b=szO (a++b):=by
 rw[←jj3 (s:=szO a++szO b) (l:=a++b) (by rw[jct,jd6 ha,jd6 hb])]
def s39(f:Fo)(v:Vl)(t:Ty):Bool×Value:=(decide (f.k=3∧0≤f.w∧f.w≤255∧0≤f.d∧f.d≤9∧t.k=1∧ -2147483648≤v.n∧v.n≤2147483648∧ -1000≤t.q∧t.q≤1000),S (szO (edF f.w f.d v.n t.q)))
theorem fn39:Fn1 Tryz.prog 39 Tryz.f39:= .m Tryz.func39
def j3(c:Ff.Fo)(a:Fx.Ty)(b:Fx.Vl):Prod F Bool:=Ff.roF (bz (szO (jf a b).fst)) (jf a b).snd (Ff.Fo.d c)
def jg(c:Ff.Fo)(b:Fx.Ty)(a:Fx.Vl):Y:=szO (bif (j3 c b a).snd then Ff.fixF (Prod.fst (Ff.scZ (Fx.Vl.n a) (Fx.Ty.q b))) (j3 c b a).fst (Ff.Fo.d c)else [])
theorem v39(f:Fo)(v:Vl)(t:Ty)(R:Value→Prop):jbu Tryz.prog F4 noL Tryz.f39 [Enc.enc f,Enc.enc v,Enc.enc t] (fun _=>none) 0 (fun v _ _=>R v)=(f0 (decide (Ff.Fo.k f≠4)) (jd ⟨#[42]⟩ (Ff.Fo.w f)) (bif Ff.Fo.k f==1 then False else bif Ff.Fo.k f==2 then False else bif Ff.Fo.k f==3 then bif decide (Fx.Ty.k t=1∧ -(2147483648:Int)≤Fx.Vl.n v∧Fx.Vl.n v≤2147483648∧ -(1000:Int)≤Fx.Ty.q t∧Fx.Ty.q t≤1000)then bif ku (szO (jf t v).fst) (Ff.Fo.d f) (jf t v).snd then bm (!(j3 f t v).snd) true (!(j3 f t v).snd || aq (al (jg f t v)) (Ff.Fo.w f)) (R (S (je (Ff.Fo.w f) 42))) (bif jd ⟨#[32]⟩ (a8 (Ff.Fo.w f) (al (jg f t v)))then b5 (gp (je (a8 (Ff.Fo.w f) (al (jg f t v))) 32) (jg f t v)) (S (je (a8 (Ff.Fo.w f) (al (jg f t v))) 32++jg f t v)) R else False)else False else False else False) False):=by kernel_rfl
theorem ok39:jam Tryz.prog 39 (sp3 s39):=by
 refine qure3 ok_F4 hmix fn39 jai jag fun f v t hc=> ?_
 rw[jbv,v39];delta f0 bm b5 jf j3 jg je a8 al gp jd aq ku;have hc:(f.k=3∧0≤f.w∧f.w≤255∧0≤f.d∧f.d≤9∧t.k=1∧ -2147483648≤v.n∧v.n≤2147483648∧ -1000≤t.q∧t.q≤1000):=jab hc
 try dsimp only[s39]
 obtain⟨hk,hw0,hw1,hd0,hd1,ht,hn0,hn1,hq0,hq1⟩:=hc;obtain⟨z1,z2,z3,z4⟩:=scZ_ok ⟨hn0,hn1⟩ ⟨hq0,hq1⟩;have c42:bz (ByteArray.mk #[42])=[42]:=rfl;have c32:bz (ByteArray.mk #[32])=[32]:=rfl;rw[show(f.k==1)=false by simp[hk],show(f.k==2)=false by simp[hk],show(f.k==3)=true by simp[hk],jd6 z1,c42,c32,edF];simp only[cond_false,cond_true];generalize hG:scZ v.n t.q=Z at*;generalize hR:roF Z.2.1 Z.2.2 f.d=r;have hI:IsB r.1:=hR▸roF_isB z1 _ _;have hF:=fixF_isB hI Z.1 f.d;refine c_t (jaa (by omega)) (c_t (jaa ⟨by omega,by omega,by decide⟩) (c_t (jaa ⟨ht,hn0,hn1,hq0,hq1⟩) (c_t (jaa ⟨by rw[jcx];omega,by omega,by omega,by omega,by omega⟩) (c_t (by simp) ?_))));cases hr:r.2
 ·rw[Bool.false_and,cond_false];exact c_t rfl rfl
 rw[Bool.true_and,cond_true,Bool.not_true,Bool.false_or,jcx];have hl:(fixF Z.1 r.1 f.d).length≤320:=fixF_len (by rw[←hR]at hr ⊢;exact roF_len hr) _ ⟨hd0,hd1⟩;apply cond_intro<;>intro h
 ·have h:=jab h;rw[jad (by omega),cond_false]
 ·have h:=jac h;rw[jaa (show((fixF Z.1 r.1 f.d).length:Int)≤f.w by omega),cond_true,w64 (by omega)];have hp:IsB (repZ [32] (f.w-((fixF Z.1 r.1 f.d).length:Int)).toNat):=by rw[jdz];exact fun c hc=>by rw[List.eq_of_mem_replicate hc];omega
  refine c_t (jaa ⟨by omega,by omega,by decide⟩) (c_t (jcr ?_) ?_)
  ·rw[jcx,jdz,List.length_replicate];omega
  ·rw[szO_two hp hF]
def F5:Env:=((Env.nil.add 37 (sp1 s37)).add 38 (sp2 s38)).add 39 (sp3 s39)
theorem ok_F5:jap Tryz.prog F5:=jak (jak (jak ja5 ok37) ok38) ok39
def c8(f:Fo)(v:Vl)(t:Ty):Prop:=((f.k=3∧0≤f.w∧f.w≤255∧0≤f.d∧f.d≤9∧t.k=1∧ -2147483648≤v.n∧v.n≤2147483648∧ -1000≤t.q∧t.q≤1000)∧f.s.size≤9223372036854775807∧t.s.size≤9223372036854775807∧v.s.size≤9223372036854775807∧jdd f=true∧fitE v t=0)
instance (f:Fo)(v:Vl)(t:Ty):Decidable (c8 f v t):=by unfold c8;infer_instance
def s8(f:Fo)(v:Vl)(t:Ty):Bool×Value:=(decide (c8 f v t),.tuple ⟨[S (szO (edF f.w f.d v.n t.q)),I 0]⟩)
theorem fn8:Fn1 Tryz.prog 8 Tryz.f8:= .m Tryz.func8
theorem v8(f:Fo)(v:Vl)(t:Ty)(R:Value→Prop):jbu Tryz.prog F5 noL Tryz.f8 [Enc.enc f,Enc.enc v,Enc.enc t] (fun _=>none) 0 (fun v _ _=>R v)=(bif cl (Ff.Fo.s f)then bif (if Ff.jdd f=true∧Ff.Fo.k f≤4 then(0:Int)else(130:Int)) !=0 then bw [dy,I (if Ff.jdd f=true∧Ff.Fo.k f≤4 then 0 else 130)] R else bif jq t v then bif Ff.fitE v t !=0 then bw [dy,I (Ff.fitE v t)] R else e9 (decide (Ff.Fo.k f=3∧0≤Ff.Fo.w f∧Ff.Fo.w f≤255∧0≤Ff.Fo.d f∧Ff.Fo.d f≤9∧Fx.Ty.k t=1∧ -(2147483648:Int)≤Fx.Vl.n v∧Fx.Vl.n v≤2147483648∧ -(1000:Int)≤Fx.Ty.q t∧Fx.Ty.q t≤1000)) [S (szO (Ff.edF (Ff.Fo.w f) (Ff.Fo.d f) (Fx.Vl.n v) (Fx.Ty.q t))),ak 0] R else False else False):=by kernel_rfl
theorem ok8:jam Tryz.prog 8 (sp3 s8):=by
 refine qure3 ok_F5 hmix fn8 jai jag fun f v t hc=> ?_
 rw[jbv,v8];delta bw e9 ak az dy gl jq cl;have hc:(c8 f v t):=jab hc
 try dsimp only[s8]
 obtain⟨hA,h1,h2,h3,h4,h5⟩:=hc;rw[if_pos ⟨h4,by omega⟩,h5];simp only[bne_self_eq_false,cond_false];exact c_t (jaa h1) (c_t (jaa ⟨h2,h3⟩) (c_t (jaa hA) trivial))
theorem p10(k:Nat):(0:Int)<10^k:=Int.pow_pos (by decide)
theorem jf0{L0 R:F}{c:Int}{i:Nat}(h:L0.length=i):(L0++c::R).getD i 0=c:=by subst h;simp[List.getD_eq_getElem?_getD]
theorem set_mid{L0 R:F}{c x:Int}{i:Nat}(h:L0.length=i):(L0++c::R).set i x=L0++x::R:=by subst h;simp
theorem plus_ne{i:Nat}{L:F}(h:L.getD i 0≠57):jb8 i L=L.set i (IntKind.u8.wrap (L.getD i 0+1)):=by
 cases i<;>simp only[jb8] <;>rw[if_pos h]
theorem plus_val:∀(n:Nat)(L R:F),L.length=n+1→jbw L=true→(∃c∈L,c≠57)→ ∃L',jb8 n (L++R)=L'++R∧jbw L'=true∧L'.length=n+1∧decG L' 0=decG L 0+1
 | n,L,R,hl,hd,hx=>by
  obtain⟨L0,c,rfl⟩:∃L0 c,L=L0++ [c]:=⟨L.dropLast,L.getLast (by intro e;simp[e]at hl),(List.dropLast_concat_getLast _).symm⟩
  have h0:L0.length=n:=by simpa using hl
  have e1:L0++ [c]++R=L0++c::R:=by simp
  rw[jc9,jaf]at hd;have hc:48≤c∧c≤57:=by simpa[jbw,dig]using hd.2
  rw[e1];by_cases h:c=57
  ·subst h
   match n,h0 with
   | 0,h0=>
    obtain⟨d,hd',hne⟩:=hx;rw[List.length_eq_zero_iff.1 h0]at hd';simp at hd';exact absurd hd' hne
   | n+1,h0=>
    obtain⟨L',a1,a2,a3,a4⟩:=plus_val n L0 (48::R) h0 hd.1 (by
     obtain⟨d,q,r⟩:=hx;rcases List.mem_append.1 q with q | q
     ·exact⟨d,q,r⟩
     ·simp at q;exact absurd q r)
    refine⟨L'++ [48],?_,?_,?_,?_⟩
    ·rw[jb8,jf0 h0,if_neg (by simp),set_mid h0,a1];simp
    ·rw[jc9,a2];rfl
    ·simp[a3]
    ·rw[jcm,jcm,a4];simp only[decG];omega
  ·refine⟨L0++ [c+1],?_,?_,?_,?_⟩
   ·rw[plus_ne (by rw[jf0 h0];exact h),jf0 h0,set_mid h0,w8 (by omega)];simp
   ·rw[jc9,hd.1];simp[jbw,dig];omega
   ·simp[h0]
   ·rw[jcm,jcm];simp only[decG];omega
def rndV(m P:Int):Int:=(2*m+P)/(2*P)
theorem jgt{A B v:Int}(hB:0<B)(h1:v*B≤A)(h2:A<v*B+B):A/B=v:=by
 have a:=Int.le_ediv_of_mul_le hB h1;have b:=Int.ediv_lt_of_lt_mul hB (show A<(v+1)*B by rw[Int.add_mul,Int.one_mul];exact h2);omega
theorem jgw{l:F}(h:jbw l=true)(k:Nat):jbw (l.take k)=true:=List.all_eq_true.2 fun c hc=>List.all_eq_true.1 h c (List.mem_of_mem_take hc)
theorem jgx{l:F}(h:jbw l=true)(k:Nat):jbw (l.drop k)=true:=List.all_eq_true.2 fun c hc=>List.all_eq_true.1 h c (List.mem_of_mem_drop hc)
theorem digs_tl{l:F}(h:jbw l=true)(c:Int):jbw (tlZ l c)=true:=List.all_eq_true.2 fun d hd=>List.all_eq_true.1 h d ((List.dropWhile_sublist _).subset hd)
theorem tl_val(l:F):decG (tlZ l 48) 0=decG l 0:=by
 obtain⟨j,e⟩:=tl_app l;have:=jcm (jdf j) (tlZ l 48) 0;rw[←e,je3,Int.zero_mul]at this;exact this.symm
theorem up_val{l:F}(hl:jbw l=true){e:Nat}(he:1≤e)(hk:e≤l.length):
  jbw (upS l (l.length-e))=true∧(upS l (l.length-e)).length≤l.length-e+1∧decG (upS l (l.length-e)) 0=rndV (decG l 0) (10^e):=by
 obtain⟨k,hke⟩:∃k,l.length-e=k:=⟨_,rfl⟩
 rw[hke];have hkl:k<l.length:=by omega
 obtain⟨r,c,hr⟩:∃r c,l.drop k=c::r:=⟨l.drop (k+1),l[k],List.drop_eq_getElem_cons hkl⟩
 have htl:(l.take k).length=k:=by rw[List.length_take];omega
 have hrl:r.length=e-1:=by
  have:=congrArg List.length hr;rw[List.length_drop,List.length_cons]at this;omega
 have hsp:l=l.take k++c::r:=by rw[←hr,List.take_append_drop]
 have hgd:l.getD k 0=c:=by
  have:=jf0 (L0:=l.take k) (R:=r) (c:=c) htl;rw[←hsp]at this;exact this
 have hdr:jbw (c::r)=true:=hr▸jgx hl k;have hdt:=jgw hl k;simp only[jbw,List.all_cons,jaf]at hdr;have hc:48≤c∧c≤57:=by simpa[dig]using hdr.1
 have hr0:=jf4 r hdr.2;have hr1:=jjb r hdr.2;rw[hrl]at hr1
 have hv:decG l 0=decG (l.take k) 0*(10^ (e-1)*10)+((c-48)*10^ (e-1)+decG r 0):=by
  have h1:=jcm (l.take k) (c::r) 0;rw[←hsp,je4 (c::r),List.length_cons,hrl,Int.pow_succ]at h1;rw[h1,decG,je4 r (10*0+(c-48)),hrl,Int.mul_zero,Int.zero_add]
 have hP:(10:Int) ^e=10^ (e-1)*10:=by
  rw[←Int.pow_succ,show(e-1).succ=e by omega]
 have hQ:=p10 (e-1);rw[hv,hP];generalize (10:Int) ^ (e-1)=Q at*;generalize decG r 0=ρ at*;generalize hH:decG (l.take k) 0=H at*;have x1:H*(2*(Q*10))=20*(H*Q):=by grind
 have x2:(H+1)*(2*(Q*10))=20*(H*Q)+20*Q:=by grind
 have x3:H*(Q*10)=10*(H*Q):=by grind
 have m1:(c-48)*Q≤9*Q:=Int.mul_le_mul_of_nonneg_right (by omega) (by omega);unfold upS rndV;rw[hgd];by_cases h5:53≤c
 ·rw[if_pos h5];have m2:5*Q≤(c-48)*Q:=Int.mul_le_mul_of_nonneg_right (by omega) (by omega);obtain⟨L',a1,a2,a3,a4⟩:=plus_val k (48::l.take k) [] (by rw[List.length_cons,htl]) (by simp[jbw,dig]at hdt ⊢;exact hdt) ⟨48,List.mem_cons_self,by decide⟩;rw[List.append_nil,List.append_nil]at a1;rw[a1];refine⟨a2,by omega,?_⟩;have:decG (48::l.take k) 0=H:=by rw[decG,←hH];rfl
  rw[a4,this];exact(jgt (by omega) (by omega) (by omega)).symm
 ·rw[if_neg h5];have m2:(c-48)*Q≤4*Q:=Int.mul_le_mul_of_nonneg_right (by omega) (by omega);have m3:0*Q≤(c-48)*Q:=Int.mul_le_mul_of_nonneg_right (by omega) (by omega);refine⟨hdt,by omega,?_⟩;rw[hH];exact(jgt (by omega) (by omega) (by omega)).symm
def valF(n q b:Int):Int:=if q≤b then n*10^ (b-q).toNat else rndV n (10^ (q-b).toNat)
theorem rnd_mul{m P Z:Int}(hP:0<P)(hZ:0<Z):rndV (m*Z) (P*Z)=rndV m P:=by
 unfold rndV;rw[show 2*(m*Z)+P*Z=Z*(2*m+P)by grind,show 2*(P*Z)=Z*(2*P)by grind,Int.mul_ediv_mul_of_pos _ _ hZ]
theorem rnd_ex{v P:Int}(hP:0<P):rndV (v*P) P=v:=by
 refine jgt (by omega) ?_ ?_
 ·rw[show v*(2*P)=2*(v*P)by grind];omega
 ·rw[show v*(2*P)=2*(v*P)by grind];omega
theorem ro_val{l:F}{z:Nat}{n q b:Int}(hl:jbw l=true)(hn:decG l 0*10^z=n)(hz:l.length+z≤10)(hq:0≤q∧q≤9)(hb:0≤b∧b≤9):
  (roF l (q-z) b).2=true∧jbw (roF l (q-z) b).1=true∧(roF l (q-z) b).1.length≤19∧decG (roF l (q-z) b).1 0=valF n q b:=by
 have hm:=jf4 l hl;unfold roF;by_cases h1:q-z≤b
 ·obtain⟨k,hk⟩:∃k:Nat,b-(q-z)=(k:Int):=⟨(b-(q-z)).toNat,by omega⟩
  rw[if_pos h1,if_neg (by omega),hk,show(min (k:Int) 300).toNat=k by omega,jdz,←jdf];have hd:jbw (l++jdf k)=true:=by rw[jc9,hl,je6];rfl
  have hle:(l++jdf k).length=l.length+k:=by rw[List.length_append,jdf,List.length_replicate]
  have:=jig (l++jdf k) 48;refine⟨jaa (by omega),digs_tl hd _,by simp only;omega,?_⟩;rw[tl_val,jcm,je3,valF];split
  ·rename_i h2;rw[←hn,Int.mul_assoc,←Int.pow_add,show z+(b-q).toNat=k by omega]
  ·rename_i h2;rw[←hn,show z=k+(q-b).toNat by omega,Int.pow_add,←Int.mul_assoc,rnd_ex (p10 _)]
 ·obtain⟨e,he⟩:∃e:Nat,q-z-b=(e:Int):=⟨(q-z-b).toNat,by omega⟩
  have hv:valF n q b=rndV (decG l 0) (10^e):=by
   rw[valF,if_neg (by omega),←hn,show(q-b).toNat=e+z by omega,Int.pow_add,rnd_mul (p10 _) (p10 _)]
  rw[if_neg h1];by_cases h2:(l.length:Int)+(b-(q-z))<0
  ·rw[if_pos h2];refine⟨rfl,rfl,by simp,?_⟩;rw[hv];show(0:Int)=_;have h3:=jjb l hl
   have h4:(10:Int) ^ (l.length+1)≤10^e:=by
    have:(10:Nat) ^ (l.length+1)≤10^e:=Nat.pow_le_pow_right (by decide) (by omega)
    exact_mod_cast this
   rw[Int.pow_succ]at h4;have hp:=p10 e;exact(jgt (by omega) (by omega) (by omega)).symm
  ·rw[if_neg h2,show((l.length:Int)+(b-(q-z))).toNat=l.length-e by omega];obtain⟨u1,u2,u3⟩:=up_val hl (e:=e) (by omega) (by omega);have:=jig (upS l (l.length-e)) 48;refine⟨jaa (by omega),digs_tl u1 _,by simp only;omega,?_⟩;rw[tl_val,u3,hv]
theorem sc_ro{n q b:Int}(hn: -1000000000<n∧n<1000000000)(hq:0≤q∧q≤9)(hb:0≤b∧b≤9):
  (roF (scZ n q).2.1 (scZ n q).2.2 b).2 = true ∧ jbw (roF (scZ n q).2.1 (scZ n q).2.2 b).1 = true ∧ (roF (scZ n q).2.1 (scZ n q).2.2 b).1.length ≤ 19 ∧ decG (roF (scZ n q).2.1 (scZ n q).2.2 b).1 0 = valF (n.natAbs : Int) q b ∧
   ((scZ n q).1=decide (n<0)∨valF (n.natAbs:Int) q b=0):=by
 obtain⟨d1,d2⟩:=ito_digs (m:=(n.natAbs:Int)) (by omega);have d3:=ito_val (m:=(n.natAbs:Int)) (by omega);have d4:=ji5 (m:=(n.natAbs:Int)) (by omega);obtain⟨z,e1,e2⟩:=tr_app (itoZ (n.natAbs:Int))
 have d5:jbw (trZ (itoZ (n.natAbs:Int)) 48)=true:=by
  have:=d1;rw[e1,jc9,jaf]at this;exact this.1
 have d6:decG (trZ (itoZ (n.natAbs:Int)) 48) 0*10^z=(n.natAbs:Int):=by
  have:=d3;rw[e1,jcm,je3]at this;exact this
 unfold scZ;split
 ·rename_i h;have h0:(n.natAbs:Int)=0:=by rw[←d6,h];simp[decG]
  obtain⟨r1,r2,r3,r4⟩:=ro_val (l:=[]) (z:=q.toNat) (n:=0) (q:=q) (b:=b) rfl (by simp[decG]) (by simp;omega) hq hb;rw[show q-(q.toNat:Int)=0 by omega]at r1 r2 r3 r4;rw[h0];refine⟨r1,r2,r3,r4,.inr ?_⟩;rw[valF];split
  ·simp
  ·have hp:=p10 (q-b).toNat;exact jgt (by omega) (by omega) (by omega)
 ·obtain⟨r1,r2,r3,r4⟩:=ro_val (l:=trZ (itoZ (n.natAbs:Int)) 48) (z:=z) (q:=q) (b:=b) d5 d6 (by omega) hq hb;simp only;rw[show q-(((itoZ (n.natAbs:Int)).length:Int)-(trZ (itoZ (n.natAbs:Int)) 48).length)=q-z by omega];exact⟨r1,r2,r3,r4,.inl trivial⟩
theorem jep:∀(a b:F)(n:Int)(g:Bool),rdG (a++b) n g=rdG b (rdG a n g).1 (rdG a n g).2
 | [],_,_,_=>rfl
 | c::r,b,n,g=>by
  rw[List.cons_append,rdG,rdG];split
  ·exact jep r b _ _
  ·split
   ·exact jep r b _ _
   ·exact jep r b _ _
theorem jfw:∀(l:F)(n:Int)(g:Bool),jbw l=true→0≤n→decG l n≤9223372036854775807→rdG l n g=(decG l n,g)
 | [],_,_,_,_,_=>rfl
 | c::r,n,g,h,h0,h1=>by
  simp only[jbw,List.all_cons,jaf]at h;have hc:48≤c∧c≤57:=by simpa[dig]using h.1
  rw[decG]at h1;have:=jh8 r (10*n+(c-48)) h.2 (by omega);rw[rdG,if_neg (by omega),if_pos hc,w64 (n:=10*n) (by omega),w8 (by omega),w64 (n:=c-48) (by omega),w64 (by omega),decG];exact jfw r _ g h.2 (by omega) h1
theorem je7(a b:F):rdK (a++b)=(rdK a&&rdK b):=List.all_append
theorem jec{l:F}(h:jbw l=true):rdK l=true:=List.all_eq_true.2 fun c hc=>by
 have:=List.all_eq_true.1 h c hc;have hc:48≤c∧c≤57:=by simpa[dig]using this
 exact jaa (.inr (.inl hc))
theorem ptZ_rd{p:F}{b v:Int}{g:Bool}(h:jbw p=true)(hv:decG p 0=v)(hm:v≤9223372036854775807):rdK (ptZ p b)=true∧rdG (ptZ p b) 0 g=(v,g):=by
 unfold ptZ;split
 ·generalize hk:p.length-b.toNat=k;have e:decG (p.drop k) (decG (p.take k) 0)=v:=by rw[←jcm,List.take_append_drop,hv]
  have h1:=jgw h k;have h2:=jgx h k;have h3:=jf4 _ h1;have h4:=jh8 (p.drop k) _ h2 h3;refine⟨by rw[je7,je7,jec h1,jec h2];rfl,?_⟩;rw[jep,jep,jfw _ _ _ h1 (by omega) (by omega)];rw[show rdG [46] (decG (p.take k) 0) g=(decG (p.take k) 0,g)from rfl,jfw _ _ _ h2 h3 (by omega),e]
 ·refine⟨jec h,?_⟩;rw[jfw _ _ _ h (by omega) (by omega),hv]
theorem fix_rd{s:F}{b v:Int}{g:Bool}(h:jbw s=true)(hv:decG s 0=v)(hm:v≤9223372036854775807):
  rdT (fixF g s b)=(if g=true then -v else v,true):=by
 have hp:jbw (padN s (b+1))=true:=by
  rw[padN,jc9,h,Bool.and_true];exact je6 _
 have hpv:decG (padN s (b+1)) 0=v:=by
  rw[padN,jcm,←jdf,je3,Int.zero_mul,hv]
 have h0:=jf4 s h;rw[fixF,rdT,je7];by_cases hg:g=true∧s≠ []
 ·obtain⟨k1,k2⟩:=ptZ_rd (b:=b) (g:=true) hp hpv hm;rw[if_pos hg,if_pos hg.1,k1,jep,show rdG [45] 0 false=(0,true)from rfl,k2];show(IntKind.i64.wrap (0-v),true)=_;rw[w64 (by omega),Int.zero_sub]
 ·obtain⟨k1,k2⟩:=ptZ_rd (b:=b) (g:=false) hp hpv hm;rw[if_neg hg,k1,jep,show rdG [] 0 false=(0,false)from rfl,k2];show(v,true)=_;split
  ·rename_i hg1
   have hs:s=[]:=by
    by_cases q:s=[]
    ·exact q
    ·exact absurd ⟨hg1,q⟩ hg
   have:v=0:=by rw[←hv,hs];rfl
   rw[this];rfl
  ·rfl
theorem fix_k{s:F}{b:Int}{g:Bool}(h:jbw s=true):rdK (fixF g s b)=true:=by
 have hp:jbw (padN s (b+1))=true:=by
  rw[padN,jc9,h,Bool.and_true];exact je6 _
 rw[fixF,je7]
 have k1:rdK (ptZ (padN s (b+1)) b)=true:=by
  unfold ptZ;split
  ·rw[je7,je7,jec (jgw hp _),jec (jgx hp _)];rfl
  ·exact jec hp
 rw[k1];split<;>rfl
theorem fix_len{s:F}{b:Int}{g:Bool}(h:s.length≤19)(hb:0≤b∧b≤9):1≤(fixF g s b).length∧(fixF g s b).length≤25:=by
 have e:(padN s (b+1)).length≤19∧1≤(padN s (b+1)).length∧s.length≤(padN s (b+1)).length:=by
  rw[padN,List.length_append,List.length_replicate];omega
 have e2:1≤(ptZ (padN s (b+1)) b).length∧(ptZ (padN s (b+1)) b).length≤20:=by
  unfold ptZ;split
  ·simp only[List.length_append,List.length_take,List.length_drop,List.length_cons,List.length_nil];omega
  ·omega
 rw[fixF,List.length_append];split<;>simp<;>omega
def sgV(n q b:Int):Int:=if n<0 then -valF (n.natAbs:Int) q b else valF (n.natAbs:Int) q b
theorem jix{n q b:Int}(hn:0≤n∧n<1000000000)(hq:0≤q∧q≤9)(hb:0≤b∧b≤9):0≤valF n q b∧valF n q b≤1000000000000000000:=by
 rw[valF];split
 ·have h1:∀k:Nat,k<10→(1:Int)≤10^k∧(10:Int) ^k≤1000000000:=by decide
  obtain⟨h2,h3⟩:=h1 (b-q).toNat (by omega);generalize (10:Int) ^ (b-q).toNat=P at*;have a1:n*P≤1000000000*P:=Int.mul_le_mul_of_nonneg_right (by omega) (by omega);have a2:0*P≤n*P:=Int.mul_le_mul_of_nonneg_right (by omega) (by omega);omega
 ·have hp:=p10 (q-b).toNat;unfold rndV;generalize (10:Int) ^ (q-b).toNat=P at*;refine⟨Int.ediv_nonneg (by omega) (by omega),?_⟩;have:=Int.ediv_le_self (2*P) (show 0≤2*n+P by omega)
  have h2:(2*n+P)/(2*P)≤n+1:=by
   refine Int.le_of_lt_add_one (Int.ediv_lt_of_lt_mul (by omega) ?_);have:(n+1+1)*2≤(n+1+1)*(2*P):=Int.mul_le_mul_of_nonneg_left (by omega) (by omega);have e:(n+1+1)*(2*P)=2*(n*P)+4*P:=by grind
   have a:n*1≤n*P:=Int.mul_le_mul_of_nonneg_left (by omega) (by omega);omega
  omega
theorem ed_rd{n q b:Int}(hn: -1000000000<n∧n<1000000000)(hq:0≤q∧q≤9)(hb:0≤b∧b≤9):
  (edF 25 b n q).length=25∧IsB (edF 25 b n q)∧rdT (trZ (tlZ (edF 25 b n q) 32) 32)=(sgV n q b,true):=by
 obtain⟨r1,r2,r3,r4,r5⟩:=sc_ro hn hq hb;obtain⟨v1,v2⟩:=jix (n:=(n.natAbs:Int)) (q:=q) (b:=b) (by omega) hq hb;rw[edF,r1];generalize hs:(roF (scZ n q).2.1 (scZ n q).2.2 b).1=s at*;generalize hg:(scZ n q).1=g at*;obtain⟨f1,f2⟩:=fix_len (g:=g) r3 hb;rw[jaa (show((fixF g s b).length:Int)≤25 by omega)];simp only[Bool.and_true,cond_true];rw[jdz];refine⟨by rw[List.length_append,List.length_replicate];omega,(rep32_isB _).append (fixF_isB (digs_isB r2) _ _),?_⟩;have hk:=fix_k (g:=g) (b:=b) r2
 have ht:=trim_core (bl:=List.replicate (25-((fixF g s b).length:Int)).toNat 32) (m:=fixF g s b) (br:=[]) (List.all_eq_true.2 fun c hc=>by rw[List.eq_of_mem_replicate hc];rfl) rfl
  (fun hm=>by have:=List.all_eq_true.1 hk _ hm;exact absurd this (by decide)) (fun e=>by rw[e]at f1;simp at f1)
 rw[List.append_nil]at ht;rw[←trR_eq,←trL_eq,ht,fix_rd r2 r4 (by omega),sgV];congr 1;rcases r5 with r5 | r5
 ·rw[r5];simp only[jae]
 ·rw[r5];split<;>split<;>rfl
theorem val_mono{m n q b:Int}(h0:0≤m)(h:m≤n):valF m q b≤valF n q b:=by
 unfold valF;split
 ·exact Int.mul_le_mul_of_nonneg_right h (Int.le_of_lt (p10 _))
 ·have hp:=p10 (q-b).toNat;exact Int.ediv_le_ediv (by omega) (by omega)
theorem sg_mono{a b q d:Int}(ha: -1000000000<a∧a<1000000000)(hb: -1000000000<b∧b<1000000000)(hq:0≤q∧q≤9)(hd:0≤d∧d≤9)(h:a≤b):sgV a q d≤sgV b q d:=by
 have v1:=(jix (n:=(a.natAbs:Int)) (q:=q) (b:=d) (by omega) hq hd).1;have v2:=(jix (n:=(b.natAbs:Int)) (q:=q) (b:=d) (by omega) hq hd).1;unfold sgV;split<;>split
 ·have:=val_mono (m:=(b.natAbs:Int)) (n:=(a.natAbs:Int)) (q:=q) (b:=d) (by omega) (by omega);omega
 ·omega
 ·omega
 ·exact val_mono (by omega) (by omega)
theorem sg_le{n q b:Int}(h:q≤b):sgV n q b=n*10^ (b-q).toNat:=by
 unfold sgV;split
 ·rw[valF,if_pos h,←Int.neg_mul];congr 1;omega
 ·rw[valF,if_pos h];congr 1;omega
theorem rnd_bd{n P:Int}(hP:0<P):2*(rndV n P*P-n)≤P∧ -P<2*(rndV n P*P-n):=by
 have h1:=Int.ediv_mul_le (2*n+P) (show 2*P≠0 by omega);have h2:=Int.lt_ediv_add_one_mul_self (2*n+P) (show 0<2*P by omega);unfold rndV;generalize (2*n+P)/(2*P)=v at*;rw[show v*(2*P)=2*(v*P)by grind]at h1;rw[show(v+1)*(2*P)=2*(v*P)+2*P by grind]at h2;omega
theorem off_ok{a q d:Int}(ha: -1000000000<a∧a<1000000000)(hq:0≤q∧q≤9)(hd:0≤d∧d≤9):
  ∃K off:Int,pw10 (imax (IntKind.i64.wrap (q-d)) 0)=K∧IntKind.i64.wrap (IntKind.i64.wrap (sgV a q d*K)-IntKind.i64.wrap (a*pw10 (imax (IntKind.i64.wrap (d-q)) 0)))=off∧
   (2*off≤K∧ -(2*off)≤K)∧K≤1000000000∧(K=1→off=0):=by
 have h1:∀k:Nat,k<10→(1:Int)≤10^k∧(10:Int) ^k≤1000000000:=by decide
 rw[w64 (n:=q-d) (by omega),w64 (n:=d-q) (by omega),jhy,jhy];by_cases h:q≤d
 ·obtain⟨h2,h3⟩:=h1 (d-q).toNat (by omega);have v2:sgV a q d=a*10^ (d-q).toNat:=sg_le h;refine⟨1,0,?_,?_,by omega,by omega,fun _=>rfl⟩
  ·rw[show max (q-d) 0=0 by omega];rfl
  ·rw[v2,Int.mul_one,show max (d-q) 0=d-q by omega,pw10,Int.sub_self];rfl
 ·obtain⟨h2,h3⟩:=h1 (q-d).toNat (by omega);obtain⟨b1,b2⟩:=rnd_bd (n:=(a.natAbs:Int)) (P:=10^ (q-d).toNat) (by omega)
  have h10:(10:Int)≤10^ (q-d).toNat:=by
   have h4:∀k:Nat,k<9→(10:Int)≤10^ (k+1):=by decide
   have:=h4 ((q-d).toNat-1) (by omega);rw[show(q-d).toNat-1+1=(q-d).toNat by omega]at this;exact this
  have hv:sgV a q d=if a<0 then -(rndV (a.natAbs:Int) (10^ (q-d).toNat))else rndV (a.natAbs:Int) (10^ (q-d).toNat):=by
   rw[sgV,valF,if_neg h]
  rw[show max (q-d) 0=q-d by omega,show max (d-q) 0=0 by omega,pw10,pw10,hv];generalize rndV (a.natAbs:Int) (10^ (q-d).toNat)=v at*;generalize (10:Int) ^ (q-d).toNat=P at*;have e1:a*10^ (0:Int).toNat=a:=by simp
  rw[e1,w64 (n:=a) (by omega)];split
  ·refine⟨P,-(v*P)-a,rfl,?_,by omega,by omega,by omega⟩;rw[Int.neg_mul,w64 (n:= -(v*P)) (by omega),w64 (by omega)]
  ·refine⟨P,v*P-a,rfl,?_,by omega,by omega,by omega⟩;rw[w64 (n:=v*P) (by omega),w64 (by omega)]
theorem fit_dec{v:Vl}{t:Ty}(hk:t.k=1)(h:fit4 v t=0):(-1000000000<v.n∧v.n<1000000000)∧(0≤t.q∧t.q≤9)∧typE t=0:=by
 have hc:chk4 t=0:=by
  by_cases q:chk4 t=0
  ·exact q
  ·rw[fit4,if_pos q]at h;exact absurd h q
 rw[fit4,if_neg (by omega)]at h
 have h4:is4 v t=true:=by
  by_cases q:is4 v t=true
  ·exact q
  ·rw[if_neg q]at h;cases h
 have hV:Fx.Valid t:=by
  unfold chk4 at hc;split at hc
  ·assumption
  ·repeat (split at hc;omega)
   cases hc
 rw[is4,if_pos (.inl hk)]at h4;have hf:Fx.fits v t=0:=by simpa using h4
 rw[Fx.fits,if_pos hV]at hf
 have hF:Fx.Fit v t:=by
  split at hf
  ·assumption
  ·cases hf
 obtain⟨_,f1,f2⟩:=hF;obtain⟨_,p1,p2,q1,q2,_⟩:=hV;rw[Fx.most,if_pos hk]at p2
 have hb:Fx.bnd t≤1000000000:=by
  have h1:∀k:Nat,k<10→(10:Int) ^k≤1000000000:=by decide
  rw[Fx.bnd,Fx.base,if_pos hk,Fx.pw];exact h1 _ (by omega)
 refine⟨by omega,by omega,?_⟩;rw[typE,if_neg (by omega),if_neg (by omega)]
def mono3(a b q d:Int):Prop:=a≤b→sgV a q d≤sgV b q d
end Go.Ff
end
noncomputable section
namespace Go.Cs
open Go Go.Ab Go.Proofs Go.Shelf Go.Px Go.Cx Go.RowKit
class MaxL where
 mx:Int
variable [MaxL]
def rowsC:Nat→Option E:=fun b=>match Nat.beq b 1 with
 | true=>some [.int .i64 MaxL.mx]
 | false=>jjv b
/-- The tables; lengths and characters are computed. -/
instance tabsC:Tabs where
 row:=rowsC
 plain:=fun b r h=>by
  unfold rowsC at h;split at h
  ·cases h;rfl
  ·exact tabs.plain b r h
 conc:=true
 wide:=true
theorem rowsC_of{b:Nat}{r:E}(h:jjv b=some r):rowsC b=some r:=by
 unfold rowsC;split
 ·rename_i hb;obtain rfl:=jah hb;cases h
 ·exact h
theorem tabsIn_T{N:Nat}{w:World}(h: @TabsIn tabsC N w): @TabsIn tabs N w:=fun b r hr=>h b r (rowsC_of hr)
theorem tabsIn_B{N:Nat}{w:World}(h: @TabsIn tabsC N w): @TabsIn Ff.tabsB N w:=fun b r hr=>h b r (rowsC_of hr)
theorem RelM.toT{N:Nat}{w0:World}{m:Lk}{ι:Nm}{w:World}(h: @RelM tabsC N w0 m ι w): @RelM tabs N w0 m ι w:=
 @RelM.mk tabs N w0 m ι w h.below ⟨h.base.1,tabsIn_T h.base.2⟩ h.blk h.view h.inj
theorem RelM.toB{N:Nat}{w0:World}{m:Lk}{ι:Nm}{w:World}(h: @RelM tabsC N w0 m ι w): @RelM Ff.tabsB N w0 m ι w:=
 @RelM.mk Ff.tabsB N w0 m ι w h.below ⟨h.base.1,tabsIn_B h.base.2⟩ h.blk h.view h.inj
theorem RelM.toC{N:Nat}{w0:World}{m:Lk}{ι:Nm}{w:World}(hb: @TabsIn tabsC N w0)(h: @RelM tabs N w0 m ι w): @RelM tabsC N w0 m ι w:=
 @RelM.mk tabsC N w0 m ι w (@RelM.below tabs N w0 m ι w h) ⟨(@RelM.base tabs N w0 m ι w h).1,hb⟩ (@RelM.blk tabs N w0 m ι w h) (@RelM.view tabs N w0 m ι w h) (@RelM.inj tabs N w0 m ι w h)
theorem pureC{f:FuncId}{s:Ab.Spec}(h: @jam tabs Tryz.prog f s): @jam tabsC Tryz.prog f s:=
 ⟨h.1,fun args v N w0 lk ι w hr hs hv=>h.2 args v N w0 lk ι w (RelM.toT hr) hs hv⟩
theorem pureCB{f:FuncId}{s:Ab.Spec}(h: @jam Ff.tabsB Tryz.prog f s): @jam tabsC Tryz.prog f s:=
 ⟨h.1,fun args v N w0 lk ι w hr hs hv=>h.2 args v N w0 lk ι w (RelM.toB hr) hs hv⟩
theorem jhp{f:FuncId}{s:Ab.Spec}(h:jam Tryz.prog f s){l:List (E×Value)}(hl:∀a v,(a,v)∈l→ ∀bs,s a bs=some (true,v)):jam Tryz.prog f (memo l):=
 ⟨h.1,fun args v N w0 lk ι w hr hs hv=>h.2 args v N w0 lk ι w hr (hl _ _ (jez hs).2 _) hv⟩
def s154(s t:Y):Bool×Value:=(oneB t&&asc (bz t),.string (sz (tlZ (bz s) ((bz t).getD 0 0))))
theorem ok154:jam Tryz.prog 80 (sp2 s154):=by
 have e:s154=Cx.s154:=by funext s t;simp only[s154,Cx.s154,jcq]
 rw[e];exact pureC Cx.ok154
def s131(s t:Y):Bool×Value:=(decide (s.size≤9223372036854775807) && (oneB t&&asc (bz t)),.string (sz (trZ (bz s) ((bz t).getD 0 0))))
theorem ok131:jam Tryz.prog 218 (sp2 s131):=by
 have e:s131=Cx.s131:=by funext s t;simp only[s131,Cx.s131,jcq]
 rw[e];exact pureC Cx.ok131
def s55(s t:Y):Bool×Value:=(decide (s.size≤9223372036854775807) && (decide (t.size≤1000) &&asc (bz t)),.string (sz (jcj (bz s) (bz t))))
theorem ok55:jam Tryz.prog 67 (sp2 s55):=by
 have e:s55=Cx.s55:=by funext s t;simp only[s55,Cx.s55,jcq]
 rw[e];exact pureC Cx.ok55
def s30(s:Y)(n:Int):Bool×Value:=(decide (0≤n∧n≤1000∧s.size≤1000),.string (sz (repZ (bz s) n.toNat)))
theorem ok30:jam Tryz.prog 72 (sp2 s30):=by
 have e:s30=Cx.s30:=by funext s n;simp only[s30,Cx.s30,jcq]
 rw[e];exact pureC Cx.ok30
theorem dec125:Lib.decDigits 125=[49,50,53]:=by
 rw[Lib.decDigits,dif_neg (by decide),Lib.decDigits_two (by decide) (by decide)];rfl
theorem dec150:Lib.decDigits 150=[49,53,48]:=by
 rw[Lib.decDigits,dif_neg (by decide),Lib.decDigits_two (by decide) (by decide)];rfl
theorem dec123:Lib.decDigits 123=[49,50,51]:=by
 rw[Lib.decDigits,dif_neg (by decide),Lib.decDigits_two (by decide) (by decide)];rfl
theorem dec1234:Lib.decDigits 1234=[49,50,51,52]:=by
 rw[Lib.decDigits,dif_neg (by decide),Lib.decDigits,dif_neg (by decide),Lib.decDigits_two (by decide) (by decide)];rfl
theorem dec5:Lib.decDigits 5=[53]:=by
 rw[Lib.decDigits,dif_pos (by decide)];rfl
theorem ito{n:Nat}{l:Ya}(h:Lib.decDigits n=l):Cx.s29 (n:Int)=(decide (-9223372036854775808≤(n:Int)∧(n:Int)≤9223372036854775807),.string ⟨l.toArray⟩):=by
 rw[Cx.s29,jcq,itoZ,Lib.itoa_nonneg,h,jf9]
theorem fmt{n:Nat}{l:Ya}(h:Lib.decDigits n=l):Px.s87 ⟨(n:Int)⟩ 10=(decide (0≤(n:Int)∧(n:Int)<18446744073709551616) &&jk3 10,.string ⟨l.toArray⟩):=by
 show(_,Value.string (sz (zl (Lib.decDigits (n:Int).toNat))))=_;rw[Int.toNat_natCast,h,jf9]
def m29:List (E×Value):=[([.int .i64 125],.string ⟨#[49,50,53]⟩),([.int .i64 150],.string ⟨#[49,53,48]⟩),([.int .i64 5],.string ⟨#[53]⟩),([.int .i64 1234],.string ⟨#[49,50,51,52]⟩)]
theorem jgi{α:Type}{p:α→Prop}:∀{l:List α},(l.foldr (fun a q=>p a∧q) True)→ ∀a∈l,p a
 | _::_,h,_,ha=>by
  rcases List.mem_cons.1 ha with rfl | ha
  ·exact h.1
  ·exact jgi h.2 _ ha
theorem pk29:jam Tryz.prog 175 (memo m29):=jhp (pureC Cx.ok29) fun a v h bs=>by
 have:=jgi (p:=fun x:E×Value=>sp1 Cx.s29 x.1 bs=some (true,x.2)) (l:=m29) ⟨congrArg some (ito dec125),congrArg some (ito dec150),congrArg some (ito dec5),congrArg some (ito dec1234),trivial⟩ _ h;exact this
def m81:List (E×Value):=[([.int .u64 123,.int .i64 10],.string ⟨#[49,50,51]⟩)]
theorem pk81:jam Tryz.prog 131 (memo m81):=jhp (pureC Px.ok87) fun a v h bs=>by
 have:=jgi (p:=fun x:E×Value=>sp2 Px.s87 x.1 bs=some (true,x.2)) (l:=m81) ⟨congrArg some (fmt dec123),trivial⟩ _ h;exact this
def m180:List (E×Value):=[([.string ⟨#[49,50]⟩],.string ⟨#[48,49,51]⟩),([.string ⟨#[]⟩],.string ⟨#[49]⟩)]
theorem pk180:jam Tryz.prog 180 (memo m180):=jhp (pureCB Ff.ok180) fun a v h bs=>by
 have:=jgi (p:=fun x:E×Value=>sp1 Ff.s180 x.1 bs=some (true,x.2)) (l:=m180) ⟨by kernel_rfl,by kernel_rfl,trivial⟩ _ h;exact this
def m118:List (E×Value):=[([.string ⟨#[49,50,53]⟩],.tuple ⟨[.int .i64 125,.nilIface]⟩)]
theorem pk118:jam Tryz.prog 118 (memo m118):=jhp (pureC Px.ok68) fun a v h bs=>by
 have:=jgi (p:=fun x:E×Value=>sp1 Px.s68 x.1 bs=some (true,x.2)) (l:=m118) ⟨by kernel_rfl,trivial⟩ _ h;exact this
theorem Tryz.Builder_Extra_155:Builder.Extra Tryz.prog Tryz.lays155_ren:={
 sizeBuilder:=by kernel_rfl
 liesBuilder:=by kernel_rfl
 t5:=Tryz.underlying5
 a5:=Tryz.isAgg5
 z5:=Tryz.sizeOf5
 v5:=Tryz.zeroValue5
 infoByte:=by kernel_rfl
 cellsByte:=by kernel_rfl
 sizeByte:=by kernel_rfl
 neB5:=by decide}
theorem pure_shelfC{P:Program}{f:FuncId}{s:Ab.Spec}(hc:jbe P f)
  (h:∀args bs v,s args bs=some (true,v)→jay args=true∧ ∀w,TabsIn w.heap.size w→Calls P f args.toArray w fun e w'=>e= .returned v∧RowKit.Below w.heap.size w w'):jam P f s:=by
 refine⟨hc,fun args v N w0 lk ι w hrel hs hp=> ?_⟩;obtain⟨h1,h2⟩:=h _ _ _ hs;have hren:args.map (ren ι)=args:=by rw[←jbj,jbl _ h1]
 rw[hren];exact h2 w hrel.tabs
def m93:List (E×Value):=[([.string ⟨#[105,116,39,39,115]⟩,.string ⟨#[39,39]⟩,.string ⟨#[39]⟩],.string ⟨#[105,116,39,115]⟩)]
theorem pk93:jam Tryz.prog 93 (memo m93):=pure_shelfC (cal Tryz.func93 (by kernel_rfl) (by kernel_rfl)) fun args bs v hs=>by
 have hm:(args,v)∈m93:=(jez hs).2;have hm:=List.mem_singleton.1 hm;cases hm;refine⟨rfl,fun w hw=> ?_⟩;have hc:w.cell? ⟨1,0,none⟩=some (.int .i64 MaxL.mx):=hw.cell (b:=1) rfl (i:=0) rfl;exact(Any.strings_ReplaceAll (ρ:=Tryz.lays155_ren) Tryz.lays155 Tryz.Builder_Extra_155 ⟨#[105,116,39,39,115]⟩ ⟨#[39,39]⟩ ⟨#[39]⟩ MaxL.mx w (by decide) hc (by decide) (by decide)).mono fun e w' ⟨h1,h2⟩=>⟨by rw[h1];kernel_rfl,h2⟩
theorem genC: @jdt tabsC Tryz.prog 126 h100:=by
 obtain⟨h1,h2⟩:= @gen100;refine⟨h1,fun args m n K hh N w0 ι w hrel hwf hargs=> ?_⟩;refine(h2 args m n K hh N w0 ι w (RelM.toT hrel) hwf hargs).mono fun e w' ⟨v,m',n',ι',h⟩=>⟨v,m',n',ι',h.1,h.2.1,h.2.2.1,h.2.2.2.1,RelM.toC hrel.base.2 h.2.2.2.2.1,h.2.2.2.2.2⟩
def S0:Env:=Env.nil.add 80 (sp2 s154) |>.add 218 (sp2 s131) |>.add 67 (sp2 s55) |>.add 72 (sp2 s30) |>.add 175 (memo m29) |>.add 131 (memo m81) |>.add 140 (sp2 Px.s141) |>.add 185 (sp2 Px.s157) |>.add 150 (sp2 s132) |>.add 148 (sp2 s130) |>.add 114 (sp2 s102) |>.add 103 (sp2 s280) |>.add 180 (memo m180) |>.add 118 (memo m118) |>.add 93 (memo m93) |>.addG 126 h100
theorem ok_S0:jap Tryz.prog S0:=jao (jak (jak (jak (jak (jak (jak (jak (jak (jak (jak (jak (jak (jak (jak (jak ja5 ok154) ok131) ok55) ok30) pk29) pk81) (pureC Px.ok141)) (pureC Px.ok157)) (pureC ok132)) (pureC ok130)) (pureC ok102)) (pureC ok280)) pk180) pk118) pk93) genC
end Go.Cs
end
noncomputable section
set_option maxRecDepth 100000
set_option maxHeartbeats 3200000
namespace Go.Cs
open Go Go.Ab Go.Proofs Go.Px Go.Cx
variable [MaxL]
theorem fn146:Fn1 Tryz.prog 146 Tryz.f146:= .m Tryz.func146
def Fs1e1:Env:=S0.addG 146 (inlQ Tryz.prog S0 noL Tryz.f146)
theorem ok_Fs1e1:jap Tryz.prog Fs1e1:=jao ok_S0 (jas ok_S0 hmix fn146 jai)
theorem fn147:Fn1 Tryz.prog 147 Tryz.f147:= .m Tryz.func147
def Fs1e2:Env:=Fs1e1.addG 147 (inlQ Tryz.prog Fs1e1 noL Tryz.f147)
theorem ok_Fs1e2:jap Tryz.prog Fs1e2:=jao ok_Fs1e1 (jas ok_Fs1e1 hmix fn147 jai)
theorem fn113:Fn1 Tryz.prog 113 Tryz.f113:= .m Tryz.func113
def m113:List (E×Value):=[([.string ⟨#[57,57,86,57]⟩],.tuple ⟨[.string ⟨#[57,57,86,57]⟩,.bool true]⟩)]
theorem pk113:jam Tryz.prog 113 (memo m113):=jaq [.app none 1 1 (.app (some 0) 2 1 (.app (some 0) 3 1 (.app (some 0) 4 1 .leaf)))] ok_Fs1e2 hmix fn113 jai (by kernel_rfl) (by kernel_rfl)
def Fs1e3:Env:=Fs1e2.add 113 (memo m113)
theorem ok_Fs1e3:jap Tryz.prog Fs1e3:=jak ok_Fs1e2 pk113
theorem fn192:Fn1 Tryz.prog 192 Tryz.f192:= .m Tryz.func192
def Fs1e4:Env:=Fs1e3.addG 192 (inlQ Tryz.prog Fs1e3 noL Tryz.f192)
theorem ok_Fs1e4:jap Tryz.prog Fs1e4:=jao ok_Fs1e3 (jas ok_Fs1e3 hmix fn192 jai)
theorem fn149:Fn1 Tryz.prog 149 Tryz.f149:= .m Tryz.func149
def Fs1e5:Env:=Fs1e4.addG 149 (inlQ Tryz.prog Fs1e4 noL Tryz.f149)
theorem ok_Fs1e5:jap Tryz.prog Fs1e5:=jao ok_Fs1e4 (jas ok_Fs1e4 hmix fn149 jai)
theorem fn151:Fn1 Tryz.prog 151 Tryz.f151:= .m Tryz.func151
def Fs1e6:Env:=Fs1e5.addG 151 (inlQ Tryz.prog Fs1e5 noL Tryz.f151)
theorem ok_Fs1e6:jap Tryz.prog Fs1e6:=jao ok_Fs1e5 (jas ok_Fs1e5 hmix fn151 jai)
theorem fn152:Fn1 Tryz.prog 152 Tryz.f152:= .m Tryz.func152
def Fs1e7:Env:=Fs1e6.addG 152 (inlQ Tryz.prog Fs1e6 noL Tryz.f152)
theorem ok_Fs1e7:jap Tryz.prog Fs1e7:=jao ok_Fs1e6 (jas ok_Fs1e6 hmix fn152 jai)
theorem fn153:Fn1 Tryz.prog 153 Tryz.f153:= .m Tryz.func153
def Fs1e8:Env:=Fs1e7.addG 153 (inlQ Tryz.prog Fs1e7 noL Tryz.f153)
theorem ok_Fs1e8:jap Tryz.prog Fs1e8:=jao ok_Fs1e7 (jas ok_Fs1e7 hmix fn153 jai)
theorem fn115:Fn1 Tryz.prog 115 Tryz.f115:= .m Tryz.func115
def Fs1e9:Env:=Fs1e8.addG 115 (inlQ Tryz.prog Fs1e8 noL Tryz.f115)
theorem ok_Fs1e9:jap Tryz.prog Fs1e9:=jao ok_Fs1e8 (jas ok_Fs1e8 hmix fn115 jai)
theorem fn68:Fn1 Tryz.prog 68 Tryz.f68:= .m Tryz.func68
def Fs1e10:Env:=Fs1e9.addG 68 (inlQ Tryz.prog Fs1e9 noL Tryz.f68)
theorem ok_Fs1e10:jap Tryz.prog Fs1e10:=jao ok_Fs1e9 (jas ok_Fs1e9 hmix fn68 jai)
theorem fn102:Fn1 Tryz.prog 102 Tryz.f102:= .m Tryz.func102
def m102:List (E×Value):=[([.string ⟨#[57,57,86,57]⟩],.tuple ⟨[.agg ⟨[.string ⟨#[57,57,86,57]⟩,.bool true,.int .i64 3,.int .i64 3,.int .i64 1,.bool false]⟩,.int .i64 0]⟩)]
theorem pk102:jam Tryz.prog 102 (memo m102):=jaq [.bts 4 (.app none 1 1 (.app (some 0) 2 1 (.app (some 0) 3 1 (.app (some 0) 4 1 (.bts 4 .leaf)))))] ok_Fs1e10 hmix fn102 jai (by kernel_rfl) (by kernel_rfl)
def Fs1e11:Env:=Fs1e10.add 102 (memo m102)
theorem ok_Fs1e11:jap Tryz.prog Fs1e11:=jak ok_Fs1e10 pk102
theorem fn65:Fn1 Tryz.prog 65 Tryz.f65:= .m Tryz.func65
def m65:List (E×Value):=[([.string ⟨#[57,57,86,57]⟩],.int .i64 0)]
theorem pk65:jam Tryz.prog 65 (memo m65):=jaq [] ok_Fs1e11 hmix fn65 jai (by kernel_rfl) (by kernel_rfl)
def Fs1e12:Env:=Fs1e11.add 65 (memo m65)
theorem ok_Fs1e12:jap Tryz.prog Fs1e12:=jak ok_Fs1e11 pk65
theorem fn130:Fn1 Tryz.prog 130 Tryz.f130:= .m Tryz.func130
def m130:List (E×Value):=[([.string ⟨#[57,57,86,57]⟩],.tuple ⟨[.agg ⟨[.int .i64 1,.int .i64 3,.int .i64 1,.bool false,.string ⟨#[]⟩]⟩,.int .i64 0]⟩)]
theorem pk130:jam Tryz.prog 130 (memo m130):=jaq [] ok_Fs1e12 hmix fn130 jai (by kernel_rfl) (by kernel_rfl)
def Fs1e13:Env:=Fs1e12.add 130 (memo m130)
theorem ok_Fs1e13:jap Tryz.prog Fs1e13:=jak ok_Fs1e12 pk130
theorem fn116:Fn1 Tryz.prog 116 Tryz.f116:= .m Tryz.func116
def Fs1e14:Env:=Fs1e13.addG 116 (inlQ Tryz.prog Fs1e13 noL Tryz.f116)
theorem ok_Fs1e14:jap Tryz.prog Fs1e14:=jao ok_Fs1e13 (jas ok_Fs1e13 hmix fn116 jai)
theorem fn128:Fn1 Tryz.prog 128 Tryz.f128:= .m Tryz.func128
def m128:List (E×Value):=[([.string ⟨#[57,57,86,57]⟩],.bool true)]
theorem pk128:jam Tryz.prog 128 (memo m128):=jaq [.bts 4 (.app none 1 1 (.app (some 0) 2 1 (.app (some 0) 3 1 (.app (some 0) 4 1 (.bts 4 .leaf)))))] ok_Fs1e14 hmix fn128 jai (by kernel_rfl) (by kernel_rfl)
def Fs1e15:Env:=Fs1e14.add 128 (memo m128)
theorem ok_Fs1e15:jap Tryz.prog Fs1e15:=jak ok_Fs1e14 pk128
theorem fn70:Fn1 Tryz.prog 70 Tryz.f70:= .m Tryz.func70
def Fs1e16:Env:=Fs1e15.addG 70 (inlQ Tryz.prog Fs1e15 noL Tryz.f70)
theorem ok_Fs1e16:jap Tryz.prog Fs1e16:=jao ok_Fs1e15 (jas ok_Fs1e15 hmix fn70 jai)
theorem fn206:Fn1 Tryz.prog 206 Tryz.f206:= .m Tryz.func206
def Fs1e17:Env:=Fs1e16.addG 206 (inlQ Tryz.prog Fs1e16 noL Tryz.f206)
theorem ok_Fs1e17:jap Tryz.prog Fs1e17:=jao ok_Fs1e16 (jas ok_Fs1e16 hmix fn206 jai)
theorem fn198:Fn1 Tryz.prog 198 Tryz.f198:= .m Tryz.func198
def Fs1e18:Env:=Fs1e17.addG 198 (inlQ Tryz.prog Fs1e17 noL Tryz.f198)
theorem ok_Fs1e18:jap Tryz.prog Fs1e18:=jao ok_Fs1e17 (jas ok_Fs1e17 hmix fn198 jai)
theorem fn199:Fn1 Tryz.prog 199 Tryz.f199:= .m Tryz.func199
def Fs1e19:Env:=Fs1e18.addG 199 (inlQ Tryz.prog Fs1e18 noL Tryz.f199)
theorem ok_Fs1e19:jap Tryz.prog Fs1e19:=jao ok_Fs1e18 (jas ok_Fs1e18 hmix fn199 jai)
theorem fn157:Fn1 Tryz.prog 157 Tryz.f157:= .m Tryz.func157
def Fs1e20:Env:=Fs1e19.addG 157 (inlQ Tryz.prog Fs1e19 noL Tryz.f157)
theorem ok_Fs1e20:jap Tryz.prog Fs1e20:=jao ok_Fs1e19 (jas ok_Fs1e19 hmix fn157 jai)
theorem fn158:Fn1 Tryz.prog 158 Tryz.f158:= .m Tryz.func158
def Fs1e21:Env:=Fs1e20.addG 158 (inlQ Tryz.prog Fs1e20 noL Tryz.f158)
theorem ok_Fs1e21:jap Tryz.prog Fs1e21:=jao ok_Fs1e20 (jas ok_Fs1e20 hmix fn158 jai)
theorem fn159:Fn1 Tryz.prog 159 Tryz.f159:= .m Tryz.func159
def Fs1e22:Env:=Fs1e21.addG 159 (inlQ Tryz.prog Fs1e21 noL Tryz.f159)
theorem ok_Fs1e22:jap Tryz.prog Fs1e22:=jao ok_Fs1e21 (jas ok_Fs1e21 hmix fn159 jai)
theorem fn160:Fn1 Tryz.prog 160 Tryz.f160:= .m Tryz.func160
def Fs1e23:Env:=Fs1e22.addG 160 (inlQ Tryz.prog Fs1e22 noL Tryz.f160)
theorem ok_Fs1e23:jap Tryz.prog Fs1e23:=jao ok_Fs1e22 (jas ok_Fs1e22 hmix fn160 jai)
theorem fn161:Fn1 Tryz.prog 161 Tryz.f161:= .m Tryz.func161
def Fs1e24:Env:=Fs1e23.addG 161 (inlQ Tryz.prog Fs1e23 noL Tryz.f161)
theorem ok_Fs1e24:jap Tryz.prog Fs1e24:=jao ok_Fs1e23 (jas ok_Fs1e23 hmix fn161 jai)
theorem fn162:Fn1 Tryz.prog 162 Tryz.f162:= .m Tryz.func162
def Fs1e25:Env:=Fs1e24.addG 162 (inlQ Tryz.prog Fs1e24 noL Tryz.f162)
theorem ok_Fs1e25:jap Tryz.prog Fs1e25:=jao ok_Fs1e24 (jas ok_Fs1e24 hmix fn162 jai)
theorem fn119:Fn1 Tryz.prog 119 Tryz.f119:= .m Tryz.func119
def Fs1e26:Env:=Fs1e25.addG 119 (inlQ Tryz.prog Fs1e25 noL Tryz.f119)
theorem ok_Fs1e26:jap Tryz.prog Fs1e26:=jao ok_Fs1e25 (jas ok_Fs1e25 hmix fn119 jai)
theorem fn170:Fn1 Tryz.prog 170 Tryz.f170:= .m Tryz.func170
def m170:List (E×Value):=[([.int .i64 123,.int .i64 1,.string ⟨#[57,57,86,57]⟩],.tuple ⟨[.string ⟨#[49,50,51]⟩,.bool true,.int .i64 0]⟩)]
theorem pk170:jam Tryz.prog 170 (memo m170):=jaq [.bts 4 (.app none 1 1 (.app (some 0) 2 1 (.app (some 0) 3 1 (.app (some 0) 4 1 (.bts 4 (.app none 1 1 (.app (some 0) 2 1 (.app (some 0) 3 1 .leaf))))))))] ok_Fs1e26 hmix fn170 jai (by kernel_rfl) (by kernel_rfl)
def Fs1e27:Env:=Fs1e26.add 170 (memo m170)
theorem ok_Fs1e27:jap Tryz.prog Fs1e27:=jak ok_Fs1e26 pk170
def Fs1e28:Env:=Fs1e27.add 216 (sp1 Cx.s152)
theorem ok_Fs1e28:jap Tryz.prog Fs1e28:=jak ok_Fs1e27 (pureC Cx.ok152)
def Fs1e29:Env:=Fs1e28.add 236 (sp1 Cx.s213)
theorem ok_Fs1e29:jap Tryz.prog Fs1e29:=jak ok_Fs1e28 (pureC Cx.ok213)
def Fs1e30:Env:=Fs1e29.add 104 (sp1 Cx.s141)
theorem ok_Fs1e30:jap Tryz.prog Fs1e30:=jak ok_Fs1e29 (pureC Cx.ok141)
def Fs1e31:Env:=Fs1e30.add 64 (sp1 Cx.s66)
theorem ok_Fs1e31:jap Tryz.prog Fs1e31:=jak ok_Fs1e30 (pureC Cx.ok66)
def Fs1e32:Env:=Fs1e31.add 227 (sp1 Cx.s85)
theorem ok_Fs1e32:jap Tryz.prog Fs1e32:=jak ok_Fs1e31 (pureC Cx.ok85)
theorem fn33:Fn1 Tryz.prog 33 Tryz.f33:= .m Tryz.func33
def m33:List (E×Value):=[([.agg ⟨[.int .i64 1,.int .i64 5,.int .i64 2,.bool false,.string ⟨#[]⟩]⟩],.int .i64 0),([.agg ⟨[.int .i64 1,.int .i64 3,.int .i64 1,.bool false,.string ⟨#[]⟩]⟩],.int .i64 0),([.agg ⟨[.int .i64 1,.int .i64 4,.int .i64 2,.bool false,.string ⟨#[]⟩]⟩],.int .i64 0),([.agg ⟨[.int .i64 1,.int .i64 9,.int .i64 2,.bool false,.string ⟨#[]⟩]⟩],.int .i64 0),([.agg ⟨[.int .i64 1,.int .i64 3,.int .i64 1,.bool false,.string ⟨#[]⟩]⟩],.int .i64 0),([.agg ⟨[.int .i64 3,.int .i64 1,.int .i64 0,.bool false,.string ⟨#[]⟩]⟩],.int .i64 0),([.agg ⟨[.int .i64 3,.int .i64 2,.int .i64 0,.bool false,.string ⟨#[]⟩]⟩],.int .i64 0),([.agg ⟨[.int .i64 3,.int .i64 4,.int .i64 0,.bool false,.string ⟨#[]⟩]⟩],.int .i64 0),([.agg ⟨[.int .i64 3,.int .i64 6,.int .i64 0,.bool false,.string ⟨#[]⟩]⟩],.int .i64 0),([.agg ⟨[.int .i64 4,.int .i64 2,.int .i64 0,.bool false,.string ⟨#[]⟩]⟩],.int .i64 0),([.agg ⟨[.int .i64 4,.int .i64 3,.int .i64 0,.bool false,.string ⟨#[]⟩]⟩],.int .i64 0),([.agg ⟨[.int .i64 4,.int .i64 4,.int .i64 0,.bool false,.string ⟨#[]⟩]⟩],.int .i64 0),([.agg ⟨[.int .i64 5,.int .i64 0,.int .i64 0,.bool false,.string ⟨#[57,57,86,57]⟩]⟩],.int .i64 0)]
theorem pk33:jam Tryz.prog 33 (memo m33):=jaq [.leaf,.leaf,.leaf,.leaf,.leaf,.both .leaf .leaf,.both .leaf .leaf,.both .leaf .leaf,.both .leaf .leaf] ok_Fs1e32 hmix fn33 jai (by kernel_rfl) (by kernel_rfl)
def Fs1e33:Env:=Fs1e32.add 33 (memo m33)
theorem ok_Fs1e33:jap Tryz.prog Fs1e33:=jak ok_Fs1e32 pk33
theorem fn105:Fn1 Tryz.prog 105 Tryz.f105:= .m Tryz.func105
def m105:List (E×Value):=[([],.agg ⟨[.int .i64 1,.int .i64 10,.int .i64 100,.int .i64 1000,.int .i64 10000,.int .i64 100000,.int .i64 1000000,.int .i64 10000000,.int .i64 100000000,.int .i64 1000000000,.int .i64 10000000000,.int .i64 100000000000,.int .i64 1000000000000,.int .i64 10000000000000,.int .i64 100000000000000,.int .i64 1000000000000000,.int .i64 10000000000000000,.int .i64 100000000000000000,.int .i64 1000000000000000000]⟩)]
theorem pk105:jam Tryz.prog 105 (memo m105):=jaq [] ok_Fs1e33 hmix fn105 jai (by kernel_rfl) (by kernel_rfl)
def Fs1e34:Env:=Fs1e33.add 105 (memo m105)
theorem ok_Fs1e34:jap Tryz.prog Fs1e34:=jak ok_Fs1e33 pk105
theorem fn66:Fn1 Tryz.prog 66 Tryz.f66:= .m Tryz.func66
def m66:List (E×Value):=[([.agg ⟨[.int .i64 1,.int .i64 5,.int .i64 2,.bool false,.string ⟨#[]⟩]⟩],.int .i64 100000),([.agg ⟨[.int .i64 1,.int .i64 3,.int .i64 1,.bool false,.string ⟨#[]⟩]⟩],.int .i64 1000),([.agg ⟨[.int .i64 1,.int .i64 4,.int .i64 2,.bool false,.string ⟨#[]⟩]⟩],.int .i64 10000),([.agg ⟨[.int .i64 1,.int .i64 9,.int .i64 2,.bool false,.string ⟨#[]⟩]⟩],.int .i64 1000000000)]
theorem pk66:jam Tryz.prog 66 (memo m66):=jaq [] ok_Fs1e34 hmix fn66 jai (by kernel_rfl) (by kernel_rfl)
def Fs1e35:Env:=Fs1e34.add 66 (memo m66)
theorem ok_Fs1e35:jap Tryz.prog Fs1e35:=jak ok_Fs1e34 pk66
theorem fn34:Fn1 Tryz.prog 34 Tryz.f34:= .m Tryz.func34
def m34:List (E×Value):=[([.agg ⟨[.int .i64 (-125),.string ⟨#[]⟩]⟩,.agg ⟨[.int .i64 1,.int .i64 5,.int .i64 2,.bool false,.string ⟨#[]⟩]⟩],.int .i64 0),([.agg ⟨[.int .i64 5,.string ⟨#[]⟩]⟩,.agg ⟨[.int .i64 1,.int .i64 3,.int .i64 1,.bool false,.string ⟨#[]⟩]⟩],.int .i64 0),([.agg ⟨[.int .i64 1234,.string ⟨#[]⟩]⟩,.agg ⟨[.int .i64 1,.int .i64 4,.int .i64 2,.bool false,.string ⟨#[]⟩]⟩],.int .i64 0),([.agg ⟨[.int .i64 150,.string ⟨#[]⟩]⟩,.agg ⟨[.int .i64 1,.int .i64 5,.int .i64 2,.bool false,.string ⟨#[]⟩]⟩],.int .i64 0),([.agg ⟨[.int .i64 125,.string ⟨#[]⟩]⟩,.agg ⟨[.int .i64 1,.int .i64 9,.int .i64 2,.bool false,.string ⟨#[]⟩]⟩],.int .i64 0)]
theorem pk34:jam Tryz.prog 34 (memo m34):=jaq [] ok_Fs1e35 hmix fn34 jai (by kernel_rfl) (by kernel_rfl)
def Fs1e36:Env:=Fs1e35.add 34 (memo m34)
theorem ok_Fs1e36:jap Tryz.prog Fs1e36:=jak ok_Fs1e35 pk34
theorem fn35:Fn1 Tryz.prog 35 Tryz.f35:= .m Tryz.func35
def m35:List (E×Value):=[([.string ⟨#[49,49]⟩],.bool true),([.string ⟨#[49,48,49]⟩],.bool true),([.string ⟨#[120]⟩],.bool false)]
theorem pk35:jam Tryz.prog 35 (memo m35):=jaq [] ok_Fs1e36 hmix fn35 jai (by kernel_rfl) (by kernel_rfl)
def Fs1e37:Env:=Fs1e36.add 35 (memo m35)
theorem ok_Fs1e37:jap Tryz.prog Fs1e37:=jak ok_Fs1e36 pk35
theorem fn7:Fn1 Tryz.prog 7 Tryz.f7:= .m Tryz.func7
def m7:List (E×Value):=[([.agg ⟨[.int .i64 (-125),.string ⟨#[]⟩]⟩,.agg ⟨[.int .i64 1,.int .i64 5,.int .i64 2,.bool false,.string ⟨#[]⟩]⟩],.int .i64 0),([.agg ⟨[.int .i64 5,.string ⟨#[]⟩]⟩,.agg ⟨[.int .i64 1,.int .i64 3,.int .i64 1,.bool false,.string ⟨#[]⟩]⟩],.int .i64 0),([.agg ⟨[.int .i64 1234,.string ⟨#[]⟩]⟩,.agg ⟨[.int .i64 1,.int .i64 4,.int .i64 2,.bool false,.string ⟨#[]⟩]⟩],.int .i64 0),([.agg ⟨[.int .i64 150,.string ⟨#[]⟩]⟩,.agg ⟨[.int .i64 1,.int .i64 5,.int .i64 2,.bool false,.string ⟨#[]⟩]⟩],.int .i64 0),([.agg ⟨[.int .i64 125,.string ⟨#[]⟩]⟩,.agg ⟨[.int .i64 1,.int .i64 9,.int .i64 2,.bool false,.string ⟨#[]⟩]⟩],.int .i64 0),([.agg ⟨[.int .i64 0,.string ⟨#[97,98]⟩]⟩,.agg ⟨[.int .i64 3,.int .i64 2,.int .i64 0,.bool false,.string ⟨#[]⟩]⟩],.int .i64 0),([.agg ⟨[.int .i64 0,.string ⟨#[49,49]⟩]⟩,.agg ⟨[.int .i64 4,.int .i64 2,.int .i64 0,.bool false,.string ⟨#[]⟩]⟩],.int .i64 0),([.agg ⟨[.int .i64 0,.string ⟨#[120]⟩]⟩,.agg ⟨[.int .i64 3,.int .i64 1,.int .i64 0,.bool false,.string ⟨#[]⟩]⟩],.int .i64 0),([.agg ⟨[.int .i64 0,.string ⟨#[121]⟩]⟩,.agg ⟨[.int .i64 3,.int .i64 1,.int .i64 0,.bool false,.string ⟨#[]⟩]⟩],.int .i64 0),([.agg ⟨[.int .i64 0,.string ⟨#[49,48,49]⟩]⟩,.agg ⟨[.int .i64 4,.int .i64 3,.int .i64 0,.bool false,.string ⟨#[]⟩]⟩],.int .i64 0),([.agg ⟨[.int .i64 0,.string ⟨#[105,116,39,115]⟩]⟩,.agg ⟨[.int .i64 3,.int .i64 4,.int .i64 0,.bool false,.string ⟨#[]⟩]⟩],.int .i64 0),([.agg ⟨[.int .i64 0,.string ⟨#[49,50]⟩]⟩,.agg ⟨[.int .i64 3,.int .i64 2,.int .i64 0,.bool false,.string ⟨#[]⟩]⟩],.int .i64 0),([.agg ⟨[.int .i64 0,.string ⟨#[51,52]⟩]⟩,.agg ⟨[.int .i64 3,.int .i64 2,.int .i64 0,.bool false,.string ⟨#[]⟩]⟩],.int .i64 0),([.agg ⟨[.int .i64 0,.string ⟨#[53,54]⟩]⟩,.agg ⟨[.int .i64 3,.int .i64 2,.int .i64 0,.bool false,.string ⟨#[]⟩]⟩],.int .i64 0)]
theorem pk7:jam Tryz.prog 7 (memo m7):=jaq [] ok_Fs1e37 hmix fn7 jai (by kernel_rfl) (by kernel_rfl)
def Fs1e38:Env:=Fs1e37.add 7 (memo m7)
theorem ok_Fs1e38:jap Tryz.prog Fs1e38:=jak ok_Fs1e37 pk7
theorem fn124:Fn1 Tryz.prog 124 Tryz.f124:= .m Tryz.func124
def m124:List (E×Value):=[([.agg ⟨[.int .i64 1234,.string ⟨#[]⟩]⟩,.agg ⟨[.int .i64 1,.int .i64 4,.int .i64 2,.bool false,.string ⟨#[]⟩]⟩],.iface 213 (.agg ⟨[.int .i64 1234,.int .i64 1,.int .i64 4,.int .i64 2,.bool false,.string ⟨#[]⟩]⟩)),([.agg ⟨[.int .i64 150,.string ⟨#[]⟩]⟩,.agg ⟨[.int .i64 1,.int .i64 5,.int .i64 2,.bool false,.string ⟨#[]⟩]⟩],.iface 213 (.agg ⟨[.int .i64 150,.int .i64 1,.int .i64 5,.int .i64 2,.bool false,.string ⟨#[]⟩]⟩)),([.agg ⟨[.int .i64 125,.string ⟨#[]⟩]⟩,.agg ⟨[.int .i64 1,.int .i64 9,.int .i64 2,.bool false,.string ⟨#[]⟩]⟩],.iface 213 (.agg ⟨[.int .i64 125,.int .i64 1,.int .i64 9,.int .i64 2,.bool false,.string ⟨#[]⟩]⟩)),([.agg ⟨[.int .i64 0,.string ⟨#[97,98]⟩]⟩,.agg ⟨[.int .i64 3,.int .i64 2,.int .i64 0,.bool false,.string ⟨#[]⟩]⟩],.iface 217 (.string ⟨#[97,98]⟩)),([.agg ⟨[.int .i64 0,.string ⟨#[49,49]⟩]⟩,.agg ⟨[.int .i64 4,.int .i64 2,.int .i64 0,.bool false,.string ⟨#[]⟩]⟩],.iface 214 (.string ⟨#[49,49]⟩)),([.agg ⟨[.int .i64 0,.string ⟨#[120]⟩]⟩,.agg ⟨[.int .i64 3,.int .i64 1,.int .i64 0,.bool false,.string ⟨#[]⟩]⟩],.iface 217 (.string ⟨#[120]⟩)),([.agg ⟨[.int .i64 0,.string ⟨#[121]⟩]⟩,.agg ⟨[.int .i64 3,.int .i64 1,.int .i64 0,.bool false,.string ⟨#[]⟩]⟩],.iface 217 (.string ⟨#[121]⟩)),([.agg ⟨[.int .i64 0,.string ⟨#[105,116,39,115]⟩]⟩,.agg ⟨[.int .i64 3,.int .i64 4,.int .i64 0,.bool false,.string ⟨#[]⟩]⟩],.iface 217 (.string ⟨#[105,116,39,115]⟩)),([.agg ⟨[.int .i64 0,.string ⟨#[49,50]⟩]⟩,.agg ⟨[.int .i64 3,.int .i64 2,.int .i64 0,.bool false,.string ⟨#[]⟩]⟩],.iface 217 (.string ⟨#[49,50]⟩)),([.agg ⟨[.int .i64 0,.string ⟨#[51,52]⟩]⟩,.agg ⟨[.int .i64 3,.int .i64 2,.int .i64 0,.bool false,.string ⟨#[]⟩]⟩],.iface 217 (.string ⟨#[51,52]⟩)),([.agg ⟨[.int .i64 0,.string ⟨#[53,54]⟩]⟩,.agg ⟨[.int .i64 3,.int .i64 2,.int .i64 0,.bool false,.string ⟨#[]⟩]⟩],.iface 217 (.string ⟨#[53,54]⟩))]
theorem pk124:jam Tryz.prog 124 (memo m124):=jaq [] ok_Fs1e38 hmix fn124 jai (by kernel_rfl) (by kernel_rfl)
def Fs1e39:Env:=Fs1e38.add 124 (memo m124)
theorem ok_Fs1e39:jap Tryz.prog Fs1e39:=jak ok_Fs1e38 pk124
theorem fn266:Fn1 Tryz.prog 266 Tryz.f266:= .m Tryz.func266
def m266:List (E×Value):=[([.agg ⟨[.int .i64 1,.int .i64 5,.int .i64 2,.bool false,.string ⟨#[]⟩]⟩],.int .i64 8)]
theorem pk266:jam Tryz.prog 266 (memo m266):=jaq [] ok_Fs1e39 hmix fn266 jai (by kernel_rfl) (by kernel_rfl)
def Fs1e40:Env:=Fs1e39.add 266 (memo m266)
theorem ok_Fs1e40:jap Tryz.prog Fs1e40:=jak ok_Fs1e39 pk266
theorem fn265:Fn1 Tryz.prog 265 Tryz.f265:= .m Tryz.func265
def m265:List (E×Value):=[([.agg ⟨[.int .i64 150,.int .i64 1,.int .i64 5,.int .i64 2,.bool false,.string ⟨#[]⟩]⟩],.string ⟨#[32,32,32,32,49,46,53,48]⟩)]
theorem pk265:jam Tryz.prog 265 (memo m265):=jaq [] ok_Fs1e40 hmix fn265 jai (by kernel_rfl) (by kernel_rfl)
def Fs1e41:Env:=Fs1e40.add 265 (memo m265)
theorem ok_Fs1e41:jap Tryz.prog Fs1e41:=jak ok_Fs1e40 pk265
theorem fn269:Fn1 Tryz.prog 269 Tryz.f269:= .m Tryz.func269
def m269:List (E×Value):=[([.string ⟨#[97,98]⟩],.string ⟨#[97,98]⟩),([.string ⟨#[120]⟩],.string ⟨#[120]⟩),([.string ⟨#[121]⟩],.string ⟨#[121]⟩),([.string ⟨#[105,116,39,115]⟩],.string ⟨#[105,116,39,115]⟩),([.string ⟨#[49,50]⟩],.string ⟨#[49,50]⟩),([.string ⟨#[51,52]⟩],.string ⟨#[51,52]⟩),([.string ⟨#[53,54]⟩],.string ⟨#[53,54]⟩)]
theorem pk269:jam Tryz.prog 269 (memo m269):=jaq [] ok_Fs1e41 hmix fn269 jai (by kernel_rfl) (by kernel_rfl)
def Fs1e42:Env:=Fs1e41.add 269 (memo m269)
theorem ok_Fs1e42:jap Tryz.prog Fs1e42:=jak ok_Fs1e41 pk269
theorem fn73:Fn1 Tryz.prog 73 Tryz.f73:= .m Tryz.func73
def m73:List (E×Value):=[([.agg ⟨[.int .i64 150,.string ⟨#[]⟩]⟩,.agg ⟨[.int .i64 1,.int .i64 5,.int .i64 2,.bool false,.string ⟨#[]⟩]⟩],.tuple ⟨[.string ⟨#[32,32,32,32,49,46,53,48]⟩,.int .i64 0]⟩),([.agg ⟨[.int .i64 0,.string ⟨#[97,98]⟩]⟩,.agg ⟨[.int .i64 3,.int .i64 2,.int .i64 0,.bool false,.string ⟨#[]⟩]⟩],.tuple ⟨[.string ⟨#[97,98]⟩,.int .i64 0]⟩),([.agg ⟨[.int .i64 0,.string ⟨#[120]⟩]⟩,.agg ⟨[.int .i64 3,.int .i64 1,.int .i64 0,.bool false,.string ⟨#[]⟩]⟩],.tuple ⟨[.string ⟨#[120]⟩,.int .i64 0]⟩),([.agg ⟨[.int .i64 0,.string ⟨#[121]⟩]⟩,.agg ⟨[.int .i64 3,.int .i64 1,.int .i64 0,.bool false,.string ⟨#[]⟩]⟩],.tuple ⟨[.string ⟨#[121]⟩,.int .i64 0]⟩)]
theorem pk73:jam Tryz.prog 73 (memo m73):=jaq [] ok_Fs1e42 hmix fn73 jai (by kernel_rfl) (by kernel_rfl)
def Fs1e43:Env:=Fs1e42.add 73 (memo m73)
theorem ok_Fs1e43:jap Tryz.prog Fs1e43:=jak ok_Fs1e42 pk73
theorem fn178:Fn1 Tryz.prog 178 Tryz.f178:= .m Tryz.func178
def m178:List (E×Value):=[([.bool false,.string ⟨#[49,50,51,52]⟩,.int .i64 2],.agg ⟨[.bool false,.string ⟨#[49,50,51,52]⟩,.int .i64 2]⟩),([.bool false,.string ⟨#[49,50,53]⟩,.int .i64 2],.agg ⟨[.bool false,.string ⟨#[49,50,53]⟩,.int .i64 2]⟩)]
theorem pk178:jam Tryz.prog 178 (memo m178):=jaq [] ok_Fs1e43 hmix fn178 jai (by kernel_rfl) (by kernel_rfl)
def Fs1e44:Env:=Fs1e43.add 178 (memo m178)
theorem ok_Fs1e44:jap Tryz.prog Fs1e44:=jak ok_Fs1e43 pk178
theorem fn226:Fn1 Tryz.prog 226 Tryz.f226:= .m Tryz.func226
def m226:List (E×Value):=[([.agg ⟨[.bool false,.string ⟨#[49,50,51,52]⟩,.int .i64 2]⟩],.bool true),([.agg ⟨[.bool false,.string ⟨#[49,50,53]⟩,.int .i64 2]⟩],.bool true)]
theorem pk226:jam Tryz.prog 226 (memo m226):=jaq [] ok_Fs1e44 hmix fn226 jai (by kernel_rfl) (by kernel_rfl)
def Fs1e45:Env:=Fs1e44.add 226 (memo m226)
theorem ok_Fs1e45:jap Tryz.prog Fs1e45:=jak ok_Fs1e44 pk226
theorem fn228:Fn1 Tryz.prog 228 Tryz.f228:= .m Tryz.func228
def m228:List (E×Value):=[([.agg ⟨[.bool false,.string ⟨#[49,50,51,52]⟩,.int .i64 2]⟩,.int .i64 1],.string ⟨#[49,50,51]⟩),([.agg ⟨[.bool false,.string ⟨#[49,50,53]⟩,.int .i64 2]⟩,.int .i64 2],.string ⟨#[49,50,53]⟩)]
theorem pk228:jam Tryz.prog 228 (memo m228):=jaq [] ok_Fs1e45 hmix fn228 jai (by kernel_rfl) (by kernel_rfl)
def Fs1e46:Env:=Fs1e45.add 228 (memo m228)
theorem ok_Fs1e46:jap Tryz.prog Fs1e46:=jak ok_Fs1e45 pk228
theorem fn202:Fn1 Tryz.prog 202 Tryz.f202:= .m Tryz.func202
def m202:List (E×Value):=[([.agg ⟨[.bool false,.string ⟨#[49,50,51,52]⟩,.int .i64 2]⟩,.agg ⟨[.int .i64 1,.int .i64 3,.int .i64 1,.bool false,.string ⟨#[]⟩]⟩],.tuple ⟨[.agg ⟨[.int .i64 123,.string ⟨#[]⟩]⟩,.int .i64 0,.int .i64 0]⟩),([.agg ⟨[.bool false,.string ⟨#[49,50,53]⟩,.int .i64 2]⟩,.agg ⟨[.int .i64 1,.int .i64 5,.int .i64 2,.bool false,.string ⟨#[]⟩]⟩],.tuple ⟨[.agg ⟨[.int .i64 125,.string ⟨#[]⟩]⟩,.int .i64 0,.int .i64 0]⟩)]
theorem pk202:jam Tryz.prog 202 (memo m202):=jaq [] ok_Fs1e46 hmix fn202 jai (by kernel_rfl) (by kernel_rfl)
def Fs1e47:Env:=Fs1e46.add 202 (memo m202)
theorem ok_Fs1e47:jap Tryz.prog Fs1e47:=jak ok_Fs1e46 pk202
theorem fn201:Fn1 Tryz.prog 201 Tryz.f201:= .m Tryz.func201
def m201:List (E×Value):=[([.iface 213 (.agg ⟨[.int .i64 1234,.int .i64 1,.int .i64 4,.int .i64 2,.bool false,.string ⟨#[]⟩]⟩)],.tuple ⟨[.agg ⟨[.bool false,.string ⟨#[49,50,51,52]⟩,.int .i64 2]⟩,.nilIface]⟩),([.iface 213 (.agg ⟨[.int .i64 125,.int .i64 1,.int .i64 9,.int .i64 2,.bool false,.string ⟨#[]⟩]⟩)],.tuple ⟨[.agg ⟨[.bool false,.string ⟨#[49,50,53]⟩,.int .i64 2]⟩,.nilIface]⟩)]
theorem pk201:jam Tryz.prog 201 (memo m201):=jaq [] ok_Fs1e47 hmix fn201 jai (by kernel_rfl) (by kernel_rfl)
def Fs1e48:Env:=Fs1e47.add 201 (memo m201)
theorem ok_Fs1e48:jap Tryz.prog Fs1e48:=jak ok_Fs1e47 pk201
theorem fn167:Fn1 Tryz.prog 167 Tryz.f167:= .m Tryz.func167
def m167:List (E×Value):=[([.iface 213 (.agg ⟨[.int .i64 1234,.int .i64 1,.int .i64 4,.int .i64 2,.bool false,.string ⟨#[]⟩]⟩),.agg ⟨[.int .i64 1,.int .i64 3,.int .i64 1,.bool false,.string ⟨#[]⟩]⟩],.tuple ⟨[.agg ⟨[.int .i64 123,.string ⟨#[]⟩]⟩,.int .i64 0,.nilIface]⟩),([.iface 213 (.agg ⟨[.int .i64 125,.int .i64 1,.int .i64 9,.int .i64 2,.bool false,.string ⟨#[]⟩]⟩),.agg ⟨[.int .i64 1,.int .i64 5,.int .i64 2,.bool false,.string ⟨#[]⟩]⟩],.tuple ⟨[.agg ⟨[.int .i64 125,.string ⟨#[]⟩]⟩,.int .i64 0,.nilIface]⟩)]
theorem pk167:jam Tryz.prog 167 (memo m167):=jaq [] ok_Fs1e48 hmix fn167 jai (by kernel_rfl) (by kernel_rfl)
def Fs1e49:Env:=Fs1e48.add 167 (memo m167)
theorem ok_Fs1e49:jap Tryz.prog Fs1e49:=jak ok_Fs1e48 pk167
theorem fn168:Fn1 Tryz.prog 168 Tryz.f168:= .m Tryz.func168
def m168:List (E×Value):=[([.string ⟨#[]⟩,.int .i64 3,.string ⟨#[48]⟩],.string ⟨#[48,48,48]⟩),([.string ⟨#[49,49]⟩,.int .i64 4,.string ⟨#[48]⟩],.string ⟨#[49,49,48,48]⟩),([.string ⟨#[105,116,39,115]⟩,.int .i64 6,.string ⟨#[32]⟩],.string ⟨#[105,116,39,115,32,32]⟩),([.string ⟨#[49,50]⟩,.int .i64 2,.string ⟨#[32]⟩],.string ⟨#[49,50]⟩),([.string ⟨#[51,52]⟩,.int .i64 2,.string ⟨#[32]⟩],.string ⟨#[51,52]⟩),([.string ⟨#[53,54]⟩,.int .i64 2,.string ⟨#[32]⟩],.string ⟨#[53,54]⟩)]
theorem pk168:jam Tryz.prog 168 (memo m168):=jaq [] ok_Fs1e49 hmix fn168 jai (by kernel_rfl) (by kernel_rfl)
def Fs1e50:Env:=Fs1e49.add 168 (memo m168)
theorem ok_Fs1e50:jap Tryz.prog Fs1e50:=jak ok_Fs1e49 pk168
theorem fn169:Fn1 Tryz.prog 169 Tryz.f169:= .m Tryz.func169
def m169:List (E×Value):=[([.iface 214 (.string ⟨#[49,49]⟩)],.tuple ⟨[.string ⟨#[49,49]⟩,.nilIface]⟩),([.iface 217 (.string ⟨#[120]⟩)],.tuple ⟨[.string ⟨#[]⟩,.iface 176 (.agg ⟨[.string ⟨#[120]⟩]⟩)]⟩)]
theorem pk169:jam Tryz.prog 169 (memo m169):=jaq [] ok_Fs1e50 hmix fn169 jai (by kernel_rfl) (by kernel_rfl)
def Fs1e51:Env:=Fs1e50.add 169 (memo m169)
theorem ok_Fs1e51:jap Tryz.prog Fs1e51:=jak ok_Fs1e50 pk169
theorem fn125:Fn1 Tryz.prog 125 Tryz.f125:= .m Tryz.func125
def m125:List (E×Value):=[([.iface 213 (.agg ⟨[.int .i64 1234,.int .i64 1,.int .i64 4,.int .i64 2,.bool false,.string ⟨#[]⟩]⟩),.agg ⟨[.int .i64 5,.int .i64 0,.int .i64 0,.bool false,.string ⟨#[57,57,86,57]⟩]⟩],.tuple ⟨[.agg ⟨[.int .i64 0,.string ⟨#[49,50,51]⟩]⟩,.int .i64 0,.nilIface]⟩),([.iface 213 (.agg ⟨[.int .i64 125,.int .i64 1,.int .i64 9,.int .i64 2,.bool false,.string ⟨#[]⟩]⟩),.agg ⟨[.int .i64 1,.int .i64 5,.int .i64 2,.bool false,.string ⟨#[]⟩]⟩],.tuple ⟨[.agg ⟨[.int .i64 125,.string ⟨#[]⟩]⟩,.int .i64 0,.nilIface]⟩),([.iface 214 (.string ⟨#[49,49]⟩),.agg ⟨[.int .i64 4,.int .i64 4,.int .i64 0,.bool false,.string ⟨#[]⟩]⟩],.tuple ⟨[.agg ⟨[.int .i64 0,.string ⟨#[49,49,48,48]⟩]⟩,.int .i64 0,.nilIface]⟩),([.iface 217 (.string ⟨#[120]⟩),.agg ⟨[.int .i64 4,.int .i64 3,.int .i64 0,.bool false,.string ⟨#[]⟩]⟩],.tuple ⟨[.agg ⟨[.int .i64 0,.string ⟨#[48,48,48]⟩]⟩,.int .i64 0,.iface 176 (.agg ⟨[.string ⟨#[120]⟩]⟩)]⟩),([.iface 217 (.string ⟨#[105,116,39,115]⟩),.agg ⟨[.int .i64 3,.int .i64 6,.int .i64 0,.bool false,.string ⟨#[]⟩]⟩],.tuple ⟨[.agg ⟨[.int .i64 0,.string ⟨#[105,116,39,115,32,32]⟩]⟩,.int .i64 0,.nilIface]⟩),([.iface 217 (.string ⟨#[49,50]⟩),.agg ⟨[.int .i64 3,.int .i64 2,.int .i64 0,.bool false,.string ⟨#[]⟩]⟩],.tuple ⟨[.agg ⟨[.int .i64 0,.string ⟨#[49,50]⟩]⟩,.int .i64 0,.nilIface]⟩),([.iface 217 (.string ⟨#[51,52]⟩),.agg ⟨[.int .i64 3,.int .i64 2,.int .i64 0,.bool false,.string ⟨#[]⟩]⟩],.tuple ⟨[.agg ⟨[.int .i64 0,.string ⟨#[51,52]⟩]⟩,.int .i64 0,.nilIface]⟩),([.iface 217 (.string ⟨#[53,54]⟩),.agg ⟨[.int .i64 3,.int .i64 2,.int .i64 0,.bool false,.string ⟨#[]⟩]⟩],.tuple ⟨[.agg ⟨[.int .i64 0,.string ⟨#[53,54]⟩]⟩,.int .i64 0,.nilIface]⟩)]
theorem pk125:jam Tryz.prog 125 (memo m125):=jaq [] ok_Fs1e51 hmix fn125 jai (by kernel_rfl) (by kernel_rfl)
def Fs1e52:Env:=Fs1e51.add 125 (memo m125)
theorem ok_Fs1e52:jap Tryz.prog Fs1e52:=jak ok_Fs1e51 pk125
theorem fn127:Fn1 Tryz.prog 127 Tryz.f127:= .m Tryz.func127
def m127:List (E×Value):=[([.agg ⟨[.int .i64 4,.int .i64 3,.int .i64 0,.bool false,.string ⟨#[]⟩]⟩],.agg ⟨[.int .i64 0,.string ⟨#[48,48,48]⟩]⟩)]
theorem pk127:jam Tryz.prog 127 (memo m127):=jaq [] ok_Fs1e52 hmix fn127 jai (by kernel_rfl) (by kernel_rfl)
def Fs1e53:Env:=Fs1e52.add 127 (memo m127)
theorem ok_Fs1e53:jap Tryz.prog Fs1e53:=jak ok_Fs1e52 pk127
theorem fn74:Fn1 Tryz.prog 74 Tryz.f74:= .m Tryz.func74
def m74:List (E×Value):=[([.agg ⟨[.int .i64 1234,.string ⟨#[]⟩]⟩,.agg ⟨[.int .i64 1,.int .i64 4,.int .i64 2,.bool false,.string ⟨#[]⟩]⟩,.agg ⟨[.int .i64 5,.int .i64 0,.int .i64 0,.bool false,.string ⟨#[57,57,86,57]⟩]⟩],.tuple ⟨[.agg ⟨[.int .i64 0,.string ⟨#[49,50,51]⟩]⟩,.int .i64 0,.int .i64 0]⟩),([.agg ⟨[.int .i64 125,.string ⟨#[]⟩]⟩,.agg ⟨[.int .i64 1,.int .i64 9,.int .i64 2,.bool false,.string ⟨#[]⟩]⟩,.agg ⟨[.int .i64 1,.int .i64 5,.int .i64 2,.bool false,.string ⟨#[]⟩]⟩],.tuple ⟨[.agg ⟨[.int .i64 125,.string ⟨#[]⟩]⟩,.int .i64 0,.int .i64 0]⟩),([.agg ⟨[.int .i64 0,.string ⟨#[49,49]⟩]⟩,.agg ⟨[.int .i64 4,.int .i64 2,.int .i64 0,.bool false,.string ⟨#[]⟩]⟩,.agg ⟨[.int .i64 4,.int .i64 4,.int .i64 0,.bool false,.string ⟨#[]⟩]⟩],.tuple ⟨[.agg ⟨[.int .i64 0,.string ⟨#[49,49,48,48]⟩]⟩,.int .i64 0,.int .i64 0]⟩),([.agg ⟨[.int .i64 0,.string ⟨#[120]⟩]⟩,.agg ⟨[.int .i64 3,.int .i64 1,.int .i64 0,.bool false,.string ⟨#[]⟩]⟩,.agg ⟨[.int .i64 4,.int .i64 3,.int .i64 0,.bool false,.string ⟨#[]⟩]⟩],.tuple ⟨[.agg ⟨[.int .i64 0,.string ⟨#[48,48,48]⟩]⟩,.int .i64 4,.int .i64 0]⟩),([.agg ⟨[.int .i64 0,.string ⟨#[105,116,39,115]⟩]⟩,.agg ⟨[.int .i64 3,.int .i64 4,.int .i64 0,.bool false,.string ⟨#[]⟩]⟩,.agg ⟨[.int .i64 3,.int .i64 6,.int .i64 0,.bool false,.string ⟨#[]⟩]⟩],.tuple ⟨[.agg ⟨[.int .i64 0,.string ⟨#[105,116,39,115,32,32]⟩]⟩,.int .i64 0,.int .i64 0]⟩),([.agg ⟨[.int .i64 0,.string ⟨#[49,50]⟩]⟩,.agg ⟨[.int .i64 3,.int .i64 2,.int .i64 0,.bool false,.string ⟨#[]⟩]⟩,.agg ⟨[.int .i64 3,.int .i64 2,.int .i64 0,.bool false,.string ⟨#[]⟩]⟩],.tuple ⟨[.agg ⟨[.int .i64 0,.string ⟨#[49,50]⟩]⟩,.int .i64 0,.int .i64 0]⟩),([.agg ⟨[.int .i64 0,.string ⟨#[51,52]⟩]⟩,.agg ⟨[.int .i64 3,.int .i64 2,.int .i64 0,.bool false,.string ⟨#[]⟩]⟩,.agg ⟨[.int .i64 3,.int .i64 2,.int .i64 0,.bool false,.string ⟨#[]⟩]⟩],.tuple ⟨[.agg ⟨[.int .i64 0,.string ⟨#[51,52]⟩]⟩,.int .i64 0,.int .i64 0]⟩),([.agg ⟨[.int .i64 0,.string ⟨#[53,54]⟩]⟩,.agg ⟨[.int .i64 3,.int .i64 2,.int .i64 0,.bool false,.string ⟨#[]⟩]⟩,.agg ⟨[.int .i64 3,.int .i64 2,.int .i64 0,.bool false,.string ⟨#[]⟩]⟩],.tuple ⟨[.agg ⟨[.int .i64 0,.string ⟨#[53,54]⟩]⟩,.int .i64 0,.int .i64 0]⟩)]
theorem pk74:jam Tryz.prog 74 (memo m74):=jaq [] ok_Fs1e53 hmix fn74 jai (by kernel_rfl) (by kernel_rfl)
def Fs1e54:Env:=Fs1e53.add 74 (memo m74)
theorem ok_Fs1e54:jap Tryz.prog Fs1e54:=jak ok_Fs1e53 pk74
variable [MaxL]
theorem fn44:Fn1 Tryz.prog 44 Tryz.f44:= .m Tryz.func44
def m44:List (E×Value):=[([.agg ⟨[.int .i64 3,.int .i64 6,.int .i64 2,.string ⟨#[]⟩]⟩],.bool true),([.agg ⟨[.int .i64 3,.int .i64 4,.int .i64 2,.string ⟨#[]⟩]⟩],.bool true),([.agg ⟨[.int .i64 3,.int .i64 6,.int .i64 1,.string ⟨#[]⟩]⟩],.bool true),([.agg ⟨[.int .i64 3,.int .i64 3,.int .i64 0,.string ⟨#[]⟩]⟩],.bool true),([.agg ⟨[.int .i64 1,.int .i64 4,.int .i64 0,.string ⟨#[]⟩]⟩],.bool true),([.agg ⟨[.int .i64 2,.int .i64 4,.int .i64 0,.string ⟨#[]⟩]⟩],.bool true),([.agg ⟨[.int .i64 2,.int .i64 3,.int .i64 0,.string ⟨#[]⟩]⟩],.bool true),([.agg ⟨[.int .i64 4,.int .i64 0,.int .i64 0,.string ⟨#[57,57,86,57]⟩]⟩],.bool true),([.agg ⟨[.int .i64 1,.int .i64 2,.int .i64 0,.string ⟨#[]⟩]⟩],.bool true),([.agg ⟨[.int .i64 5,.int .i64 1,.int .i64 0,.string ⟨#[]⟩]⟩],.bool true),([.agg ⟨[.int .i64 6,.int .i64 5,.int .i64 0,.string ⟨#[]⟩]⟩],.bool true),([.agg ⟨[.int .i64 1,.int .i64 0,.int .i64 0,.string ⟨#[]⟩]⟩],.bool true)]
theorem pk44:jam Tryz.prog 44 (memo m44):=jaq [] ok_Fs1e54 hmix fn44 jai (by kernel_rfl) (by kernel_rfl)
def Fs2e1:Env:=Fs1e54.add 44 (memo m44)
theorem ok_Fs2e1:jap Tryz.prog Fs2e1:=jak ok_Fs1e54 pk44
theorem fn71:Fn1 Tryz.prog 71 Tryz.f71:= .m Tryz.func71
def m71:List (E×Value):=[([.agg ⟨[.int .i64 3,.int .i64 6,.int .i64 2,.string ⟨#[]⟩]⟩],.bool true),([.agg ⟨[.int .i64 3,.int .i64 4,.int .i64 2,.string ⟨#[]⟩]⟩],.bool true),([.agg ⟨[.int .i64 3,.int .i64 6,.int .i64 1,.string ⟨#[]⟩]⟩],.bool true),([.agg ⟨[.int .i64 3,.int .i64 3,.int .i64 0,.string ⟨#[]⟩]⟩],.bool true),([.agg ⟨[.int .i64 1,.int .i64 4,.int .i64 0,.string ⟨#[]⟩]⟩],.bool true),([.agg ⟨[.int .i64 2,.int .i64 4,.int .i64 0,.string ⟨#[]⟩]⟩],.bool true),([.agg ⟨[.int .i64 2,.int .i64 3,.int .i64 0,.string ⟨#[]⟩]⟩],.bool true),([.agg ⟨[.int .i64 4,.int .i64 0,.int .i64 0,.string ⟨#[57,57,86,57]⟩]⟩],.bool true),([.agg ⟨[.int .i64 1,.int .i64 2,.int .i64 0,.string ⟨#[]⟩]⟩],.bool true),([.agg ⟨[.int .i64 5,.int .i64 1,.int .i64 0,.string ⟨#[]⟩]⟩],.bool false),([.agg ⟨[.int .i64 6,.int .i64 5,.int .i64 0,.string ⟨#[]⟩]⟩],.bool false),([.agg ⟨[.int .i64 1,.int .i64 0,.int .i64 0,.string ⟨#[]⟩]⟩],.bool true)]
theorem pk71:jam Tryz.prog 71 (memo m71):=jaq [] ok_Fs2e1 hmix fn71 jai (by kernel_rfl) (by kernel_rfl)
def Fs2e2:Env:=Fs2e1.add 71 (memo m71)
theorem ok_Fs2e2:jap Tryz.prog Fs2e2:=jak ok_Fs2e1 pk71
theorem fn37:Fn1 Tryz.prog 37 Tryz.f37:= .m Tryz.func37
def m37:List (E×Value):=[([.agg ⟨[.int .i64 3,.int .i64 6,.int .i64 2,.string ⟨#[]⟩]⟩],.int .i64 0),([.agg ⟨[.int .i64 3,.int .i64 4,.int .i64 2,.string ⟨#[]⟩]⟩],.int .i64 0),([.agg ⟨[.int .i64 3,.int .i64 6,.int .i64 1,.string ⟨#[]⟩]⟩],.int .i64 0),([.agg ⟨[.int .i64 3,.int .i64 3,.int .i64 0,.string ⟨#[]⟩]⟩],.int .i64 0),([.agg ⟨[.int .i64 1,.int .i64 4,.int .i64 0,.string ⟨#[]⟩]⟩],.int .i64 0),([.agg ⟨[.int .i64 2,.int .i64 4,.int .i64 0,.string ⟨#[]⟩]⟩],.int .i64 0),([.agg ⟨[.int .i64 2,.int .i64 3,.int .i64 0,.string ⟨#[]⟩]⟩],.int .i64 0),([.agg ⟨[.int .i64 4,.int .i64 0,.int .i64 0,.string ⟨#[57,57,86,57]⟩]⟩],.int .i64 0)]
theorem pk37:jam Tryz.prog 37 (memo m37):=jaq [] ok_Fs2e2 hmix fn37 jai (by kernel_rfl) (by kernel_rfl)
def Fs2e3:Env:=Fs2e2.add 37 (memo m37)
theorem ok_Fs2e3:jap Tryz.prog Fs2e3:=jak ok_Fs2e2 pk37
theorem fn62:Fn1 Tryz.prog 62 Tryz.f62:= .m Tryz.func62
def m62:List (E×Value):=[([.agg ⟨[.int .i64 3,.int .i64 6,.int .i64 2,.string ⟨#[]⟩]⟩],.int .i64 6),([.agg ⟨[.int .i64 3,.int .i64 4,.int .i64 2,.string ⟨#[]⟩]⟩],.int .i64 4),([.agg ⟨[.int .i64 3,.int .i64 6,.int .i64 1,.string ⟨#[]⟩]⟩],.int .i64 6),([.agg ⟨[.int .i64 3,.int .i64 3,.int .i64 0,.string ⟨#[]⟩]⟩],.int .i64 3),([.agg ⟨[.int .i64 1,.int .i64 4,.int .i64 0,.string ⟨#[]⟩]⟩],.int .i64 4),([.agg ⟨[.int .i64 2,.int .i64 4,.int .i64 0,.string ⟨#[]⟩]⟩],.int .i64 4),([.agg ⟨[.int .i64 2,.int .i64 3,.int .i64 0,.string ⟨#[]⟩]⟩],.int .i64 3),([.agg ⟨[.int .i64 4,.int .i64 0,.int .i64 0,.string ⟨#[57,57,86,57]⟩]⟩],.int .i64 3),([.agg ⟨[.int .i64 1,.int .i64 2,.int .i64 0,.string ⟨#[]⟩]⟩],.int .i64 2),([.agg ⟨[.int .i64 1,.int .i64 0,.int .i64 0,.string ⟨#[]⟩]⟩],.int .i64 0)]
theorem pk62:jam Tryz.prog 62 (memo m62):=jaq [] ok_Fs2e3 hmix fn62 jai (by kernel_rfl) (by kernel_rfl)
def Fs2e4:Env:=Fs2e3.add 62 (memo m62)
theorem ok_Fs2e4:jap Tryz.prog Fs2e4:=jak ok_Fs2e3 pk62
theorem fn55:Fn1 Tryz.prog 55 Tryz.f55:= .m Tryz.func55
def m55:List (E×Value):=[([.agg ⟨[.int .i64 1,.int .i64 5,.int .i64 2,.bool false,.string ⟨#[]⟩]⟩],.int .i64 0),([.agg ⟨[.int .i64 1,.int .i64 3,.int .i64 1,.bool false,.string ⟨#[]⟩]⟩],.int .i64 0),([.agg ⟨[.int .i64 3,.int .i64 2,.int .i64 0,.bool false,.string ⟨#[]⟩]⟩],.int .i64 0),([.agg ⟨[.int .i64 4,.int .i64 2,.int .i64 0,.bool false,.string ⟨#[]⟩]⟩],.int .i64 0),([.agg ⟨[.int .i64 3,.int .i64 1,.int .i64 0,.bool false,.string ⟨#[]⟩]⟩],.int .i64 0),([.agg ⟨[.int .i64 1,.int .i64 4,.int .i64 2,.bool false,.string ⟨#[]⟩]⟩],.int .i64 0),([.agg ⟨[.int .i64 4,.int .i64 3,.int .i64 0,.bool false,.string ⟨#[]⟩]⟩],.int .i64 0),([.agg ⟨[.int .i64 3,.int .i64 6,.int .i64 0,.bool false,.string ⟨#[]⟩]⟩],.int .i64 0)]
theorem pk55:jam Tryz.prog 55 (memo m55):=jaq [] ok_Fs2e4 hmix fn55 jai (by kernel_rfl) (by kernel_rfl)
def Fs2e5:Env:=Fs2e4.add 55 (memo m55)
theorem ok_Fs2e5:jap Tryz.prog Fs2e5:=jak ok_Fs2e4 pk55
theorem fn38:Fn1 Tryz.prog 38 Tryz.f38:= .m Tryz.func38
def m38:List (E×Value):=[([.agg ⟨[.int .i64 5,.string ⟨#[]⟩]⟩,.agg ⟨[.int .i64 1,.int .i64 3,.int .i64 1,.bool false,.string ⟨#[]⟩]⟩],.int .i64 0),([.agg ⟨[.int .i64 0,.string ⟨#[97,98]⟩]⟩,.agg ⟨[.int .i64 3,.int .i64 2,.int .i64 0,.bool false,.string ⟨#[]⟩]⟩],.int .i64 0),([.agg ⟨[.int .i64 0,.string ⟨#[49,49]⟩]⟩,.agg ⟨[.int .i64 4,.int .i64 2,.int .i64 0,.bool false,.string ⟨#[]⟩]⟩],.int .i64 0),([.agg ⟨[.int .i64 0,.string ⟨#[120]⟩]⟩,.agg ⟨[.int .i64 3,.int .i64 1,.int .i64 0,.bool false,.string ⟨#[]⟩]⟩],.int .i64 0),([.agg ⟨[.int .i64 1234,.string ⟨#[]⟩]⟩,.agg ⟨[.int .i64 1,.int .i64 4,.int .i64 2,.bool false,.string ⟨#[]⟩]⟩],.int .i64 0),([.agg ⟨[.int .i64 (-125),.string ⟨#[]⟩]⟩,.agg ⟨[.int .i64 1,.int .i64 5,.int .i64 2,.bool false,.string ⟨#[]⟩]⟩],.int .i64 0),([.agg ⟨[.int .i64 0,.string ⟨#[120]⟩]⟩,.agg ⟨[.int .i64 3,.int .i64 1,.int .i64 0,.bool false,.string ⟨#[]⟩]⟩],.int .i64 0),([.agg ⟨[.int .i64 0,.string ⟨#[121]⟩]⟩,.agg ⟨[.int .i64 3,.int .i64 1,.int .i64 0,.bool false,.string ⟨#[]⟩]⟩],.int .i64 0),([.agg ⟨[.int .i64 150,.string ⟨#[]⟩]⟩,.agg ⟨[.int .i64 1,.int .i64 5,.int .i64 2,.bool false,.string ⟨#[]⟩]⟩],.int .i64 0),([.agg ⟨[.int .i64 0,.string ⟨#[49,48,49]⟩]⟩,.agg ⟨[.int .i64 4,.int .i64 3,.int .i64 0,.bool false,.string ⟨#[]⟩]⟩],.int .i64 0)]
theorem pk38:jam Tryz.prog 38 (memo m38):=jaq [] ok_Fs2e5 hmix fn38 jai (by kernel_rfl) (by kernel_rfl)
def Fs2e6:Env:=Fs2e5.add 38 (memo m38)
theorem ok_Fs2e6:jap Tryz.prog Fs2e6:=jak ok_Fs2e5 pk38
theorem fn129:Fn1 Tryz.prog 129 Tryz.f129:= .m Tryz.func129
def m129:List (E×Value):=[([.int .i64 (-125),.int .i64 2],.agg ⟨[.bool true,.string ⟨#[49,50,53]⟩,.int .i64 2]⟩),([.int .i64 5,.int .i64 1],.agg ⟨[.bool false,.string ⟨#[53]⟩,.int .i64 1]⟩)]
theorem pk129:jam Tryz.prog 129 (memo m129):=jaq [] ok_Fs2e6 hmix fn129 jai (by kernel_rfl) (by kernel_rfl)
def Fs2e7:Env:=Fs2e6.add 129 (memo m129)
theorem ok_Fs2e7:jap Tryz.prog Fs2e7:=jak ok_Fs2e6 pk129
theorem fn133:Fn1 Tryz.prog 133 Tryz.f133:= .m Tryz.func133
def m133:List (E×Value):=[([.agg ⟨[.bool true,.string ⟨#[49,50,53]⟩,.int .i64 2]⟩,.int .i64 2],.tuple ⟨[.string ⟨#[49,50,53]⟩,.bool true]⟩),([.agg ⟨[.bool true,.string ⟨#[49,50,53]⟩,.int .i64 2]⟩,.int .i64 1],.tuple ⟨[.string ⟨#[49,51]⟩,.bool true]⟩),([.agg ⟨[.bool false,.string ⟨#[53]⟩,.int .i64 1]⟩,.int .i64 0],.tuple ⟨[.string ⟨#[49]⟩,.bool true]⟩)]
theorem pk133:jam Tryz.prog 133 (memo m133):=jaq [] ok_Fs2e7 hmix fn133 jai (by kernel_rfl) (by kernel_rfl)
def Fs2e8:Env:=Fs2e7.add 133 (memo m133)
theorem ok_Fs2e8:jap Tryz.prog Fs2e8:=jak ok_Fs2e7 pk133
theorem fn76:Fn1 Tryz.prog 76 Tryz.f76:= .m Tryz.func76
def m76:List (E×Value):=[([.agg ⟨[.bool true,.string ⟨#[49,50,53]⟩,.int .i64 2]⟩,.int .i64 2],.tuple ⟨[.string ⟨#[45,49,46,50,53]⟩,.bool true]⟩),([.agg ⟨[.bool true,.string ⟨#[49,50,53]⟩,.int .i64 2]⟩,.int .i64 1],.tuple ⟨[.string ⟨#[45,49,46,51]⟩,.bool true]⟩),([.agg ⟨[.bool false,.string ⟨#[53]⟩,.int .i64 1]⟩,.int .i64 0],.tuple ⟨[.string ⟨#[49]⟩,.bool true]⟩)]
theorem pk76:jam Tryz.prog 76 (memo m76):=jaq [] ok_Fs2e8 hmix fn76 jai (by kernel_rfl) (by kernel_rfl)
def Fs2e9:Env:=Fs2e8.add 76 (memo m76)
theorem ok_Fs2e9:jap Tryz.prog Fs2e9:=jak ok_Fs2e8 pk76
theorem fn75:Fn1 Tryz.prog 75 Tryz.f75:= .m Tryz.func75
def m75:List (E×Value):=[([.agg ⟨[.int .i64 (-125),.string ⟨#[]⟩]⟩,.agg ⟨[.int .i64 1,.int .i64 5,.int .i64 2,.bool false,.string ⟨#[]⟩]⟩],.tuple ⟨[.agg ⟨[.bool true,.string ⟨#[49,50,53]⟩,.int .i64 2]⟩,.bool true]⟩),([.agg ⟨[.int .i64 5,.string ⟨#[]⟩]⟩,.agg ⟨[.int .i64 1,.int .i64 3,.int .i64 1,.bool false,.string ⟨#[]⟩]⟩],.tuple ⟨[.agg ⟨[.bool false,.string ⟨#[53]⟩,.int .i64 1]⟩,.bool true]⟩)]
theorem pk75:jam Tryz.prog 75 (memo m75):=jaq [] ok_Fs2e9 hmix fn75 jai (by kernel_rfl) (by kernel_rfl)
def Fs2e10:Env:=Fs2e9.add 75 (memo m75)
theorem ok_Fs2e10:jap Tryz.prog Fs2e10:=jak ok_Fs2e9 pk75
theorem fn39:Fn1 Tryz.prog 39 Tryz.f39:= .m Tryz.func39
def m39:List (E×Value):=[([.agg ⟨[.int .i64 3,.int .i64 6,.int .i64 2,.string ⟨#[]⟩]⟩,.agg ⟨[.int .i64 (-125),.string ⟨#[]⟩]⟩,.agg ⟨[.int .i64 1,.int .i64 5,.int .i64 2,.bool false,.string ⟨#[]⟩]⟩],.string ⟨#[32,45,49,46,50,53]⟩),([.agg ⟨[.int .i64 3,.int .i64 4,.int .i64 2,.string ⟨#[]⟩]⟩,.agg ⟨[.int .i64 (-125),.string ⟨#[]⟩]⟩,.agg ⟨[.int .i64 1,.int .i64 5,.int .i64 2,.bool false,.string ⟨#[]⟩]⟩],.string ⟨#[42,42,42,42]⟩),([.agg ⟨[.int .i64 3,.int .i64 6,.int .i64 1,.string ⟨#[]⟩]⟩,.agg ⟨[.int .i64 (-125),.string ⟨#[]⟩]⟩,.agg ⟨[.int .i64 1,.int .i64 5,.int .i64 2,.bool false,.string ⟨#[]⟩]⟩],.string ⟨#[32,32,45,49,46,51]⟩),([.agg ⟨[.int .i64 3,.int .i64 3,.int .i64 0,.string ⟨#[]⟩]⟩,.agg ⟨[.int .i64 5,.string ⟨#[]⟩]⟩,.agg ⟨[.int .i64 1,.int .i64 3,.int .i64 1,.bool false,.string ⟨#[]⟩]⟩],.string ⟨#[32,32,49]⟩),([.agg ⟨[.int .i64 1,.int .i64 4,.int .i64 0,.string ⟨#[]⟩]⟩,.agg ⟨[.int .i64 0,.string ⟨#[97,98]⟩]⟩,.agg ⟨[.int .i64 3,.int .i64 2,.int .i64 0,.bool false,.string ⟨#[]⟩]⟩],.string ⟨#[97,98,32,32]⟩),([.agg ⟨[.int .i64 2,.int .i64 4,.int .i64 0,.string ⟨#[]⟩]⟩,.agg ⟨[.int .i64 0,.string ⟨#[49,49]⟩]⟩,.agg ⟨[.int .i64 4,.int .i64 2,.int .i64 0,.bool false,.string ⟨#[]⟩]⟩],.string ⟨#[49,49,48,48]⟩),([.agg ⟨[.int .i64 2,.int .i64 3,.int .i64 0,.string ⟨#[]⟩]⟩,.agg ⟨[.int .i64 0,.string ⟨#[120]⟩]⟩,.agg ⟨[.int .i64 3,.int .i64 1,.int .i64 0,.bool false,.string ⟨#[]⟩]⟩],.string ⟨#[42,42,42]⟩),([.agg ⟨[.int .i64 4,.int .i64 0,.int .i64 0,.string ⟨#[57,57,86,57]⟩]⟩,.agg ⟨[.int .i64 1234,.string ⟨#[]⟩]⟩,.agg ⟨[.int .i64 1,.int .i64 4,.int .i64 2,.bool false,.string ⟨#[]⟩]⟩],.string ⟨#[49,50,51]⟩),([.agg ⟨[.int .i64 1,.int .i64 0,.int .i64 0,.string ⟨#[]⟩]⟩,.agg ⟨[.int .i64 0,.string ⟨#[120]⟩]⟩,.agg ⟨[.int .i64 3,.int .i64 1,.int .i64 0,.bool false,.string ⟨#[]⟩]⟩],.string ⟨#[120]⟩),([.agg ⟨[.int .i64 1,.int .i64 0,.int .i64 0,.string ⟨#[]⟩]⟩,.agg ⟨[.int .i64 0,.string ⟨#[121]⟩]⟩,.agg ⟨[.int .i64 3,.int .i64 1,.int .i64 0,.bool false,.string ⟨#[]⟩]⟩],.string ⟨#[121]⟩)]
theorem pk39:jam Tryz.prog 39 (memo m39):=jaq [] ok_Fs2e10 hmix fn39 jai (by kernel_rfl) (by kernel_rfl)
def Fs2e11:Env:=Fs2e10.add 39 (memo m39)
theorem ok_Fs2e11:jap Tryz.prog Fs2e11:=jak ok_Fs2e10 pk39
theorem fn8:Fn1 Tryz.prog 8 Tryz.f8:= .m Tryz.func8
def m8:List (E×Value):=[([.agg ⟨[.int .i64 3,.int .i64 6,.int .i64 2,.string ⟨#[]⟩]⟩,.agg ⟨[.int .i64 (-125),.string ⟨#[]⟩]⟩,.agg ⟨[.int .i64 1,.int .i64 5,.int .i64 2,.bool false,.string ⟨#[]⟩]⟩],.tuple ⟨[.string ⟨#[32,45,49,46,50,53]⟩,.int .i64 0]⟩),([.agg ⟨[.int .i64 3,.int .i64 4,.int .i64 2,.string ⟨#[]⟩]⟩,.agg ⟨[.int .i64 (-125),.string ⟨#[]⟩]⟩,.agg ⟨[.int .i64 1,.int .i64 5,.int .i64 2,.bool false,.string ⟨#[]⟩]⟩],.tuple ⟨[.string ⟨#[42,42,42,42]⟩,.int .i64 0]⟩),([.agg ⟨[.int .i64 3,.int .i64 6,.int .i64 1,.string ⟨#[]⟩]⟩,.agg ⟨[.int .i64 (-125),.string ⟨#[]⟩]⟩,.agg ⟨[.int .i64 1,.int .i64 5,.int .i64 2,.bool false,.string ⟨#[]⟩]⟩],.tuple ⟨[.string ⟨#[32,32,45,49,46,51]⟩,.int .i64 0]⟩),([.agg ⟨[.int .i64 3,.int .i64 3,.int .i64 0,.string ⟨#[]⟩]⟩,.agg ⟨[.int .i64 5,.string ⟨#[]⟩]⟩,.agg ⟨[.int .i64 1,.int .i64 3,.int .i64 1,.bool false,.string ⟨#[]⟩]⟩],.tuple ⟨[.string ⟨#[32,32,49]⟩,.int .i64 0]⟩),([.agg ⟨[.int .i64 1,.int .i64 4,.int .i64 0,.string ⟨#[]⟩]⟩,.agg ⟨[.int .i64 0,.string ⟨#[97,98]⟩]⟩,.agg ⟨[.int .i64 3,.int .i64 2,.int .i64 0,.bool false,.string ⟨#[]⟩]⟩],.tuple ⟨[.string ⟨#[97,98,32,32]⟩,.int .i64 0]⟩),([.agg ⟨[.int .i64 2,.int .i64 4,.int .i64 0,.string ⟨#[]⟩]⟩,.agg ⟨[.int .i64 0,.string ⟨#[49,49]⟩]⟩,.agg ⟨[.int .i64 4,.int .i64 2,.int .i64 0,.bool false,.string ⟨#[]⟩]⟩],.tuple ⟨[.string ⟨#[49,49,48,48]⟩,.int .i64 0]⟩),([.agg ⟨[.int .i64 2,.int .i64 3,.int .i64 0,.string ⟨#[]⟩]⟩,.agg ⟨[.int .i64 0,.string ⟨#[120]⟩]⟩,.agg ⟨[.int .i64 3,.int .i64 1,.int .i64 0,.bool false,.string ⟨#[]⟩]⟩],.tuple ⟨[.string ⟨#[42,42,42]⟩,.int .i64 0]⟩),([.agg ⟨[.int .i64 4,.int .i64 0,.int .i64 0,.string ⟨#[57,57,86,57]⟩]⟩,.agg ⟨[.int .i64 1234,.string ⟨#[]⟩]⟩,.agg ⟨[.int .i64 1,.int .i64 4,.int .i64 2,.bool false,.string ⟨#[]⟩]⟩],.tuple ⟨[.string ⟨#[49,50,51]⟩,.int .i64 0]⟩)]
theorem pk8:jam Tryz.prog 8 (memo m8):=jaq [] ok_Fs2e11 hmix fn8 jai (by kernel_rfl) (by kernel_rfl)
def Fs2e12:Env:=Fs2e11.add 8 (memo m8)
theorem ok_Fs2e12:jap Tryz.prog Fs2e12:=jak ok_Fs2e11 pk8
theorem fn50:Fn1 Tryz.prog 50 Tryz.f50:= .m Tryz.func50
def m50:List (E×Value):=[([.agg ⟨[.int .i64 150,.string ⟨#[]⟩]⟩,.agg ⟨[.int .i64 1,.int .i64 5,.int .i64 2,.bool false,.string ⟨#[]⟩]⟩],.string ⟨#[49,46,53,48]⟩),([.agg ⟨[.int .i64 0,.string ⟨#[49,48,49]⟩]⟩,.agg ⟨[.int .i64 4,.int .i64 3,.int .i64 0,.bool false,.string ⟨#[]⟩]⟩],.string ⟨#[39,49,48,49,39,66]⟩)]
theorem pk50:jam Tryz.prog 50 (memo m50):=jaq [] ok_Fs2e12 hmix fn50 jai (by kernel_rfl) (by kernel_rfl)
def Fs2e13:Env:=Fs2e12.add 50 (memo m50)
theorem ok_Fs2e13:jap Tryz.prog Fs2e13:=jak ok_Fs2e12 pk50
theorem fn27:Fn1 Tryz.prog 27 Tryz.f27:= .m Tryz.func27
def m27:List (E×Value):=[([.agg ⟨[.int .i64 150,.string ⟨#[]⟩]⟩,.agg ⟨[.int .i64 1,.int .i64 5,.int .i64 2,.bool false,.string ⟨#[]⟩]⟩],.tuple ⟨[.string ⟨#[49,46,53,48]⟩,.int .i64 0]⟩),([.agg ⟨[.int .i64 0,.string ⟨#[49,48,49]⟩]⟩,.agg ⟨[.int .i64 4,.int .i64 3,.int .i64 0,.bool false,.string ⟨#[]⟩]⟩],.tuple ⟨[.string ⟨#[39,49,48,49,39,66]⟩,.int .i64 0]⟩)]
theorem pk27:jam Tryz.prog 27 (memo m27):=jaq [] ok_Fs2e13 hmix fn27 jai (by kernel_rfl) (by kernel_rfl)
def Fs2e14:Env:=Fs2e13.add 27 (memo m27)
theorem ok_Fs2e14:jap Tryz.prog Fs2e14:=jak ok_Fs2e13 pk27
theorem fn90:Fn1 Tryz.prog 90 Tryz.f90:= .m Tryz.func90
def m90:List (E×Value):=[([.string ⟨#[105,116,39,115]⟩],.agg ⟨[.int .i64 0,.string ⟨#[105,116,39,115]⟩,.int .i64 3,.int .i64 4,.int .i64 0,.bool false,.string ⟨#[]⟩,.bool false]⟩),([.string ⟨#[49,50]⟩],.agg ⟨[.int .i64 0,.string ⟨#[49,50]⟩,.int .i64 3,.int .i64 2,.int .i64 0,.bool false,.string ⟨#[]⟩,.bool false]⟩),([.string ⟨#[51,52]⟩],.agg ⟨[.int .i64 0,.string ⟨#[51,52]⟩,.int .i64 3,.int .i64 2,.int .i64 0,.bool false,.string ⟨#[]⟩,.bool false]⟩),([.string ⟨#[53,54]⟩],.agg ⟨[.int .i64 0,.string ⟨#[53,54]⟩,.int .i64 3,.int .i64 2,.int .i64 0,.bool false,.string ⟨#[]⟩,.bool false]⟩)]
theorem pk90:jam Tryz.prog 90 (memo m90):=jaq [] ok_Fs2e14 hmix fn90 jai (by kernel_rfl) (by kernel_rfl)
def Fs2e15:Env:=Fs2e14.add 90 (memo m90)
theorem ok_Fs2e15:jap Tryz.prog Fs2e15:=jak ok_Fs2e14 pk90
theorem fn89:Fn1 Tryz.prog 89 Tryz.f89:= .m Tryz.func89
def m89:List (E×Value):=[([.agg ⟨[.int .i64 1,.int .i64 5,.int .i64 2,.bool false,.string ⟨#[]⟩]⟩],.agg ⟨[.int .i64 0,.string ⟨#[]⟩]⟩)]
theorem pk89:jam Tryz.prog 89 (memo m89):=jaq [] ok_Fs2e15 hmix fn89 jai (by kernel_rfl) (by kernel_rfl)
def Fs2e16:Env:=Fs2e15.add 89 (memo m89)
theorem ok_Fs2e16:jap Tryz.prog Fs2e16:=jak ok_Fs2e15 pk89
theorem fn91:Fn1 Tryz.prog 91 Tryz.f91:= .m Tryz.func91
def m91:List (E×Value):=[([.agg ⟨[.int .i64 125,.string ⟨#[]⟩,.int .i64 1,.int .i64 9,.int .i64 2,.bool false,.string ⟨#[]⟩,.bool false]⟩,.agg ⟨[.int .i64 1,.int .i64 5,.int .i64 2,.bool false,.string ⟨#[]⟩]⟩],.tuple ⟨[.agg ⟨[.int .i64 125,.string ⟨#[]⟩]⟩,.int .i64 0]⟩),([.agg ⟨[.int .i64 0,.string ⟨#[]⟩,.int .i64 0,.int .i64 0,.int .i64 0,.bool false,.string ⟨#[]⟩,.bool true]⟩,.agg ⟨[.int .i64 1,.int .i64 5,.int .i64 2,.bool false,.string ⟨#[]⟩]⟩],.tuple ⟨[.agg ⟨[.int .i64 0,.string ⟨#[]⟩]⟩,.int .i64 4]⟩),([.agg ⟨[.int .i64 0,.string ⟨#[105,116,39,115]⟩,.int .i64 3,.int .i64 4,.int .i64 0,.bool false,.string ⟨#[]⟩,.bool false]⟩,.agg ⟨[.int .i64 3,.int .i64 6,.int .i64 0,.bool false,.string ⟨#[]⟩]⟩],.tuple ⟨[.agg ⟨[.int .i64 0,.string ⟨#[105,116,39,115,32,32]⟩]⟩,.int .i64 0]⟩),([.agg ⟨[.int .i64 0,.string ⟨#[49,50]⟩,.int .i64 3,.int .i64 2,.int .i64 0,.bool false,.string ⟨#[]⟩,.bool false]⟩,.agg ⟨[.int .i64 3,.int .i64 2,.int .i64 0,.bool false,.string ⟨#[]⟩]⟩],.tuple ⟨[.agg ⟨[.int .i64 0,.string ⟨#[49,50]⟩]⟩,.int .i64 0]⟩),([.agg ⟨[.int .i64 0,.string ⟨#[51,52]⟩,.int .i64 3,.int .i64 2,.int .i64 0,.bool false,.string ⟨#[]⟩,.bool false]⟩,.agg ⟨[.int .i64 3,.int .i64 2,.int .i64 0,.bool false,.string ⟨#[]⟩]⟩],.tuple ⟨[.agg ⟨[.int .i64 0,.string ⟨#[51,52]⟩]⟩,.int .i64 0]⟩),([.agg ⟨[.int .i64 0,.string ⟨#[53,54]⟩,.int .i64 3,.int .i64 2,.int .i64 0,.bool false,.string ⟨#[]⟩,.bool false]⟩,.agg ⟨[.int .i64 3,.int .i64 2,.int .i64 0,.bool false,.string ⟨#[]⟩]⟩],.tuple ⟨[.agg ⟨[.int .i64 0,.string ⟨#[53,54]⟩]⟩,.int .i64 0]⟩)]
theorem pk91:jam Tryz.prog 91 (memo m91):=jaq [] ok_Fs2e16 hmix fn91 jai (by kernel_rfl) (by kernel_rfl)
def Fs2e17:Env:=Fs2e16.add 91 (memo m91)
theorem ok_Fs2e17:jap Tryz.prog Fs2e17:=jak ok_Fs2e16 pk91
theorem fn98:Fn1 Tryz.prog 98 Tryz.f98:= .m Tryz.func98
def m98:List (E×Value):=[([.agg ⟨[.int .i64 1,.int .i64 2,.int .i64 0,.string ⟨#[]⟩]⟩,.string ⟨#[49,50]⟩],.agg ⟨[.int .i64 0,.string ⟨#[49,50]⟩,.int .i64 3,.int .i64 2,.int .i64 0,.bool false,.string ⟨#[]⟩,.bool false]⟩),([.agg ⟨[.int .i64 1,.int .i64 2,.int .i64 0,.string ⟨#[]⟩]⟩,.string ⟨#[51,52]⟩],.agg ⟨[.int .i64 0,.string ⟨#[51,52]⟩,.int .i64 3,.int .i64 2,.int .i64 0,.bool false,.string ⟨#[]⟩,.bool false]⟩),([.agg ⟨[.int .i64 1,.int .i64 2,.int .i64 0,.string ⟨#[]⟩]⟩,.string ⟨#[53,54]⟩],.agg ⟨[.int .i64 0,.string ⟨#[53,54]⟩,.int .i64 3,.int .i64 2,.int .i64 0,.bool false,.string ⟨#[]⟩,.bool false]⟩)]
theorem pk98:jam Tryz.prog 98 (memo m98):=jaq [] ok_Fs2e17 hmix fn98 jai (by kernel_rfl) (by kernel_rfl)
def Fs2e18:Env:=Fs2e17.add 98 (memo m98)
theorem ok_Fs2e18:jap Tryz.prog Fs2e18:=jak ok_Fs2e17 pk98
def Fs2e19:Env:=Fs2e18.add 187 (sp2 Px.s141)
theorem ok_Fs2e19:jap Tryz.prog Fs2e19:=jak ok_Fs2e18 (pureC Ff.ok187)
def Fs2e20:Env:=Fs2e19.add 87 (sp2 Ff.s87)
theorem ok_Fs2e20:jap Tryz.prog Fs2e20:=jak ok_Fs2e19 (pureC Ff.ok87)
def Fs2e21:Env:=Fs2e20.add 80 (sp2 Ff.s80)
theorem ok_Fs2e21:jap Tryz.prog Fs2e21:=jak ok_Fs2e20 (pureC Ff.ok80)
theorem fn165:Fn1 Tryz.prog 165 Tryz.f165:= .m Tryz.func165
def Fs2e22:Env:=Fs2e21.addG 165 (inlQ Tryz.prog Fs2e21 noL Tryz.f165)
theorem ok_Fs2e22:jap Tryz.prog Fs2e22:=jao ok_Fs2e21 (jas ok_Fs2e21 hmix fn165 jai)
theorem fn121:Fn1 Tryz.prog 121 Tryz.f121:= .m Tryz.func121
def Fs2e23:Env:=Fs2e22.addG 121 (inlQ Tryz.prog Fs2e22 noL Tryz.f121)
theorem ok_Fs2e23:jap Tryz.prog Fs2e23:=jao ok_Fs2e22 (jas ok_Fs2e22 hmix fn121 jai)
theorem fn188:Fn1 Tryz.prog 188 Tryz.f188:= .m Tryz.func188
def Fs2e24:Env:=Fs2e23.addG 188 (inlQ Tryz.prog Fs2e23 noL Tryz.f188)
theorem ok_Fs2e24:jap Tryz.prog Fs2e24:=jao ok_Fs2e23 (jas ok_Fs2e23 hmix fn188 jai)
theorem fn141:Fn1 Tryz.prog 141 Tryz.f141:= .m Tryz.func141
def Fs2e25:Env:=Fs2e24.addG 141 (inlQ Tryz.prog Fs2e24 noL Tryz.f141)
theorem ok_Fs2e25:jap Tryz.prog Fs2e25:=jao ok_Fs2e24 (jas ok_Fs2e24 hmix fn141 jai)
theorem fn97:Fn1 Tryz.prog 97 Tryz.f97:= .m Tryz.func97
def Fs2e26:Env:=Fs2e25.addG 97 (inlQ Tryz.prog Fs2e25 noL Tryz.f97)
theorem ok_Fs2e26:jap Tryz.prog Fs2e26:=jao ok_Fs2e25 (jas ok_Fs2e25 hmix fn97 jai)
theorem fn100:Fn1 Tryz.prog 100 Tryz.f100:= .m Tryz.func100
def m100:List (E×Value):=[([.agg ⟨[.int .i64 3,.int .i64 6,.int .i64 2,.string ⟨#[]⟩]⟩,.string ⟨#[32,32,32,49,50,53]⟩],.agg ⟨[.int .i64 125,.string ⟨#[]⟩,.int .i64 1,.int .i64 9,.int .i64 2,.bool false,.string ⟨#[]⟩,.bool false]⟩),([.agg ⟨[.int .i64 3,.int .i64 6,.int .i64 2,.string ⟨#[]⟩]⟩,.string ⟨#[49,46,50,46,51,32]⟩],.agg ⟨[.int .i64 0,.string ⟨#[]⟩,.int .i64 0,.int .i64 0,.int .i64 0,.bool false,.string ⟨#[]⟩,.bool true]⟩)]
theorem pk100:jam Tryz.prog 100 (memo m100):=jaq [] ok_Fs2e26 hmix fn100 jai (by kernel_rfl) (by kernel_rfl)
def Fs2e27:Env:=Fs2e26.add 100 (memo m100)
theorem ok_Fs2e27:jap Tryz.prog Fs2e27:=jak ok_Fs2e26 pk100
theorem fn60:Fn1 Tryz.prog 60 Tryz.f60:= .m Tryz.func60
def m60:List (E×Value):=[([.agg ⟨[.int .i64 3,.int .i64 6,.int .i64 2,.string ⟨#[]⟩]⟩,.string ⟨#[32,32,32,49,50,53]⟩,.agg ⟨[.int .i64 1,.int .i64 5,.int .i64 2,.bool false,.string ⟨#[]⟩]⟩],.tuple ⟨[.agg ⟨[.int .i64 125,.string ⟨#[]⟩]⟩,.int .i64 0]⟩),([.agg ⟨[.int .i64 3,.int .i64 6,.int .i64 2,.string ⟨#[]⟩]⟩,.string ⟨#[49,46,50,46,51,32]⟩,.agg ⟨[.int .i64 1,.int .i64 5,.int .i64 2,.bool false,.string ⟨#[]⟩]⟩],.tuple ⟨[.agg ⟨[.int .i64 0,.string ⟨#[]⟩]⟩,.int .i64 4]⟩),([.agg ⟨[.int .i64 1,.int .i64 2,.int .i64 0,.string ⟨#[]⟩]⟩,.string ⟨#[49,50]⟩,.agg ⟨[.int .i64 3,.int .i64 2,.int .i64 0,.bool false,.string ⟨#[]⟩]⟩],.tuple ⟨[.agg ⟨[.int .i64 0,.string ⟨#[49,50]⟩]⟩,.int .i64 0]⟩),([.agg ⟨[.int .i64 1,.int .i64 2,.int .i64 0,.string ⟨#[]⟩]⟩,.string ⟨#[51,52]⟩,.agg ⟨[.int .i64 3,.int .i64 2,.int .i64 0,.bool false,.string ⟨#[]⟩]⟩],.tuple ⟨[.agg ⟨[.int .i64 0,.string ⟨#[51,52]⟩]⟩,.int .i64 0]⟩),([.agg ⟨[.int .i64 1,.int .i64 2,.int .i64 0,.string ⟨#[]⟩]⟩,.string ⟨#[53,54]⟩,.agg ⟨[.int .i64 3,.int .i64 2,.int .i64 0,.bool false,.string ⟨#[]⟩]⟩],.tuple ⟨[.agg ⟨[.int .i64 0,.string ⟨#[53,54]⟩]⟩,.int .i64 0]⟩)]
theorem pk60:jam Tryz.prog 60 (memo m60):=jaq [.both .leaf .leaf,.both .leaf .leaf,.both .leaf .leaf,.both .leaf .leaf,.both .leaf .leaf] ok_Fs2e27 hmix fn60 jai (by kernel_rfl) (by kernel_rfl)
def Fs2e28:Env:=Fs2e27.add 60 (memo m60)
theorem ok_Fs2e28:jap Tryz.prog Fs2e28:=jak ok_Fs2e27 pk60
theorem fn28:Fn1 Tryz.prog 28 Tryz.f28:= .m Tryz.func28
def m28:List (E×Value):=[([.agg ⟨[.int .i64 3,.int .i64 6,.int .i64 2,.string ⟨#[]⟩]⟩,.string ⟨#[32,32,32,49,50,53]⟩,.agg ⟨[.int .i64 1,.int .i64 5,.int .i64 2,.bool false,.string ⟨#[]⟩]⟩],.tuple ⟨[.agg ⟨[.int .i64 125,.string ⟨#[]⟩]⟩,.int .i64 0,.int .i64 0]⟩),([.agg ⟨[.int .i64 3,.int .i64 6,.int .i64 2,.string ⟨#[]⟩]⟩,.string ⟨#[49,46,50,46,51,32]⟩,.agg ⟨[.int .i64 1,.int .i64 5,.int .i64 2,.bool false,.string ⟨#[]⟩]⟩],.tuple ⟨[.agg ⟨[.int .i64 0,.string ⟨#[]⟩]⟩,.int .i64 4,.int .i64 0]⟩)]
theorem pk28:jam Tryz.prog 28 (memo m28):=jaq [] ok_Fs2e28 hmix fn28 jai (by kernel_rfl) (by kernel_rfl)
def Fs2e29:Env:=Fs2e28.add 28 (memo m28)
theorem ok_Fs2e29:jap Tryz.prog Fs2e29:=jak ok_Fs2e28 pk28
theorem fn88:Fn1 Tryz.prog 88 Tryz.f88:= .m Tryz.func88
def m88:List (E×Value):=[([.string ⟨#[39,105,116,39,39,115,39]⟩],.tuple ⟨[.int .i64 7,.bool true]⟩),([.string ⟨#[39,97,32,98,39,32,39,49,39,66]⟩],.tuple ⟨[.int .i64 5,.bool true]⟩),([.string ⟨#[39,49,39,66]⟩],.tuple ⟨[.int .i64 4,.bool true]⟩)]
theorem pk88:jam Tryz.prog 88 (memo m88):=jaq [] ok_Fs2e29 hmix fn88 jai (by kernel_rfl) (by kernel_rfl)
def Fs2e30:Env:=Fs2e29.add 88 (memo m88)
theorem ok_Fs2e30:jap Tryz.prog Fs2e30:=jak ok_Fs2e29 pk88
theorem fn57:Fn1 Tryz.prog 57 Tryz.f57:= .m Tryz.func57
def m57:List (E×Value):=[([.string ⟨#[39,105,116,39,39,115,39]⟩,.agg ⟨[.int .i64 3,.int .i64 6,.int .i64 0,.bool false,.string ⟨#[]⟩]⟩],.tuple ⟨[.agg ⟨[.int .i64 0,.string ⟨#[105,116,39,115,32,32]⟩]⟩,.int .i64 0]⟩)]
theorem pk57:jam Tryz.prog 57 (memo m57):=jaq [] ok_Fs2e30 hmix fn57 jai (by kernel_rfl) (by kernel_rfl)
def Fs2e31:Env:=Fs2e30.add 57 (memo m57)
theorem ok_Fs2e31:jap Tryz.prog Fs2e31:=jak ok_Fs2e30 pk57
theorem fn30:Fn1 Tryz.prog 30 Tryz.f30:= .m Tryz.func30
def m30:List (E×Value):=[([.string ⟨#[39,105,116,39,39,115,39]⟩,.agg ⟨[.int .i64 3,.int .i64 6,.int .i64 0,.bool false,.string ⟨#[]⟩]⟩],.tuple ⟨[.agg ⟨[.int .i64 0,.string ⟨#[105,116,39,115,32,32]⟩]⟩,.int .i64 0,.int .i64 0]⟩)]
theorem pk30:jam Tryz.prog 30 (memo m30):=jaq [] ok_Fs2e31 hmix fn30 jai (by kernel_rfl) (by kernel_rfl)
def Fs2e32:Env:=Fs2e31.add 30 (memo m30)
theorem ok_Fs2e32:jap Tryz.prog Fs2e32:=jak ok_Fs2e31 pk30
def Fs2e33:Env:=Fs2e32.addG 134 Ff.h134
theorem ok_Fs2e33:jap Tryz.prog Fs2e33:=jao ok_Fs2e32 Ff.gen134
def Fs2e34:Env:=Fs2e33.addG 54 Ff.h54
theorem ok_Fs2e34:jap Tryz.prog Fs2e34:=jao ok_Fs2e33 Ff.gen54
def Fs2e35:Env:=Fs2e34.add 53 (Ff.s53)
theorem ok_Fs2e35:jap Tryz.prog Fs2e35:=jak ok_Fs2e34 Ff.ok53
theorem fn78:Fn1 Tryz.prog 78 Tryz.f78:= .m Tryz.func78
def Fs2e36:Env:=Fs2e35.addG 78 (inlQ Tryz.prog Fs2e35 noL Tryz.f78)
theorem ok_Fs2e36:jap Tryz.prog Fs2e36:=jao ok_Fs2e35 (jas ok_Fs2e35 hmix fn78 jai)
def Fs2e37:Env:=Fs2e36.add 85 (Ff.s85)
theorem ok_Fs2e37:jap Tryz.prog Fs2e37:=jak ok_Fs2e36 (pureC Ff.ok85)
def Fs2e38:Env:=Fs2e37.add 63 (Ff.s63)
theorem ok_Fs2e38:jap Tryz.prog Fs2e38:=jak ok_Fs2e37 (pureC Ff.ok63)
def Fs2e39:Env:=Fs2e38.add 61 (Ff.s61)
theorem ok_Fs2e39:jap Tryz.prog Fs2e39:=jak ok_Fs2e38 (pureC Ff.ok61)
theorem fn84:Fn1 Tryz.prog 84 Tryz.f84:= .m Tryz.func84
def Fs2e40:Env:=Fs2e39.addG 84 (inlQ Tryz.prog Fs2e39 noL Tryz.f84)
theorem ok_Fs2e40:jap Tryz.prog Fs2e40:=jao ok_Fs2e39 (jas ok_Fs2e39 hmix fn84 jai)
theorem fn86:Fn1 Tryz.prog 86 Tryz.f86:= .m Tryz.func86
def Fs2e41:Env:=Fs2e40.addG 86 (inlQ Tryz.prog Fs2e40 noL Tryz.f86)
theorem ok_Fs2e41:jap Tryz.prog Fs2e41:=jao ok_Fs2e40 (jas ok_Fs2e40 hmix fn86 jai)
theorem fn56:Fn1 Tryz.prog 56 Tryz.f56:= .m Tryz.func56
def Fs2e42:Env:=Fs2e41.addG 56 (inlQ Tryz.prog Fs2e41 noL Tryz.f56)
theorem ok_Fs2e42:jap Tryz.prog Fs2e42:=jao ok_Fs2e41 (jas ok_Fs2e41 hmix fn56 jai)
theorem fn20:Fn1 Tryz.prog 20 Tryz.f20:= .m Tryz.func20
def Fs2e43:Env:=Fs2e42.addG 20 (inlQ Tryz.prog Fs2e42 noL Tryz.f20)
theorem ok_Fs2e43:jap Tryz.prog Fs2e43:=jao ok_Fs2e42 (jas ok_Fs2e42 hmix fn20 jai)
theorem fn29:Fn1 Tryz.prog 29 Tryz.f29:= .m Tryz.func29
def Fs2e44:Env:=Fs2e43.addG 29 (inlQ Tryz.prog Fs2e43 noL Tryz.f29)
theorem ok_Fs2e44:jap Tryz.prog Fs2e44:=jao ok_Fs2e43 (jas ok_Fs2e43 hmix fn29 jai)
theorem fn31:Fn1 Tryz.prog 31 Tryz.f31:= .m Tryz.func31
def Fs2e45:Env:=Fs2e44.addG 31 (inlQ Tryz.prog Fs2e44 noL Tryz.f31)
theorem ok_Fs2e45:jap Tryz.prog Fs2e45:=jao ok_Fs2e44 (jas ok_Fs2e44 hmix fn31 jai)
theorem fn94:Fn1 Tryz.prog 94 Tryz.f94:= .m Tryz.func94
def Fs2e46:Env:=Fs2e45.addG 94 (inlQ Tryz.prog Fs2e45 noL Tryz.f94)
theorem ok_Fs2e46:jap Tryz.prog Fs2e46:=jao ok_Fs2e45 (jas ok_Fs2e45 hmix fn94 jai)
theorem fn95:Fn1 Tryz.prog 95 Tryz.f95:= .m Tryz.func95
def Fs2e47:Env:=Fs2e46.addG 95 (inlQ Tryz.prog Fs2e46 noL Tryz.f95)
theorem ok_Fs2e47:jap Tryz.prog Fs2e47:=jao ok_Fs2e46 (jas ok_Fs2e46 hmix fn95 jai)
theorem fn96:Fn1 Tryz.prog 96 Tryz.f96:= .m Tryz.func96
def Fs2e48:Env:=Fs2e47.addG 96 (inlQ Tryz.prog Fs2e47 noL Tryz.f96)
theorem ok_Fs2e48:jap Tryz.prog Fs2e48:=jao ok_Fs2e47 (jas ok_Fs2e47 hmix fn96 jai)
theorem fn58:Fn1 Tryz.prog 58 Tryz.f58:= .m Tryz.func58
def Fs2e49:Env:=Fs2e48.addG 58 (inlQ Tryz.prog Fs2e48 noL Tryz.f58)
theorem ok_Fs2e49:jap Tryz.prog Fs2e49:=jao ok_Fs2e48 (jas ok_Fs2e48 hmix fn58 jai)
theorem fn59:Fn1 Tryz.prog 59 Tryz.f59:= .m Tryz.func59
def Fs2e50:Env:=Fs2e49.addG 59 (inlQ Tryz.prog Fs2e49 noL Tryz.f59)
theorem ok_Fs2e50:jap Tryz.prog Fs2e50:=jao ok_Fs2e49 (jas ok_Fs2e49 hmix fn59 jai)
theorem fn43:Fn1 Tryz.prog 43 Tryz.f43:= .m Tryz.func43
def Fs2e51:Env:=Fs2e50.addG 43 (inlQ Tryz.prog Fs2e50 noL Tryz.f43)
theorem ok_Fs2e51:jap Tryz.prog Fs2e51:=jao ok_Fs2e50 (jas ok_Fs2e50 hmix fn43 jai)
theorem fn77:Fn1 Tryz.prog 77 Tryz.f77:= .m Tryz.func77
def Fs2e52:Env:=Fs2e51.addG 77 (inlQ Tryz.prog Fs2e51 noL Tryz.f77)
theorem ok_Fs2e52:jap Tryz.prog Fs2e52:=jao ok_Fs2e51 (jas ok_Fs2e51 hmix fn77 jai)
theorem fn41:Fn1 Tryz.prog 41 Tryz.f41:= .m Tryz.func41
def Fs2e53:Env:=Fs2e52.addG 41 (inlQ Tryz.prog Fs2e52 noL Tryz.f41)
theorem ok_Fs2e53:jap Tryz.prog Fs2e53:=jao ok_Fs2e52 (jas ok_Fs2e52 hmix fn41 jai)
theorem fn12:Fn1 Tryz.prog 12 Tryz.f12:= .m Tryz.func12
def Fs2e54:Env:=Fs2e53.addG 12 (inlQ Tryz.prog Fs2e53 noL Tryz.f12)
theorem ok_Fs2e54:jap Tryz.prog Fs2e54:=jao ok_Fs2e53 (jas ok_Fs2e53 hmix fn12 jai)
theorem fn45:Fn1 Tryz.prog 45 Tryz.f45:= .m Tryz.func45
def Fs2e55:Env:=Fs2e54.addG 45 (inlQ Tryz.prog Fs2e54 noL Tryz.f45)
theorem ok_Fs2e55:jap Tryz.prog Fs2e55:=jao ok_Fs2e54 (jas ok_Fs2e54 hmix fn45 jai)
theorem fn46:Fn1 Tryz.prog 46 Tryz.f46:= .m Tryz.func46
def Fs2e56:Env:=Fs2e55.addG 46 (inlQ Tryz.prog Fs2e55 noL Tryz.f46)
theorem ok_Fs2e56:jap Tryz.prog Fs2e56:=jao ok_Fs2e55 (jas ok_Fs2e55 hmix fn46 jai)
theorem fn22:Fn1 Tryz.prog 22 Tryz.f22:= .m Tryz.func22
def Fs2e57:Env:=Fs2e56.addG 22 (inlQ Tryz.prog Fs2e56 noL Tryz.f22)
theorem ok_Fs2e57:jap Tryz.prog Fs2e57:=jao ok_Fs2e56 (jas ok_Fs2e56 hmix fn22 jai)
theorem fn24:Fn1 Tryz.prog 24 Tryz.f24:= .m Tryz.func24
def Fs2e58:Env:=Fs2e57.addG 24 (inlQ Tryz.prog Fs2e57 noL Tryz.f24)
theorem ok_Fs2e58:jap Tryz.prog Fs2e58:=jao ok_Fs2e57 (jas ok_Fs2e57 hmix fn24 jai)
theorem fn17:Fn1 Tryz.prog 17 Tryz.f17:= .m Tryz.func17
def Fs2e59:Env:=Fs2e58.addG 17 (inlQ Tryz.prog Fs2e58 noL Tryz.f17)
theorem ok_Fs2e59:jap Tryz.prog Fs2e59:=jao ok_Fs2e58 (jas ok_Fs2e58 hmix fn17 jai)
theorem fn21:Fn1 Tryz.prog 21 Tryz.f21:= .m Tryz.func21
def Fs2e60:Env:=Fs2e59.addG 21 (inlQ Tryz.prog Fs2e59 noL Tryz.f21)
theorem ok_Fs2e60:jap Tryz.prog Fs2e60:=jao ok_Fs2e59 (jas ok_Fs2e59 hmix fn21 jai)
theorem fn32:Fn1 Tryz.prog 32 Tryz.f32:= .m Tryz.func32
def Fs2e61:Env:=Fs2e60.addG 32 (inlQ Tryz.prog Fs2e60 noL Tryz.f32)
theorem ok_Fs2e61:jap Tryz.prog Fs2e61:=jao ok_Fs2e60 (jas ok_Fs2e60 hmix fn32 jai)
theorem fn48:Fn1 Tryz.prog 48 Tryz.f48:= .m Tryz.func48
def Fs2e62:Env:=Fs2e61.addG 48 (inlQ Tryz.prog Fs2e61 noL Tryz.f48)
theorem ok_Fs2e62:jap Tryz.prog Fs2e62:=jao ok_Fs2e61 (jas ok_Fs2e61 hmix fn48 jai)
theorem fn52:Fn1 Tryz.prog 52 Tryz.f52:= .m Tryz.func52
def Fs2e63:Env:=Fs2e62.addG 52 (inlQ Tryz.prog Fs2e62 noL Tryz.f52)
theorem ok_Fs2e63:jap Tryz.prog Fs2e63:=jao ok_Fs2e62 (jas ok_Fs2e62 hmix fn52 jai)
theorem fn79:Fn1 Tryz.prog 79 Tryz.f79:= .m Tryz.func79
def Fs2e64:Env:=Fs2e63.addG 79 (inlQ Tryz.prog Fs2e63 noL Tryz.f79)
theorem ok_Fs2e64:jap Tryz.prog Fs2e64:=jao ok_Fs2e63 (jas ok_Fs2e63 hmix fn79 jai)
theorem fn81:Fn1 Tryz.prog 81 Tryz.f81:= .m Tryz.func81
def Fs2e65:Env:=Fs2e64.addG 81 (inlQ Tryz.prog Fs2e64 noL Tryz.f81)
theorem ok_Fs2e65:jap Tryz.prog Fs2e65:=jao ok_Fs2e64 (jas ok_Fs2e64 hmix fn81 jai)
theorem fn82:Fn1 Tryz.prog 82 Tryz.f82:= .m Tryz.func82
def Fs2e66:Env:=Fs2e65.addG 82 (inlQ Tryz.prog Fs2e65 noL Tryz.f82)
theorem ok_Fs2e66:jap Tryz.prog Fs2e66:=jao ok_Fs2e65 (jas ok_Fs2e65 hmix fn82 jai)
theorem fn83:Fn1 Tryz.prog 83 Tryz.f83:= .m Tryz.func83
def Fs2e67:Env:=Fs2e66.addG 83 (inlQ Tryz.prog Fs2e66 noL Tryz.f83)
theorem ok_Fs2e67:jap Tryz.prog Fs2e67:=jao ok_Fs2e66 (jas ok_Fs2e66 hmix fn83 jai)
theorem fn51:Fn1 Tryz.prog 51 Tryz.f51:= .m Tryz.func51
def Fs2e68:Env:=Fs2e67.addG 51 (inlQ Tryz.prog Fs2e67 noL Tryz.f51)
theorem ok_Fs2e68:jap Tryz.prog Fs2e68:=jao ok_Fs2e67 (jas ok_Fs2e67 hmix fn51 jai)
theorem fn49:Fn1 Tryz.prog 49 Tryz.f49:= .m Tryz.func49
def Fs2e69:Env:=Fs2e68.addG 49 (inlQ Tryz.prog Fs2e68 noL Tryz.f49)
theorem ok_Fs2e69:jap Tryz.prog Fs2e69:=jao ok_Fs2e68 (jas ok_Fs2e68 hmix fn49 jai)
theorem fn19:Fn1 Tryz.prog 19 Tryz.f19:= .m Tryz.func19
def Fs2e70:Env:=Fs2e69.addG 19 (inlQ Tryz.prog Fs2e69 noL Tryz.f19)
theorem ok_Fs2e70:jap Tryz.prog Fs2e70:=jao ok_Fs2e69 (jas ok_Fs2e69 hmix fn19 jai)
theorem fn25:Fn1 Tryz.prog 25 Tryz.f25:= .m Tryz.func25
def m25:List (E×Value):=[([.int .i64 5,.int .i64 2],.agg ⟨[.int .i64 1,.int .i64 5,.int .i64 2,.bool false,.string ⟨#[]⟩]⟩),([.int .i64 3,.int .i64 1],.agg ⟨[.int .i64 1,.int .i64 3,.int .i64 1,.bool false,.string ⟨#[]⟩]⟩),([.int .i64 4,.int .i64 2],.agg ⟨[.int .i64 1,.int .i64 4,.int .i64 2,.bool false,.string ⟨#[]⟩]⟩)]
theorem pk25:jam Tryz.prog 25 (memo m25):=jaq [] ok_Fs2e70 hmix fn25 jai (by kernel_rfl) (by kernel_rfl)
def Fs2e71:Env:=Fs2e70.add 25 (memo m25)
theorem ok_Fs2e71:jap Tryz.prog Fs2e71:=jak ok_Fs2e70 pk25
theorem fn23:Fn1 Tryz.prog 23 Tryz.f23:= .m Tryz.func23
def m23:List (E×Value):=[([.int .i64 1],.agg ⟨[.int .i64 3,.int .i64 1,.int .i64 0,.bool false,.string ⟨#[]⟩]⟩),([.int .i64 2],.agg ⟨[.int .i64 3,.int .i64 2,.int .i64 0,.bool false,.string ⟨#[]⟩]⟩),([.int .i64 6],.agg ⟨[.int .i64 3,.int .i64 6,.int .i64 0,.bool false,.string ⟨#[]⟩]⟩)]
theorem pk23:jam Tryz.prog 23 (memo m23):=jaq [] ok_Fs2e71 hmix fn23 jai (by kernel_rfl) (by kernel_rfl)
def Fs2e72:Env:=Fs2e71.add 23 (memo m23)
theorem ok_Fs2e72:jap Tryz.prog Fs2e72:=jak ok_Fs2e71 pk23
theorem fn26:Fn1 Tryz.prog 26 Tryz.f26:= .m Tryz.func26
def m26:List (E×Value):=[([.int .i64 2],.agg ⟨[.int .i64 4,.int .i64 2,.int .i64 0,.bool false,.string ⟨#[]⟩]⟩),([.int .i64 3],.agg ⟨[.int .i64 4,.int .i64 3,.int .i64 0,.bool false,.string ⟨#[]⟩]⟩)]
theorem pk26:jam Tryz.prog 26 (memo m26):=jaq [] ok_Fs2e72 hmix fn26 jai (by kernel_rfl) (by kernel_rfl)
def Fs2e73:Env:=Fs2e72.add 26 (memo m26)
theorem ok_Fs2e73:jap Tryz.prog Fs2e73:=jak ok_Fs2e72 pk26
theorem fn6:Fn1 Tryz.prog 6 Tryz.f6:= .m Tryz.func6
def m6:List (E×Value):=[([],.bool true)]
theorem pk6:jam Tryz.prog 6 (memo m6):=jaq [.app none 1 1 (.app (some 0) 2 1 (.app (some 0) 3 1 (.app (some 0) 4 1 (.app (some 0) 5 1 (.app none 1 1 (.app (some 0) 2 1 (.app (some 0) 3 1 (.app none 1 1 (.app (some 0) 2 1 (.le 0 (.app none 1 1 (.app (some 0) 2 1 (.app (some 0) 3 1 (.app none 1 4 (.app none 1 1 (.le 0 (.app none 1 1 (.app (some 0) 2 1 (.le 0 (.app none 1 1 (.app (some 0) 2 1 (.app (some 0) 3 1 (.app none 1 1 (.app (some 0) 2 1 (.le 0 (.app none 1 1 (.app (some 0) 2 1 (.app (some 0) 3 1 (.app none 1 1 (.app none 1 1 (.app none 1 4 (.both (.app (some 2) 2 1 (.app (some 0) 3 1 (.app (some 0) 4 1 (.app (some 0) 5 1 (.app (some 0) 6 1 (.app none 1 1 (.app none 1 4 (.both (.app (some 2) 7 1 (.app (some 0) 8 1 (.app (some 0) 9 1 (.app (some 0) 10 1 (.app (some 0) 11 1 (.app (some 0) 12 1 (.both (.le 0 .leaf) (.le 0 .leaf)))))))) (.app (some 2) 7 1 (.app (some 0) 8 1 (.app (some 0) 9 1 (.app (some 0) 10 1 (.app (some 0) 11 1 (.app (some 0) 12 1 (.both (.le 0 .leaf) (.le 0 .leaf)))))))))))))))) (.app (some 2) 2 1 (.app (some 0) 3 1 (.app (some 0) 4 1 (.app (some 0) 5 1 (.app (some 0) 6 1 (.app none 1 1 (.app none 1 4 (.both (.app (some 2) 7 1 (.app (some 0) 8 1 (.app (some 0) 9 1 (.app (some 0) 10 1 (.app (some 0) 11 1 (.app (some 0) 12 1 (.both (.le 0 .leaf) (.le 0 .leaf)))))))) (.app (some 2) 7 1 (.app (some 0) 8 1 (.app (some 0) 9 1 (.app (some 0) 10 1 (.app (some 0) 11 1 (.app (some 0) 12 1 (.both (.le 0 .leaf) (.le 0 .leaf))))))))))))))))))))))))))))))))))))))))))))))))] ok_Fs2e73 hmix fn6 jai (by kernel_rfl) (by kernel_rfl)
end Go.Cs
end
noncomputable section
set_option maxHeartbeats 3200000
set_option maxRecDepth 100000
namespace Go.Ff
open Go Go.Ab Go.Proofs Go.Shelf Go.Px Go.Cv Go.Cx
open Go.Fx (Ty Vl)
variable [Cs.MaxL] -- 3
/-- The tables and the variable. -/
instance (priority:=5000) tabsR:Tabs:={row:=Cs.rowsC,plain:=Cs.tabsC.plain}
theorem jj7{f:FuncId}{s:Ab.Spec}(h: @jam Cs.tabsC Tryz.prog f s): @jam tabsR Tryz.prog f s:=
 ⟨h.1,fun args v N w0 lk ι w hr hs hv=>h.2 args v N w0 lk ι w (@RelM.mk Cs.tabsC N w0 lk ι w hr.below hr.base hr.blk hr.view hr.inj) hs hv⟩
def L0:Env:=(((((Env.nil.add 6 (memo Cs.m6)).add 7 (sp2 s22f)).add 8 (sp3 s8)).add 9 (sp1 s9)).add 10 (sp1 s10))
theorem ok_L0:jap Tryz.prog L0:=jak (jak (jak (jak (jak ja5 (jj7 Cs.pk6)) (jj7 (Cs.pureC ok22f))) (jj7 (Cs.pureCB ok8))) (jj7 (Cs.pureC ok9))) (jj7 (Cs.pureC ok10))
def s3(a:Int)(b:Int)(t:Ty)(d:Int):Bool×Value:=(decide (t.s.size≤9223372036854775807),B true)
theorem fn3:Fn1 Tryz.prog 3 Tryz.f3:= .m Tryz.func3
def iz(c:Fx.Ty)(a b:Int):Prod Int Bool:=Ff.rdT (trZ (tlZ (bz (szO (Ff.edF 25 a b (Fx.Ty.q c)))) 32) 32)
def jh(c:Fx.Ty)(a b:Int):Int:=IntKind.i64.wrap (gm (iz c a b).fst (Ff.pw10 (imax (IntKind.i64.wrap (Fx.Ty.q c-a)) 0))-gm b (Ff.pw10 (imax (IntKind.i64.wrap (a-Fx.Ty.q c)) 0)))
def ii(a:Fx.Ty)(b:Int):Int:=Ff.pw10 (imax (a8 (Fx.Ty.q a) b) 0)
def jr(c:Fx.Ty)(a b:Int):Nat:=(szO (Ff.edF 25 a b (Fx.Ty.q c))).size
def j4(b:Fx.Ty)(a:Int):Bool:=fit4 (Fx.Vl.mk a az) b !=0
theorem v3(a:Int)(b:Int)(t:Ty)(d:Int)(R:Value→Prop):jbu Tryz.prog L0 noL Tryz.f3 [Enc.enc a,Enc.enc b,Enc.enc t,Enc.enc d] (fun _=>none) 0 (fun v _ _=>R v)=(bm (Fx.Ty.k t !=1) (gl az (Fx.Ty.s t).size 9223372036854775807 9223372036854775807&& (j4 t a || gl az (Fx.Ty.s t).size 9223372036854775807 9223372036854775807&& (j4 t b || (au d 0 || true)))) (Fx.Ty.k t !=1 || (j4 t a || (j4 t b || (au d 0 || aq d 9)))) (R (B true)) (f0 (decide (Ff.c8 (Ff.Fo.mk 3 25 d az) (Fx.Vl.mk a az) t)) (decide (Ff.c8 (Ff.Fo.mk 3 25 d az) (Fx.Vl.mk b az) t)) (bif decide (jr t d a≤100000)then bif decide (jr t d b≤100000)then bif !(iz t d a).snd || (!(iz t d b).snd || ((jr t d a:Int) !=25 || true))then bif 0 !=0 || (0 !=0 || (!(iz t d a).snd || (!(iz t d b).snd || ((jr t d a:Int) !=25 || (jr t d b:Int) !=25))))then R (B false)else bif j1 0 (IntKind.i64.wrap (Fx.Ty.q t-d)) 0 18 then bif j1 0 (a8 d (Fx.Ty.q t)) 0 18 then ig (aq (gm (imax (jh t d a) (a8 0 (jh t d a))) 2) (ii t d)) (aq (ii t d) 1 || (ii t d==1 || true)) (ii t d==1 || true) (bif aq (gm (imax (jh t d a) (a8 0 (jh t d a))) 2) (ii t d)then aq (ii t d) 1 || ii t d==1&&jh t d a !=0 else ii t d==1&&jh t d a !=0) (R (B false)) (b5 (aq a b || true) (B (aq a b || decide ((iz t d a).fst≤(iz t d b).fst))) R)else False else False else False else False else False) False)):=by kernel_rfl
theorem ok3:jam Tryz.prog 3 (sp4 s3):=by
 refine qure4 ok_L0 hmix fn3 jai jag fun a b t d hc=> ?_
 rw[jbv,v3];delta bm f0 ig b5 iz aq gm jh a8 ii j1 jr az au j4 gl;have hc:(t.s.size≤9223372036854775807):=jab hc
 try dsimp only[s3]
 have e0:(ByteArray.mk #[]).size=0:=rfl;have hz:decide (t.s.size≤9223372036854775807∧(ByteArray.mk #[]).size≤9223372036854775807)=true:=jaa ⟨hc,by rw[e0];omega⟩;rw[hz];refine c_t (by simp) (cond_intro (fun _=>rfl) (fun h=> ?_));simp only[Bool.or_eq_false_iff,bne_eq_false_iff_eq,decide_eq_false_iff_not]at h;obtain⟨hk,ha,hb,hd0,hd1⟩:=h;obtain⟨a1,q1,ta⟩:=fit_dec hk ha;obtain⟨b1,_,_⟩:=fit_dec hk hb;have a1: -1000000000<a∧a<1000000000:=a1;have b1: -1000000000<b∧b<1000000000:=b1;have hd:0≤d∧d≤9:=by omega
 obtain⟨la,ia,ra⟩:=ed_rd (n:=a) (q:=t.q) (b:=d) a1 q1 hd;obtain⟨lb,ib,rb⟩:=ed_rd (n:=b) (q:=t.q) (b:=d) b1 q1 hd
 have hr:jdd ⟨3,25,d,⟨#[]⟩⟩=true:=by
  rw[jdd];simp only[jaf,jae];exact⟨⟨by decide,by decide,by decide,by decide,by omega,by omega,by omega,fun _=>trivial⟩,rfl⟩
 have hm:mono3 a b t.q d:=fun h=>sg_mono a1 b1 q1 hd h
 rw[jd6 ia,jd6 ib,ra,rb,jcx,jcx,la,lb];refine c_t (jaa ⟨⟨rfl,by simp only;omega,by simp only;omega,by simp only;omega,by simp only;omega,hk,by simp only;omega,by simp only;omega,by omega,by omega⟩,by rw[e0];omega,hc,by rw[e0];omega,hr,by rw[fitE,if_neg (by omega)];exact ta⟩) ?_;refine c_t (jaa ⟨⟨rfl,by simp only;omega,by simp only;omega,by simp only;omega,by simp only;omega,hk,by simp only;omega,by simp only;omega,by omega,by omega⟩,by rw[e0];omega,hc,by rw[e0];omega,hr,by rw[fitE,if_neg (by omega)];exact ta⟩) ?_;refine c_t (by decide) (c_t (by decide) (c_t (by simp) (c_f (by simp) ?_)));simp only;obtain⟨K,off,hK,hO,ho,hk9,h1⟩:=off_ok a1 q1 hd;have hi:∀x:Int,-9≤x→x≤9→decide (0≤imax (IntKind.i64.wrap x) 0∧imax (IntKind.i64.wrap x) 0≤18)=true:=fun x h1 h2=>jaa (by rw[w64 (by omega),jhy];omega)
 rw[hK,hO];refine c_t (hi _ (by omega) (by omega)) (c_t (hi _ (by omega) (by omega)) ?_);have hw:IntKind.i64.wrap (0-off)= -off:=by rw[w64 (by omega)];omega
 have hA:decide (IntKind.i64.wrap (imax off (-off)*2)>K)=false:=jad (by rw[jhy,w64 (by omega)];omega)
 have hB:(K==1&&off !=0)=false:=by
  by_cases q:K=1
  ·rw[h1 q];simp
  ·simp[q]
 rw[hw,hA,hB];simp only[cond_false];refine c_t (by simp) (c_t (by simp) ?_);congr 1;rw[Bool.or_eq_true,jae,jae];by_cases q:a>b
 ·exact .inl q
 ·exact .inr (hm (by omega))
end Go.Ff
end
noncomputable section
namespace Go.Px
open Go Go.Ab Go.Proofs Go.Shelf Go.ChangeMaps Go.ChangeShapes Go.WideShapes Go.ChangeAt Go.RowKit Go.Joins
open Go.Proofs.YtoofiemfbldebaaGreatDoor
theorem maxlen_of{W:World}(h:W.ShapedOpen Tryz.prog):1<W.heap.size∧ ∃m ty fr,W.heap[1]?=some (.cells ⟨[.int .i64 m]⟩ ty fr):=by
 have h0:((begin Tryz.prog (fun _ _=>0) default).world.heap[1]?).bind Obj.row?=some (#[.int .i64 0],3):=by kernel_rfl
 have hg:1<Tryz.prog.globals.size:=jag;obtain⟨m,hm⟩:=cell_of_shapedOpen_int h hg h0 rfl (by kernel_rfl) (by kernel_rfl) Tryz.underlying3;obtain⟨cs,hh,hs,_⟩:=h.1 1 _ 3 hg h0;refine⟨(Array.getElem?_eq_some_iff.1 hh).1,m,3,(0,0),?_⟩;have h1:cs.size=1:=hs
 obtain⟨c0,rfl⟩:∃c0,cs= #[c0]:=by
  obtain⟨l⟩:=cs
  match l,h1 with
  | [c0],_=>exact⟨c0,rfl⟩
 rw[World.cell?,hh]at hm;have:c0= .int .i64 m:=by simpa using hm
 rw[hh,this]
theorem tabsR_of [Cs.MaxL]{W:World}{ty:TypeId}{fr:Nat×Nat}(h: @TabsIn tabs W.heap.size W)(h1:1<W.heap.size)(hm:W.heap[1]?=some (.cells ⟨[.int .i64 Cs.MaxL.mx]⟩ ty fr)): @TabsIn Ff.tabsR W.heap.size W:=by
 intro b r hb;have hb:Cs.rowsC b=some r:=hb;unfold Cs.rowsC at hb;split at hb
 ·rename_i q;cases hb;obtain rfl:=jah q;exact⟨h1,ty,fr,hm⟩
 ·exact h b r hb
theorem handed_shaped{H:Type}{enc:TypeId×Value→H}{a:Assume}{C:Checked}{os:Os}{f:FuncId}{fn:Func}{s:ChangeSpec}{conds:List PathCond}{apart fresh handsOn again:Bool}{X:World→Array Value→Prop}
  (hX:∀(w w':World)(args:Array Value),w.heap=w'.heap→X w args→X w' args)
  (own:ownKnob C.prog.godebug=none) (started:os.Started) (noInit:C.prog.inits.idxOf? f=none) (hfn:C.prog.funcs[f]?=some fn)
  (witness : ∃ (w : World) (tape : Tape) (i : Input), w.os = os ∧ (w.forCall tape i).Shaped C.prog ∧ i.vars = [] ∧ Input.okWide C.prog (w.forCall tape i) .any w.heap.size f i ∧
   ((s.pre enc C.prog fn conds apart (w.forCall tape i).memory i.args∧X (w.forCall tape i).memory i.args)∧sizedMet enc C.prog fn (OpenSpec.ofChange s) apart (w.forCall tape i).memory i.args)∧a.holds C.prog (lone (Frame.enter C.prog f i.args .normal) [] (w.forCall tape i)))
  (contract : ∀ (W : World) (base : Nat) (args : Array Value) (ds gs : List (DataW H)) (before : List MemPlace),
   (∀(j:Nat) t v,fn.params[j]?=some t→args[j]?=some v→Value.okWide C.prog W .any base t v)→
   DataW.Whole enc C.prog fn.params.toList s.vars apart W args.toList ds gs before→W.ShapedOpen C.prog→X W args→
   Calls C.prog f args W fun e W'=>∃v,e= .returned v∧s.post enc C.prog fn apart fresh handsOn again W args v W'):
  ReturnsInHanded a C os f .any (fun w args=>(s.pre enc C.prog fn conds apart w args∧X w args)∧sizedMet enc C.prog fn (OpenSpec.ofChange s) apart w args) (s.post enc C.prog fn apart fresh handsOn again):=by
 refine returnsInHanded_of_calls own started noInit witness ?_;intro w tape i _ hsh _ hok hpre _;obtain⟨_,_,_,fn',hfn',_,_,_,_,hval⟩:=hok;have e:fn'=fn:=Option.some.inj (hfn'.symm.trans hfn);subst e;obtain⟨⟨⟨ds,gs,before,hw,_⟩,hx⟩,_⟩:=hpre;have hw':=DataW.Whole.of_heap (w':=w.forCall tape i) (by rfl) hw;refine(contract (w.forCall tape i) w.heap.size i.args ds gs before hval hw' hsh (hX _ _ _ (by rfl) hx)).mono fun e W' ⟨v,he,hp⟩=> ?_
 subst he;exact ChangeSpec.post_blind hp
end Go.Px
end
section

end
