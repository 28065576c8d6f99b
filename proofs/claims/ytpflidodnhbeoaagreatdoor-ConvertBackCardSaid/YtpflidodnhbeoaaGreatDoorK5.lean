/-
  Part 5: the run and laws.
-/
import Derived.Test.YtpflidodnhbeoaaGreatDoorK4
set_option linter.unusedVariables false
set_option linter.unusedSimpArgs false
noncomputable section
namespace Go.Px
open Go Go.Ab Go.Proofs Go.Shelf Go.ChangeMaps Go.ChangeShapes Go.WideShapes Go.ChangeAt Go.RowKit Go.Joins
open Go.Proofs.YtpflidodnhbeoaaGreatDoor
theorem own:ownKnob Tryz.prog.godebug=none:=by kernel_rfl
def laidL:List (String×DataW Unit):=Rows.convertTypesRow.laid
theorem tab_is{P:Program}{W:World}{name:String}{k:IntKind}{zs:J}{g:Nat}{t e:TypeId}{n:Nat}(hr:Lib.VarReads P W name (Lib.tabData k zs))
  (hg:P.globalNamed name=some g) (hty:(P.globals[g]?).map (·.type)=some t) (ht:P.underlying t=some (.array n e)) (he:P.underlying e=some (.int k)) (hce:P.cellsOf e=1) (hct:P.cellsOf t=n):
  g<W.heap.size∧ ∃ty fr,W.heap[g]?=some (.cells ⟨zs.map fun z=>Value.int k z⟩ ty fr):=by
 obtain⟨g',t',cs,fuel,p,h1,h2,h3,h4⟩:=hr;obtain rfl:=Option.some.inj (hg.symm.trans h1);obtain rfl:=Option.some.inj (hty.symm.trans h2);have hc:=Lib.cells_of_tab ht he hce hct h4;unfold World.var? at h3;rw[hg,Option.bind_some]at h3;split at h3
 case h_2=>cases h3
 rename_i cs' ty fr hh;have h3:=Option.some.inj h3;refine⟨(Array.getElem?_eq_some_iff.1 hh).1,ty,fr,?_⟩;rw[hh,h3];congr 2;rw[←hc]
theorem rt : (Tryz.prog.cutTypes.find? (·.1 == "internal/reflectlite.rtype")).map (·.2) = some 229 := by kernel_rfl
theorem tsz:Tryz.prog.types.size=321:=by kernel_rfl
theorem oneRow:((List.range 321).filter fun t=>Tryz.prog.rowNamed t [101,114,114,111,114])=[105]:=by kernel_rfl
theorem hdl:typeHandle Tryz.prog 105= .pointer (some ⟨10,105,none⟩):=by kernel_rfl
theorem gE : Tryz.prog.globalNamed "errors.errorType" = some 0 := by kernel_rfl
theorem laid_h : laidL.filter (fun x => x.2.handleName?.isSome) = [("errors.errorType", Rows.laid_errors_errorType)] := by kernel_rfl
theorem laid_d : laidL.filter (fun x => x.2.handleName?.isNone) = ([("math/bits.deBruijn32tab", YtpflidodnhbeoaaGreatDoor.Rows.laid_math_bits_deBruijn32tab), ("math/bits.deBruijn64tab", YtpflidodnhbeoaaGreatDoor.Rows.laid_math_bits_deBruijn64tab), ("internal/strconv.uint64pow10", YtpflidodnhbeoaaGreatDoor.Rows.laid_internal_strconv_uint64pow10), ("unicode/utf8.acceptRanges", YtpflidodnhbeoaaGreatDoor.Rows.laid_unicode_utf8_acceptRanges), ("strconv.ErrRange", YtpflidodnhbeoaaGreatDoor.Rows.laid_strconv_ErrRange), ("strconv.ErrSyntax", YtpflidodnhbeoaaGreatDoor.Rows.laid_strconv_ErrSyntax), ("pliant/picture.punched", YtpflidodnhbeoaaGreatDoor.Rows.laid_pliant_picture_punched), ("unicode/utf8.first", YtpflidodnhbeoaaGreatDoor.Rows.laid_unicode_utf8_first)]) := by kernel_rfl
theorem handle_of_laid {W : World} (h : handlesMet Tryz.prog [("errors.errorType", Rows.laid_errors_errorType)] W) : 0 < W.heap.size ∧ ∃ ty fr, W.heap[0]? = some (.cells #[.iface 229 (.agg #[.pointer (some ⟨10, 105, none⟩)])] ty fr) := by
 obtain⟨name,u,ty,e1,e2,e3,e4,e5⟩:=h _ (List.mem_singleton.2 rfl);have en:name=[101,114,114,111,114]:=(Option.some.inj e1).symm;subst en;obtain rfl:=Option.some.inj (rt.symm.trans e2);have hm:ty∈(List.range 321).filter fun t=>Tryz.prog.rowNamed t [101,114,114,111,114]:=List.mem_filter.2 ⟨List.mem_range.2 (by rw[←tsz];exact e3),e4⟩
 rw[oneRow]at hm;obtain rfl:=List.mem_singleton.1 hm;rw[hdl]at e5;unfold World.var? at e5;rw[gE,Option.bind_some]at e5;split at e5
 case h_2=>cases e5
 rename_i cs' ty fr hh;have e5:=Option.some.inj e5;exact⟨(Array.getElem?_eq_some_iff.1 hh).1,ty,fr,by rw[hh,e5]⟩
set_option maxRecDepth 100000 in
theorem tabs_of_laid{W:World}(h:laidMetH Tryz.prog laidL W):TabsIn W.heap.size W:=by
 obtain⟨hd,hh⟩:=laidMetH_iff.1 h;rw[laid_h]at hh;rw[laid_d]at hd;intro b r hb
 have key:∀b:Nat,jmy b=some r→b=5∧r=punchedZ.map (fun n=>Value.int .u8 n)∨b=1∧r=pow10Z.map (fun n=>Value.int .u64 n)∨b=0∧r=[.iface 229 (.agg ⟨[.pointer (some ⟨10,105,none⟩)]⟩)]:=by
  intro b hb;unfold jmy at hb;split at hb
  ·cases hb;exact .inl ⟨rfl,rfl⟩
  ·cases hb;exact .inr (.inl ⟨rfl,rfl⟩)
  ·cases hb;exact .inr (.inr ⟨rfl,rfl⟩)
  ·cases hb
 have t5:Tryz.prog.cellsOf 5=1:=by kernel_rfl
 rcases key b hb with⟨rfl,rfl⟩ | ⟨rfl,rfl⟩ | ⟨rfl,rfl⟩
 ·have hr : Lib.VarReads Tryz.prog W "pliant/picture.punched" (Lib.tabData .u8 punchedZ) := Lib.laidMet.reads hd (.tail _ (.tail _ (.tail _ (.tail _ (.tail _ (.tail _ (.head _)))))))
  exact tab_is hr (g:=5) (t:=273) (n:=20) (e:=5) (by kernel_rfl) (by kernel_rfl) (by kernel_rfl) (by kernel_rfl) t5 (by kernel_rfl)
 ·have hr : Lib.VarReads Tryz.prog W "internal/strconv.uint64pow10" (Lib.tabData .u64 pow10Z) := Lib.laidMet.reads hd (.tail _ (.tail _ (.head _)))
  exact tab_is hr (g:=1) (t:=262) (n:=20) (e:=90) (by kernel_rfl) (by kernel_rfl) (by kernel_rfl) (by kernel_rfl) (by kernel_rfl) (by kernel_rfl)
 ·exact handle_of_laid hh
noncomputable def handleWorld (os : Os) : World :=
 let w0:=World.holding Tryz.prog os ⟨#[], #[],[]⟩
 {w0 with heap:=w0.heap.modify 0 fun
   | .cells _ t frozen=> .cells #[.iface 229 (.agg #[.pointer (some ⟨10,105,none⟩)])] t frozen
   | o=>o}
def laidD:List (String×DataW Unit):=laidL.filter fun x=>x.2.handleName?.isNone
noncomputable def laidWorld (os : Os) : World := (handleWorld os).layVars Tryz.prog laidD
theorem laidWorld_os(os:Os):(laidWorld os).os=os:=World.layVars_os _ _ _
theorem laidWorld_met(os:Os)(args:Array Value):laidMetH Tryz.prog laidL ((laidWorld os).forCall (fun _ _=>0) ⟨#[],args,[]⟩).memory:=by
 refine laidMetH_of_parts ?_ (by kernel_rfl);have e1:(laidD.filter fun x=>(laidD.map (·.1)).contains x.1)=laidD:=List.filter_eq_self.2 fun x hx=>List.contains_iff_mem.2 (List.mem_map.2 ⟨x,hx,rfl⟩)
 have e2:(laidD.filter fun x=> !(laidD.map (·.1)).contains x.1)=[]:=List.filter_eq_nil_iff.2 fun x hx=>by rw[List.contains_iff_mem.2 (List.mem_map.2 ⟨x,hx,rfl⟩)];simp
 have h:laidMet Tryz.prog laidD (laidWorld os):=laidMet_layVars (w0:=handleWorld os) (laidD.map (·.1)) [] (by rw[e1];rfl) (by rw[e1];kernel_rfl) (by rw[e1];kernel_rfl) (by rw[e2];exact LaidIn.none);exact h.of_heap (by simp[World.memory,World.forCall,Input.heap])
def jf0(P:Program)(t:TypeId)(α:Type) [Enc α](Q:α→Prop):Prop:=
 ∀{H:Type}{enc:TypeId×Value→H}{w:World}{base:Nat}{spare:Nat→Bool}{held:Bool}{r:Reach}{b0:Nat}{v:Value}{d:DataW H}{p:List MemPlace},Value.okWide P w r b0 t v→DataW.Trod enc P w base spare held t v d p→
  ∃a:α,v=Enc.enc a∧Q a∧p=[]∧ ∀(w':World)(b':Nat)(sp':Nat→Bool)(hd':Bool),DataW.Trod enc P w' b' sp' hd' t v d []
theorem opensP_string{P:Program}{t:TypeId}(ht:P.underlying t=some .string):jf0 P t Y fun s=>s.size≤9223372036854775807:=by
 intro H enc w base spare held r b0 v d p hv h;obtain⟨n,rfl,rfl,rfl,hw⟩:=open_string ht hv h;exact⟨n,rfl,Nat.le_trans hw (by decide),rfl,fun w' b' sp' hd'=>shut_string ht hw⟩
theorem oS:jf0 Tryz.prog 9 Y fun s=>s.size≤9223372036854775807:=opensP_string Tryz.underlying9
theorem opensP_int{P:Program}{t:TypeId}(ht:P.underlying t=some (.int .i64)):jf0 P t Int fun n=> -9223372036854775808≤n∧n≤9223372036854775807:=by
 intro H enc w base spare held r b0 v d p hv h;obtain⟨n,rfl,rfl,rfl,hw⟩:=open_int ht hv h;exact⟨n,rfl,by simpa[Lit.wf,IntKind.min,IntKind.max,IntKind.signed,IntKind.bits]using hw,rfl,fun w' b' sp' hd'=>shut_int ht hw⟩
theorem oI:jf0 Tryz.prog 3 Int fun n=> -9223372036854775808≤n∧n≤9223372036854775807:=opensP_int Tryz.underlying3
theorem opensP_bool{P:Program}{t:TypeId}(ht:P.underlying t=some .bool):jf0 P t Bool fun _=>True:=by
 intro H enc w base spare held r b0 v d p hv h;obtain⟨n,rfl,rfl,rfl⟩:=open_bool ht hv h;exact⟨n,rfl,trivial,rfl,fun w' b' sp' hd'=>shut_bool ht n⟩
theorem oB:jf0 Tryz.prog 4 Bool fun _=>True:=opensP_bool Tryz.underlying4
theorem jes{P:Program}{α:Type} [Enc α]{t:TypeId}{fs:Array Field}{Q:α→Prop}(hs:P.underlying t=some (.struct fs))(hl:fs.toList.all (fun f=>jm3 P f.type)=true)
  (hc : ∀ cs : Array Value, cs.size = P.cellsOf t → (∀ (i : Nat) (f : Field), fs[i]? = some f → ∃ (H : Type) (enc : TypeId × Value → H) (w : World) (base : Nat) (spare : Nat → Bool) (held : Bool) (n : Nat) (y : DataW H × List MemPlace),
   DataW.trod enc P w base spare held n f.type ((cs.toList.drop f.offset).take (P.cellsOf f.type))=some y)→ ∃a:α,Value.agg cs=Enc.enc a∧Q a):jf0 P t α Q:=by
 intro H enc w base spare held r b0 v d p hv h;obtain⟨cs,rfl,hsz⟩:=okWide_struct hs hv;obtain⟨fuel,hf⟩:=h;simp only[Value.cells]at hf;obtain⟨hp,hany⟩:=leaves_any hs hl hf;obtain⟨xs,n,_,_,hlen,hxs,hg⟩:=DataW.trod_struct hs hf
 obtain⟨a,ha,hq⟩:=hc cs hsz fun i f hi=>by
  have hlt:i<xs.length:=by
   have:=(Array.getElem?_eq_some_iff.1 hi).1;omega
  exact⟨H,enc,w,base,spare,held,n,xs[i],by rw[hg i f hi,List.getElem?_eq_getElem hlt]⟩
 simp only at hp;subst hp;exact⟨a,ha,hq,rfl,fun w' b' sp' hd'=>⟨2,by simpa[Value.cells]using hany w' b' sp' hd'⟩⟩
def r64(n:Int):Prop:= -9223372036854775808≤n∧n≤9223372036854775807
def rS(s:Y):Prop:=s.size≤9223372036854775807
theorem r64_wf{n:Int}(h:(Lit.int .i64 n).wf=true):r64 n:=by simpa[Lit.wf,IntKind.min,IntKind.max,IntKind.signed,IntKind.bits,r64]using h
theorem array5{α:Type}{cs:Array α}(h:cs.size=5):∃c0 c1 c2 c3 c4,cs= #[c0,c1,c2,c3,c4]:=by
 obtain⟨l⟩:=cs
 match l,h with
 | [c0,c1,c2,c3,c4],_=>exact⟨c0,c1,c2,c3,c4,rfl⟩
theorem array3{α:Type}{cs:Array α}(h:cs.size=3):∃c0 c1 c2,cs= #[c0,c1,c2]:=by
 obtain⟨l⟩:=cs
 match l,h with
 | [c0,c1,c2],_=>exact⟨c0,c1,c2,rfl⟩
theorem oT:jf0 Tryz.prog 23 Fx.Ty fun t=>r64 t.k∧r64 t.p∧r64 t.q∧rS t.s:=by
 refine jes Tryz.underlying23 (by kernel_rfl) fun cs hsz hf=> ?_
 have hc:Tryz.prog.cellsOf 23=5:=by kernel_rfl
 have h3:Tryz.prog.cellsOf 3=1:=by kernel_rfl
 have h4:Tryz.prog.cellsOf 4=1:=by kernel_rfl
 have h9:Tryz.prog.cellsOf 9=1:=by kernel_rfl
 rw[hc]at hsz;obtain⟨c0,c1,c2,c3,c4,rfl⟩:=array5 hsz
 ·obtain ⟨H, enc, w, base, spare, held, n, y, h0⟩ := hf 0 { name := "Kind", type := 3, offset := 0, embedded := false, tag := "", pkgPath := "", byteOffset := 0 } rfl
  obtain ⟨H, enc, w, base, spare, held, n, y, h1⟩ := hf 1 { name := "P", type := 3, offset := 1, embedded := false, tag := "", pkgPath := "", byteOffset := 8 } rfl
  obtain ⟨H, enc, w, base, spare, held, n, y, h2⟩ := hf 2 { name := "Q", type := 3, offset := 2, embedded := false, tag := "", pkgPath := "", byteOffset := 16 } rfl
  obtain ⟨H, enc, w, base, spare, held, n, y, hv⟩ := hf 3 { name := "Vary", type := 4, offset := 3, embedded := false, tag := "", pkgPath := "", byteOffset := 24 } rfl
  obtain ⟨H, enc, w, base, spare, held, n, y, hs⟩ := hf 4 { name := "Pic", type := 9, offset := 4, embedded := false, tag := "", pkgPath := "", byteOffset := 32 } rfl
  obtain⟨k,e0,_,w0⟩:=DataW.trod_int Tryz.underlying3 h0;obtain⟨p,e1,_,w1⟩:=DataW.trod_int Tryz.underlying3 h1;obtain⟨q,e2,_,w2⟩:=DataW.trod_int Tryz.underlying3 h2;obtain⟨v,e3,_⟩:=DataW.trod_bool Tryz.underlying4 hv;obtain⟨s,e4,_,w4⟩:=DataW.trod_string Tryz.underlying9 hs;simp only[h3,h4,h9,List.drop_zero,List.drop_succ_cons,List.take_succ_cons,List.take_zero,List.cons.injEq,and_true]at e0 e1 e2 e3 e4;exact⟨⟨k,p,q,v,s⟩,by rw[e0,e1,e2,e3,e4];rfl,r64_wf w0,r64_wf w1,r64_wf w2,Nat.le_trans w4 (by decide)⟩
theorem oV:jf0 Tryz.prog 25 Fx.Vl fun v=>r64 v.n∧rS v.s:=by
 refine jes Tryz.underlying25 (by kernel_rfl) fun cs hsz hf=> ?_
 have hc:Tryz.prog.cellsOf 25=2:=by kernel_rfl
 have h3:Tryz.prog.cellsOf 3=1:=by kernel_rfl
 have h9:Tryz.prog.cellsOf 9=1:=by kernel_rfl
 rw[hc]at hsz;obtain⟨c0,c1,rfl⟩:=array2 hsz
 ·obtain ⟨H, enc, w, base, spare, held, n, y, h0⟩ := hf 0 { name := "N", type := 3, offset := 0, embedded := false, tag := "", pkgPath := "", byteOffset := 0 } rfl
  obtain ⟨H, enc, w, base, spare, held, n, y, h1⟩ := hf 1 { name := "S", type := 9, offset := 1, embedded := false, tag := "", pkgPath := "", byteOffset := 8 } rfl
  obtain⟨k,e0,_,w0⟩:=DataW.trod_int Tryz.underlying3 h0;obtain⟨s,e4,_,w4⟩:=DataW.trod_string Tryz.underlying9 h1;simp only[h3,h9,List.drop_zero,List.drop_succ_cons,List.take_succ_cons,List.take_zero,List.cons.injEq,and_true]at e0 e4;exact⟨⟨k,s⟩,by rw[e0,e4];rfl,r64_wf w0,Nat.le_trans w4 (by decide)⟩
theorem oN:jf0 Tryz.prog 33 Cx.Nu fun v=>rS v.d∧r64 v.c:=by
 refine jes Tryz.underlying33 (by kernel_rfl) fun cs hsz hf=> ?_
 have hc:Tryz.prog.cellsOf 33=3:=by kernel_rfl
 have h3:Tryz.prog.cellsOf 3=1:=by kernel_rfl
 have h4:Tryz.prog.cellsOf 4=1:=by kernel_rfl
 have h9:Tryz.prog.cellsOf 9=1:=by kernel_rfl
 rw[hc]at hsz;obtain⟨c0,c1,c2,rfl⟩:=array3 hsz
 ·obtain ⟨H, enc, w, base, spare, held, n, y, hv⟩ := hf 0 { name := "Neg", type := 4, offset := 0, embedded := false, tag := "", pkgPath := "", byteOffset := 0 } rfl
  obtain ⟨H, enc, w, base, spare, held, n, y, hs⟩ := hf 1 { name := "Digits", type := 9, offset := 1, embedded := false, tag := "", pkgPath := "", byteOffset := 8 } rfl
  obtain ⟨H, enc, w, base, spare, held, n, y, h0⟩ := hf 2 { name := "Scale", type := 3, offset := 2, embedded := false, tag := "", pkgPath := "", byteOffset := 24 } rfl
  obtain⟨v,e3,_⟩:=DataW.trod_bool Tryz.underlying4 hv;obtain⟨s,e4,_,w4⟩:=DataW.trod_string Tryz.underlying9 hs;obtain⟨k,e0,_,w0⟩:=DataW.trod_int Tryz.underlying3 h0;simp only[h3,h4,h9,List.drop_zero,List.drop_succ_cons,List.take_succ_cons,List.take_zero,List.cons.injEq,and_true]at e0 e3 e4;exact⟨⟨v,s,k⟩,by rw[e0,e3,e4];rfl,Nat.le_trans w4 (by decide),r64_wf w0⟩
noncomputable def hAB (fn : Func) (s : ChangeSpec) (c : OpenClaim) : Bool := c.wf (OpenSpec.ofChange s) && fn.params.all (Tryz.prog.readableRec ·) && namedTie Tryz.prog c.named s.vars && (c.stops == []) && (c.knobs == [])
noncomputable def hRB (fn : Func) (s : ChangeSpec) (c : OpenClaim) : Bool := (c.maps == (fn.params.toList ++ s.plain.varTypes Tryz.prog).any (Tryz.prog.mapsRec ·)) && (c.ifaces == (fn.params.toList ++ s.plain.varTypes Tryz.prog).any (Tryz.prog.ifacesRec ·)) && (c.mapsOut == Tryz.prog.mapsAmong fn.resultTypes.toList) && (c.loops == (fn.params.toList ++ s.plain.varTypes Tryz.prog).any (Tryz.prog.loopsFrom ·))
noncomputable def hSB (fn : Func) (s : ChangeSpec) (c : OpenClaim) : Bool := (c.wideKeys == (fn.params.toList ++ s.plain.varTypes Tryz.prog ++ fn.resultTypes.toList).any (Tryz.prog.wideKeysFrom ·)) && s.vars.all (Tryz.prog.varReadable ·) && fn.resultTypes.all (fun t => Tryz.prog.readableRec t && decide (t<Tryz.prog.types.size)) && (c.ifacesOut == fn.resultTypes.toList.any (Tryz.prog.ifacesRec ·)) && (c.loopsOut == fn.resultTypes.toList.any (Tryz.prog.loopsFrom ·)) && c.shortTexts.isNone
noncomputable def hTB (fn : Func) (s : ChangeSpec) (c : OpenClaim) : Bool := (c.kinds == (if c.domain.isEmpty then [] else fn.params.toList.map fun t => match Tryz.prog.underlying t with | some (.int k) => some k | _ => none)) && (c.pinned == c.pinnedBy) && (c.veiled == (fn.params.toList ++ s.plain.varTypes Tryz.prog ++ fn.resultTypes.toList).any (Tryz.prog.veiledRec ·)) && c.veiledFits Tryz.prog fn.params.toList (fn.params.toList ++ s.plain.varTypes Tryz.prog ++ fn.resultTypes.toList)
set_option maxRecDepth 100000 in
theorem jf_mk{f:FuncId}{fn:Func}{s:ChangeSpec}{c:OpenClaim}(hA:hAB fn s c=true)(h1:(c.inPlace==Tryz.prog.inPlace f)=true)(h2:(c.unfollowed==Tryz.prog.unfollowed f)=true)(h3:(c.recurses==Tryz.prog.recurses f)=true)(h4:(c.named==Tryz.prog.varsNamed f)=true)
  (hR:hRB fn s c=true) (hS:hSB fn s c=true)
  (hk:(c.plainKeys==Tryz.prog.plainKeys)=true) (hl:(c.lifted==Tryz.prog.liftsFinal)=true) (hm:(Tryz.prog.make==some c.make)=true)
  (hT:hTB fn s c=true):joinedFacts Tryz.prog f fn s c=true:=by
 unfold joinedFacts;simp only[hAB,hRB,hSB,hTB,jaf]at hA hR hS hT;obtain⟨⟨⟨⟨a1,a2⟩,a3⟩,a4⟩,a5⟩:=hA;obtain⟨⟨⟨r1,r2⟩,r3⟩,r4⟩:=hR;obtain⟨⟨⟨⟨⟨s1,s2⟩,s3⟩,s4⟩,s5⟩,s6⟩:=hS;obtain⟨⟨⟨t1,t2⟩,t3⟩,t4⟩:=hT;rw[a1,a2,a3,a4,a5,h1,h2,h3,h4,r1,r2,r3,r4,s1,s2,s3,s4,s5,s6,t2,t3,t4,q_laid,q_maps,q_stop,q_knob,q_heard,q_enter,hk,hl,hm];simp only[Bool.true_and,Bool.and_true];exact t1
end Go.Px
end
section

end
