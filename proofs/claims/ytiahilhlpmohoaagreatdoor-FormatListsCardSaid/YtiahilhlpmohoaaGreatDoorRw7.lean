/-
  The function FormatLists of the format laws returns true for every input, and its input reads on as it did: check, Item and Width answer as the specification says. The package-level variables that the row lists hold what the text of the program lays; no further condition.
-/
import Derived.Test.YtiahilhlpmohoaaGreatDoorL13
import Derived.Test.YtiahilhlpmohoaaGreatDoorTie
import Derived.Test.YtiahilhlpmohoaaGreatDoorCards
import Derived.SevenTiedAt
set_option linter.unusedVariables false
set_option linter.unusedSimpArgs false
set_option linter.unusedSectionVars false
namespace Go.Proofs.YtiahilhlpmohoaaGreatDoor
open Go Go.Ab Go.Px Go.Cx Go.ChangeMaps Go.ChangeShapes Go.WideShapes Go.ChangeAt Go.RowKit Go.Joins

section
variable {H : Type} {enc : TypeId × Value → H} {P : Program}
theorem trodAll_below (hl : laidOutB P = true) {W W' : World} (hb : Below W.heap.size W W') (sp : Nat → Bool) :
    ∀ {ts : List TypeId} {vs : List Value} {ds : List (DataW H)} {ps : List MemPlace}, (∀ t ∈ ts, P.readableRec t = true ∧ t < P.types.size) → (∀ p ∈ ps, p.block < W.heap.size) → (∀ p ∈ ps, sp p.block = true) →
      DataW.TrodAll enc P W 0 (fun _ => true) true ts vs ds ps → DataW.TrodAll enc P W' 0 sp true ts vs ds ps
  | [], [], [], _, _, _, _, h => h
  | t :: ts, v :: vs, d :: ds, ps, hr, hlt, hsp, h => by
    obtain ⟨p, q, h1, h2, rfl⟩ := h
    refine ⟨p, q, WideElems.Trod_stays hl (hr t (List.mem_cons_self ..)).1 (hr t (List.mem_cons_self ..)).2 h1 (fun x hx => hb.same (hlt x (by simp [hx]))) (fun x hx => hsp x (by simp [hx])), ?_, rfl⟩
    exact trodAll_below hl hb sp (fun t ht => hr t (List.mem_cons_of_mem _ ht)) (fun x hx => hlt x (by simp [hx])) (fun x hx => hsp x (by simp [hx])) h2
  | [], _ :: _, _, _, _, _, _, h | [], [], _ :: _, _, _, _, _, h | _ :: _, [], _, _, _, _, _, h | _ :: _, _ :: _, [], _, _, _, _, h => by simp [DataW.TrodAll] at h
end
set_option maxRecDepth 100000 in
theorem lifted (os : Os) (started : os.Started) (H : Type) (enc : TypeId × Value → H) :
    ReturnsInHanded {} Tryz.checked os 7 .any (fun w args => (Rows.formatListsSpec.pre enc Tryz.prog Tryz.f7 [] false w args ∧ laidMetH Tryz.prog laidL w) ∧ sizedMet enc Tryz.prog Tryz.f7 (OpenSpec.ofChange Rows.formatListsSpec) false w args)
      (Rows.formatListsSpec.post enc Tryz.prog Tryz.f7 false true false false) := by
  refine handed_shaped (C := Tryz.checked) (X := fun w _ => laidMetH Tryz.prog laidL w) (fun _ _ _ hh h => h.of_heap hh) own started (by kernel_rfl) Tryz.func7
    (ChangeSpec.witness_shaped (enc := enc) (C := Tryz.checked) (os := os) (X := fun w _ => laidMetH Tryz.prog laidL w) false (laidWorld os) #[.slice none 0 0, .int .i64 0] 8 (laidWorld_os _)
      (World.shaped_of_ZipB (by kernel_rfl) (by kernel_rfl)) (by kernel_rfl) (by kernel_rfl) (by kernel_rfl)
      (laidWorld_met os _)) ?_
  intro W base args ds gs before hval0 hW hS hL
  obtain ⟨hlt1, mx, tyM, frM, hM⟩ := maxlen_of hS
  letI : Go.Cs.MaxL := ⟨mx⟩
  have hval : ∀ (j : Nat) t v, Tryz.f7.params[j]? = some t → args[j]? = some v → Value.okWide Tryz.prog W .any base t v := hval0
  have hW' := hW
  have hlt := hW.lt
  obtain ⟨p, q, hA0, hV, rfl, hfz, hnd⟩ := hW
  have hA : DataW.TrodAll enc Tryz.prog W 0 (fun _ => true) true Tryz.f7.params.toList args.toList ds p := hA0
  rw [Tryz.params7] at hA hval
  have hAll := hA
  obtain ⟨v0, vs0, d0, ds0, p0, q0, hargs, rfl, rfl, h0, r0⟩ := trodAll_cons hA
  obtain ⟨v1, vs1, d1, ds1, p1, q1, rfl, rfl, rfl, h1, r1⟩ := trodAll_cons r0
  obtain ⟨rfl, rfl, rfl⟩ := trodAll_nil r1
  obtain rfl : args = #[v0, v1] := by cases args; simp_all
  obtain ⟨rfl, rfl⟩ := trodVars_none hV
  have hsl := open_formats (hval 0 25 v0 rfl rfl) h0
  obtain ⟨a1, rfl, b1, rfl, s1⟩ := oI (hval 1 3 v1 rfl rfl) h1
  clear hA0 hval0
  simp only [List.append_nil] at hW'
  refine (key7 (W := W) (tabsR_of (tabs_of_laid hL) hlt1 hM) a1 hsl).mono fun e W' ⟨he, hb⟩ => ?_
  subst he
  exact ⟨_, rfl, Go.Ab.post_of_below (pa := (p0 ++ ([] ++ []))) (pv := []) hW' (fun _ _ _ => (trodAll_cons_mk (shut_bool Tryz.underlying4 _) trodAll_mk0)) (fun sp hsp => trodAll_below laid_ok hb sp (ts := [25, 3]) (by
    intro t ht
    simp only [List.mem_cons, List.not_mem_nil, or_false] at ht
    rcases ht with rfl | rfl
    · exact rd25
    · exact rd3) (fun x hx => hlt x (by simpa using hx)) (fun x hx => hsp x (by simpa using hx)) hAll) (fun _ _ => rfl) (by simp) hb (ok_one (by kernel_rfl) rfl (okWide_bool_mk Tryz.underlying4 _))⟩

theorem j1 : (Rows.formatListsRow.inPlace == Tryz.prog.inPlace 7) = true := by kernel_rfl
theorem j2 : (Rows.formatListsRow.unfollowed == Tryz.prog.unfollowed 7) = true := by kernel_rfl
theorem j3 : (Rows.formatListsRow.recurses == Tryz.prog.recurses 7) = true := by kernel_rfl
theorem j4 : (Rows.formatListsRow.named == Tryz.prog.varsNamed 7) = true := by kernel_rfl
theorem j5 : false = Rows.formatListsRow.goesBy Tryz.pinned.checked.prog := by kernel_rfl
theorem j6 : hAB Tryz.f7 Rows.formatListsSpec Rows.formatListsRow = true := by kernel_rfl
theorem j7 : hRB Tryz.f7 Rows.formatListsSpec Rows.formatListsRow = true := by kernel_rfl
theorem j8 : hSB Tryz.f7 Rows.formatListsSpec Rows.formatListsRow = true := by kernel_rfl
theorem j9 : hTB Tryz.f7 Rows.formatListsSpec Rows.formatListsRow = true := by kernel_rfl
theorem j10 : (Rows.formatListsRow.plainKeys == Tryz.prog.plainKeys) = true := (congrArg (· == Tryz.prog.plainKeys) (show Rows.formatListsRow.plainKeys = Rows.formatStarsRow.plainKeys by kernel_rfl)).trans q_keys
theorem j11 : (Rows.formatListsRow.lifted == Tryz.prog.liftsFinal) = true := (congrArg (· == Tryz.prog.liftsFinal) (show Rows.formatListsRow.lifted = Rows.formatStarsRow.lifted by kernel_rfl)).trans q_lifts
theorem j12 : (Tryz.prog.make == some Rows.formatListsRow.make) = true := (congrArg (fun x => Tryz.prog.make == some x) (show Rows.formatListsRow.make = Rows.formatStarsRow.make by kernel_rfl)).trans q_make
theorem j13 : joinedFacts Tryz.prog 7 Tryz.f7 Rows.formatListsSpec Rows.formatListsRow = true := jf_mk j6 j1 j2 j3 j4 j7 j8 j10 j11 j12 j9
theorem fn_is : Tryz.prog.funcNamed "pliant/pliantlaw13.FormatLists" = some 7 := by kernel_rfl
theorem in_is : Tryz.f7.isInstance Tryz.prog Rows.formatListsRow.origin Rows.formatListsRow.targs := of_decide_eq_true (by kernel_rfl)
set_option maxRecDepth 100000 in
theorem wr_is : Tryz.f7.isWrapper Tryz.prog Rows.formatListsRow.wrapper Rows.formatListsRow.mainSum := by unfold Func.isWrapper; first | (rw [if_pos (by decide +kernel)]; kernel_rfl) | (rw [if_neg (by decide +kernel)]; exact ⟨rfl, rfl⟩)
set_option maxRecDepth 100000 in
theorem over : Rows.formatListsRow.holds Tryz.pinned (OpenSpec.ofChange Rows.formatListsSpec) :=
  OpenClaim.holds_of_wide 7 Tryz.f7 rfl rfl rfl rfl rfl rfl rfl ⟨rfl, rfl, rfl, rfl, rfl⟩ rfl rfl rfl rfl rfl fn_is Tryz.func7 j13 in_is wr_is
    (fun os started H enc _ => lifted os started H enc)

theorem proved : Rows.FormatListsCardSaid :=
  Claim7.holds_tied_plain_at .later [] [.data, .data, .data, .data, .handle, .sentinel, .sentinel, .data, .pinned] true (true, "162ec243084bfa9709d57c15b7c67653890d8251fb86ae663da2c28d9c8f9ac0") true
    over (fun _ h => by cases h) (by kernel_rfl) (fun _ h => by cases h) formatLists_row_tie rfl ⟨rfl, rfl⟩ main_is rfl
    (fun f fn hf hfn => by
      obtain rfl : f = 7 := Option.some.inj (fn_is.symm.trans hf) |>.symm
      obtain rfl : fn = Tryz.f7 := (Option.some.inj (Tryz.func7.symm.trans hfn)).symm
      exact ⟨looks_is, fun j t ht => by
        rw [Tryz.params7] at ht
        have hm : t ∈ [25, 3] := by simpa using Array.mem_of_getElem? ht
        have hall : ([25, 3].all fun u => !Tryz.prog.wantsStandIn u) = true := by kernel_rfl
        exact (show Tryz.prog.wantsStandIn t = false by simpa using List.all_eq_true.1 hall t hm)⟩)
    j5
end Go.Proofs.YtiahilhlpmohoaaGreatDoor
