/-
  The function FormatStars of the format laws returns true for every input, and its input reads on as it did: what is written has the width; a number that does not fit in 255 characters of FmF is none. The package-level variables that the row lists hold what the text of the program lays; no further condition.
-/
import Derived.Test.YtiahilhlpmohoaaGreatDoorS15
import Derived.Test.YtiahilhlpmohoaaGreatDoorTie
import Derived.Test.YtiahilhlpmohoaaGreatDoorCards
import Derived.SevenTiedAt
set_option linter.unusedVariables false
set_option linter.unusedSimpArgs false
set_option linter.unusedSectionVars false
namespace Go.Proofs.YtiahilhlpmohoaaGreatDoor
open Go Go.Ab Go.Px Go.Cx Go.ChangeMaps Go.ChangeShapes Go.WideShapes Go.ChangeAt Go.RowKit Go.Joins

set_option maxRecDepth 100000 in
theorem lifted (os : Os) (started : os.Started) (H : Type) (enc : TypeId × Value → H) :
    ReturnsInHanded {} Tryz.checked os 4 .any (fun w args => (Rows.formatStarsSpec.pre enc Tryz.prog Tryz.f4 [] false w args ∧ laidMetH Tryz.prog laidL w) ∧ sizedMet enc Tryz.prog Tryz.f4 (OpenSpec.ofChange Rows.formatStarsSpec) false w args)
      (Rows.formatStarsSpec.post enc Tryz.prog Tryz.f4 false true false false) := by
  refine handed_shaped (C := Tryz.checked) (X := fun w _ => laidMetH Tryz.prog laidL w) (fun _ _ _ hh h => h.of_heap hh) own started (by kernel_rfl) Tryz.func4
    (ChangeSpec.witness_shaped (enc := enc) (C := Tryz.checked) (os := os) (X := fun w _ => laidMetH Tryz.prog laidL w) false (laidWorld os) #[.agg #[.int .i64 0, .int .i64 0, .int .i64 0, .string ⟨#[]⟩], .agg #[.int .i64 0, .string ⟨#[]⟩], .agg #[.int .i64 0, .int .i64 0, .int .i64 0, .bool false, .string ⟨#[]⟩]] 8 (laidWorld_os _)
      (World.shaped_of_ZipB (by kernel_rfl) (by kernel_rfl)) (by kernel_rfl) (by kernel_rfl) (by kernel_rfl)
      (laidWorld_met os _)) ?_
  intro W base args ds gs before hval0 hW hS hL
  obtain ⟨hlt1, mx, tyM, frM, hM⟩ := maxlen_of hS
  letI : Go.Cs.MaxL := ⟨mx⟩
  have hval : ∀ (j : Nat) t v, Tryz.f4.params[j]? = some t → args[j]? = some v → Value.okWide Tryz.prog W .any base t v := hval0
  have hW' := hW
  obtain ⟨p, q, hA0, hV, rfl, hfz, hnd⟩ := hW
  have hA : DataW.TrodAll enc Tryz.prog W 0 (fun _ => true) true Tryz.f4.params.toList args.toList ds p := hA0
  rw [Tryz.params4] at hA hval
  obtain ⟨v0, vs0, d0, ds0, p0, q0, hargs, rfl, rfl, h0, r0⟩ := trodAll_cons hA
  obtain ⟨v1, vs1, d1, ds1, p1, q1, rfl, rfl, rfl, h1, r1⟩ := trodAll_cons r0
  obtain ⟨v2, vs2, d2, ds2, p2, q2, rfl, rfl, rfl, h2, r2⟩ := trodAll_cons r1
  obtain ⟨rfl, rfl, rfl⟩ := trodAll_nil r2
  obtain rfl : args = #[v0, v1, v2] := by cases args; simp_all
  obtain ⟨rfl, rfl⟩ := trodVars_none hV
  obtain ⟨a0, rfl, b0, rfl, s0⟩ := oF (hval 0 48 v0 rfl rfl) h0
  obtain ⟨a1, rfl, b1, rfl, s1⟩ := oV (hval 1 32 v1 rfl rfl) h1
  obtain ⟨a2, rfl, b2, rfl, s2⟩ := oT (hval 2 45 v2 rfl rfl) h2
  clear hA0 hval0
  simp only [List.append_nil] at hW'
  have e : (Go.Fi.s4 a0 a1 a2).1 = true := decide_eq_true ⟨b0.2.2.2, b2.2.2.2, b1.2⟩
  have hs : sp3 Go.Fi.s4 [Enc.enc a0, Enc.enc a1, Enc.enc a2] ([Enc.enc a0, Enc.enc a1, Enc.enc a2].map (blkOf fun _ => none)) = some (true, .bool true) := show some (Go.Fi.s4 a0 a1 a2) = _ from congrArg some (Prod.ext e rfl)
  refine (calls_pure (Go.Ff.pureR Go.Fi.ok4) (args := [Enc.enc a0, Enc.enc a1, Enc.enc a2]) (v := .bool true) (by kernel_rfl) hs rfl W (tabsR_of (tabs_of_laid hL) hlt1 hM)).mono fun e W' ⟨he, hb⟩ => ?_
  subst he
  exact ⟨_, rfl, Go.Ab.post_of_below (pa := []) (pv := []) hW' (fun _ _ _ => (trodAll_cons_mk (shut_bool Tryz.underlying4 _) trodAll_mk0)) (fun sp _ => (trodAll_cons_mk (s0 _ _ _ _) (trodAll_cons_mk (s1 _ _ _ _) (trodAll_cons_mk (s2 _ _ _ _) trodAll_mk0)))) (fun _ _ => rfl) rfl hb (ok_one (by kernel_rfl) rfl (okWide_bool_mk Tryz.underlying4 _))⟩

theorem j1 : (Rows.formatStarsRow.inPlace == Tryz.prog.inPlace 4) = true := by kernel_rfl
theorem j2 : (Rows.formatStarsRow.unfollowed == Tryz.prog.unfollowed 4) = true := by kernel_rfl
theorem j3 : (Rows.formatStarsRow.recurses == Tryz.prog.recurses 4) = true := by kernel_rfl
theorem j4 : (Rows.formatStarsRow.named == Tryz.prog.varsNamed 4) = true := by kernel_rfl
theorem j5 : false = Rows.formatStarsRow.goesBy Tryz.pinned.checked.prog := by kernel_rfl
theorem j6 : hAB Tryz.f4 Rows.formatStarsSpec Rows.formatStarsRow = true := by kernel_rfl
theorem j7 : hRB Tryz.f4 Rows.formatStarsSpec Rows.formatStarsRow = true := by kernel_rfl
theorem j8 : hSB Tryz.f4 Rows.formatStarsSpec Rows.formatStarsRow = true := by kernel_rfl
theorem j9 : hTB Tryz.f4 Rows.formatStarsSpec Rows.formatStarsRow = true := by kernel_rfl
theorem j10 : (Rows.formatStarsRow.plainKeys == Tryz.prog.plainKeys) = true := (congrArg (· == Tryz.prog.plainKeys) (show Rows.formatStarsRow.plainKeys = Rows.formatStarsRow.plainKeys by kernel_rfl)).trans q_keys
theorem j11 : (Rows.formatStarsRow.lifted == Tryz.prog.liftsFinal) = true := (congrArg (· == Tryz.prog.liftsFinal) (show Rows.formatStarsRow.lifted = Rows.formatStarsRow.lifted by kernel_rfl)).trans q_lifts
theorem j12 : (Tryz.prog.make == some Rows.formatStarsRow.make) = true := (congrArg (fun x => Tryz.prog.make == some x) (show Rows.formatStarsRow.make = Rows.formatStarsRow.make by kernel_rfl)).trans q_make
theorem j13 : joinedFacts Tryz.prog 4 Tryz.f4 Rows.formatStarsSpec Rows.formatStarsRow = true := jf_mk j6 j1 j2 j3 j4 j7 j8 j10 j11 j12 j9
theorem fn_is : Tryz.prog.funcNamed "pliant/pliantlaw13.FormatStars" = some 4 := by kernel_rfl
theorem in_is : Tryz.f4.isInstance Tryz.prog Rows.formatStarsRow.origin Rows.formatStarsRow.targs := of_decide_eq_true (by kernel_rfl)
set_option maxRecDepth 100000 in
theorem wr_is : Tryz.f4.isWrapper Tryz.prog Rows.formatStarsRow.wrapper Rows.formatStarsRow.mainSum := by unfold Func.isWrapper; first | (rw [if_pos (by decide +kernel)]; kernel_rfl) | (rw [if_neg (by decide +kernel)]; exact ⟨rfl, rfl⟩)
set_option maxRecDepth 100000 in
theorem over : Rows.formatStarsRow.holds Tryz.pinned (OpenSpec.ofChange Rows.formatStarsSpec) :=
  OpenClaim.holds_of_wide 4 Tryz.f4 rfl rfl rfl rfl rfl rfl rfl ⟨rfl, rfl, rfl, rfl, rfl⟩ rfl rfl rfl rfl rfl fn_is Tryz.func4 j13 in_is wr_is
    (fun os started H enc _ => lifted os started H enc)

theorem proved : Rows.FormatStarsCardSaid :=
  Claim7.holds_tied_plain_at .later [] [.data, .data, .data, .data, .handle, .sentinel, .sentinel, .data, .pinned] true (true, "162ec243084bfa9709d57c15b7c67653890d8251fb86ae663da2c28d9c8f9ac0") true
    over (fun _ h => by cases h) (by kernel_rfl) (fun _ h => by cases h) formatStars_row_tie rfl ⟨rfl, rfl⟩ main_is rfl
    (fun f fn hf hfn => by
      obtain rfl : f = 4 := Option.some.inj (fn_is.symm.trans hf) |>.symm
      obtain rfl : fn = Tryz.f4 := (Option.some.inj (Tryz.func4.symm.trans hfn)).symm
      exact ⟨looks_is, fun j t ht => by
        rw [Tryz.params4] at ht
        have hm : t ∈ [48, 32, 45] := by simpa using Array.mem_of_getElem? ht
        have hall : ([48, 32, 45].all fun u => !Tryz.prog.wantsStandIn u) = true := by kernel_rfl
        exact (show Tryz.prog.wantsStandIn t = false by simpa using List.all_eq_true.1 hall t hm)⟩)
    j5
end Go.Proofs.YtiahilhlpmohoaaGreatDoor
