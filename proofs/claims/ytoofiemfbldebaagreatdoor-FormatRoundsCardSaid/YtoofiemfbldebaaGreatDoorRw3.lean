/-
  The function FormatRounds of the format laws returns true for every input, and its input reads on as it did: what FmF writes of a decimal number differs from it by at most half a unit of the last digit; it does not fall when the number rises. The package-level variables that the row lists hold what the text of the program lays; no further condition.
-/
import Derived.Test.YtoofiemfbldebaaGreatDoorR13
import Derived.Test.YtoofiemfbldebaaGreatDoorTie
import Derived.Test.YtoofiemfbldebaaGreatDoorCards
import Derived.SevenTiedAt
set_option linter.unusedVariables false
set_option linter.unusedSimpArgs false
set_option linter.unusedSectionVars false
namespace Go.Proofs.YtoofiemfbldebaaGreatDoor
open Go Go.Ab Go.Px Go.Cx Go.ChangeMaps Go.ChangeShapes Go.WideShapes Go.ChangeAt Go.RowKit Go.Joins

set_option maxRecDepth 100000 in
theorem lifted (os : Os) (started : os.Started) (H : Type) (enc : TypeId × Value → H) :
    ReturnsInHanded {} Tryz.checked os 3 .any (fun w args => (Rows.formatRoundsSpec.pre enc Tryz.prog Tryz.f3 [] false w args ∧ laidMetH Tryz.prog laidL w) ∧ sizedMet enc Tryz.prog Tryz.f3 (OpenSpec.ofChange Rows.formatRoundsSpec) false w args)
      (Rows.formatRoundsSpec.post enc Tryz.prog Tryz.f3 false true false false) := by
  refine handed_shaped (C := Tryz.checked) (X := fun w _ => laidMetH Tryz.prog laidL w) (fun _ _ _ hh h => h.of_heap hh) own started (by kernel_rfl) Tryz.func3
    (ChangeSpec.witness_shaped (enc := enc) (C := Tryz.checked) (os := os) (X := fun w _ => laidMetH Tryz.prog laidL w) false (laidWorld os) #[.int .i64 0, .int .i64 0, .agg #[.int .i64 0, .int .i64 0, .int .i64 0, .bool false, .string ⟨#[]⟩], .int .i64 0] 8 (laidWorld_os _)
      (World.shaped_of_ZipB (by kernel_rfl) (by kernel_rfl)) (by kernel_rfl) (by kernel_rfl) (by kernel_rfl)
      (laidWorld_met os _)) ?_
  intro W base args ds gs before hval0 hW hS hL
  obtain ⟨hlt1, mx, tyM, frM, hM⟩ := maxlen_of hS
  letI : Go.Cs.MaxL := ⟨mx⟩
  have hval : ∀ (j : Nat) t v, Tryz.f3.params[j]? = some t → args[j]? = some v → Value.okWide Tryz.prog W .any base t v := hval0
  have hW' := hW
  obtain ⟨p, q, hA0, hV, rfl, hfz, hnd⟩ := hW
  have hA : DataW.TrodAll enc Tryz.prog W 0 (fun _ => true) true Tryz.f3.params.toList args.toList ds p := hA0
  rw [Tryz.params3] at hA hval
  obtain ⟨v0, vs0, d0, ds0, p0, q0, hargs, rfl, rfl, h0, r0⟩ := trodAll_cons hA
  obtain ⟨v1, vs1, d1, ds1, p1, q1, rfl, rfl, rfl, h1, r1⟩ := trodAll_cons r0
  obtain ⟨v2, vs2, d2, ds2, p2, q2, rfl, rfl, rfl, h2, r2⟩ := trodAll_cons r1
  obtain ⟨v3, vs3, d3, ds3, p3, q3, rfl, rfl, rfl, h3, r3⟩ := trodAll_cons r2
  obtain ⟨rfl, rfl, rfl⟩ := trodAll_nil r3
  obtain rfl : args = #[v0, v1, v2, v3] := by cases args; simp_all
  obtain ⟨rfl, rfl⟩ := trodVars_none hV
  obtain ⟨a0, rfl, b0, rfl, s0⟩ := oI (hval 0 3 v0 rfl rfl) h0
  obtain ⟨a1, rfl, b1, rfl, s1⟩ := oI (hval 1 3 v1 rfl rfl) h1
  obtain ⟨a2, rfl, b2, rfl, s2⟩ := oT (hval 2 23 v2 rfl rfl) h2
  obtain ⟨a3, rfl, b3, rfl, s3⟩ := oI (hval 3 3 v3 rfl rfl) h3
  clear hA0 hval0
  simp only [List.append_nil] at hW'
  have e : (Go.Ff.s3 a0 a1 a2 a3).1 = true := decide_eq_true b2.2.2.2
  have hs : sp4 Go.Ff.s3 [Enc.enc a0, Enc.enc a1, Enc.enc a2, Enc.enc a3] ([Enc.enc a0, Enc.enc a1, Enc.enc a2, Enc.enc a3].map (blkOf fun _ => none)) = some (true, .bool true) := show some (Go.Ff.s3 a0 a1 a2 a3) = _ from congrArg some (Prod.ext e rfl)
  refine (calls_pure Go.Ff.ok3 (args := [Enc.enc a0, Enc.enc a1, Enc.enc a2, Enc.enc a3]) (v := .bool true) (by kernel_rfl) hs rfl W (tabsR_of (tabs_of_laid hL) hlt1 hM)).mono fun e W' ⟨he, hb⟩ => ?_
  subst he
  exact ⟨_, rfl, Go.Ab.post_of_below (pa := []) (pv := []) hW' (fun _ _ _ => (trodAll_cons_mk (shut_bool Tryz.underlying4 _) trodAll_mk0)) (fun sp _ => (trodAll_cons_mk (s0 _ _ _ _) (trodAll_cons_mk (s1 _ _ _ _) (trodAll_cons_mk (s2 _ _ _ _) (trodAll_cons_mk (s3 _ _ _ _) trodAll_mk0))))) (fun _ _ => rfl) rfl hb (ok_one (by kernel_rfl) rfl (okWide_bool_mk Tryz.underlying4 _))⟩

theorem j1 : (Rows.formatRoundsRow.inPlace == Tryz.prog.inPlace 3) = true := by kernel_rfl
theorem j2 : (Rows.formatRoundsRow.unfollowed == Tryz.prog.unfollowed 3) = true := by kernel_rfl
theorem j3 : (Rows.formatRoundsRow.recurses == Tryz.prog.recurses 3) = true := by kernel_rfl
theorem j4 : (Rows.formatRoundsRow.named == Tryz.prog.varsNamed 3) = true := by kernel_rfl
theorem j5 : false = Rows.formatRoundsRow.goesBy Tryz.pinned.checked.prog := by kernel_rfl
theorem j6 : hAB Tryz.f3 Rows.formatRoundsSpec Rows.formatRoundsRow = true := by kernel_rfl
theorem j7 : hRB Tryz.f3 Rows.formatRoundsSpec Rows.formatRoundsRow = true := by kernel_rfl
theorem j8 : hSB Tryz.f3 Rows.formatRoundsSpec Rows.formatRoundsRow = true := by kernel_rfl
theorem j9 : hTB Tryz.f3 Rows.formatRoundsSpec Rows.formatRoundsRow = true := by kernel_rfl
theorem j10 : (Rows.formatRoundsRow.plainKeys == Tryz.prog.plainKeys) = true := (congrArg (· == Tryz.prog.plainKeys) (show Rows.formatRoundsRow.plainKeys = Rows.formatRoundsRow.plainKeys by kernel_rfl)).trans q_keys
theorem j11 : (Rows.formatRoundsRow.lifted == Tryz.prog.liftsFinal) = true := (congrArg (· == Tryz.prog.liftsFinal) (show Rows.formatRoundsRow.lifted = Rows.formatRoundsRow.lifted by kernel_rfl)).trans q_lifts
theorem j12 : (Tryz.prog.make == some Rows.formatRoundsRow.make) = true := (congrArg (fun x => Tryz.prog.make == some x) (show Rows.formatRoundsRow.make = Rows.formatRoundsRow.make by kernel_rfl)).trans q_make
theorem j13 : joinedFacts Tryz.prog 3 Tryz.f3 Rows.formatRoundsSpec Rows.formatRoundsRow = true := jf_mk j6 j1 j2 j3 j4 j7 j8 j10 j11 j12 j9
theorem fn_is : Tryz.prog.funcNamed "pliant/pliantlaw13.FormatRounds" = some 3 := by kernel_rfl
theorem in_is : Tryz.f3.isInstance Tryz.prog Rows.formatRoundsRow.origin Rows.formatRoundsRow.targs := of_decide_eq_true (by kernel_rfl)
set_option maxRecDepth 100000 in
theorem wr_is : Tryz.f3.isWrapper Tryz.prog Rows.formatRoundsRow.wrapper Rows.formatRoundsRow.mainSum := by unfold Func.isWrapper; first | (rw [if_pos (by decide +kernel)]; kernel_rfl) | (rw [if_neg (by decide +kernel)]; exact ⟨rfl, rfl⟩)
set_option maxRecDepth 100000 in
theorem over : Rows.formatRoundsRow.holds Tryz.pinned (OpenSpec.ofChange Rows.formatRoundsSpec) :=
  OpenClaim.holds_of_wide 3 Tryz.f3 rfl rfl rfl rfl rfl rfl rfl ⟨rfl, rfl, rfl, rfl, rfl⟩ rfl rfl rfl rfl rfl fn_is Tryz.func3 j13 in_is wr_is
    (fun os started H enc _ => lifted os started H enc)

theorem proved : Rows.FormatRoundsCardSaid :=
  Claim7.holds_tied_plain_at .later [] [.data, .data, .data, .data, .handle, .sentinel, .sentinel, .data, .pinned] true (true, "194b5b2e2e12b30d3d25bcbfad02f561222b8d466eeb4cea07aad47b7c5b09f6") true
    over (fun _ h => by cases h) (by kernel_rfl) (fun _ h => by cases h) formatRounds_row_tie rfl ⟨rfl, rfl⟩ main_is rfl
    (fun f fn hf hfn => by
      obtain rfl : f = 3 := Option.some.inj (fn_is.symm.trans hf) |>.symm
      obtain rfl : fn = Tryz.f3 := (Option.some.inj (Tryz.func3.symm.trans hfn)).symm
      exact ⟨looks_is, fun j t ht => by
        rw [Tryz.params3] at ht
        have hm : t ∈ [3, 3, 23, 3] := by simpa using Array.mem_of_getElem? ht
        have hall : ([3, 3, 23, 3].all fun u => !Tryz.prog.wantsStandIn u) = true := by kernel_rfl
        exact (show Tryz.prog.wantsStandIn t = false by simpa using List.all_eq_true.1 hall t hm)⟩)
    j5
end Go.Proofs.YtoofiemfbldebaaGreatDoor
