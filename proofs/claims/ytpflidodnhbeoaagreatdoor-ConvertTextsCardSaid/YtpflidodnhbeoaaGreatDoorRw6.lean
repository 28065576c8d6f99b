/-
  The function ConvertTexts of the convert laws returns true for every input, and its input reads on as it did: for every value and type, valid or not, Text matches the specification. The package-level variables that the row lists hold what the text of the program lays; no further condition.
-/
import Derived.Test.YtpflidodnhbeoaaGreatDoorX4
import Derived.Test.YtpflidodnhbeoaaGreatDoorTie
import Derived.Test.YtpflidodnhbeoaaGreatDoorCards
import Derived.SevenTiedAt
set_option linter.unusedVariables false
set_option linter.unusedSimpArgs false
namespace Go.Proofs.YtpflidodnhbeoaaGreatDoor
open Go Go.Ab Go.Px Go.Cx Go.ChangeMaps Go.ChangeShapes Go.WideShapes Go.ChangeAt Go.RowKit Go.Joins

set_option maxRecDepth 100000 in
theorem lifted (os : Os) (started : os.Started) (H : Type) (enc : TypeId × Value → H) :
    ReturnsInHanded {} Tryz.checked os 6 .any (fun w args => (Rows.convertTextsSpec.pre enc Tryz.prog Tryz.f6 [] false w args ∧ laidMetH Tryz.prog laidL w) ∧ sizedMet enc Tryz.prog Tryz.f6 (OpenSpec.ofChange Rows.convertTextsSpec) false w args)
      (Rows.convertTextsSpec.post enc Tryz.prog Tryz.f6 false true false false) := by
  refine returnsInHanded_of_change_and (C := Tryz.checked) (X := fun w _ => laidMetH Tryz.prog laidL w) (fun _ _ _ hh h => h.of_heap hh) own started (by kernel_rfl) Tryz.func6
    (ChangeSpec.witness_shaped (enc := enc) (C := Tryz.checked) (os := os) (X := fun w _ => laidMetH Tryz.prog laidL w) false (laidWorld os) #[.agg #[.int .i64 0, .string ⟨#[]⟩], .agg #[.int .i64 0, .int .i64 0, .int .i64 0, .bool false, .string ⟨#[]⟩]] 8 (laidWorld_os _)
      (World.shaped_of_ZipB (by kernel_rfl) (by kernel_rfl)) (by kernel_rfl) (by kernel_rfl) (by kernel_rfl)
      (laidWorld_met os _)) ?_
  intro W base args ds gs before hval0 hW _ _ hL _
  have hval : ∀ (j : Nat) t v, Tryz.f6.params[j]? = some t → args[j]? = some v → Value.okWide Tryz.prog W .any base t v := hval0
  have hW' := hW
  obtain ⟨p, q, hA0, hV, rfl, hfz, hnd⟩ := hW
  have hA : DataW.TrodAll enc Tryz.prog W 0 (fun _ => true) true Tryz.f6.params.toList args.toList ds p := hA0
  rw [Tryz.params6] at hA hval
  obtain ⟨v0, vs0, d0, ds0, p0, q0, hargs, rfl, rfl, h0, r0⟩ := trodAll_cons hA
  obtain ⟨v1, vs1, d1, ds1, p1, q1, rfl, rfl, rfl, h1, r1⟩ := trodAll_cons r0
  obtain ⟨rfl, rfl, rfl⟩ := trodAll_nil r1
  obtain rfl : args = #[v0, v1] := by cases args; simp_all
  obtain ⟨rfl, rfl⟩ := trodVars_none hV
  obtain ⟨a0, rfl, b0, rfl, s0⟩ := oV (hval 0 25 v0 rfl rfl) h0
  obtain ⟨a1, rfl, b1, rfl, s1⟩ := oT (hval 1 23 v1 rfl rfl) h1
  clear hA0 hval0
  simp only [List.append_nil] at hW'
  have e : (s6 a0 a1).1 = true := decide_eq_true ⟨b1.2.2.2, b0.2⟩
  have hs : sp2 s6 [Enc.enc a0, Enc.enc a1] ([Enc.enc a0, Enc.enc a1].map (blkOf fun _ => none)) = some (true, .bool true) := show some (s6 a0 a1) = _ from congrArg some (Prod.ext e rfl)
  refine (calls_pure ok6 (args := [Enc.enc a0, Enc.enc a1]) (v := .bool true) (by kernel_rfl) hs rfl W (tabs_of_laid hL)).mono fun e W' ⟨he, hb⟩ => ?_
  subst he
  exact ⟨_, rfl, Go.Ab.post_of_below (pa := []) (pv := []) hW' (fun _ _ _ => (trodAll_cons_mk (shut_bool Tryz.underlying4 _) trodAll_mk0)) (fun sp _ => (trodAll_cons_mk (s0 _ _ _ _) (trodAll_cons_mk (s1 _ _ _ _) trodAll_mk0))) (fun _ _ => rfl) rfl hb (ok_one (by kernel_rfl) rfl (okWide_bool_mk Tryz.underlying4 _))⟩

theorem j1 : (Rows.convertTextsRow.inPlace == Tryz.prog.inPlace 6) = true := by kernel_rfl
theorem j2 : (Rows.convertTextsRow.unfollowed == Tryz.prog.unfollowed 6) = true := by kernel_rfl
theorem j3 : (Rows.convertTextsRow.recurses == Tryz.prog.recurses 6) = true := by kernel_rfl
theorem j4 : (Rows.convertTextsRow.named == Tryz.prog.varsNamed 6) = true := by kernel_rfl
theorem j5 : false = Rows.convertTextsRow.goesBy Tryz.pinned.checked.prog := by kernel_rfl
theorem j6 : hAB Tryz.f6 Rows.convertTextsSpec Rows.convertTextsRow = true := by kernel_rfl
theorem j7 : hRB Tryz.f6 Rows.convertTextsSpec Rows.convertTextsRow = true := by kernel_rfl
theorem j8 : hSB Tryz.f6 Rows.convertTextsSpec Rows.convertTextsRow = true := by kernel_rfl
theorem j9 : hTB Tryz.f6 Rows.convertTextsSpec Rows.convertTextsRow = true := by kernel_rfl
theorem j10 : (Rows.convertTextsRow.plainKeys == Tryz.prog.plainKeys) = true := (congrArg (· == Tryz.prog.plainKeys) (show Rows.convertTextsRow.plainKeys = Rows.convertTypesRow.plainKeys by kernel_rfl)).trans q_keys
theorem j11 : (Rows.convertTextsRow.lifted == Tryz.prog.liftsFinal) = true := (congrArg (· == Tryz.prog.liftsFinal) (show Rows.convertTextsRow.lifted = Rows.convertTypesRow.lifted by kernel_rfl)).trans q_lifts
theorem j12 : (Tryz.prog.make == some Rows.convertTextsRow.make) = true := (congrArg (fun x => Tryz.prog.make == some x) (show Rows.convertTextsRow.make = Rows.convertTypesRow.make by kernel_rfl)).trans q_make
theorem j13 : joinedFacts Tryz.prog 6 Tryz.f6 Rows.convertTextsSpec Rows.convertTextsRow = true := jf_mk j6 j1 j2 j3 j4 j7 j8 j10 j11 j12 j9
theorem fn_is : Tryz.prog.funcNamed "pliant/pliantlaw04.ConvertTexts" = some 6 := by kernel_rfl
theorem in_is : Tryz.f6.isInstance Tryz.prog Rows.convertTextsRow.origin Rows.convertTextsRow.targs := of_decide_eq_true (by kernel_rfl)
set_option maxRecDepth 100000 in
theorem wr_is : Tryz.f6.isWrapper Tryz.prog Rows.convertTextsRow.wrapper Rows.convertTextsRow.mainSum := by unfold Func.isWrapper; first | (rw [if_pos (by decide +kernel)]; kernel_rfl) | (rw [if_neg (by decide +kernel)]; exact ⟨rfl, rfl⟩)
set_option maxRecDepth 100000 in
theorem over : Rows.convertTextsRow.holds Tryz.pinned (OpenSpec.ofChange Rows.convertTextsSpec) :=
  OpenClaim.holds_of_wide 6 Tryz.f6 rfl rfl rfl rfl rfl rfl rfl ⟨rfl, rfl, rfl, rfl, rfl⟩ rfl rfl rfl rfl rfl fn_is Tryz.func6 j13 in_is wr_is
    (fun os started H enc _ => lifted os started H enc)

theorem proved : Rows.ConvertTextsCardSaid :=
  Claim7.holds_tied_plain_at .later [] [.data, .data, .data, .data, .handle, .sentinel, .sentinel, .data, .pinned] true (true, "2cb47cbf95087f7cc8d5ede91c198a947601d35cfd546d8bdc61f47b13d7b636") true
    over (fun _ h => by cases h) (by kernel_rfl) (fun _ h => by cases h) convertTexts_row_tie rfl ⟨rfl, rfl⟩ main_is rfl
    (fun f fn hf hfn => by
      obtain rfl : f = 6 := Option.some.inj (fn_is.symm.trans hf) |>.symm
      obtain rfl : fn = Tryz.f6 := (Option.some.inj (Tryz.func6.symm.trans hfn)).symm
      exact ⟨looks_is, fun j t ht => by
        rw [Tryz.params6] at ht
        have hm : t ∈ [25, 23] := by simpa using Array.mem_of_getElem? ht
        have hall : ([25, 23].all fun u => !Tryz.prog.wantsStandIn u) = true := by kernel_rfl
        exact (show Tryz.prog.wantsStandIn t = false by simpa using List.all_eq_true.1 hall t hm)⟩)
    j5
end Go.Proofs.YtpflidodnhbeoaaGreatDoor
