/-
  The function ConvertTypes of the convert laws returns true for every input, and its input reads on as it did: for every type and value, valid or not, Check and Fits match the specification. The package-level variables that the row lists hold what the text of the program lays; no further condition.
-/
import Derived.Test.YtpflidodnhbeoaaGreatDoorT4
import Derived.Test.YtpflidodnhbeoaaGreatDoorTie
import Derived.Test.YtpflidodnhbeoaaGreatDoorCards
import Derived.SevenTiedAt
set_option linter.unusedVariables false
set_option linter.unusedSimpArgs false
namespace Go.Proofs.YtpflidodnhbeoaaGreatDoor
open Go Go.Ab Go.Px Go.Cx Go.ChangeMaps Go.ChangeShapes Go.WideShapes Go.ChangeAt Go.RowKit Go.Joins

set_option maxRecDepth 100000 in
theorem lifted (os : Os) (started : os.Started) (H : Type) (enc : TypeId × Value → H) :
    ReturnsInHanded {} Tryz.checked os 3 .any (fun w args => (Rows.convertTypesSpec.pre enc Tryz.prog Tryz.f3 [] false w args ∧ laidMetH Tryz.prog laidL w) ∧ sizedMet enc Tryz.prog Tryz.f3 (OpenSpec.ofChange Rows.convertTypesSpec) false w args)
      (Rows.convertTypesSpec.post enc Tryz.prog Tryz.f3 false true false false) := by
  refine returnsInHanded_of_change_and (C := Tryz.checked) (X := fun w _ => laidMetH Tryz.prog laidL w) (fun _ _ _ hh h => h.of_heap hh) own started (by kernel_rfl) Tryz.func3
    (ChangeSpec.witness_shaped (enc := enc) (C := Tryz.checked) (os := os) (X := fun w _ => laidMetH Tryz.prog laidL w) false (laidWorld os) #[.agg #[.int .i64 0, .int .i64 0, .int .i64 0, .bool false, .string ⟨#[]⟩], .agg #[.int .i64 0, .string ⟨#[]⟩]] 8 (laidWorld_os _)
      (World.shaped_of_ZipB (by kernel_rfl) (by kernel_rfl)) (by kernel_rfl) (by kernel_rfl) (by kernel_rfl)
      (laidWorld_met os _)) ?_
  intro W base args ds gs before hval0 hW _ _ hL _
  have hval : ∀ (j : Nat) t v, Tryz.f3.params[j]? = some t → args[j]? = some v → Value.okWide Tryz.prog W .any base t v := hval0
  have hW' := hW
  obtain ⟨p, q, hA0, hV, rfl, hfz, hnd⟩ := hW
  have hA : DataW.TrodAll enc Tryz.prog W 0 (fun _ => true) true Tryz.f3.params.toList args.toList ds p := hA0
  rw [Tryz.params3] at hA hval
  obtain ⟨v0, vs0, d0, ds0, p0, q0, hargs, rfl, rfl, h0, r0⟩ := trodAll_cons hA
  obtain ⟨v1, vs1, d1, ds1, p1, q1, rfl, rfl, rfl, h1, r1⟩ := trodAll_cons r0
  obtain ⟨rfl, rfl, rfl⟩ := trodAll_nil r1
  obtain rfl : args = #[v0, v1] := by cases args; simp_all
  obtain ⟨rfl, rfl⟩ := trodVars_none hV
  obtain ⟨a0, rfl, b0, rfl, s0⟩ := oT (hval 0 23 v0 rfl rfl) h0
  obtain ⟨a1, rfl, b1, rfl, s1⟩ := oV (hval 1 25 v1 rfl rfl) h1
  clear hA0 hval0
  simp only [List.append_nil] at hW'
  have e : (s3 a0 a1).1 = true := decide_eq_true ⟨b0.2.2.2, b1.2⟩
  have hs : sp2 s3 [Enc.enc a0, Enc.enc a1] ([Enc.enc a0, Enc.enc a1].map (blkOf fun _ => none)) = some (true, .bool true) := show some (s3 a0 a1) = _ from congrArg some (Prod.ext e rfl)
  refine (calls_pure ok3 (args := [Enc.enc a0, Enc.enc a1]) (v := .bool true) (by kernel_rfl) hs rfl W (tabs_of_laid hL)).mono fun e W' ⟨he, hb⟩ => ?_
  subst he
  exact ⟨_, rfl, Go.Ab.post_of_below (pa := []) (pv := []) hW' (fun _ _ _ => (trodAll_cons_mk (shut_bool Tryz.underlying4 _) trodAll_mk0)) (fun sp _ => (trodAll_cons_mk (s0 _ _ _ _) (trodAll_cons_mk (s1 _ _ _ _) trodAll_mk0))) (fun _ _ => rfl) rfl hb (ok_one (by kernel_rfl) rfl (okWide_bool_mk Tryz.underlying4 _))⟩

theorem j1 : (Rows.convertTypesRow.inPlace == Tryz.prog.inPlace 3) = true := by kernel_rfl
theorem j2 : (Rows.convertTypesRow.unfollowed == Tryz.prog.unfollowed 3) = true := by kernel_rfl
theorem j3 : (Rows.convertTypesRow.recurses == Tryz.prog.recurses 3) = true := by kernel_rfl
theorem j4 : (Rows.convertTypesRow.named == Tryz.prog.varsNamed 3) = true := by kernel_rfl
theorem j5 : false = Rows.convertTypesRow.goesBy Tryz.pinned.checked.prog := by kernel_rfl
theorem j6 : hAB Tryz.f3 Rows.convertTypesSpec Rows.convertTypesRow = true := by kernel_rfl
theorem j7 : hRB Tryz.f3 Rows.convertTypesSpec Rows.convertTypesRow = true := by kernel_rfl
theorem j8 : hSB Tryz.f3 Rows.convertTypesSpec Rows.convertTypesRow = true := by kernel_rfl
theorem j9 : hTB Tryz.f3 Rows.convertTypesSpec Rows.convertTypesRow = true := by kernel_rfl
theorem j10 : (Rows.convertTypesRow.plainKeys == Tryz.prog.plainKeys) = true := (congrArg (· == Tryz.prog.plainKeys) (show Rows.convertTypesRow.plainKeys = Rows.convertTypesRow.plainKeys by kernel_rfl)).trans q_keys
theorem j11 : (Rows.convertTypesRow.lifted == Tryz.prog.liftsFinal) = true := (congrArg (· == Tryz.prog.liftsFinal) (show Rows.convertTypesRow.lifted = Rows.convertTypesRow.lifted by kernel_rfl)).trans q_lifts
theorem j12 : (Tryz.prog.make == some Rows.convertTypesRow.make) = true := (congrArg (fun x => Tryz.prog.make == some x) (show Rows.convertTypesRow.make = Rows.convertTypesRow.make by kernel_rfl)).trans q_make
theorem j13 : joinedFacts Tryz.prog 3 Tryz.f3 Rows.convertTypesSpec Rows.convertTypesRow = true := jf_mk j6 j1 j2 j3 j4 j7 j8 j10 j11 j12 j9
theorem fn_is : Tryz.prog.funcNamed "pliant/pliantlaw04.ConvertTypes" = some 3 := by kernel_rfl
theorem in_is : Tryz.f3.isInstance Tryz.prog Rows.convertTypesRow.origin Rows.convertTypesRow.targs := of_decide_eq_true (by kernel_rfl)
set_option maxRecDepth 100000 in
theorem wr_is : Tryz.f3.isWrapper Tryz.prog Rows.convertTypesRow.wrapper Rows.convertTypesRow.mainSum := by unfold Func.isWrapper; first | (rw [if_pos (by decide +kernel)]; kernel_rfl) | (rw [if_neg (by decide +kernel)]; exact ⟨rfl, rfl⟩)
set_option maxRecDepth 100000 in
theorem over : Rows.convertTypesRow.holds Tryz.pinned (OpenSpec.ofChange Rows.convertTypesSpec) :=
  OpenClaim.holds_of_wide 3 Tryz.f3 rfl rfl rfl rfl rfl rfl rfl ⟨rfl, rfl, rfl, rfl, rfl⟩ rfl rfl rfl rfl rfl fn_is Tryz.func3 j13 in_is wr_is
    (fun os started H enc _ => lifted os started H enc)

theorem proved : Rows.ConvertTypesCardSaid :=
  Claim7.holds_tied_plain_at .later [] [.data, .data, .data, .data, .handle, .sentinel, .sentinel, .data, .pinned] true (true, "2cb47cbf95087f7cc8d5ede91c198a947601d35cfd546d8bdc61f47b13d7b636") true
    over (fun _ h => by cases h) (by kernel_rfl) (fun _ h => by cases h) convertTypes_row_tie rfl ⟨rfl, rfl⟩ main_is rfl
    (fun f fn hf hfn => by
      obtain rfl : f = 3 := Option.some.inj (fn_is.symm.trans hf) |>.symm
      obtain rfl : fn = Tryz.f3 := (Option.some.inj (Tryz.func3.symm.trans hfn)).symm
      exact ⟨looks_is, fun j t ht => by
        rw [Tryz.params3] at ht
        have hm : t ∈ [23, 25] := by simpa using Array.mem_of_getElem? ht
        have hall : ([23, 25].all fun u => !Tryz.prog.wantsStandIn u) = true := by kernel_rfl
        exact (show Tryz.prog.wantsStandIn t = false by simpa using List.all_eq_true.1 hall t hm)⟩)
    j5
end Go.Proofs.YtpflidodnhbeoaaGreatDoor
