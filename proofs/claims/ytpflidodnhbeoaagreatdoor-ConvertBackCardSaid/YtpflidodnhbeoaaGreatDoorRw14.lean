/-
  The function ConvertBack of the convert laws returns true for every input, and its input reads on as it did: a value of an arithmetic type, or of a picture of 9, Z, S and - alone, converted to a character type that is no shorter than its characters, and back, is this value again, without a condition; of a picture whose sign stands behind its digits, or that has a sign and a Z, also the condition CConv is possible. The package-level variables that the row lists hold what the text of the program lays; no further condition.
-/
import Derived.Test.YtpflidodnhbeoaaGreatDoorK5
import Derived.Test.YtpflidodnhbeoaaGreatDoorTie
import Derived.Test.YtpflidodnhbeoaaGreatDoorCards
import Derived.SevenTiedAt
set_option linter.unusedVariables false
set_option linter.unusedSimpArgs false
namespace Go.Proofs.YtpflidodnhbeoaaGreatDoor
open Go Go.Ab Go.Px Go.Cx Go.ChangeMaps Go.ChangeShapes Go.WideShapes Go.ChangeAt Go.RowKit Go.Joins

set_option maxRecDepth 100000 in
theorem lifted (os : Os) (started : os.Started) (H : Type) (enc : TypeId × Value → H) :
    ReturnsInHanded {} Tryz.checked os 14 .any (fun w args => (Rows.convertBackSpec.pre enc Tryz.prog Tryz.f14 [] false w args ∧ laidMetH Tryz.prog laidL w) ∧ sizedMet enc Tryz.prog Tryz.f14 (OpenSpec.ofChange Rows.convertBackSpec) false w args)
      (Rows.convertBackSpec.post enc Tryz.prog Tryz.f14 false true false false) := by
  refine returnsInHanded_of_change_and (C := Tryz.checked) (X := fun w _ => laidMetH Tryz.prog laidL w) (fun _ _ _ hh h => h.of_heap hh) own started (by kernel_rfl) Tryz.func14
    (ChangeSpec.witness_shaped (enc := enc) (C := Tryz.checked) (os := os) (X := fun w _ => laidMetH Tryz.prog laidL w) false (laidWorld os) #[.agg #[.int .i64 0, .string ⟨#[]⟩], .agg #[.int .i64 0, .int .i64 0, .int .i64 0, .bool false, .string ⟨#[]⟩], .int .i64 0, .bool false] 8 (laidWorld_os _)
      (World.shaped_of_ZipB (by kernel_rfl) (by kernel_rfl)) (by kernel_rfl) (by kernel_rfl) (by kernel_rfl)
      (laidWorld_met os _)) ?_
  intro W base args ds gs before hval0 hW _ _ hL _
  have hval : ∀ (j : Nat) t v, Tryz.f14.params[j]? = some t → args[j]? = some v → Value.okWide Tryz.prog W .any base t v := hval0
  have hW' := hW
  obtain ⟨p, q, hA0, hV, rfl, hfz, hnd⟩ := hW
  have hA : DataW.TrodAll enc Tryz.prog W 0 (fun _ => true) true Tryz.f14.params.toList args.toList ds p := hA0
  rw [Tryz.params14] at hA hval
  obtain ⟨v0, vs0, d0, ds0, p0, q0, hargs, rfl, rfl, h0, r0⟩ := trodAll_cons hA
  obtain ⟨v1, vs1, d1, ds1, p1, q1, rfl, rfl, rfl, h1, r1⟩ := trodAll_cons r0
  obtain ⟨v2, vs2, d2, ds2, p2, q2, rfl, rfl, rfl, h2, r2⟩ := trodAll_cons r1
  obtain ⟨v3, vs3, d3, ds3, p3, q3, rfl, rfl, rfl, h3, r3⟩ := trodAll_cons r2
  obtain ⟨rfl, rfl, rfl⟩ := trodAll_nil r3
  obtain rfl : args = #[v0, v1, v2, v3] := by cases args; simp_all
  obtain ⟨rfl, rfl⟩ := trodVars_none hV
  obtain ⟨a0, rfl, b0, rfl, s0⟩ := oV (hval 0 25 v0 rfl rfl) h0
  obtain ⟨a1, rfl, b1, rfl, s1⟩ := oT (hval 1 23 v1 rfl rfl) h1
  obtain ⟨a2, rfl, b2, rfl, s2⟩ := oI (hval 2 3 v2 rfl rfl) h2
  obtain ⟨a3, rfl, b3, rfl, s3⟩ := oB (hval 3 4 v3 rfl rfl) h3
  clear hA0 hval0
  simp only [List.append_nil] at hW'
  have e : (s14 a0 a1 a2 a3).1 = true := decide_eq_true ⟨b1.2.2.2, b0.2⟩
  have hs : sp4 s14 [Enc.enc a0, Enc.enc a1, Enc.enc a2, Enc.enc a3] ([Enc.enc a0, Enc.enc a1, Enc.enc a2, Enc.enc a3].map (blkOf fun _ => none)) = some (true, .bool true) := show some (s14 a0 a1 a2 a3) = _ from congrArg some (Prod.ext e rfl)
  refine (calls_pure ok14 (args := [Enc.enc a0, Enc.enc a1, Enc.enc a2, Enc.enc a3]) (v := .bool true) (by kernel_rfl) hs rfl W (tabs_of_laid hL)).mono fun e W' ⟨he, hb⟩ => ?_
  subst he
  exact ⟨_, rfl, Go.Ab.post_of_below (pa := []) (pv := []) hW' (fun _ _ _ => (trodAll_cons_mk (shut_bool Tryz.underlying4 _) trodAll_mk0)) (fun sp _ => (trodAll_cons_mk (s0 _ _ _ _) (trodAll_cons_mk (s1 _ _ _ _) (trodAll_cons_mk (s2 _ _ _ _) (trodAll_cons_mk (s3 _ _ _ _) trodAll_mk0))))) (fun _ _ => rfl) rfl hb (ok_one (by kernel_rfl) rfl (okWide_bool_mk Tryz.underlying4 _))⟩

theorem j1 : (Rows.convertBackRow.inPlace == Tryz.prog.inPlace 14) = true := by kernel_rfl
theorem j2 : (Rows.convertBackRow.unfollowed == Tryz.prog.unfollowed 14) = true := by kernel_rfl
theorem j3 : (Rows.convertBackRow.recurses == Tryz.prog.recurses 14) = true := by kernel_rfl
theorem j4 : (Rows.convertBackRow.named == Tryz.prog.varsNamed 14) = true := by kernel_rfl
theorem j5 : false = Rows.convertBackRow.goesBy Tryz.pinned.checked.prog := by kernel_rfl
theorem j6 : hAB Tryz.f14 Rows.convertBackSpec Rows.convertBackRow = true := by kernel_rfl
theorem j7 : hRB Tryz.f14 Rows.convertBackSpec Rows.convertBackRow = true := by kernel_rfl
theorem j8 : hSB Tryz.f14 Rows.convertBackSpec Rows.convertBackRow = true := by kernel_rfl
theorem j9 : hTB Tryz.f14 Rows.convertBackSpec Rows.convertBackRow = true := by kernel_rfl
theorem j10 : (Rows.convertBackRow.plainKeys == Tryz.prog.plainKeys) = true := (congrArg (· == Tryz.prog.plainKeys) (show Rows.convertBackRow.plainKeys = Rows.convertTypesRow.plainKeys by kernel_rfl)).trans q_keys
theorem j11 : (Rows.convertBackRow.lifted == Tryz.prog.liftsFinal) = true := (congrArg (· == Tryz.prog.liftsFinal) (show Rows.convertBackRow.lifted = Rows.convertTypesRow.lifted by kernel_rfl)).trans q_lifts
theorem j12 : (Tryz.prog.make == some Rows.convertBackRow.make) = true := (congrArg (fun x => Tryz.prog.make == some x) (show Rows.convertBackRow.make = Rows.convertTypesRow.make by kernel_rfl)).trans q_make
theorem j13 : joinedFacts Tryz.prog 14 Tryz.f14 Rows.convertBackSpec Rows.convertBackRow = true := jf_mk j6 j1 j2 j3 j4 j7 j8 j10 j11 j12 j9
theorem fn_is : Tryz.prog.funcNamed "pliant/pliantlaw04.ConvertBack" = some 14 := by kernel_rfl
theorem in_is : Tryz.f14.isInstance Tryz.prog Rows.convertBackRow.origin Rows.convertBackRow.targs := of_decide_eq_true (by kernel_rfl)
set_option maxRecDepth 100000 in
theorem wr_is : Tryz.f14.isWrapper Tryz.prog Rows.convertBackRow.wrapper Rows.convertBackRow.mainSum := by unfold Func.isWrapper; first | (rw [if_pos (by decide +kernel)]; kernel_rfl) | (rw [if_neg (by decide +kernel)]; exact ⟨rfl, rfl⟩)
set_option maxRecDepth 100000 in
theorem over : Rows.convertBackRow.holds Tryz.pinned (OpenSpec.ofChange Rows.convertBackSpec) :=
  OpenClaim.holds_of_wide 14 Tryz.f14 rfl rfl rfl rfl rfl rfl rfl ⟨rfl, rfl, rfl, rfl, rfl⟩ rfl rfl rfl rfl rfl fn_is Tryz.func14 j13 in_is wr_is
    (fun os started H enc _ => lifted os started H enc)

theorem proved : Rows.ConvertBackCardSaid :=
  Claim7.holds_tied_plain_at .later [] [.data, .data, .data, .data, .handle, .sentinel, .sentinel, .data, .pinned] true (true, "2cb47cbf95087f7cc8d5ede91c198a947601d35cfd546d8bdc61f47b13d7b636") true
    over (fun _ h => by cases h) (by kernel_rfl) (fun _ h => by cases h) convertBack_row_tie rfl ⟨rfl, rfl⟩ main_is rfl
    (fun f fn hf hfn => by
      obtain rfl : f = 14 := Option.some.inj (fn_is.symm.trans hf) |>.symm
      obtain rfl : fn = Tryz.f14 := (Option.some.inj (Tryz.func14.symm.trans hfn)).symm
      exact ⟨looks_is, fun j t ht => by
        rw [Tryz.params14] at ht
        have hm : t ∈ [25, 23, 3, 4] := by simpa using Array.mem_of_getElem? ht
        have hall : ([25, 23, 3, 4].all fun u => !Tryz.prog.wantsStandIn u) = true := by kernel_rfl
        exact (show Tryz.prog.wantsStandIn t = false by simpa using List.all_eq_true.1 hall t hm)⟩)
    j5
end Go.Proofs.YtpflidodnhbeoaaGreatDoor
