/-
  The function ConvertAccepted of the convert laws returns true for every input, and its input reads on as it did: the types that Operands returns are accepted by fixed.Result or strings.Result for this operator, or can be compared, and Operands of them are the same types. The package-level variables that the row lists hold what the text of the program lays; no further condition.
-/
import Derived.Test.YtpflidodnhbeoaaGreatDoorS4
import Derived.Test.YtpflidodnhbeoaaGreatDoorTie
import Derived.Test.YtpflidodnhbeoaaGreatDoorCards
import Derived.SevenTiedAt
set_option linter.unusedVariables false
set_option linter.unusedSimpArgs false
namespace Go.Proofs.YtpflidodnhbeoaaGreatDoor
open Go Go.Ab Go.Px Go.Cx Go.ChangeMaps Go.ChangeShapes Go.WideShapes Go.ChangeAt Go.RowKit Go.Joins

set_option maxRecDepth 100000 in
theorem lifted (os : Os) (started : os.Started) (H : Type) (enc : TypeId × Value → H) :
    ReturnsInHanded {} Tryz.checked os 17 .any (fun w args => (Rows.convertAcceptedSpec.pre enc Tryz.prog Tryz.f17 [] false w args ∧ laidMetH Tryz.prog laidL w) ∧ sizedMet enc Tryz.prog Tryz.f17 (OpenSpec.ofChange Rows.convertAcceptedSpec) false w args)
      (Rows.convertAcceptedSpec.post enc Tryz.prog Tryz.f17 false true false false) := by
  refine returnsInHanded_of_change_and (C := Tryz.checked) (X := fun w _ => laidMetH Tryz.prog laidL w) (fun _ _ _ hh h => h.of_heap hh) own started (by kernel_rfl) Tryz.func17
    (ChangeSpec.witness_shaped (enc := enc) (C := Tryz.checked) (os := os) (X := fun w _ => laidMetH Tryz.prog laidL w) false (laidWorld os) #[.int .i64 0, .slice none 0 0] 8 (laidWorld_os _)
      (World.shaped_of_ZipB (by kernel_rfl) (by kernel_rfl)) (by kernel_rfl) (by kernel_rfl) (by kernel_rfl)
      (laidWorld_met os _)) ?_
  intro W base args ds gs before hval0 hW _ _ hL _
  have hval : ∀ (j : Nat) t v, Tryz.f17.params[j]? = some t → args[j]? = some v → Value.okWide Tryz.prog W .any base t v := hval0
  have hW' := hW
  have hlt := hW.lt
  obtain ⟨p, q, hA0, hV, rfl, hfz, hnd⟩ := hW
  have hA : DataW.TrodAll enc Tryz.prog W 0 (fun _ => true) true Tryz.f17.params.toList args.toList ds p := hA0
  rw [Tryz.params17] at hA hval
  have hAll := hA
  obtain ⟨v0, vs0, d0, ds0, p0, q0, hargs, rfl, rfl, h0, r0⟩ := trodAll_cons hA
  obtain ⟨v1, vs1, d1, ds1, p1, q1, rfl, rfl, rfl, h1, r1⟩ := trodAll_cons r0
  obtain ⟨rfl, rfl, rfl⟩ := trodAll_nil r1
  obtain rfl : args = #[v0, v1] := by cases args; simp_all
  obtain ⟨rfl, rfl⟩ := trodVars_none hV
  obtain ⟨a0, rfl, b0, rfl, s0⟩ := oI (hval 0 3 v0 rfl rfl) h0
  have hsl := open_types (hval 1 50 v1 rfl rfl) h1
  clear hA0 hval0
  simp only [List.append_nil] at hW'
  refine (key17 (W := W) (tabs_of_laid hL) a0 hsl).mono fun e W' ⟨he, hb⟩ => ?_
  subst he
  exact ⟨_, rfl, Go.Ab.post_of_below (pa := ([] ++ (p1 ++ []))) (pv := []) hW' (fun _ _ _ => (trodAll_cons_mk (shut_bool Tryz.underlying4 _) trodAll_mk0)) (fun sp hsp => trodAll_below laid_ok hb sp (ts := [3, 50]) (by
    intro t ht
    simp only [List.mem_cons, List.not_mem_nil, or_false] at ht
    rcases ht with rfl | rfl
    · exact rd3
    · exact rd50) (fun x hx => hlt x (by simpa using hx)) (fun x hx => hsp x (by simpa using hx)) hAll) (fun _ _ => rfl) (by simp) hb (ok_one (by kernel_rfl) rfl (okWide_bool_mk Tryz.underlying4 _))⟩

theorem j1 : (Rows.convertAcceptedRow.inPlace == Tryz.prog.inPlace 17) = true := by kernel_rfl
theorem j2 : (Rows.convertAcceptedRow.unfollowed == Tryz.prog.unfollowed 17) = true := by kernel_rfl
theorem j3 : (Rows.convertAcceptedRow.recurses == Tryz.prog.recurses 17) = true := by kernel_rfl
theorem j4 : (Rows.convertAcceptedRow.named == Tryz.prog.varsNamed 17) = true := by kernel_rfl
theorem j5 : false = Rows.convertAcceptedRow.goesBy Tryz.pinned.checked.prog := by kernel_rfl
theorem j6 : hAB Tryz.f17 Rows.convertAcceptedSpec Rows.convertAcceptedRow = true := by kernel_rfl
theorem j7 : hRB Tryz.f17 Rows.convertAcceptedSpec Rows.convertAcceptedRow = true := by kernel_rfl
theorem j8 : hSB Tryz.f17 Rows.convertAcceptedSpec Rows.convertAcceptedRow = true := by kernel_rfl
theorem j9 : hTB Tryz.f17 Rows.convertAcceptedSpec Rows.convertAcceptedRow = true := by kernel_rfl
theorem j10 : (Rows.convertAcceptedRow.plainKeys == Tryz.prog.plainKeys) = true := (congrArg (· == Tryz.prog.plainKeys) (show Rows.convertAcceptedRow.plainKeys = Rows.convertTypesRow.plainKeys by kernel_rfl)).trans q_keys
theorem j11 : (Rows.convertAcceptedRow.lifted == Tryz.prog.liftsFinal) = true := (congrArg (· == Tryz.prog.liftsFinal) (show Rows.convertAcceptedRow.lifted = Rows.convertTypesRow.lifted by kernel_rfl)).trans q_lifts
theorem j12 : (Tryz.prog.make == some Rows.convertAcceptedRow.make) = true := (congrArg (fun x => Tryz.prog.make == some x) (show Rows.convertAcceptedRow.make = Rows.convertTypesRow.make by kernel_rfl)).trans q_make
theorem j13 : joinedFacts Tryz.prog 17 Tryz.f17 Rows.convertAcceptedSpec Rows.convertAcceptedRow = true := jf_mk j6 j1 j2 j3 j4 j7 j8 j10 j11 j12 j9
theorem fn_is : Tryz.prog.funcNamed "pliant/pliantlaw04.ConvertAccepted" = some 17 := by kernel_rfl
theorem in_is : Tryz.f17.isInstance Tryz.prog Rows.convertAcceptedRow.origin Rows.convertAcceptedRow.targs := of_decide_eq_true (by kernel_rfl)
set_option maxRecDepth 100000 in
theorem wr_is : Tryz.f17.isWrapper Tryz.prog Rows.convertAcceptedRow.wrapper Rows.convertAcceptedRow.mainSum := by unfold Func.isWrapper; first | (rw [if_pos (by decide +kernel)]; kernel_rfl) | (rw [if_neg (by decide +kernel)]; exact ⟨rfl, rfl⟩)
set_option maxRecDepth 100000 in
theorem over : Rows.convertAcceptedRow.holds Tryz.pinned (OpenSpec.ofChange Rows.convertAcceptedSpec) :=
  OpenClaim.holds_of_wide 17 Tryz.f17 rfl rfl rfl rfl rfl rfl rfl ⟨rfl, rfl, rfl, rfl, rfl⟩ rfl rfl rfl rfl rfl fn_is Tryz.func17 j13 in_is wr_is
    (fun os started H enc _ => lifted os started H enc)

theorem proved : Rows.ConvertAcceptedCardSaid :=
  Claim7.holds_tied_plain_at .later [] [.data, .data, .data, .data, .handle, .sentinel, .sentinel, .data, .pinned] true (true, "2cb47cbf95087f7cc8d5ede91c198a947601d35cfd546d8bdc61f47b13d7b636") true
    over (fun _ h => by cases h) (by kernel_rfl) (fun _ h => by cases h) convertAccepted_row_tie rfl ⟨rfl, rfl⟩ main_is rfl
    (fun f fn hf hfn => by
      obtain rfl : f = 17 := Option.some.inj (fn_is.symm.trans hf) |>.symm
      obtain rfl : fn = Tryz.f17 := (Option.some.inj (Tryz.func17.symm.trans hfn)).symm
      exact ⟨looks_is, fun j t ht => by
        rw [Tryz.params17] at ht
        have hm : t ∈ [3, 50] := by simpa using Array.mem_of_getElem? ht
        have hall : ([3, 50].all fun u => !Tryz.prog.wantsStandIn u) = true := by kernel_rfl
        exact (show Tryz.prog.wantsStandIn t = false by simpa using List.all_eq_true.1 hall t hm)⟩)
    j5
end Go.Proofs.YtpflidodnhbeoaaGreatDoor
