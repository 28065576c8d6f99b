/-
  The function ConvertOperands of the convert laws returns true for every input, and its input reads on as it did: for every operator and types, valid or not, Arithmetic, Character, Bits and Operands match the specification. The package-level variables that the row lists hold what the text of the program lays; no further condition.
-/
import Derived.Test.YtpflidodnhbeoaaGreatDoorS4
import Derived.Test.YtpflidodnhbeoaaGreatDoorTie
import Derived.Test.YtpflidodnhbeoaaGreatDoorCards
import Derived.SevenTiedAt
set_option linter.unusedVariables false
set_option linter.unusedSimpArgs false
namespace Go.Proofs.YtpflidodnhbeoaaGreatDoor
open Go Go.Ab Go.Px Go.Cx Go.ChangeMaps Go.ChangeShapes Go.WideShapes Go.ChangeAt Go.RowKit Go.Joins

set_option maxRecDepth 100000 in
theorem lifted (os : Os) (started : os.Started) (H : Type) (enc : TypeId × Value → H) :
    ReturnsInHanded {} Tryz.checked os 8 .any (fun w args => (Rows.convertOperandsSpec.pre enc Tryz.prog Tryz.f8 [] false w args ∧ laidMetH Tryz.prog laidL w) ∧ sizedMet enc Tryz.prog Tryz.f8 (OpenSpec.ofChange Rows.convertOperandsSpec) false w args)
      (Rows.convertOperandsSpec.post enc Tryz.prog Tryz.f8 false true false false) := by
  refine returnsInHanded_of_change_and (C := Tryz.checked) (X := fun w _ => laidMetH Tryz.prog laidL w) (fun _ _ _ hh h => h.of_heap hh) own started (by kernel_rfl) Tryz.func8
    (ChangeSpec.witness_shaped (enc := enc) (C := Tryz.checked) (os := os) (X := fun w _ => laidMetH Tryz.prog laidL w) false (laidWorld os) #[.int .i64 0, .slice none 0 0, .agg #[.int .i64 0, .int .i64 0, .int .i64 0, .bool false, .string ⟨#[]⟩]] 8 (laidWorld_os _)
      (World.shaped_of_ZipB (by kernel_rfl) (by kernel_rfl)) (by kernel_rfl) (by kernel_rfl) (by kernel_rfl)
      (laidWorld_met os _)) ?_
  intro W base args ds gs before hval0 hW _ _ hL _
  have hval : ∀ (j : Nat) t v, Tryz.f8.params[j]? = some t → args[j]? = some v → Value.okWide Tryz.prog W .any base t v := hval0
  have hW' := hW
  have hlt := hW.lt
  obtain ⟨p, q, hA0, hV, rfl, hfz, hnd⟩ := hW
  have hA : DataW.TrodAll enc Tryz.prog W 0 (fun _ => true) true Tryz.f8.params.toList args.toList ds p := hA0
  rw [Tryz.params8] at hA hval
  have hAll := hA
  obtain ⟨v0, vs0, d0, ds0, p0, q0, hargs, rfl, rfl, h0, r0⟩ := trodAll_cons hA
  obtain ⟨v1, vs1, d1, ds1, p1, q1, rfl, rfl, rfl, h1, r1⟩ := trodAll_cons r0
  obtain ⟨v2, vs2, d2, ds2, p2, q2, rfl, rfl, rfl, h2, r2⟩ := trodAll_cons r1
  obtain ⟨rfl, rfl, rfl⟩ := trodAll_nil r2
  obtain rfl : args = #[v0, v1, v2] := by cases args; simp_all
  obtain ⟨rfl, rfl⟩ := trodVars_none hV
  obtain ⟨a0, rfl, b0, rfl, s0⟩ := oI (hval 0 3 v0 rfl rfl) h0
  have hsl := open_types (hval 1 50 v1 rfl rfl) h1
  obtain ⟨a2, rfl, b2, rfl, s2⟩ := oT (hval 2 23 v2 rfl rfl) h2
  clear hA0 hval0
  simp only [List.append_nil] at hW'
  refine (key8 (W := W) (tabs_of_laid hL) a0 a2 b2 hsl).mono fun e W' ⟨he, hb⟩ => ?_
  subst he
  exact ⟨_, rfl, Go.Ab.post_of_below (pa := ([] ++ (p1 ++ ([] ++ [])))) (pv := []) hW' (fun _ _ _ => (trodAll_cons_mk (shut_bool Tryz.underlying4 _) trodAll_mk0)) (fun sp hsp => trodAll_below laid_ok hb sp (ts := [3, 50, 23]) (by
    intro t ht
    simp only [List.mem_cons, List.not_mem_nil, or_false] at ht
    rcases ht with rfl | rfl | rfl
    · exact rd3
    · exact rd50
    · exact rd23) (fun x hx => hlt x (by simpa using hx)) (fun x hx => hsp x (by simpa using hx)) hAll) (fun _ _ => rfl) (by simp) hb (ok_one (by kernel_rfl) rfl (okWide_bool_mk Tryz.underlying4 _))⟩

theorem j1 : (Rows.convertOperandsRow.inPlace == Tryz.prog.inPlace 8) = true := by kernel_rfl
theorem j2 : (Rows.convertOperandsRow.unfollowed == Tryz.prog.unfollowed 8) = true := by kernel_rfl
theorem j3 : (Rows.convertOperandsRow.recurses == Tryz.prog.recurses 8) = true := by kernel_rfl
theorem j4 : (Rows.convertOperandsRow.named == Tryz.prog.varsNamed 8) = true := by kernel_rfl
theorem j5 : false = Rows.convertOperandsRow.goesBy Tryz.pinned.checked.prog := by kernel_rfl
theorem j6 : hAB Tryz.f8 Rows.convertOperandsSpec Rows.convertOperandsRow = true := by kernel_rfl
theorem j7 : hRB Tryz.f8 Rows.convertOperandsSpec Rows.convertOperandsRow = true := by kernel_rfl
theorem j8 : hSB Tryz.f8 Rows.convertOperandsSpec Rows.convertOperandsRow = true := by kernel_rfl
theorem j9 : hTB Tryz.f8 Rows.convertOperandsSpec Rows.convertOperandsRow = true := by kernel_rfl
theorem j10 : (Rows.convertOperandsRow.plainKeys == Tryz.prog.plainKeys) = true := (congrArg (· == Tryz.prog.plainKeys) (show Rows.convertOperandsRow.plainKeys = Rows.convertTypesRow.plainKeys by kernel_rfl)).trans q_keys
theorem j11 : (Rows.convertOperandsRow.lifted == Tryz.prog.liftsFinal) = true := (congrArg (· == Tryz.prog.liftsFinal) (show Rows.convertOperandsRow.lifted = Rows.convertTypesRow.lifted by kernel_rfl)).trans q_lifts
theorem j12 : (Tryz.prog.make == some Rows.convertOperandsRow.make) = true := (congrArg (fun x => Tryz.prog.make == some x) (show Rows.convertOperandsRow.make = Rows.convertTypesRow.make by kernel_rfl)).trans q_make
theorem j13 : joinedFacts Tryz.prog 8 Tryz.f8 Rows.convertOperandsSpec Rows.convertOperandsRow = true := jf_mk j6 j1 j2 j3 j4 j7 j8 j10 j11 j12 j9
theorem fn_is : Tryz.prog.funcNamed "pliant/pliantlaw04.ConvertOperands" = some 8 := by kernel_rfl
theorem in_is : Tryz.f8.isInstance Tryz.prog Rows.convertOperandsRow.origin Rows.convertOperandsRow.targs := of_decide_eq_true (by kernel_rfl)
set_option maxRecDepth 100000 in
theorem wr_is : Tryz.f8.isWrapper Tryz.prog Rows.convertOperandsRow.wrapper Rows.convertOperandsRow.mainSum := by unfold Func.isWrapper; first | (rw [if_pos (by decide +kernel)]; kernel_rfl) | (rw [if_neg (by decide +kernel)]; exact ⟨rfl, rfl⟩)
set_option maxRecDepth 100000 in
theorem over : Rows.convertOperandsRow.holds Tryz.pinned (OpenSpec.ofChange Rows.convertOperandsSpec) :=
  OpenClaim.holds_of_wide 8 Tryz.f8 rfl rfl rfl rfl rfl rfl rfl ⟨rfl, rfl, rfl, rfl, rfl⟩ rfl rfl rfl rfl rfl fn_is Tryz.func8 j13 in_is wr_is
    (fun os started H enc _ => lifted os started H enc)

theorem proved : Rows.ConvertOperandsCardSaid :=
  Claim7.holds_tied_plain_at .later [] [.data, .data, .data, .data, .handle, .sentinel, .sentinel, .data, .pinned] true (true, "2cb47cbf95087f7cc8d5ede91c198a947601d35cfd546d8bdc61f47b13d7b636") true
    over (fun _ h => by cases h) (by kernel_rfl) (fun _ h => by cases h) convertOperands_row_tie rfl ⟨rfl, rfl⟩ main_is rfl
    (fun f fn hf hfn => by
      obtain rfl : f = 8 := Option.some.inj (fn_is.symm.trans hf) |>.symm
      obtain rfl : fn = Tryz.f8 := (Option.some.inj (Tryz.func8.symm.trans hfn)).symm
      exact ⟨looks_is, fun j t ht => by
        rw [Tryz.params8] at ht
        have hm : t ∈ [3, 50, 23] := by simpa using Array.mem_of_getElem? ht
        have hall : ([3, 50, 23].all fun u => !Tryz.prog.wantsStandIn u) = true := by kernel_rfl
        exact (show Tryz.prog.wantsStandIn t = false by simpa using List.all_eq_true.1 hall t hm)⟩)
    j5
end Go.Proofs.YtpflidodnhbeoaaGreatDoor
