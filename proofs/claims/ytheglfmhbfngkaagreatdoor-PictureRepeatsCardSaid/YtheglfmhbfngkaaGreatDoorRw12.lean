/-
  The function PictureRepeats of the picture laws returns true for every input, and its input reads on as it did: a specification with repetitions means what it means written out. The package-level variables that the row lists hold what the text of the program lays; no further condition.
-/
import Derived.Test.YtheglfmhbfngkaaGreatDoorR4
import Derived.Test.YtheglfmhbfngkaaGreatDoorTie
import Derived.Test.YtheglfmhbfngkaaGreatDoorCards
import Derived.SevenTiedAt
set_option linter.unusedVariables false
set_option linter.unusedSimpArgs false
namespace Go.Proofs.YtheglfmhbfngkaaGreatDoor
open Go Go.Ab Go.Px Go.ChangeMaps Go.ChangeShapes Go.WideShapes Go.ChangeAt Go.RowKit Go.Joins

set_option maxRecDepth 100000 in
theorem lifted (os : Os) (started : os.Started) (H : Type) (enc : TypeId × Value → H) :
    ReturnsInHanded {} Tryz.checked os 12 .any (fun w args => (Rows.pictureRepeatsSpec.pre enc Tryz.prog Tryz.f12 [] false w args ∧ laidMetH Tryz.prog laidL w) ∧ sizedMet enc Tryz.prog Tryz.f12 (OpenSpec.ofChange Rows.pictureRepeatsSpec) false w args)
      (Rows.pictureRepeatsSpec.post enc Tryz.prog Tryz.f12 false true false false) := by
  refine returnsInHanded_of_change_and (C := Tryz.checked) (X := fun w _ => laidMetH Tryz.prog laidL w) (fun _ _ _ hh h => h.of_heap hh) own started (by kernel_rfl) Tryz.func12
    (ChangeSpec.witness_shaped (enc := enc) (C := Tryz.checked) (os := os) (X := fun w _ => laidMetH Tryz.prog laidL w) false (World.laidAll Tryz.prog os laidL) #[.agg #[.string ⟨#[]⟩, .string ⟨#[]⟩, .int .i64 0, .int .i64 0, .slice none 0 0]] 8 (World.laidAll_os _ _ _)
      (World.shaped_of_ZipB (by kernel_rfl) (by kernel_rfl)) (by kernel_rfl) (by kernel_rfl) (by kernel_rfl)
      (by rw [plain_laid]; exact laidMet_laidAll _ (by kernel_rfl) (by kernel_rfl))) ?_
  intro W base args ds gs before hval0 hW _ _ hL _
  have hval : ∀ (j : Nat) t v, Tryz.f12.params[j]? = some t → args[j]? = some v → Value.okWide Tryz.prog W .any base t v := hval0
  have hW' := hW
  have hlt := hW.lt
  obtain ⟨p, q, hA0, hV, rfl, hfz, hnd⟩ := hW
  have hA : DataW.TrodAll enc Tryz.prog W 0 (fun _ => true) true Tryz.f12.params.toList args.toList ds p := hA0
  rw [Tryz.params12] at hA hval
  have hAll := hA
  obtain ⟨v0, vs0, d0, ds0, p0, q0, hargs, rfl, rfl, h0, r0⟩ := trodAll_cons hA
  obtain ⟨rfl, rfl, rfl⟩ := trodAll_nil r0
  obtain rfl : args = #[v0] := by cases args; simp_all
  obtain ⟨rfl, rfl⟩ := trodVars_none hV
  obtain ⟨s, t, n, q, h, rfl, hs, ht, hn, hB⟩ := open44 (hval 0 44 v0 rfl rfl) h0
  clear hA0 hval0
  have key : Calls Tryz.prog 12 #[.agg #[.string s, .string t, .int .i64 n, .int .i64 q, h]] W fun e w' => e = .returned (.bool true) ∧ Below W.heap.size W w' := by
    rcases hB with rfl | ⟨b, off, l, c, d, rfl, hb, hv, hc⟩
    · have := calls_top (f := 12) (args := [caseV s t n q (.slice none 0 0)]) (lk := (fun _ => none)) (ι := (fun _ => (0, 0))) (w := W) ok_L12 hmix fn12 lokf_none (Nat.le_of_ble_eq_true (by kernel_rfl)) (d12n hs ht hn) rfl (tabs_of_laid hL) (fun _ _ hk => by cases hk) (by simp [caseV, ids, idsL])
      have e : ([caseV s t n q (.slice none 0 0)].map (ren (fun _ => (0, 0)))).toArray = #[.agg #[.string s, .string t, .int .i64 n, .int .i64 q, .slice none 0 0]] := by simp [caseV, ren, ren1, renL]
      rw [e] at this
      exact this
    · have := calls_top (f := 12) (args := [caseV s t n q (.slice (some ⟨0, 0, some 1⟩) l c)]) (lk := (vw d 5)) (ι := (fun _ => (b, off))) (w := W) ok_L12 hmix fn12 lokf_none (Nat.le_of_ble_eq_true (by kernel_rfl)) (d12o hv hs ht hn) rfl (tabs_of_laid hL) (one_lk hb hv hc) (by simp [caseV, ids, idsL])
      have e : ([caseV s t n q (.slice (some ⟨0, 0, some 1⟩) l c)].map (ren (fun _ => (b, off)))).toArray = #[.agg #[.string s, .string t, .int .i64 n, .int .i64 q, .slice (some ⟨b, off, none⟩) l c]] := by simp [caseV, ren, ren1, renL]
      rw [e] at this
      exact this
  refine key.mono fun e W' ⟨he, hb⟩ => ?_
  subst he
  exact ⟨_, rfl, Go.Ab.post_of_below (pa := (p0 ++ [])) (pv := []) hW' (fun _ _ _ => (trodAll_cons_mk (shut_bool Tryz.underlying4 _) trodAll_mk0))
    (fun sp hsp => trodAll_below laid_ok hb sp (ts := [44]) (by
      intro t ht
      simp only [List.mem_cons, List.not_mem_nil, or_false] at ht
      subst ht
      exact rd44) (fun x hx => hlt x (by simpa using hx)) (fun x hx => hsp x (by simpa using hx)) hAll) (fun _ _ => rfl) (by simp) hb (ok_one (by kernel_rfl) rfl (okWide_bool_mk Tryz.underlying4 _))⟩

theorem j1 : (Rows.pictureRepeatsRow.inPlace == Tryz.prog.inPlace 12) = true := by kernel_rfl
theorem j2 : (Rows.pictureRepeatsRow.unfollowed == Tryz.prog.unfollowed 12) = true := by kernel_rfl
theorem j3 : (Rows.pictureRepeatsRow.recurses == Tryz.prog.recurses 12) = true := by kernel_rfl
theorem j4 : (Rows.pictureRepeatsRow.named == Tryz.prog.varsNamed 12) = true := by kernel_rfl
theorem j5 : false = Rows.pictureRepeatsRow.goesBy Tryz.pinned.checked.prog := by kernel_rfl
theorem over : Rows.pictureRepeatsRow.holds Tryz.pinned (OpenSpec.ofChange Rows.pictureRepeatsSpec) :=
  OpenClaim.holds_of_wide 12 Tryz.f12 rfl rfl rfl rfl rfl rfl rfl ⟨rfl, rfl, rfl, rfl, rfl⟩ rfl rfl rfl rfl rfl (by kernel_rfl) Tryz.func12 (jf_mk (by kernel_rfl) j1 j2 j3 j4 (by kernel_rfl))
    (of_decide_eq_true (by kernel_rfl)) (by unfold Func.isWrapper; first | (rw [if_pos (by decide +kernel)]; kernel_rfl) | (rw [if_neg (by decide +kernel)]; exact ⟨rfl, rfl⟩))
    (fun os started H enc _ => lifted os started H enc)

theorem proved : Rows.PictureRepeatsCardSaid :=
  Claim7.holds_tied_plain_at .later [] [.data, .data, .data, .data, .sentinel, .sentinel, .data, .pinned] true (true, "1071b1b82e10af2d54fdefa34d8f8e5a24ee595ac523bd215b5ede5d74a6a811") true
    over (fun _ h => by cases h) (by kernel_rfl) (fun _ h => by cases h) pictureRepeats_row_tie rfl ⟨rfl, rfl⟩ main_is rfl
    (fun f fn hf hfn => by
      obtain rfl : f = 12 := Option.some.inj ((show Tryz.prog.funcNamed "pliant/pliantlaw03.PictureRepeats" = some 12 by kernel_rfl).symm.trans hf) |>.symm
      obtain rfl : fn = Tryz.f12 := (Option.some.inj (Tryz.func12.symm.trans hfn)).symm
      exact ⟨looks_is, fun j t ht => by
        rw [Tryz.params12] at ht
        have hm : t ∈ [44] := by simpa using Array.mem_of_getElem? ht
        have hall : ([44].all fun u => !Tryz.prog.wantsStandIn u) = true := by kernel_rfl
        exact (show Tryz.prog.wantsStandIn t = false by simpa using List.all_eq_true.1 hall t hm)⟩)
    j5
end Go.Proofs.YtheglfmhbfngkaaGreatDoor
