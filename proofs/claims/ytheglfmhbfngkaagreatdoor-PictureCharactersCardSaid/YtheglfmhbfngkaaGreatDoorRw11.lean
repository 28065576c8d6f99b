/-
  The function PictureCharacters of the picture laws returns true for every input, and its input reads on as it did: characters under pictures of characters, put together and cut apart. The package-level variables that the row lists hold what the text of the program lays; no further condition.
-/
import Derived.Test.YtheglfmhbfngkaaGreatDoorN4
import Derived.Test.YtheglfmhbfngkaaGreatDoorTie
import Derived.Test.YtheglfmhbfngkaaGreatDoorCards
import Derived.SevenTiedAt
set_option linter.unusedVariables false
set_option linter.unusedSimpArgs false
namespace Go.Proofs.YtheglfmhbfngkaaGreatDoor
open Go Go.Ab Go.Px Go.ChangeMaps Go.ChangeShapes Go.WideShapes Go.ChangeAt Go.RowKit Go.Joins

set_option maxRecDepth 100000 in
theorem lifted (os : Os) (started : os.Started) (H : Type) (enc : TypeId × Value → H) :
    ReturnsInHanded {} Tryz.checked os 11 .any (fun w args => (Rows.pictureCharactersSpec.pre enc Tryz.prog Tryz.f11 [] false w args ∧ laidMetH Tryz.prog laidL w) ∧ sizedMet enc Tryz.prog Tryz.f11 (OpenSpec.ofChange Rows.pictureCharactersSpec) false w args)
      (Rows.pictureCharactersSpec.post enc Tryz.prog Tryz.f11 false true false false) := by
  refine returnsInHanded_of_change_and (C := Tryz.checked) (X := fun w _ => laidMetH Tryz.prog laidL w) (fun _ _ _ hh h => h.of_heap hh) own started (by kernel_rfl) Tryz.func11
    (ChangeSpec.witness_shaped (enc := enc) (C := Tryz.checked) (os := os) (X := fun w _ => laidMetH Tryz.prog laidL w) false (World.laidAll Tryz.prog os laidL) #[.agg #[.slice none 0 0, .slice none 0 0, .string ⟨#[]⟩, .string ⟨#[]⟩]] 8 (World.laidAll_os _ _ _)
      (World.shaped_of_ZipB (by kernel_rfl) (by kernel_rfl)) (by kernel_rfl) (by kernel_rfl) (by kernel_rfl)
      (by rw [plain_laid]; exact laidMet_laidAll _ (by kernel_rfl) (by kernel_rfl))) ?_
  intro W base args ds gs before hval0 hW _ _ hL _
  have hval : ∀ (j : Nat) t v, Tryz.f11.params[j]? = some t → args[j]? = some v → Value.okWide Tryz.prog W .any base t v := hval0
  have hW' := hW
  have hlt := hW.lt
  obtain ⟨p, q, hA0, hV, rfl, hfz, hnd⟩ := hW
  have hA : DataW.TrodAll enc Tryz.prog W 0 (fun _ => true) true Tryz.f11.params.toList args.toList ds p := hA0
  rw [Tryz.params11] at hA hval
  have hAll := hA
  obtain ⟨v0, vs0, d0, ds0, p0, q0, hargs, rfl, rfl, h0, r0⟩ := trodAll_cons hA
  obtain ⟨rfl, rfl, rfl⟩ := trodAll_nil r0
  obtain rfl : args = #[v0] := by cases args; simp_all
  obtain ⟨rfl, rfl⟩ := trodVars_none hV
  obtain ⟨x, y, s, t, rfl, hs, ht, hB, hC⟩ := open57 (hval 0 57 v0 rfl rfl) h0
  clear hA0 hval0
  have key : Calls Tryz.prog 11 #[.agg #[x, y, .string s, .string t]] W fun e w' => e = .returned (.bool true) ∧ Below W.heap.size W w' := by
    rcases hB with rfl | ⟨b, off, l, c, d, rfl, hb, hv, hc⟩ <;> rcases hC with rfl | ⟨b2, off2, m, f, d2, rfl, hb2, hv2, hc2⟩
    · have := calls_top (f := 11) (args := [pairV (.slice none 0 0) (.slice none 0 0) s t]) (lk := (fun _ => none)) (ι := (fun _ => (0, 0))) (w := W) ok_L11 hmix fn11 lokf_none (Nat.le_of_ble_eq_true (by kernel_rfl)) (d11nn hs ht) rfl (tabs_of_laid hL) (fun _ _ hk => by cases hk) (by simp [pairV, ids, idsL])
      have e : ([pairV (.slice none 0 0) (.slice none 0 0) s t].map (ren (fun _ => (0, 0)))).toArray = #[.agg #[.slice none 0 0, .slice none 0 0, .string s, .string t]] := by simp [pairV, ren, ren1, renL]
      rw [e] at this
      exact this
    · have := calls_top (f := 11) (args := [pairV (.slice none 0 0) (.slice (some ⟨1, 0, some 1⟩) m f) s t]) (lk := (vwS d2)) (ι := (fun _ => (b2, off2))) (w := W) ok_L11 hmix fn11 lokf_none (Nat.le_of_ble_eq_true (by kernel_rfl)) (d11no hs ht hv2) rfl (tabs_of_laid hL) (oneS_lk hb2 hv2 hc2) (by simp [pairV, ids, idsL])
      have e : ([pairV (.slice none 0 0) (.slice (some ⟨1, 0, some 1⟩) m f) s t].map (ren (fun _ => (b2, off2)))).toArray = #[.agg #[.slice none 0 0, .slice (some ⟨b2, off2, none⟩) m f, .string s, .string t]] := by simp [pairV, ren, ren1, renL]
      rw [e] at this
      exact this
    · have := calls_top (f := 11) (args := [pairV (.slice (some ⟨0, 0, some 1⟩) l c) (.slice none 0 0) s t]) (lk := (vw d 5)) (ι := (fun _ => (b, off))) (w := W) ok_L11 hmix fn11 lokf_none (Nat.le_of_ble_eq_true (by kernel_rfl)) (d11on hs ht hv) rfl (tabs_of_laid hL) (one_lk hb hv hc) (by simp [pairV, ids, idsL])
      have e : ([pairV (.slice (some ⟨0, 0, some 1⟩) l c) (.slice none 0 0) s t].map (ren (fun _ => (b, off)))).toArray = #[.agg #[.slice (some ⟨b, off, none⟩) l c, .slice none 0 0, .string s, .string t]] := by simp [pairV, ren, ren1, renL]
      rw [e] at this
      exact this
    · have := calls_top (f := 11) (args := [pairV (.slice (some ⟨0, 0, some 1⟩) l c) (.slice (some ⟨1, 0, some 1⟩) m f) s t]) (lk := (vw2 d d2 5)) (ι := (nm2 (b, off) (b2, off2))) (w := W) ok_L11 hmix fn11 lokf_none (Nat.le_of_ble_eq_true (by kernel_rfl)) (d11oo hs ht hv hv2) rfl (tabs_of_laid hL) (two_lk hb hv hc hb2 hv2 hc2) (by simp [pairV, nm2, ids, idsL])
      have e : ([pairV (.slice (some ⟨0, 0, some 1⟩) l c) (.slice (some ⟨1, 0, some 1⟩) m f) s t].map (ren (nm2 (b, off) (b2, off2)))).toArray = #[.agg #[.slice (some ⟨b, off, none⟩) l c, .slice (some ⟨b2, off2, none⟩) m f, .string s, .string t]] := by simp [pairV, nm2, ren, ren1, renL]
      rw [e] at this
      exact this
  refine key.mono fun e W' ⟨he, hb⟩ => ?_
  subst he
  exact ⟨_, rfl, Go.Ab.post_of_below (pa := (p0 ++ [])) (pv := []) hW' (fun _ _ _ => (trodAll_cons_mk (shut_bool Tryz.underlying4 _) trodAll_mk0))
    (fun sp hsp => trodAll_below laid_ok hb sp (ts := [57]) (by
      intro t ht
      simp only [List.mem_cons, List.not_mem_nil, or_false] at ht
      subst ht
      exact rd57) (fun x hx => hlt x (by simpa using hx)) (fun x hx => hsp x (by simpa using hx)) hAll) (fun _ _ => rfl) (by simp) hb (ok_one (by kernel_rfl) rfl (okWide_bool_mk Tryz.underlying4 _))⟩

theorem j1 : (Rows.pictureCharactersRow.inPlace == Tryz.prog.inPlace 11) = true := by kernel_rfl
theorem j2 : (Rows.pictureCharactersRow.unfollowed == Tryz.prog.unfollowed 11) = true := by kernel_rfl
theorem j3 : (Rows.pictureCharactersRow.recurses == Tryz.prog.recurses 11) = true := by kernel_rfl
theorem j4 : (Rows.pictureCharactersRow.named == Tryz.prog.varsNamed 11) = true := by kernel_rfl
theorem j5 : false = Rows.pictureCharactersRow.goesBy Tryz.pinned.checked.prog := by kernel_rfl
theorem over : Rows.pictureCharactersRow.holds Tryz.pinned (OpenSpec.ofChange Rows.pictureCharactersSpec) :=
  OpenClaim.holds_of_wide 11 Tryz.f11 rfl rfl rfl rfl rfl rfl rfl ⟨rfl, rfl, rfl, rfl, rfl⟩ rfl rfl rfl rfl rfl (by kernel_rfl) Tryz.func11 (jf_mk (by kernel_rfl) j1 j2 j3 j4 (by kernel_rfl))
    (of_decide_eq_true (by kernel_rfl)) (by unfold Func.isWrapper; first | (rw [if_pos (by decide +kernel)]; kernel_rfl) | (rw [if_neg (by decide +kernel)]; exact ⟨rfl, rfl⟩))
    (fun os started H enc _ => lifted os started H enc)

theorem proved : Rows.PictureCharactersCardSaid :=
  Claim7.holds_tied_plain_at .later [] [.data, .data, .data, .data, .sentinel, .sentinel, .data, .pinned] true (true, "1071b1b82e10af2d54fdefa34d8f8e5a24ee595ac523bd215b5ede5d74a6a811") true
    over (fun _ h => by cases h) (by kernel_rfl) (fun _ h => by cases h) pictureCharacters_row_tie rfl ⟨rfl, rfl⟩ main_is rfl
    (fun f fn hf hfn => by
      obtain rfl : f = 11 := Option.some.inj ((show Tryz.prog.funcNamed "pliant/pliantlaw03.PictureCharacters" = some 11 by kernel_rfl).symm.trans hf) |>.symm
      obtain rfl : fn = Tryz.f11 := (Option.some.inj (Tryz.func11.symm.trans hfn)).symm
      exact ⟨looks_is, fun j t ht => by
        rw [Tryz.params11] at ht
        have hm : t ∈ [57] := by simpa using Array.mem_of_getElem? ht
        have hall : ([57].all fun u => !Tryz.prog.wantsStandIn u) = true := by kernel_rfl
        exact (show Tryz.prog.wantsStandIn t = false by simpa using List.all_eq_true.1 hall t hm)⟩)
    j5
end Go.Proofs.YtheglfmhbfngkaaGreatDoor
