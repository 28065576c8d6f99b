/-
  The function PictureOrders of the picture laws returns true for every input, and its input reads on as it did: the order of the characters of two numbers is the order of the numbers, under a picture without signs. The package-level variables that the row lists hold what the text of the program lays; no further condition.
-/
import Derived.Test.YtheglfmhbfngkaaGreatDoorR4
import Derived.Test.YtheglfmhbfngkaaGreatDoorTie
import Derived.Test.YtheglfmhbfngkaaGreatDoorCards
import Derived.SevenTiedAt
set_option linter.unusedVariables false
set_option linter.unusedSimpArgs false
namespace Go.Proofs.YtheglfmhbfngkaaGreatDoor
open Go Go.Ab Go.Px Go.ChangeMaps Go.ChangeShapes Go.WideShapes Go.ChangeAt Go.RowKit Go.Joins

set_option maxRecDepth 100000 in
theorem lifted (os : Os) (started : os.Started) (H : Type) (enc : TypeId × Value → H) :
    ReturnsInHanded {} Tryz.checked os 8 .any (fun w args => (Rows.pictureOrdersSpec.pre enc Tryz.prog Tryz.f8 [] false w args ∧ laidMetH Tryz.prog laidL w) ∧ sizedMet enc Tryz.prog Tryz.f8 (OpenSpec.ofChange Rows.pictureOrdersSpec) false w args)
      (Rows.pictureOrdersSpec.post enc Tryz.prog Tryz.f8 false true false false) := by
  refine returnsInHanded_of_change_and (C := Tryz.checked) (X := fun w _ => laidMetH Tryz.prog laidL w) (fun _ _ _ hh h => h.of_heap hh) own started (by kernel_rfl) Tryz.func8
    (ChangeSpec.witness_shaped (enc := enc) (C := Tryz.checked) (os := os) (X := fun w _ => laidMetH Tryz.prog laidL w) false (World.laidAll Tryz.prog os laidL) #[.slice none 0 0, .int .i64 0, .int .i64 0] 8 (World.laidAll_os _ _ _)
      (World.shaped_of_ZipB (by kernel_rfl) (by kernel_rfl)) (by kernel_rfl) (by kernel_rfl) (by kernel_rfl)
      (by rw [plain_laid]; exact laidMet_laidAll _ (by kernel_rfl) (by kernel_rfl))) ?_
  intro W base args ds gs before hval0 hW _ _ hL _
  have hval : ∀ (j : Nat) t v, Tryz.f8.params[j]? = some t → args[j]? = some v → Value.okWide Tryz.prog W .any base t v := hval0
  have hW' := hW
  have hlt := hW.lt
  obtain ⟨p, q, hA0, hV, rfl, hfz, hnd⟩ := hW
  have hA : DataW.TrodAll enc Tryz.prog W 0 (fun _ => true) true Tryz.f8.params.toList args.toList ds p := hA0
  rw [Tryz.params8] at hA hval
  have hAll := hA
  obtain ⟨v0, vs0, d0, ds0, p0, q0, hargs, rfl, rfl, h0, r0⟩ := trodAll_cons hA
  obtain ⟨v1, vs1, d1, ds1, p1, q1, rfl, rfl, rfl, h1, r1⟩ := trodAll_cons r0
  obtain ⟨v2, vs2, d2, ds2, p2, q2, rfl, rfl, rfl, h2, r2⟩ := trodAll_cons r1
  obtain ⟨rfl, rfl, rfl⟩ := trodAll_nil r2
  obtain rfl : args = #[v0, v1, v2] := by cases args; simp_all
  obtain ⟨rfl, rfl⟩ := trodVars_none hV
  have hB := open42 (hval 0 42 v0 rfl rfl) h0
  obtain ⟨n, rfl, b1, rfl, s1⟩ := oI (hval 1 3 v1 rfl rfl) h1
  obtain ⟨k, rfl, b2, rfl, s2⟩ := oI (hval 2 3 v2 rfl rfl) h2
  clear hA0 hval0
  have key : Calls Tryz.prog 8 #[v0, .int .i64 n, .int .i64 k] W fun e w' => e = .returned (.bool true) ∧ Below W.heap.size W w' := by
    rcases hB with rfl | ⟨b, off, l, c, d, rfl, hb, hv, hc⟩
    · have := calls_top (f := 8) (args := [.slice none 0 0, .int .i64 n, .int .i64 k]) (lk := (fun _ => none)) (ι := (fun _ => (0, 0))) (w := W) ok_L8 hmix fn8 lokf_none (Nat.le_of_ble_eq_true (by kernel_rfl)) (d8n n k) rfl (tabs_of_laid hL) (fun _ _ hk => by cases hk) (by simp [ids, idsL])
      have e : ([.slice none 0 0, .int .i64 n, .int .i64 k].map (ren (fun _ => (0, 0)))).toArray = #[.slice none 0 0, .int .i64 n, .int .i64 k] := by simp [ren, ren1, renL]
      rw [e] at this
      exact this
    · have := calls_top (f := 8) (args := [.slice (some ⟨0, 0, some 1⟩) l c, .int .i64 n, .int .i64 k]) (lk := (vw d 5)) (ι := (fun _ => (b, off))) (w := W) ok_L8 hmix fn8 lokf_none (Nat.le_of_ble_eq_true (by kernel_rfl)) (d8o hv n k) rfl (tabs_of_laid hL) (one_lk hb hv hc) (by simp [ids, idsL])
      have e : ([.slice (some ⟨0, 0, some 1⟩) l c, .int .i64 n, .int .i64 k].map (ren (fun _ => (b, off)))).toArray = #[.slice (some ⟨b, off, none⟩) l c, .int .i64 n, .int .i64 k] := by simp [ren, ren1, renL]
      rw [e] at this
      exact this
  refine key.mono fun e W' ⟨he, hb⟩ => ?_
  subst he
  exact ⟨_, rfl, Go.Ab.post_of_below (pa := (p0 ++ ([] ++ ([] ++ [])))) (pv := []) hW' (fun _ _ _ => (trodAll_cons_mk (shut_bool Tryz.underlying4 _) trodAll_mk0))
    (fun sp hsp => trodAll_below laid_ok hb sp (ts := [42, 3, 3]) (by
      intro t ht
      simp only [List.mem_cons, List.not_mem_nil, or_false] at ht
      rcases ht with rfl | rfl | rfl
      · exact rd42
      · exact rd3
      · exact rd3) (fun x hx => hlt x (by simpa using hx)) (fun x hx => hsp x (by simpa using hx)) hAll) (fun _ _ => rfl) (by simp) hb (ok_one (by kernel_rfl) rfl (okWide_bool_mk Tryz.underlying4 _))⟩

theorem j1 : (Rows.pictureOrdersRow.inPlace == Tryz.prog.inPlace 8) = true := by kernel_rfl
theorem j2 : (Rows.pictureOrdersRow.unfollowed == Tryz.prog.unfollowed 8) = true := by kernel_rfl
theorem j3 : (Rows.pictureOrdersRow.recurses == Tryz.prog.recurses 8) = true := by kernel_rfl
theorem j4 : (Rows.pictureOrdersRow.named == Tryz.prog.varsNamed 8) = true := by kernel_rfl
theorem j5 : false = Rows.pictureOrdersRow.goesBy Tryz.pinned.checked.prog := by kernel_rfl
theorem over : Rows.pictureOrdersRow.holds Tryz.pinned (OpenSpec.ofChange Rows.pictureOrdersSpec) :=
  OpenClaim.holds_of_wide 8 Tryz.f8 rfl rfl rfl rfl rfl rfl rfl ⟨rfl, rfl, rfl, rfl, rfl⟩ rfl rfl rfl rfl rfl (by kernel_rfl) Tryz.func8 (jf_mk (by kernel_rfl) j1 j2 j3 j4 (by kernel_rfl))
    (of_decide_eq_true (by kernel_rfl)) (by unfold Func.isWrapper; first | (rw [if_pos (by decide +kernel)]; kernel_rfl) | (rw [if_neg (by decide +kernel)]; exact ⟨rfl, rfl⟩))
    (fun os started H enc _ => lifted os started H enc)

theorem proved : Rows.PictureOrdersCardSaid :=
  Claim7.holds_tied_plain_at .later [] [.data, .data, .data, .data, .sentinel, .sentinel, .data, .pinned] true (true, "1071b1b82e10af2d54fdefa34d8f8e5a24ee595ac523bd215b5ede5d74a6a811") true
    over (fun _ h => by cases h) (by kernel_rfl) (fun _ h => by cases h) pictureOrders_row_tie rfl ⟨rfl, rfl⟩ main_is rfl
    (fun f fn hf hfn => by
      obtain rfl : f = 8 := Option.some.inj ((show Tryz.prog.funcNamed "pliant/pliantlaw03.PictureOrders" = some 8 by kernel_rfl).symm.trans hf) |>.symm
      obtain rfl : fn = Tryz.f8 := (Option.some.inj (Tryz.func8.symm.trans hfn)).symm
      exact ⟨looks_is, fun j t ht => by
        rw [Tryz.params8] at ht
        have hm : t ∈ [42, 3, 3] := by simpa using Array.mem_of_getElem? ht
        have hall : ([42, 3, 3].all fun u => !Tryz.prog.wantsStandIn u) = true := by kernel_rfl
        exact (show Tryz.prog.wantsStandIn t = false by simpa using List.all_eq_true.1 hall t hm)⟩)
    j5
end Go.Proofs.YtheglfmhbfngkaaGreatDoor
