/-
  for every list of at most 1000 values and every type, valid or not, Sum matches the specification: FixedSums returns true, and its input reads on as it did; no further condition.
-/
import Derived.Test.YthaedhabookjeaaFx36
import Derived.Test.YthaedhabookjeaaRows
set_option linter.unusedVariables false
set_option linter.unusedSimpArgs false
namespace Go.Proofs.Ythaedhabookjeaa
open Go Go.Ab Go.Fx Go.ChangeShapes Go.WideShapes Go.ChangeAt Go.RowKit

set_option maxRecDepth 100000 in
theorem lifted (os : Os) (started : os.Started) (H : Type) (enc : TypeId × Value → H) :
    ReturnsInHanded {} Try.checked os 8 .any (Rows.fixedSumsSpec.pre6 enc Try.prog Try.f8 Rows.fixedSumsRow.domain false) (Rows.fixedSumsSpec.post enc Try.prog Try.f8 false true false false) := by
  refine returnsInHanded_of_change (C := Try.checked) own started (by kernel_rfl) Try.func8
    (ChangeSpec.witness6 (enc := enc) (C := Try.checked) false ⟨#[], #[.slice none 0 0, .agg #[.int .i64 0, .int .i64 0, .int .i64 0, .bool false, .string ⟨#[]⟩]], []⟩ 8 (by kernel_rfl) (by kernel_rfl) (by kernel_rfl) (by kernel_rfl)) ?_
  intro W base args ds gs before hval0 hW hcnd _
  have hval : ∀ (j : Nat) t v, Try.f8.params[j]? = some t → args[j]? = some v → Value.okWide Try.prog W .any base t v := hval0
  have hW' := hW
  have hlt := hW.lt
  obtain ⟨p, q, hA0, hV, rfl, hfz, hnd⟩ := hW
  have hA : DataW.TrodAll enc Try.prog W 0 (fun _ => true) true Try.f8.params.toList args.toList ds p := hA0
  rw [Try.params8] at hA hval
  have hAll := hA
  obtain ⟨v0, vs0, d0, ds0, p0, q0, hargs, rfl, rfl, h0, r0⟩ := trodAll_cons hA
  obtain ⟨v1, vs1, d1, ds1, p1, q1, rfl, rfl, rfl, h1, r1⟩ := trodAll_cons r0
  obtain ⟨rfl, rfl, rfl⟩ := trodAll_nil r1
  obtain rfl : args = #[v0, v1] := by cases args; simp_all
  obtain ⟨rfl, rfl⟩ := trodVars_none hV
  obtain ⟨a1, rfl, rfl, s1⟩ := oT (hval 1 23 v1 rfl rfl) h1
  have hv0 := hval 0 48 v0 rfl rfl
  clear hA0 hval0
  have key : Calls Try.prog 8 #[v0, Enc.enc a1] W fun e w' => e = .returned (.bool true) ∧ Below W.heap.size W w' := by
    rcases open_vals hv0 h0 with rfl | ⟨b, off, n, cap, c, rfl, hb, hc, hcell⟩
    · exact calls_pure ok8 (args := [.slice none 0 0, Enc.enc a1]) (v := .bool true) (by kernel_rfl) rfl rfl W
    · have hs : s8 [sl0 0 n cap, Enc.enc a1] ([sl0 0 n cap, Enc.enc a1].map (blkOf (vw c 0))) = some (true, .bool true) := by
        show some (vlsOK c 0 n, B true) = _
        rw [hc]
      have := calls_at ok8 (relM_vw (ty := 0) hb hcell) hs rfl
      have e : ([sl0 0 n cap, Enc.enc a1].map (ren fun _ => (b, off))).toArray = #[.slice (some ⟨b, off, none⟩) n cap, Enc.enc a1] := by
        simp only [List.map_cons, List.map_nil, ren_plain _ (Enc.plain_enc a1)]
        simp [ren, ren1]
      rw [e] at this
      exact this
  refine key.mono fun e W' ⟨he, hb⟩ => ?_
  subst he
  exact ⟨_, rfl, Go.Ab.post_of_below (pa := p0 ++ ([] ++ [])) (pv := []) hW' (fun _ _ _ => (trodAll_cons_mk (shut_bool Try.underlying4 _) trodAll_mk0))
    (fun sp hsp => trodAll_below laid_ok hb sp (ts := [48, 23]) (by
      intro t ht
      simp only [List.mem_cons, List.not_mem_nil, or_false] at ht
      rcases ht with rfl | rfl
      · exact rd48
      · exact rd23) (fun x hx => hlt x (by simpa using hx)) (fun x hx => hsp x (by simpa using hx)) hAll) (fun _ _ => rfl) (by simp) hb (ok_one (by kernel_rfl) rfl (okWide_bool_mk Try.underlying4 _))⟩

theorem over : Rows.fixedSumsRow.holds Try.pinned (OpenSpec.ofChange Rows.fixedSumsSpec) :=
  OpenClaim.holds_of_wide 8 Try.f8 rfl rfl rfl rfl rfl rfl rfl ⟨rfl, rfl, rfl, rfl, rfl⟩ rfl rfl rfl rfl rfl (by kernel_rfl) Try.func8 (by kernel_rfl)
    (of_decide_eq_true (by kernel_rfl)) (by unfold Func.isWrapper; first | (rw [if_pos (by decide +kernel)]; kernel_rfl) | (rw [if_neg (by decide +kernel)]; exact ⟨rfl, rfl⟩))
    (fun os started H enc _ => lifted os started H enc)

theorem proved : Rows.FixedSumsSaid := over
end Go.Proofs.Ythaedhabookjeaa
