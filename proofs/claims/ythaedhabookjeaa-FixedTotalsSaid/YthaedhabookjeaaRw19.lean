/-
  for every list, type and number FixedTotals returns true, and its input reads on as it did; no further condition.
-/
import Derived.Test.YthaedhabookjeaaFx41
import Derived.Test.YthaedhabookjeaaRows
set_option linter.unusedVariables false
set_option linter.unusedSimpArgs false
namespace Go.Proofs.Ythaedhabookjeaa
open Go Go.Ab Go.Fx Go.ChangeShapes Go.WideShapes Go.ChangeAt Go.RowKit

theorem slice_cap {P : Program} {w : World} {base : Nat} {t e : TypeId} {a : Addr} {len cap : Nat} (ht : P.underlying t = some (.slice e)) (h : Value.okWide P w .any base t (.slice (some a) len cap)) : len ≤ cap := by
  unfold Value.okWide at h
  rw [ht] at h
  simp only [Cell.okWide, ht, Cell.ok] at h
  exact h.1
set_option maxRecDepth 100000 in
theorem lifted (os : Os) (started : os.Started) (H : Type) (enc : TypeId × Value → H) :
    ReturnsInHanded {} Try.checked os 19 .any (Rows.fixedTotalsSpec.pre6 enc Try.prog Try.f19 Rows.fixedTotalsRow.domain false) (Rows.fixedTotalsSpec.post enc Try.prog Try.f19 false true false false) := by
  refine returnsInHanded_of_change (C := Try.checked) own started (by kernel_rfl) Try.func19
    (ChangeSpec.witness6 (enc := enc) (C := Try.checked) false ⟨#[], #[.slice none 0 0, .agg #[.int .i64 0, .int .i64 0, .int .i64 0, .bool false, .string ⟨#[]⟩], .int .i64 0], []⟩ 8 (by kernel_rfl) (by kernel_rfl) (by kernel_rfl) (by kernel_rfl)) ?_
  intro W base args ds gs before hval0 hW hcnd _
  have hval : ∀ (j : Nat) t v, Try.f19.params[j]? = some t → args[j]? = some v → Value.okWide Try.prog W .any base t v := hval0
  have hW' := hW
  have hlt := hW.lt
  obtain ⟨p, q, hA0, hV, rfl, hfz, hnd⟩ := hW
  have hA : DataW.TrodAll enc Try.prog W 0 (fun _ => true) true Try.f19.params.toList args.toList ds p := hA0
  rw [Try.params19] at hA hval
  have hAll := hA
  obtain ⟨v0, vs0, d0, ds0, p0, q0, hargs, rfl, rfl, h0, r0⟩ := trodAll_cons hA
  obtain ⟨v1, vs1, d1, ds1, p1, q1, rfl, rfl, rfl, h1, r1⟩ := trodAll_cons r0
  obtain ⟨v2, vs2, d2, ds2, p2, q2, rfl, rfl, rfl, h2, r2⟩ := trodAll_cons r1
  obtain ⟨rfl, rfl, rfl⟩ := trodAll_nil r2
  obtain rfl : args = #[v0, v1, v2] := by cases args; simp_all
  obtain ⟨rfl, rfl⟩ := trodVars_none hV
  obtain ⟨a1, rfl, rfl, s1⟩ := oT (hval 1 23 v1 rfl rfl) h1
  obtain ⟨a2, rfl, rfl, s2⟩ := oI (hval 2 3 v2 rfl rfl) h2
  have hv0 := hval 0 48 v0 rfl rfl
  clear hA0 hval0
  have key : Calls Try.prog 19 #[v0, Enc.enc a1, Enc.enc a2] W fun e w' => e = .returned (.bool true) ∧ Below W.heap.size W w' := by
    rcases open_vals hv0 h0 with rfl | ⟨b, off, n, cap, c, rfl, hb, hc, hcell⟩
    · exact calls_pure ok19b (args := [.slice none 0 0, Enc.enc a1, Enc.enc a2]) (v := .bool true) (by kernel_rfl) rfl rfl W
    · have hcap : n ≤ cap := slice_cap Try.underlying48 hv0
      have hs : s19a [sl0 0 n cap, Enc.enc a1, Enc.enc a2] ([sl0 0 n cap, Enc.enc a1, Enc.enc a2].map (blkOf (vw c 0))) = some (true, .bool true) := by
        show some (vlsOK c 0 n && Nat.ble n cap, B true) = _
        rw [hc, Nat.ble_eq_true_of_le hcap]
        rfl
      have := calls_at ok19a (relM_vw (ty := 0) hb hcell) hs rfl
      have e : ([sl0 0 n cap, Enc.enc a1, Enc.enc a2].map (ren fun _ => (b, off))).toArray = #[.slice (some ⟨b, off, none⟩) n cap, Enc.enc a1, Enc.enc a2] := by
        simp only [List.map_cons, List.map_nil, ren_plain _ (Enc.plain_enc a1), ren_plain _ (Enc.plain_enc a2)]
        simp [ren, ren1]
      rw [e] at this
      exact this
  refine key.mono fun e W' ⟨he, hb⟩ => ?_
  subst he
  exact ⟨_, rfl, Go.Ab.post_of_below (pa := p0 ++ ([] ++ ([] ++ []))) (pv := []) hW' (fun _ _ _ => (trodAll_cons_mk (shut_bool Try.underlying4 _) trodAll_mk0))
    (fun sp hsp => trodAll_below laid_ok hb sp (ts := [48, 23, 3]) (by
      intro t ht
      simp only [List.mem_cons, List.not_mem_nil, or_false] at ht
      rcases ht with rfl | rfl | rfl
      · exact rd48
      · exact rd23
      · exact rd3) (fun x hx => hlt x (by simpa using hx)) (fun x hx => hsp x (by simpa using hx)) hAll) (fun _ _ => rfl) (by simp) hb (ok_one (by kernel_rfl) rfl (okWide_bool_mk Try.underlying4 _))⟩

theorem over : Rows.fixedTotalsRow.holds Try.pinned (OpenSpec.ofChange Rows.fixedTotalsSpec) :=
  OpenClaim.holds_of_wide 19 Try.f19 rfl rfl rfl rfl rfl rfl rfl ⟨rfl, rfl, rfl, rfl, rfl⟩ rfl rfl rfl rfl rfl (by kernel_rfl) Try.func19 (by kernel_rfl)
    (of_decide_eq_true (by kernel_rfl)) (by unfold Func.isWrapper; first | (rw [if_pos (by decide +kernel)]; kernel_rfl) | (rw [if_neg (by decide +kernel)]; exact ⟨rfl, rfl⟩))
    (fun os started H enc _ => lifted os started H enc)

theorem proved : Rows.FixedTotalsSaid := over
end Go.Proofs.Ythaedhabookjeaa
