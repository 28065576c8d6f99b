/-
  The arguments of the laws.
-/
import Derived.Test.YthaedhabookjeaaFx11
import Derived.Test.YthaedhabookjeaaAb13
import Derived.Test.YthaedhabookjeaaChecked
set_option linter.unusedVariables false
set_option linter.unusedSimpArgs false
namespace Go.Fx
open Go Go.Ab Go.Proofs Go.ChangeShapes Go.WideShapes Go.ChangeAt Go.RowKit Go.Joins

theorem own : ownKnob Try.prog.godebug = none := by kernel_rfl

theorem array5 {α : Type} {cs : Array α} (h : cs.size = 5) : ∃ c0 c1 c2 c3 c4, cs = #[c0, c1, c2, c3, c4] := by
  obtain ⟨l⟩ := cs
  match l, h with
  | [c0, c1, c2, c3, c4], _ => exact ⟨c0, c1, c2, c3, c4, rfl⟩
theorem oI : Opens Try.prog 3 Int := opens_int Try.underlying3

theorem oT : Opens Try.prog 23 Ty := by
  refine opens_leaves Try.underlying23 (by kernel_rfl) fun cs hsz hf => ?_
  have hc : Try.prog.cellsOf 23 = 5 := by kernel_rfl
  have h3 : Try.prog.cellsOf 3 = 1 := by kernel_rfl
  have h4 : Try.prog.cellsOf 4 = 1 := by kernel_rfl
  have h9 : Try.prog.cellsOf 9 = 1 := by kernel_rfl
  rw [hc] at hsz
  obtain ⟨c0, c1, c2, c3, c4, rfl⟩ := array5 hsz
  · obtain ⟨H, enc, w, base, spare, held, n, y, h0⟩ := hf 0 { name := "Kind", type := 3, offset := 0, embedded := false, tag := "", pkgPath := "", byteOffset := 0 } rfl
    obtain ⟨H, enc, w, base, spare, held, n, y, h1⟩ := hf 1 { name := "P", type := 3, offset := 1, embedded := false, tag := "", pkgPath := "", byteOffset := 8 } rfl
    obtain ⟨H, enc, w, base, spare, held, n, y, h2⟩ := hf 2 { name := "Q", type := 3, offset := 2, embedded := false, tag := "", pkgPath := "", byteOffset := 16 } rfl
    obtain ⟨H, enc, w, base, spare, held, n, y, hv⟩ := hf 3 { name := "Vary", type := 4, offset := 3, embedded := false, tag := "", pkgPath := "", byteOffset := 24 } rfl
    obtain ⟨H, enc, w, base, spare, held, n, y, hs⟩ := hf 4 { name := "Pic", type := 9, offset := 4, embedded := false, tag := "", pkgPath := "", byteOffset := 32 } rfl
    obtain ⟨k, e0, _⟩ := DataW.trod_int Try.underlying3 h0
    obtain ⟨p, e1, _⟩ := DataW.trod_int Try.underlying3 h1
    obtain ⟨q, e2, _⟩ := DataW.trod_int Try.underlying3 h2
    obtain ⟨v, e3, _⟩ := DataW.trod_bool Try.underlying4 hv
    obtain ⟨s, e4, _⟩ := DataW.trod_string Try.underlying9 hs
    simp only [h3, h4, h9, List.drop_zero, List.drop_succ_cons, List.take_succ_cons, List.take_zero, List.cons.injEq, and_true] at e0 e1 e2 e3 e4
    exact ⟨⟨k, p, q, v, s⟩, by rw [e0, e1, e2, e3, e4]; rfl⟩

theorem oV : Opens Try.prog 25 Vl := by
  refine opens_leaves Try.underlying25 (by kernel_rfl) fun cs hsz hf => ?_
  have hc : Try.prog.cellsOf 25 = 2 := by kernel_rfl
  have h3 : Try.prog.cellsOf 3 = 1 := by kernel_rfl
  have h9 : Try.prog.cellsOf 9 = 1 := by kernel_rfl
  rw [hc] at hsz
  obtain ⟨c0, c1, rfl⟩ := array2 hsz
  · obtain ⟨H, enc, w, base, spare, held, n, y, h0⟩ := hf 0 { name := "N", type := 3, offset := 0, embedded := false, tag := "", pkgPath := "", byteOffset := 0 } rfl
    obtain ⟨H, enc, w, base, spare, held, n, y, h1⟩ := hf 1 { name := "S", type := 9, offset := 1, embedded := false, tag := "", pkgPath := "", byteOffset := 8 } rfl
    obtain ⟨k, e0, _⟩ := DataW.trod_int Try.underlying3 h0
    obtain ⟨s, e4, _⟩ := DataW.trod_string Try.underlying9 h1
    simp only [h3, h9, List.drop_zero, List.drop_succ_cons, List.take_succ_cons, List.take_zero, List.cons.injEq, and_true] at e0 e4
    exact ⟨⟨k, s⟩, by rw [e0, e4]; rfl⟩
end Go.Fx
