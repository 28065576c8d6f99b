/-
  Lists of values that come in.
-/
import Derived.Test.YthaedhabookjeaaFx35
import Derived.Test.YthaedhabookjeaaFx12
set_option linter.unusedVariables false
set_option linter.unusedSimpArgs false
namespace Go.Fx
open Go Go.Ab Go.Proofs Go.ChangeMaps Go.ChangeShapes Go.WideShapes Go.ChangeAt Go.RowKit Go.Joins

theorem laid_ok : laidOutB Try.prog = true := by kernel_rfl
theorem rd48 : Try.prog.readableRec 48 = true ∧ 48 < Try.prog.types.size := ⟨by kernel_rfl, of_decide_eq_true (by kernel_rfl)⟩
theorem rd25 : Try.prog.readableRec 25 = true ∧ 25 < Try.prog.types.size := ⟨by kernel_rfl, of_decide_eq_true (by kernel_rfl)⟩
theorem rd23 : Try.prog.readableRec 23 = true ∧ 23 < Try.prog.types.size := ⟨by kernel_rfl, of_decide_eq_true (by kernel_rfl)⟩
theorem rd3 : Try.prog.readableRec 3 = true ∧ 3 < Try.prog.types.size := ⟨by kernel_rfl, of_decide_eq_true (by kernel_rfl)⟩

theorem cel25 : Try.prog.cellsOf 25 = 2 := by kernel_rfl
theorem cel3 : Try.prog.cellsOf 3 = 1 := by kernel_rfl
theorem cel9 : Try.prog.cellsOf 9 = 1 := by kernel_rfl
def fN : Field := { name := "N", type := 3, offset := 0, embedded := false, tag := "", pkgPath := "", byteOffset := 0 }
def fS : Field := { name := "S", type := 9, offset := 1, embedded := false, tag := "", pkgPath := "", byteOffset := 8 }
theorem und25 : Try.prog.underlying 25 = some (.struct #[fN, fS]) := Try.underlying25
/-- Cells of values. -/
def cellsN (N : Nat → Int) (S : Nat → ByteArray) : Nat → Nat → List Value
  | _, 0 => []
  | i, n + 1 => .int .i64 (N i) :: .string (S i) :: cellsN N S (i + 1) n
theorem cellsN_vls (N : Nat → Int) (S : Nat → ByteArray) : ∀ (n i : Nat), (vlsN n (cellsN N S i n)).isSome = true ∧ plainL (cellsN N S i n) = true
  | 0, i => ⟨rfl, rfl⟩
  | n + 1, i => by
    obtain ⟨h1, h2⟩ := cellsN_vls N S n (i + 1)
    refine ⟨?_, by simp [cellsN, plainL, plain, h2]⟩
    simp only [cellsN, vlsN]
    cases hv : vlsN n (cellsN N S (i + 1) n) with
    | none => rw [hv] at h1; cases h1
    | some l => rfl
theorem cellsN_at (N : Nat → Int) (S : Nat → ByteArray) : ∀ (n i k : Nat) (v : Value), (cellsN N S i n)[k]? = some v → ∃ j, j < n ∧ (k = j * 2 ∧ v = .int .i64 (N (i + j)) ∨ k = j * 2 + 1 ∧ v = .string (S (i + j)))
  | 0, i, k, v, h => by simp [cellsN] at h
  | n + 1, i, 0, v, h => by
    simp only [cellsN, List.getElem?_cons_zero, Option.some.injEq] at h
    exact ⟨0, by omega, .inl ⟨rfl, h.symm⟩⟩
  | n + 1, i, 1, v, h => by
    simp only [cellsN, List.getElem?_cons_succ, List.getElem?_cons_zero, Option.some.injEq] at h
    exact ⟨0, by omega, .inr ⟨rfl, h.symm⟩⟩
  | n + 1, i, k + 2, v, h => by
    simp only [cellsN, List.getElem?_cons_succ] at h
    obtain ⟨j, hj, h⟩ := cellsN_at N S n (i + 1) k v h
    refine ⟨j + 1, by omega, ?_⟩
    rw [show i + (j + 1) = i + 1 + j by omega]
    rcases h with ⟨h1, h2⟩ | ⟨h1, h2⟩
    · exact .inl ⟨by omega, h2⟩
    · exact .inr ⟨by omega, h2⟩

theorem slice_has {P : Program} {w : World} {base : Nat} {t e : TypeId} {a : Addr} {len cap : Nat} (ht : P.underlying t = some (.slice e)) (h : Value.okWide P w .any base t (.slice (some a) len cap)) : a.spot = none ∧ a.block < w.heap.size := by
  unfold Value.okWide at h
  rw [ht] at h
  simp only [Cell.okWide, ht, Cell.ok] at h
  obtain ⟨_, _, _, hs, row, cells, hsh, _⟩ := h
  refine ⟨hs, ?_⟩
  unfold World.shape? at hsh
  split at hsh
  · rename_i hq
    exact (Array.getElem?_eq_some_iff.1 hq).1
  · cases hsh

set_option maxRecDepth 100000 in
theorem open_vals {H : Type} {enc : TypeId × Value → H} {w : World} {base : Nat} {v : Value} {d : DataW H} {p : List MemPlace} (hv : Value.okWide Try.prog w .any base 48 v)
    (h : DataW.Trod enc Try.prog w 0 (fun _ => true) true 48 v d p) : v = .slice none 0 0 ∨
    ∃ b off n cap c, v = .slice (some ⟨b, off, none⟩) n cap ∧ b < w.heap.size ∧ vlsOK c 0 n = true ∧ ∀ i x, c[i]? = some x → w.cell? ⟨b, off + i, none⟩ = some x ∧ plain x = true := by
  obtain ⟨fuel, h⟩ := h
  have hsl := okWide_slice (e := 25) Try.underlying48 hv
  obtain ⟨a, len, cap, rfl⟩ := hsl
  replace h : DataW.trod enc Try.prog w 0 (fun _ => true) true fuel 48 [.slice a len cap] = some (d, p) := h
  rcases Go.Deep.open_slice_pairs (f0 := fN) (f1 := fS) Try.underlying48 und25 cel25 rfl rfl cel3 cel9 h with ⟨h1, _⟩ | ⟨a', len', cap', m, k, V0, V1, D0, D1, P0, P1, h1, hb, hl, hm, hmm, _, hx⟩
  · left
    simp only [List.cons.injEq, and_true] at h1
    exact h1
  · right
    simp only [List.cons.injEq, and_true, Value.slice.injEq] at h1
    obtain ⟨rfl, rfl, rfl⟩ := h1
    obtain ⟨hs, hlt⟩ := slice_has Try.underlying48 hv
    obtain ⟨b, off, sp⟩ := a'
    simp only at hs hlt
    subst hs
    have hlm : len ≤ m := by rw [hmm]; simp; omega
    have hN : ∀ i, i < len → ∃ n, V0 i = .int .i64 n := fun i hi => by
      obtain ⟨_, _, h3, _⟩ := hx i (by omega)
      obtain ⟨n, e, _⟩ := DataW.trod_int Try.underlying3 h3
      exact ⟨n, by simpa using e⟩
    have hS : ∀ i, i < len → ∃ n, V1 i = .string n := fun i hi => by
      obtain ⟨_, _, _, h4⟩ := hx i (by omega)
      obtain ⟨n, e, _⟩ := DataW.trod_string Try.underlying9 h4
      exact ⟨n, by simpa using e⟩
    obtain ⟨N, hN⟩ := Go.Deep.choose_lt hN
    obtain ⟨S, hS⟩ := Go.Deep.choose_lt (α := ByteArray) hS
    obtain ⟨q1, q2⟩ := cellsN_vls N S len 0
    refine ⟨b, off, len, cap, cellsN N S 0 len, rfl, hlt, by simp [vlsOK, q1, q2], fun i x hi => ?_⟩
    obtain ⟨j, hj, h⟩ := cellsN_at N S len 0 i x hi
    obtain ⟨c0, c1, _, _⟩ := hx j (by omega)
    have add : ∀ q, (⟨b, off, none⟩ : Addr).add q = ⟨b, off + q, none⟩ := fun q => by unfold Addr.add; split <;> simp_all
    rw [add] at c0 c1
    rcases h with ⟨rfl, rfl⟩ | ⟨rfl, rfl⟩
    · exact ⟨by rw [c0, hN j hj, Nat.zero_add], rfl⟩
    · exact ⟨by rw [c1, hS j hj, Nat.zero_add], rfl⟩
end Go.Fx
