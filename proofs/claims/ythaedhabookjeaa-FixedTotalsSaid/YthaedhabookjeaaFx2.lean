/-
  Powers, ranges, and what closes the runs of the FIXED functions.
-/
import Derived.Test.YthaedhabookjeaaFx1
import Derived.Laws.BitsLemmas
import Derived.Lib.Strings
import Derived.Test.YthaedhabookjeaaProg
set_option linter.unusedVariables false
set_option linter.unusedSimpArgs false
namespace Go.Fx
open Go Go.Ab Go.Proofs

theorem hmix : Try.prog.follows .mixedOrders = true := by kernel_rfl
theorem w64 {n : Int} (h : -9223372036854775808 ≤ n ∧ n ≤ 9223372036854775807) : IntKind.i64.wrap n = n := by rw [IntKind.wrap_i64]; omega
theorem str0 (s : ByteArray) : (!s.toList == (ByteArray.mk #[]).toList) = !decide (s.toList = []) := by
  have : (ByteArray.mk #[]).toList = [] := by kernel_rfl
  rw [this]
  cases s.toList <;> rfl
end Go.Fx
namespace Go.Fx
open Go Go.Ab Go.Proofs
theorem wrap_mul (a b : Int) : IntKind.i64.wrap (IntKind.i64.wrap a * b) = IntKind.i64.wrap (a * b) := by
  simp only [IntKind.wrap_i64]
  have h : ((a + 9223372036854775808) % 18446744073709551616 - 9223372036854775808) * b = a * b + 18446744073709551616 * (-((a + 9223372036854775808) / 18446744073709551616) * b) := by
    have := Int.emod_def (a + 9223372036854775808) 18446744073709551616
    rw [this]
    grind
  rw [h]
  omega
theorem pw_zero (b : Int) {n : Int} (h : n ≤ 0) : pw b n = 1 := by
  rw [pw, show n.toNat = 0 by omega, Int.pow_zero]
theorem pw_succ (b : Int) {n : Int} (h : 0 ≤ n) : pw b (n + 1) = pw b n * b := by
  rw [pw, pw, show (n + 1).toNat = n.toNat + 1 by omega, Int.pow_succ]
theorem pw_add (b : Int) {n m : Int} (h : 0 ≤ n) (h' : 0 ≤ m) : pw b (n + m) = pw b n * pw b m := by
  rw [pw, pw, pw, show (n + m).toNat = n.toNat + m.toNat by omega, Int.pow_add]
theorem pw_pos {b : Int} (hb : 1 ≤ b) (n : Int) : 1 ≤ pw b n := by
  have : 0 < b ^ n.toNat := Int.pow_pos (by omega)
  unfold pw; omega
theorem pw_le {b : Int} (hb : 1 ≤ b) {n m : Int} (h : n ≤ m) : pw b n ≤ pw b m := by
  rcases Int.le_total n 0 with hn | hn
  · rw [pw_zero b hn]; exact pw_pos hb m
  · have e : m = n + (m - n) := by omega
    rw [e, pw_add b hn (by omega)]
    have h1 := pw_pos hb n
    have h2 := pw_pos hb (m - n)
    have := Int.mul_le_mul_of_nonneg_left h2 (show 0 ≤ pw b n by omega)
    omega
theorem pw10_18 : pw 10 18 = 1000000000000000000 := by decide
theorem pw10_9 : pw 10 9 = 1000000000 := by decide
theorem pw2_31 : pw 2 31 = 2147483648 := by decide
end Go.Fx
namespace Go.Fx
open Go Go.Ab Go.Proofs
theorem tens_nat : ∀ n : Nat, n < 19 → isIntAt .i64 tensL n = true ∧ intAt tensL n = 10 ^ n := by decide
theorem tens_at {p : Int} (h : 0 ≤ p) (h' : p < 19) : isIntAt .i64 tensL p.toNat = true ∧ intAt tensL p.toNat = pw 10 p := tens_nat _ (by omega)
theorem shl_pw {p : Int} (h : 0 ≤ p) (h' : p ≤ 62) : IntKind.i64.wrap (1 * 2 ^ min p.toNat 64) = pw 2 p := by
  have h1 := pw_le (b := 2) (by omega) h'
  have h2 := pw_pos (b := 2) (by omega) p
  have h3 : pw 2 62 = 4611686018427387904 := by decide
  rw [show min p.toNat 64 = p.toNat by omega, Int.one_mul]
  exact w64 (by show _ ≤ pw 2 p ∧ pw 2 p ≤ _; omega)
theorem pw_w64 {b p : Int} (h : b = 10 ∧ p ≤ 18 ∨ b = 2 ∧ p ≤ 62) : IntKind.i64.wrap (pw b p) = pw b p := by
  have h3 : pw 2 62 = 4611686018427387904 := by decide
  have h4 := pw10_18
  rcases h with ⟨rfl, h⟩ | ⟨rfl, h⟩
  · have h1 := pw_le (b := 10) (by omega) h
    have h2 := pw_pos (b := 10) (by omega) p
    exact w64 (by omega)
  · have h1 := pw_le (b := 2) (by omega) h
    have h2 := pw_pos (b := 2) (by omega) p
    exact w64 (by omega)
end Go.Fx
namespace Go.Fx
open Go Go.Ab Go.Proofs
theorem bnd_range {t : Ty} (h : Valid t) : 2 ≤ bnd t ∧ bnd t ≤ 2147483648 := by
  obtain ⟨hk, h1, h2, _⟩ := h
  unfold bnd
  rcases hk with hk | hk
  · simp only [hk, most, base] at *
    have a := pw_le (b := 10) (by omega) h1
    have b := pw_le (b := 10) (by omega) (show t.p ≤ 9 by simpa using h2)
    have c := pw10_9
    have d : pw 10 1 = 10 := by decide
    simp only [if_true]
    omega
  · simp only [hk, most, base] at *
    have a := pw_le (b := 2) (by omega) h1
    have b := pw_le (b := 2) (by omega) (show t.p ≤ 31 by simpa using h2)
    have c := pw2_31
    have d : pw 2 1 = 2 := by decide
    simp only [show ¬ ((2 : Int) = 1) by decide, if_false]
    omega
theorem tmod_emod {x y : Int} (h : 0 < y) : x % y = if x.tmod y < 0 then x.tmod y + y else x.tmod y := by
  rcases Int.lt_or_le x 0 with hx | hx
  · have e : x.tmod y = -((-x) % y) := by
      have := Int.tmod_eq_emod_of_nonneg (a := -x) (b := y) (by omega)
      rw [← this, Int.neg_tmod, Int.neg_neg]
    have p := Int.emod_nonneg (-x) (show y ≠ 0 by omega)
    have q := Int.emod_lt_of_pos (-x) h
    rw [e]
    by_cases hz : (-x) % y = 0
    · rw [hz]
      simp only [Int.neg_zero, Int.lt_irrefl, if_false]
      exact Int.emod_eq_zero_of_dvd ((Int.dvd_neg).1 (Int.dvd_of_emod_eq_zero hz))
    · rw [if_pos (by omega)]
      have h1 := Int.emod_def (-x) y
      have : x = (y - (-x) % y) + y * (-((-x) / y) - 1) := by
        rw [h1]; grind
      have e2 : x % y = y - (-x) % y := by
        conv => lhs; rw [this]
        rw [Int.add_mul_emod_self_left, Int.emod_eq_of_lt (by omega) (by omega)]
      omega
  · have := Int.tmod_eq_emod_of_nonneg (a := x) (b := y) hx
    have p := Int.emod_nonneg x (show y ≠ 0 by omega)
    rw [this, if_neg (by omega)]
end Go.Fx
namespace Go.Fx
theorem pw_neg {d : Int} (h : d ≤ 0) : pw 10 (-(-d)) = pw 10 d := by rw [Int.neg_neg]
end Go.Fx
namespace Go.Fx
open Go Go.Ab
theorem imax_max (x y : Int) : imax x y = max x y := by unfold imax; grind
theorem imin_min (x y : Int) : imin x y = min x y := by unfold imin; grind
theorem valid_r {t : Ty} (h : Valid t) : 1 ≤ t.p ∧ t.p ≤ 31 ∧ 0 ≤ t.q ∧ t.q ≤ t.p ∧ t.q ≤ 9 := by grind [Valid, most]
theorem most_r (k : Int) : 9 ≤ most k ∧ most k ≤ 31 := by grind [most]
end Go.Fx
namespace Go.Fx
open Go Go.Ab
theorem bin_tab : ∀ n : Nat, n < 9 → isIntAt .i64 [.int .i64 5, .int .i64 8, .int .i64 11, .int .i64 15, .int .i64 18, .int .i64 21, .int .i64 25, .int .i64 28, .int .i64 31] n = true ∧
    intAt [.int .i64 5, .int .i64 8, .int .i64 11, .int .i64 15, .int .i64 18, .int .i64 21, .int .i64 25, .int .i64 28, .int .i64 31] n = 1 + ((n + 1) * 332 + 99) / 100 := by decide
theorem str_e0 {s : ByteArray} (h : s.toList = []) : s = e0 := by
  rw [Go.Lib.toList_data] at h
  obtain ⟨⟨l⟩⟩ := s
  simp only at h
  subst h
  rfl
end Go.Fx
