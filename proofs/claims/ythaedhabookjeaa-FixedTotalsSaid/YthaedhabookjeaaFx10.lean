/-
  Comparing, assigning, rounding.
-/
import Derived.Test.YthaedhabookjeaaFx9
set_option linter.unusedVariables false
set_option linter.unusedSimpArgs false
namespace Go.Fx
open Go Go.Ab Go.Proofs

def s97 (u : Int) : Bool × Value := (decide (0 ≤ u ∧ u ≤ 1000000000000000000), I (u / 2))
theorem fn97 : Fn1 Try.prog 97 Try.f97 := ⟨Try.func97, by kernel_rfl, by kernel_rfl, by kernel_rfl⟩
theorem v97 (u : Int) (R : Value → Prop) : bodyR Try.prog G7 noL Try.f97 [Enc.enc u] (fun _ => none) 0 (fun v _ _ => R v) = (
    R (Value.int IntKind.i64 (IntKind.wrap IntKind.i64 (Int.tdiv u 2)))) := by kernel_rfl
theorem ok97 : PureOK Try.prog 97 (sp1 s97) := by
  refine pure1 ok_G7 hmix fn97 lokf_none (Nat.le_of_ble_eq_true (by kernel_rfl)) fun u hc => ?_
  rw [Does, v97]
  have hc : (0 ≤ u ∧ u ≤ 1000000000000000000) := of_decide_eq_true hc
  rw [Int.tdiv_eq_ediv_of_nonneg hc.1, w64 (by omega)]
  rfl

def G7a : Env := (G7.add 97 (sp1 s97))
theorem ok_G7a : EnvOK Try.prog G7a := env_add (ok_G7) ok97

def s109 : Ab.Spec := fun args bs => match args, bs with
  | [.int .i64 n, .pointer (some ⟨_, 0, some 0⟩), .pointer (some ⟨_, 0, some 0⟩), .pointer (some ⟨_, 0, some 0⟩)], [none, some ⟨[.func (.func 97) ⟨[]⟩ ⟨[]⟩], t1, o1⟩, some ⟨[.int .i64 u], t2, o2⟩, some ⟨[.func (.func 97) ⟨[]⟩ ⟨[]⟩], t3, o3⟩] => some (decide (rOK n u), I (rnd n u))
  | [.int .i64 n, .pointer (some ⟨_, 0, some 0⟩), .pointer (some ⟨_, 0, some 0⟩), .pointer (some ⟨_, 0, some 0⟩)], [none, some ⟨[.func (.func 101) ⟨[]⟩ ⟨[]⟩], t1, o1⟩, some ⟨[.int .i64 u], t2, o2⟩, some ⟨[.func (.func 102) ⟨[]⟩ ⟨[]⟩], t3, o3⟩] => some (decide (rOK n u), I (flr n u))
  | [.int .i64 n, .pointer (some ⟨_, 0, some 0⟩), .pointer (some ⟨_, 0, some 0⟩), .pointer (some ⟨_, 0, some 0⟩)], [none, some ⟨[.func (.func 102) ⟨[]⟩ ⟨[]⟩], t1, o1⟩, some ⟨[.int .i64 u], t2, o2⟩, some ⟨[.func (.func 101) ⟨[]⟩ ⟨[]⟩], t3, o3⟩] => some (decide (rOK n u), I (cei n u))
  | [.int .i64 n, .pointer (some ⟨_, 0, some 0⟩), .pointer (some ⟨_, 0, some 0⟩), .pointer (some ⟨_, 0, some 0⟩)], [none, some ⟨[.func (.func 102) ⟨[]⟩ ⟨[]⟩], t1, o1⟩, some ⟨[.int .i64 u], t2, o2⟩, some ⟨[.func (.func 102) ⟨[]⟩ ⟨[]⟩], t3, o3⟩] => some (decide (rOK n u), I (n.tdiv u))
  | _, _ => none
theorem fn109 : Fn1 Try.prog 109 Try.f109 := ⟨Try.func109, by kernel_rfl, by kernel_rfl, by kernel_rfl⟩
theorem v109_0 (n : Int) (u : Int) (t1 : TypeId) (t2 : TypeId) (t3 : TypeId) (o1 : Bool) (o2 : Bool) (o3 : Bool) (R : Value → Prop) : bodyR Try.prog G7a noL Try.f109 [I n, .pointer (some ⟨1, 0, some 0⟩), .pointer (some ⟨2, 0, some 0⟩), .pointer (some ⟨3, 0, some 0⟩)] (viewL [none, some ⟨[.func (.func 97) ⟨[]⟩ ⟨[]⟩], t1, o1⟩, some ⟨[I u], t2, o2⟩, some ⟨[.func (.func 97) ⟨[]⟩ ⟨[]⟩], t3, o3⟩]) 4 (fun v _ _ => R v) = (
    bif decide (n < 0) then
      ((bif decide (0 ≤ u ∧ u ≤ 1000000000000000000) then
            bif decide (u ≠ 0) then R (Value.int IntKind.i64 (IntKind.wrap IntKind.i64 (Int.tdiv (IntKind.wrap IntKind.i64 (n - u / 2)) u))) else False
          else False) ∧
          bif decide (0 ≤ u ∧ u ≤ 1000000000000000000) then
            bif decide (u ≠ 0) then R (Value.int IntKind.i64 (IntKind.wrap IntKind.i64 (Int.tdiv (IntKind.wrap IntKind.i64 (n - u / 2)) u))) else False
          else False) ∧
        (bif decide (0 ≤ u ∧ u ≤ 1000000000000000000) then
            bif decide (u ≠ 0) then R (Value.int IntKind.i64 (IntKind.wrap IntKind.i64 (Int.tdiv (IntKind.wrap IntKind.i64 (n - u / 2)) u))) else False
          else False) ∧
          (bif decide (0 ≤ u ∧ u ≤ 1000000000000000000) then
              bif decide (u ≠ 0) then R (Value.int IntKind.i64 (IntKind.wrap IntKind.i64 (Int.tdiv (IntKind.wrap IntKind.i64 (n - u / 2)) u))) else False
            else False) ∧
            bif decide (0 ≤ u ∧ u ≤ 1000000000000000000) then
              bif decide (u ≠ 0) then R (Value.int IntKind.i64 (IntKind.wrap IntKind.i64 (Int.tdiv (IntKind.wrap IntKind.i64 (n - u / 2)) u))) else False
            else False
    else
      ((bif decide (0 ≤ u ∧ u ≤ 1000000000000000000) then
            bif decide (u ≠ 0) then R (Value.int IntKind.i64 (IntKind.wrap IntKind.i64 (Int.tdiv (IntKind.wrap IntKind.i64 (n + u / 2)) u))) else False
          else False) ∧
          bif decide (0 ≤ u ∧ u ≤ 1000000000000000000) then
            bif decide (u ≠ 0) then R (Value.int IntKind.i64 (IntKind.wrap IntKind.i64 (Int.tdiv (IntKind.wrap IntKind.i64 (n + u / 2)) u))) else False
          else False) ∧
        (bif decide (0 ≤ u ∧ u ≤ 1000000000000000000) then
            bif decide (u ≠ 0) then R (Value.int IntKind.i64 (IntKind.wrap IntKind.i64 (Int.tdiv (IntKind.wrap IntKind.i64 (n + u / 2)) u))) else False
          else False) ∧
          (bif decide (0 ≤ u ∧ u ≤ 1000000000000000000) then
              bif decide (u ≠ 0) then R (Value.int IntKind.i64 (IntKind.wrap IntKind.i64 (Int.tdiv (IntKind.wrap IntKind.i64 (n + u / 2)) u))) else False
            else False) ∧
            bif decide (0 ≤ u ∧ u ≤ 1000000000000000000) then
              bif decide (u ≠ 0) then R (Value.int IntKind.i64 (IntKind.wrap IntKind.i64 (Int.tdiv (IntKind.wrap IntKind.i64 (n + u / 2)) u))) else False
            else False) := by kernel_rfl
theorem v109_1 (n : Int) (u : Int) (t1 : TypeId) (t2 : TypeId) (t3 : TypeId) (o1 : Bool) (o2 : Bool) (o3 : Bool) (R : Value → Prop) : bodyR Try.prog G7a noL Try.f109 [I n, .pointer (some ⟨1, 0, some 0⟩), .pointer (some ⟨2, 0, some 0⟩), .pointer (some ⟨3, 0, some 0⟩)] (viewL [none, some ⟨[.func (.func 101) ⟨[]⟩ ⟨[]⟩], t1, o1⟩, some ⟨[I u], t2, o2⟩, some ⟨[.func (.func 102) ⟨[]⟩ ⟨[]⟩], t3, o3⟩]) 4 (fun v _ _ => R v) = (
    bif decide (n < 0) then
      ((bif decide (1 ≤ u ∧ u ≤ 1000000000000000000) then
            bif decide (u ≠ 0) then R (Value.int IntKind.i64 (IntKind.wrap IntKind.i64 (Int.tdiv (IntKind.wrap IntKind.i64 (n - (u - 1))) u))) else False
          else False) ∧
          bif decide (1 ≤ u ∧ u ≤ 1000000000000000000) then
            bif decide (u ≠ 0) then R (Value.int IntKind.i64 (IntKind.wrap IntKind.i64 (Int.tdiv (IntKind.wrap IntKind.i64 (n - (u - 1))) u))) else False
          else False) ∧
        (bif decide (1 ≤ u ∧ u ≤ 1000000000000000000) then
            bif decide (u ≠ 0) then R (Value.int IntKind.i64 (IntKind.wrap IntKind.i64 (Int.tdiv (IntKind.wrap IntKind.i64 (n - (u - 1))) u))) else False
          else False) ∧
          (bif decide (1 ≤ u ∧ u ≤ 1000000000000000000) then
              bif decide (u ≠ 0) then R (Value.int IntKind.i64 (IntKind.wrap IntKind.i64 (Int.tdiv (IntKind.wrap IntKind.i64 (n - (u - 1))) u))) else False
            else False) ∧
            bif decide (1 ≤ u ∧ u ≤ 1000000000000000000) then
              bif decide (u ≠ 0) then R (Value.int IntKind.i64 (IntKind.wrap IntKind.i64 (Int.tdiv (IntKind.wrap IntKind.i64 (n - (u - 1))) u))) else False
            else False
    else
      ((bif decide (u ≠ 0) then R (Value.int IntKind.i64 (IntKind.wrap IntKind.i64 (Int.tdiv (IntKind.wrap IntKind.i64 (n + 0)) u))) else False) ∧
          bif decide (u ≠ 0) then R (Value.int IntKind.i64 (IntKind.wrap IntKind.i64 (Int.tdiv (IntKind.wrap IntKind.i64 (n + 0)) u))) else False) ∧
        (bif decide (u ≠ 0) then R (Value.int IntKind.i64 (IntKind.wrap IntKind.i64 (Int.tdiv (IntKind.wrap IntKind.i64 (n + 0)) u))) else False) ∧
          (bif decide (u ≠ 0) then R (Value.int IntKind.i64 (IntKind.wrap IntKind.i64 (Int.tdiv (IntKind.wrap IntKind.i64 (n + 0)) u))) else False) ∧
            bif decide (u ≠ 0) then R (Value.int IntKind.i64 (IntKind.wrap IntKind.i64 (Int.tdiv (IntKind.wrap IntKind.i64 (n + 0)) u))) else False) := by kernel_rfl
theorem v109_2 (n : Int) (u : Int) (t1 : TypeId) (t2 : TypeId) (t3 : TypeId) (o1 : Bool) (o2 : Bool) (o3 : Bool) (R : Value → Prop) : bodyR Try.prog G7a noL Try.f109 [I n, .pointer (some ⟨1, 0, some 0⟩), .pointer (some ⟨2, 0, some 0⟩), .pointer (some ⟨3, 0, some 0⟩)] (viewL [none, some ⟨[.func (.func 102) ⟨[]⟩ ⟨[]⟩], t1, o1⟩, some ⟨[I u], t2, o2⟩, some ⟨[.func (.func 101) ⟨[]⟩ ⟨[]⟩], t3, o3⟩]) 4 (fun v _ _ => R v) = (
    bif decide (n < 0) then
      ((bif decide (u ≠ 0) then R (Value.int IntKind.i64 (IntKind.wrap IntKind.i64 (Int.tdiv (IntKind.wrap IntKind.i64 (n - 0)) u))) else False) ∧
          bif decide (u ≠ 0) then R (Value.int IntKind.i64 (IntKind.wrap IntKind.i64 (Int.tdiv (IntKind.wrap IntKind.i64 (n - 0)) u))) else False) ∧
        (bif decide (u ≠ 0) then R (Value.int IntKind.i64 (IntKind.wrap IntKind.i64 (Int.tdiv (IntKind.wrap IntKind.i64 (n - 0)) u))) else False) ∧
          (bif decide (u ≠ 0) then R (Value.int IntKind.i64 (IntKind.wrap IntKind.i64 (Int.tdiv (IntKind.wrap IntKind.i64 (n - 0)) u))) else False) ∧
            bif decide (u ≠ 0) then R (Value.int IntKind.i64 (IntKind.wrap IntKind.i64 (Int.tdiv (IntKind.wrap IntKind.i64 (n - 0)) u))) else False
    else
      ((bif decide (1 ≤ u ∧ u ≤ 1000000000000000000) then
            bif decide (u ≠ 0) then R (Value.int IntKind.i64 (IntKind.wrap IntKind.i64 (Int.tdiv (IntKind.wrap IntKind.i64 (n + (u - 1))) u))) else False
          else False) ∧
          bif decide (1 ≤ u ∧ u ≤ 1000000000000000000) then
            bif decide (u ≠ 0) then R (Value.int IntKind.i64 (IntKind.wrap IntKind.i64 (Int.tdiv (IntKind.wrap IntKind.i64 (n + (u - 1))) u))) else False
          else False) ∧
        (bif decide (1 ≤ u ∧ u ≤ 1000000000000000000) then
            bif decide (u ≠ 0) then R (Value.int IntKind.i64 (IntKind.wrap IntKind.i64 (Int.tdiv (IntKind.wrap IntKind.i64 (n + (u - 1))) u))) else False
          else False) ∧
          (bif decide (1 ≤ u ∧ u ≤ 1000000000000000000) then
              bif decide (u ≠ 0) then R (Value.int IntKind.i64 (IntKind.wrap IntKind.i64 (Int.tdiv (IntKind.wrap IntKind.i64 (n + (u - 1))) u))) else False
            else False) ∧
            bif decide (1 ≤ u ∧ u ≤ 1000000000000000000) then
              bif decide (u ≠ 0) then R (Value.int IntKind.i64 (IntKind.wrap IntKind.i64 (Int.tdiv (IntKind.wrap IntKind.i64 (n + (u - 1))) u))) else False
            else False) := by kernel_rfl
theorem v109_3 (n : Int) (u : Int) (t1 : TypeId) (t2 : TypeId) (t3 : TypeId) (o1 : Bool) (o2 : Bool) (o3 : Bool) (R : Value → Prop) : bodyR Try.prog G7a noL Try.f109 [I n, .pointer (some ⟨1, 0, some 0⟩), .pointer (some ⟨2, 0, some 0⟩), .pointer (some ⟨3, 0, some 0⟩)] (viewL [none, some ⟨[.func (.func 102) ⟨[]⟩ ⟨[]⟩], t1, o1⟩, some ⟨[I u], t2, o2⟩, some ⟨[.func (.func 102) ⟨[]⟩ ⟨[]⟩], t3, o3⟩]) 4 (fun v _ _ => R v) = (
    bif decide (n < 0) then
      ((bif decide (u ≠ 0) then R (Value.int IntKind.i64 (IntKind.wrap IntKind.i64 (Int.tdiv (IntKind.wrap IntKind.i64 (n - 0)) u))) else False) ∧
          bif decide (u ≠ 0) then R (Value.int IntKind.i64 (IntKind.wrap IntKind.i64 (Int.tdiv (IntKind.wrap IntKind.i64 (n - 0)) u))) else False) ∧
        (bif decide (u ≠ 0) then R (Value.int IntKind.i64 (IntKind.wrap IntKind.i64 (Int.tdiv (IntKind.wrap IntKind.i64 (n - 0)) u))) else False) ∧
          (bif decide (u ≠ 0) then R (Value.int IntKind.i64 (IntKind.wrap IntKind.i64 (Int.tdiv (IntKind.wrap IntKind.i64 (n - 0)) u))) else False) ∧
            bif decide (u ≠ 0) then R (Value.int IntKind.i64 (IntKind.wrap IntKind.i64 (Int.tdiv (IntKind.wrap IntKind.i64 (n - 0)) u))) else False
    else
      ((bif decide (u ≠ 0) then R (Value.int IntKind.i64 (IntKind.wrap IntKind.i64 (Int.tdiv (IntKind.wrap IntKind.i64 (n + 0)) u))) else False) ∧
          bif decide (u ≠ 0) then R (Value.int IntKind.i64 (IntKind.wrap IntKind.i64 (Int.tdiv (IntKind.wrap IntKind.i64 (n + 0)) u))) else False) ∧
        (bif decide (u ≠ 0) then R (Value.int IntKind.i64 (IntKind.wrap IntKind.i64 (Int.tdiv (IntKind.wrap IntKind.i64 (n + 0)) u))) else False) ∧
          (bif decide (u ≠ 0) then R (Value.int IntKind.i64 (IntKind.wrap IntKind.i64 (Int.tdiv (IntKind.wrap IntKind.i64 (n + 0)) u))) else False) ∧
            bif decide (u ≠ 0) then R (Value.int IntKind.i64 (IntKind.wrap IntKind.i64 (Int.tdiv (IntKind.wrap IntKind.i64 (n + 0)) u))) else False) := by kernel_rfl
theorem k109_0 (n : Int) (u : Int) (t1 : TypeId) (t2 : TypeId) (t3 : TypeId) (o1 : Bool) (o2 : Bool) (o3 : Bool) (hc : (decide (rOK n u)) = true) : DoesV Try.prog G7a noL Try.f109 [I n, .pointer (some ⟨1, 0, some 0⟩), .pointer (some ⟨2, 0, some 0⟩), .pointer (some ⟨3, 0, some 0⟩)] [none, some ⟨[.func (.func 97) ⟨[]⟩ ⟨[]⟩], t1, o1⟩, some ⟨[I u], t2, o2⟩, some ⟨[.func (.func 97) ⟨[]⟩ ⟨[]⟩], t3, o3⟩] 4 (I (rnd n u)) := by
  rw [DoesV, v109_0]
  have hc := of_decide_eq_true hc
  unfold rOK at hc
  have d1 := tdiv_rng (x := n) (y := u) (A := 4000000000000000000) (by omega)
  have d2 := tdiv_rng (x := n - u / 2) (y := u) (A := 5000000000000000000) (by omega)
  have d3 := tdiv_rng (x := n + u / 2) (y := u) (A := 5000000000000000000) (by omega)
  have d4 := tdiv_rng (x := n - (u - 1)) (y := u) (A := 5000000000000000000) (by omega)
  have d5 := tdiv_rng (x := n + (u - 1)) (y := u) (A := 5000000000000000000) (by omega)
  try simp only [Int.add_zero, Int.sub_zero]
  simp (disch := omega) only [w64]
  unfold rnd
  repeat' first | refine And.intro ?_ ?_ | refine cond_intro (fun h => ?_) (fun h => ?_)
  all_goals grind (splits := 40) []
theorem k109_1 (n : Int) (u : Int) (t1 : TypeId) (t2 : TypeId) (t3 : TypeId) (o1 : Bool) (o2 : Bool) (o3 : Bool) (hc : (decide (rOK n u)) = true) : DoesV Try.prog G7a noL Try.f109 [I n, .pointer (some ⟨1, 0, some 0⟩), .pointer (some ⟨2, 0, some 0⟩), .pointer (some ⟨3, 0, some 0⟩)] [none, some ⟨[.func (.func 101) ⟨[]⟩ ⟨[]⟩], t1, o1⟩, some ⟨[I u], t2, o2⟩, some ⟨[.func (.func 102) ⟨[]⟩ ⟨[]⟩], t3, o3⟩] 4 (I (flr n u)) := by
  rw [DoesV, v109_1]
  have hc := of_decide_eq_true hc
  unfold rOK at hc
  have d1 := tdiv_rng (x := n) (y := u) (A := 4000000000000000000) (by omega)
  have d2 := tdiv_rng (x := n - u / 2) (y := u) (A := 5000000000000000000) (by omega)
  have d3 := tdiv_rng (x := n + u / 2) (y := u) (A := 5000000000000000000) (by omega)
  have d4 := tdiv_rng (x := n - (u - 1)) (y := u) (A := 5000000000000000000) (by omega)
  have d5 := tdiv_rng (x := n + (u - 1)) (y := u) (A := 5000000000000000000) (by omega)
  try simp only [Int.add_zero, Int.sub_zero]
  simp (disch := omega) only [w64]
  unfold flr
  repeat' first | refine And.intro ?_ ?_ | refine cond_intro (fun h => ?_) (fun h => ?_)
  all_goals grind (splits := 40) []
theorem k109_2 (n : Int) (u : Int) (t1 : TypeId) (t2 : TypeId) (t3 : TypeId) (o1 : Bool) (o2 : Bool) (o3 : Bool) (hc : (decide (rOK n u)) = true) : DoesV Try.prog G7a noL Try.f109 [I n, .pointer (some ⟨1, 0, some 0⟩), .pointer (some ⟨2, 0, some 0⟩), .pointer (some ⟨3, 0, some 0⟩)] [none, some ⟨[.func (.func 102) ⟨[]⟩ ⟨[]⟩], t1, o1⟩, some ⟨[I u], t2, o2⟩, some ⟨[.func (.func 101) ⟨[]⟩ ⟨[]⟩], t3, o3⟩] 4 (I (cei n u)) := by
  rw [DoesV, v109_2]
  have hc := of_decide_eq_true hc
  unfold rOK at hc
  have d1 := tdiv_rng (x := n) (y := u) (A := 4000000000000000000) (by omega)
  have d2 := tdiv_rng (x := n - u / 2) (y := u) (A := 5000000000000000000) (by omega)
  have d3 := tdiv_rng (x := n + u / 2) (y := u) (A := 5000000000000000000) (by omega)
  have d4 := tdiv_rng (x := n - (u - 1)) (y := u) (A := 5000000000000000000) (by omega)
  have d5 := tdiv_rng (x := n + (u - 1)) (y := u) (A := 5000000000000000000) (by omega)
  try simp only [Int.add_zero, Int.sub_zero]
  simp (disch := omega) only [w64]
  unfold cei
  repeat' first | refine And.intro ?_ ?_ | refine cond_intro (fun h => ?_) (fun h => ?_)
  all_goals grind (splits := 40) []
theorem k109_3 (n : Int) (u : Int) (t1 : TypeId) (t2 : TypeId) (t3 : TypeId) (o1 : Bool) (o2 : Bool) (o3 : Bool) (hc : (decide (rOK n u)) = true) : DoesV Try.prog G7a noL Try.f109 [I n, .pointer (some ⟨1, 0, some 0⟩), .pointer (some ⟨2, 0, some 0⟩), .pointer (some ⟨3, 0, some 0⟩)] [none, some ⟨[.func (.func 102) ⟨[]⟩ ⟨[]⟩], t1, o1⟩, some ⟨[I u], t2, o2⟩, some ⟨[.func (.func 102) ⟨[]⟩ ⟨[]⟩], t3, o3⟩] 4 (I (n.tdiv u)) := by
  rw [DoesV, v109_3]
  have hc := of_decide_eq_true hc
  unfold rOK at hc
  have d1 := tdiv_rng (x := n) (y := u) (A := 4000000000000000000) (by omega)
  have d2 := tdiv_rng (x := n - u / 2) (y := u) (A := 5000000000000000000) (by omega)
  have d3 := tdiv_rng (x := n + u / 2) (y := u) (A := 5000000000000000000) (by omega)
  have d4 := tdiv_rng (x := n - (u - 1)) (y := u) (A := 5000000000000000000) (by omega)
  have d5 := tdiv_rng (x := n + (u - 1)) (y := u) (A := 5000000000000000000) (by omega)
  try simp only [Int.add_zero, Int.sub_zero]
  simp (disch := omega) only [w64]
  repeat' first | refine And.intro ?_ ?_ | refine cond_intro (fun h => ?_) (fun h => ?_)
  all_goals grind (splits := 40) []
theorem ok109 : PureOK Try.prog 109 s109 := by
  refine pure_view ok_G7a hmix fn109 lokf_none fun args bs v hs => ?_
  simp only [s109] at hs
  split at hs
  · simp only [Option.some.injEq, Prod.mk.injEq] at hs
    obtain ⟨hc, rfl⟩ := hs
    exact ⟨_, 4, rfl, rfl, Nat.le_of_ble_eq_true (by kernel_rfl), k109_0 _ _ _ _ _ _ _ _ (by first | rfl | exact hc)⟩
  · simp only [Option.some.injEq, Prod.mk.injEq] at hs
    obtain ⟨hc, rfl⟩ := hs
    exact ⟨_, 4, rfl, rfl, Nat.le_of_ble_eq_true (by kernel_rfl), k109_1 _ _ _ _ _ _ _ _ (by first | rfl | exact hc)⟩
  · simp only [Option.some.injEq, Prod.mk.injEq] at hs
    obtain ⟨hc, rfl⟩ := hs
    exact ⟨_, 4, rfl, rfl, Nat.le_of_ble_eq_true (by kernel_rfl), k109_2 _ _ _ _ _ _ _ _ (by first | rfl | exact hc)⟩
  · simp only [Option.some.injEq, Prod.mk.injEq] at hs
    obtain ⟨hc, rfl⟩ := hs
    exact ⟨_, 4, rfl, rfl, Nat.le_of_ble_eq_true (by kernel_rfl), k109_3 _ _ _ _ _ _ _ _ (by first | rfl | exact hc)⟩
  · cases hs

def G7b : Env := (G7a.add 109 s109)
theorem ok_G7b : EnvOK Try.prog G7b := env_add (ok_G7a) ok109

def G8 : Env := G7b.addG 98 (inl Try.prog G7b noL Try.f98)
theorem fn98 : Fn1 Try.prog 98 Try.f98 := ⟨Try.func98, by kernel_rfl, by kernel_rfl, by kernel_rfl⟩
theorem ok_G8 : EnvOK Try.prog G8 := env_addG ok_G7b (gen_inl ok_G7b hmix fn98 lokf_none)

def s43 (v : Vl) (t : Ty) (k : Int) : Bool × Value := (true, tup [vv ⟨rnN v t k, e0⟩, I (rnE v t k)])
theorem fn43 : Fn1 Try.prog 43 Try.f43 := ⟨Try.func43, by kernel_rfl, by kernel_rfl, by kernel_rfl⟩
theorem v43 (v : Vl) (t : Ty) (k : Int) (R : Value → Prop) : bodyR Try.prog G8 noL Try.f43 [Enc.enc v, Enc.enc t, Enc.enc k] (fun _ => none) 0 (fun v _ _ => R v) = (
    bif fits v t != 0 then R (Value.tuple (Array.mk [Value.agg (Array.mk [Value.int IntKind.i64 0, Value.string (ByteArray.mk #[])]), Value.int IntKind.i64 (fits v t)]))
    else
      bif decide (k < 0) then R (Value.tuple (Array.mk [Value.agg (Array.mk [Value.int IntKind.i64 0, Value.string (ByteArray.mk #[])]), Value.int IntKind.i64 1]))
      else
        bif decide (k > Ty.q t) then R (Value.tuple (Array.mk [Value.agg (Array.mk [Value.int IntKind.i64 0, Value.string (ByteArray.mk #[])]), Value.int IntKind.i64 1]))
        else
          (bif
                decide (0 ≤ IntKind.wrap IntKind.i64 (Ty.q t - k) ∧ IntKind.wrap IntKind.i64 (Ty.q t - k) < 19) &&
                  isIntAt IntKind.i64 tensL (Int.toNat (IntKind.wrap IntKind.i64 (Ty.q t - k))) then
              bif decide (rOK (Vl.n v) (intAt tensL (Int.toNat (IntKind.wrap IntKind.i64 (Ty.q t - k))))) then
                R
                  (Value.tuple
                    (Array.mk
                      [Value.agg (Array.mk [Value.int IntKind.i64 (rnd (Vl.n v) (intAt tensL (Int.toNat (IntKind.wrap IntKind.i64 (Ty.q t - k))))), Value.string (ByteArray.mk #[])]),
                        Value.int IntKind.i64 0]))
              else False
            else False) ∧
            (bif
                  decide (0 ≤ IntKind.wrap IntKind.i64 (Ty.q t - k) ∧ IntKind.wrap IntKind.i64 (Ty.q t - k) < 19) &&
                    isIntAt IntKind.i64 tensL (Int.toNat (IntKind.wrap IntKind.i64 (Ty.q t - k))) then
                bif decide (rOK (Vl.n v) (intAt tensL (Int.toNat (IntKind.wrap IntKind.i64 (Ty.q t - k))))) then
                  R
                    (Value.tuple
                      (Array.mk
                        [Value.agg (Array.mk [Value.int IntKind.i64 (rnd (Vl.n v) (intAt tensL (Int.toNat (IntKind.wrap IntKind.i64 (Ty.q t - k))))), Value.string (ByteArray.mk #[])]),
                          Value.int IntKind.i64 0]))
                else False
              else False) ∧
              bif
                  decide (0 ≤ IntKind.wrap IntKind.i64 (Ty.q t - k) ∧ IntKind.wrap IntKind.i64 (Ty.q t - k) < 19) &&
                    isIntAt IntKind.i64 tensL (Int.toNat (IntKind.wrap IntKind.i64 (Ty.q t - k))) then
                bif decide (rOK (Vl.n v) (intAt tensL (Int.toNat (IntKind.wrap IntKind.i64 (Ty.q t - k))))) then
                  R
                    (Value.tuple
                      (Array.mk
                        [Value.agg (Array.mk [Value.int IntKind.i64 (rnd (Vl.n v) (intAt tensL (Int.toNat (IntKind.wrap IntKind.i64 (Ty.q t - k))))), Value.string (ByteArray.mk #[])]),
                          Value.int IntKind.i64 0]))
                else False
              else False) := by kernel_rfl
theorem ok43 : PureOK Try.prog 43 (sp3 s43) := by
  refine pure3 ok_G8 hmix fn43 lokf_none (Nat.le_of_ble_eq_true (by kernel_rfl)) fun v t k hc => ?_
  rw [Does, v43]
  by_cases hv : fits v t = 0
  · obtain ⟨va, fa⟩ := fits0.1 hv
    have ra := valid_r va
    have ba := bnd_range va
    have fa2 := fa.2
    by_cases hk : 0 ≤ k ∧ k ≤ t.q
    · have p1 := pw_le (b := 10) (by omega) (show t.q - k ≤ 9 by omega)
      have p2 := pw_pos (b := 10) (by omega) (t.q - k)
      have p3 := pw10_9
      have tt := tens_at (p := t.q - k) (by omega) (by omega)
      rw [w64 (by omega), tt.2]
      ((repeat' first | refine And.intro ?_ ?_ | refine cond_intro (fun h => ?_) (fun h => ?_)); all_goals grind (splits := 40) [s43, rnN, rnE, rOK, e0])
    · ((repeat' first | refine And.intro ?_ ?_ | refine cond_intro (fun h => ?_) (fun h => ?_)); all_goals grind (splits := 40) [s43, rnN, rnE, e0])
  · ((repeat' first | refine And.intro ?_ ?_ | refine cond_intro (fun h => ?_) (fun h => ?_)); all_goals grind (splits := 40) [s43, rnN, rnE, e0])

def s44 (v : Vl) (t : Ty) (k : Int) : Bool × Value := (true, tup [vv ⟨rnN v t k, e0⟩, I (rnE v t k)])
theorem fn44 : Fn1 Try.prog 44 Try.f44 := ⟨Try.func44, by kernel_rfl, by kernel_rfl, by kernel_rfl⟩
theorem v44 (v : Vl) (t : Ty) (k : Int) (R : Value → Prop) : bodyR Try.prog G8 noL Try.f44 [Enc.enc v, Enc.enc t, Enc.enc k] (fun _ => none) 0 (fun v _ _ => R v) = (
    bif fits v t != 0 then R (Value.tuple (Array.mk [Value.agg (Array.mk [Value.int IntKind.i64 0, Value.string (ByteArray.mk #[])]), Value.int IntKind.i64 (fits v t)]))
    else
      bif decide (k < 0) then R (Value.tuple (Array.mk [Value.agg (Array.mk [Value.int IntKind.i64 0, Value.string (ByteArray.mk #[])]), Value.int IntKind.i64 1]))
      else
        bif decide (k > Ty.q t) then R (Value.tuple (Array.mk [Value.agg (Array.mk [Value.int IntKind.i64 0, Value.string (ByteArray.mk #[])]), Value.int IntKind.i64 1]))
        else
          bif decide (IntKind.wrap IntKind.i64 (Ty.q t - k) ≤ 1000) then
            bif decide (Vl.n v < 0) then
              bif decide (IntKind.wrap IntKind.i64 (pw 10 (IntKind.wrap IntKind.i64 (Ty.q t - k))) ≠ 0) then
                R
                  (Value.tuple
                    (Array.mk
                      [Value.agg
                          (Array.mk
                            [Value.int IntKind.i64
                                (IntKind.wrap IntKind.i64
                                  (0 -
                                    IntKind.wrap IntKind.i64
                                      (Int.tdiv
                                        (IntKind.wrap IntKind.i64
                                          (IntKind.wrap IntKind.i64 (0 - Vl.n v) +
                                            IntKind.wrap IntKind.i64 (Int.tdiv (IntKind.wrap IntKind.i64 (pw 10 (IntKind.wrap IntKind.i64 (Ty.q t - k)))) 2)))
                                        (IntKind.wrap IntKind.i64 (pw 10 (IntKind.wrap IntKind.i64 (Ty.q t - k))))))),
                              Value.string (ByteArray.mk #[])]),
                        Value.int IntKind.i64 0]))
              else False
            else
              bif decide (IntKind.wrap IntKind.i64 (pw 10 (IntKind.wrap IntKind.i64 (Ty.q t - k))) ≠ 0) then
                R
                  (Value.tuple
                    (Array.mk
                      [Value.agg
                          (Array.mk
                            [Value.int IntKind.i64
                                (IntKind.wrap IntKind.i64
                                  (Int.tdiv
                                    (IntKind.wrap IntKind.i64
                                      (Vl.n v + IntKind.wrap IntKind.i64 (Int.tdiv (IntKind.wrap IntKind.i64 (pw 10 (IntKind.wrap IntKind.i64 (Ty.q t - k)))) 2)))
                                    (IntKind.wrap IntKind.i64 (pw 10 (IntKind.wrap IntKind.i64 (Ty.q t - k)))))),
                              Value.string (ByteArray.mk #[])]),
                        Value.int IntKind.i64 0]))
              else False
          else False) := by kernel_rfl
theorem ok44 : PureOK Try.prog 44 (sp3 s44) := by
  refine pure3 ok_G8 hmix fn44 lokf_none (Nat.le_of_ble_eq_true (by kernel_rfl)) fun v t k hc => ?_
  rw [Does, v44]
  by_cases hv : fits v t = 0
  · obtain ⟨va, fa⟩ := fits0.1 hv
    have ra := valid_r va
    have ba := bnd_range va
    have fa2 := fa.2
    by_cases hk : 0 ≤ k ∧ k ≤ t.q
    · have p1 := pw_le (b := 10) (by omega) (show t.q - k ≤ 9 by omega)
      have p2 := pw_pos (b := 10) (by omega) (t.q - k)
      have p3 := pw10_9
      have tt := tens_at (p := t.q - k) (by omega) (by omega)
      have e1 : rnE v t k = 0 := by grind [rnE]
      have e2 : rnN v t k = rnd v.n (pw 10 (t.q - k)) := by simp [rnN, e1]
      unfold rnd at e2
      rw [w64 (n := t.q - k) (by omega), pw_w64 (by omega)]
      generalize pw 10 (t.q - k) = u at *
      have d1 := tdiv_rng (x := u) (y := 2) (A := 1000000000) (by omega)
      have d0 := Int.tdiv_eq_ediv_of_nonneg (a := u) (b := 2) (by omega)
      rw [d0, w64 (n := u / 2) (by omega), w64 (n := 0 - v.n) (by omega), w64 (n := 0 - v.n + u / 2) (by omega), w64 (n := v.n + u / 2) (by omega)]
      have d2 := tdiv_rng (x := 0 - v.n + u / 2) (y := u) (A := 5000000000000000000) (by omega)
      have d3 := tdiv_rng (x := v.n + u / 2) (y := u) (A := 5000000000000000000) (by omega)
      rw [w64 (n := (v.n + u / 2).tdiv u) (by omega), w64 (n := (0 - v.n + u / 2).tdiv u) (by omega), w64 (n := 0 - (0 - v.n + u / 2).tdiv u) (by omega), ← rnd_neg' v.n u]
      generalize (v.n - u / 2).tdiv u = A at *
      generalize (v.n + u / 2).tdiv u = B at *
      ((repeat' first | refine And.intro ?_ ?_ | refine cond_intro (fun h => ?_) (fun h => ?_)); all_goals grind (splits := 40) [s44, rnE, e0])
    · ((repeat' first | refine And.intro ?_ ?_ | refine cond_intro (fun h => ?_) (fun h => ?_)); all_goals grind (splits := 40) [s44, rnN, rnE, e0])
  · ((repeat' first | refine And.intro ?_ ?_ | refine cond_intro (fun h => ?_) (fun h => ?_)); all_goals grind (splits := 40) [s44, rnN, rnE, e0])

def G9 : Env := G8.addG 100 (inl Try.prog G8 noL Try.f100)
theorem fn100 : Fn1 Try.prog 100 Try.f100 := ⟨Try.func100, by kernel_rfl, by kernel_rfl, by kernel_rfl⟩
theorem ok_G9 : EnvOK Try.prog G9 := env_addG ok_G8 (gen_inl ok_G8 hmix fn100 lokf_none)

def s45 (v : Vl) (t : Ty) : Bool × Value := (true, tup [vv ⟨flN v t, e0⟩, I (fits v t)])
theorem fn45 : Fn1 Try.prog 45 Try.f45 := ⟨Try.func45, by kernel_rfl, by kernel_rfl, by kernel_rfl⟩
theorem v45 (v : Vl) (t : Ty) (R : Value → Prop) : bodyR Try.prog G9 noL Try.f45 [Enc.enc v, Enc.enc t] (fun _ => none) 0 (fun v _ _ => R v) = (
    bif fits v t != 0 then R (Value.tuple (Array.mk [Value.agg (Array.mk [Value.int IntKind.i64 0, Value.string (ByteArray.mk #[])]), Value.int IntKind.i64 (fits v t)]))
    else
      (bif decide (0 ≤ Ty.q t ∧ Ty.q t < 19) && isIntAt IntKind.i64 tensL (Int.toNat (Ty.q t)) then
          bif decide (rOK (Vl.n v) (intAt tensL (Int.toNat (Ty.q t)))) then
            R
              (Value.tuple
                (Array.mk [Value.agg (Array.mk [Value.int IntKind.i64 (flr (Vl.n v) (intAt tensL (Int.toNat (Ty.q t)))), Value.string (ByteArray.mk #[])]), Value.int IntKind.i64 0]))
          else False
        else False) ∧
        (bif decide (0 ≤ Ty.q t ∧ Ty.q t < 19) && isIntAt IntKind.i64 tensL (Int.toNat (Ty.q t)) then
            bif decide (rOK (Vl.n v) (intAt tensL (Int.toNat (Ty.q t)))) then
              R
                (Value.tuple
                  (Array.mk [Value.agg (Array.mk [Value.int IntKind.i64 (flr (Vl.n v) (intAt tensL (Int.toNat (Ty.q t)))), Value.string (ByteArray.mk #[])]), Value.int IntKind.i64 0]))
            else False
          else False) ∧
          bif decide (0 ≤ Ty.q t ∧ Ty.q t < 19) && isIntAt IntKind.i64 tensL (Int.toNat (Ty.q t)) then
            bif decide (rOK (Vl.n v) (intAt tensL (Int.toNat (Ty.q t)))) then
              R
                (Value.tuple
                  (Array.mk [Value.agg (Array.mk [Value.int IntKind.i64 (flr (Vl.n v) (intAt tensL (Int.toNat (Ty.q t)))), Value.string (ByteArray.mk #[])]), Value.int IntKind.i64 0]))
            else False
          else False) := by kernel_rfl
theorem ok45 : PureOK Try.prog 45 (sp2 s45) := by
  refine pure2 ok_G9 hmix fn45 lokf_none (Nat.le_of_ble_eq_true (by kernel_rfl)) fun v t hc => ?_
  rw [Does, v45]
  by_cases hv : fits v t = 0
  · obtain ⟨va, fa⟩ := fits0.1 hv
    have ra := valid_r va
    have ba := bnd_range va
    have fa2 := fa.2
    have p1 := pw_le (b := 10) (by omega) (show t.q ≤ 9 by omega)
    have p2 := pw_pos (b := 10) (by omega) t.q
    have p3 := pw10_9
    have tt := tens_at (p := t.q) (by omega) (by omega)
    rw [tt.2]
    ((repeat' first | refine And.intro ?_ ?_ | refine cond_intro (fun h => ?_) (fun h => ?_)); all_goals grind (splits := 40) [s45, flN, rOK, e0])
  · ((repeat' first | refine And.intro ?_ ?_ | refine cond_intro (fun h => ?_) (fun h => ?_)); all_goals grind (splits := 40) [s45, flN, rOK, e0])

def s47 (v : Vl) (t : Ty) : Bool × Value := (true, tup [vv ⟨ceN v t, e0⟩, I (fits v t)])
theorem fn47 : Fn1 Try.prog 47 Try.f47 := ⟨Try.func47, by kernel_rfl, by kernel_rfl, by kernel_rfl⟩
theorem v47 (v : Vl) (t : Ty) (R : Value → Prop) : bodyR Try.prog G9 noL Try.f47 [Enc.enc v, Enc.enc t] (fun _ => none) 0 (fun v _ _ => R v) = (
    bif fits v t != 0 then R (Value.tuple (Array.mk [Value.agg (Array.mk [Value.int IntKind.i64 0, Value.string (ByteArray.mk #[])]), Value.int IntKind.i64 (fits v t)]))
    else
      (bif decide (0 ≤ Ty.q t ∧ Ty.q t < 19) && isIntAt IntKind.i64 tensL (Int.toNat (Ty.q t)) then
          bif decide (rOK (Vl.n v) (intAt tensL (Int.toNat (Ty.q t)))) then
            R
              (Value.tuple
                (Array.mk [Value.agg (Array.mk [Value.int IntKind.i64 (cei (Vl.n v) (intAt tensL (Int.toNat (Ty.q t)))), Value.string (ByteArray.mk #[])]), Value.int IntKind.i64 0]))
          else False
        else False) ∧
        (bif decide (0 ≤ Ty.q t ∧ Ty.q t < 19) && isIntAt IntKind.i64 tensL (Int.toNat (Ty.q t)) then
            bif decide (rOK (Vl.n v) (intAt tensL (Int.toNat (Ty.q t)))) then
              R
                (Value.tuple
                  (Array.mk [Value.agg (Array.mk [Value.int IntKind.i64 (cei (Vl.n v) (intAt tensL (Int.toNat (Ty.q t)))), Value.string (ByteArray.mk #[])]), Value.int IntKind.i64 0]))
            else False
          else False) ∧
          bif decide (0 ≤ Ty.q t ∧ Ty.q t < 19) && isIntAt IntKind.i64 tensL (Int.toNat (Ty.q t)) then
            bif decide (rOK (Vl.n v) (intAt tensL (Int.toNat (Ty.q t)))) then
              R
                (Value.tuple
                  (Array.mk [Value.agg (Array.mk [Value.int IntKind.i64 (cei (Vl.n v) (intAt tensL (Int.toNat (Ty.q t)))), Value.string (ByteArray.mk #[])]), Value.int IntKind.i64 0]))
            else False
          else False) := by kernel_rfl
theorem ok47 : PureOK Try.prog 47 (sp2 s47) := by
  refine pure2 ok_G9 hmix fn47 lokf_none (Nat.le_of_ble_eq_true (by kernel_rfl)) fun v t hc => ?_
  rw [Does, v47]
  by_cases hv : fits v t = 0
  · obtain ⟨va, fa⟩ := fits0.1 hv
    have ra := valid_r va
    have ba := bnd_range va
    have fa2 := fa.2
    have p1 := pw_le (b := 10) (by omega) (show t.q ≤ 9 by omega)
    have p2 := pw_pos (b := 10) (by omega) t.q
    have p3 := pw10_9
    have tt := tens_at (p := t.q) (by omega) (by omega)
    rw [tt.2]
    ((repeat' first | refine And.intro ?_ ?_ | refine cond_intro (fun h => ?_) (fun h => ?_)); all_goals grind (splits := 40) [s47, ceN, rOK, e0])
  · ((repeat' first | refine And.intro ?_ ?_ | refine cond_intro (fun h => ?_) (fun h => ?_)); all_goals grind (splits := 40) [s47, ceN, rOK, e0])

def s49 (v : Vl) (t : Ty) : Bool × Value := (true, tup [vv ⟨trN v t, e0⟩, I (fits v t)])
theorem fn49 : Fn1 Try.prog 49 Try.f49 := ⟨Try.func49, by kernel_rfl, by kernel_rfl, by kernel_rfl⟩
theorem v49 (v : Vl) (t : Ty) (R : Value → Prop) : bodyR Try.prog G9 noL Try.f49 [Enc.enc v, Enc.enc t] (fun _ => none) 0 (fun v _ _ => R v) = (
    bif fits v t != 0 then R (Value.tuple (Array.mk [Value.agg (Array.mk [Value.int IntKind.i64 0, Value.string (ByteArray.mk #[])]), Value.int IntKind.i64 (fits v t)]))
    else
      (bif decide (0 ≤ Ty.q t ∧ Ty.q t < 19) && isIntAt IntKind.i64 tensL (Int.toNat (Ty.q t)) then
          bif decide (rOK (Vl.n v) (intAt tensL (Int.toNat (Ty.q t)))) then
            R
              (Value.tuple
                (Array.mk
                  [Value.agg (Array.mk [Value.int IntKind.i64 (Int.tdiv (Vl.n v) (intAt tensL (Int.toNat (Ty.q t)))), Value.string (ByteArray.mk #[])]), Value.int IntKind.i64 0]))
          else False
        else False) ∧
        (bif decide (0 ≤ Ty.q t ∧ Ty.q t < 19) && isIntAt IntKind.i64 tensL (Int.toNat (Ty.q t)) then
            bif decide (rOK (Vl.n v) (intAt tensL (Int.toNat (Ty.q t)))) then
              R
                (Value.tuple
                  (Array.mk
                    [Value.agg (Array.mk [Value.int IntKind.i64 (Int.tdiv (Vl.n v) (intAt tensL (Int.toNat (Ty.q t)))), Value.string (ByteArray.mk #[])]), Value.int IntKind.i64 0]))
            else False
          else False) ∧
          bif decide (0 ≤ Ty.q t ∧ Ty.q t < 19) && isIntAt IntKind.i64 tensL (Int.toNat (Ty.q t)) then
            bif decide (rOK (Vl.n v) (intAt tensL (Int.toNat (Ty.q t)))) then
              R
                (Value.tuple
                  (Array.mk
                    [Value.agg (Array.mk [Value.int IntKind.i64 (Int.tdiv (Vl.n v) (intAt tensL (Int.toNat (Ty.q t)))), Value.string (ByteArray.mk #[])]), Value.int IntKind.i64 0]))
            else False
          else False) := by kernel_rfl
theorem ok49 : PureOK Try.prog 49 (sp2 s49) := by
  refine pure2 ok_G9 hmix fn49 lokf_none (Nat.le_of_ble_eq_true (by kernel_rfl)) fun v t hc => ?_
  rw [Does, v49]
  by_cases hv : fits v t = 0
  · obtain ⟨va, fa⟩ := fits0.1 hv
    have ra := valid_r va
    have ba := bnd_range va
    have fa2 := fa.2
    have p1 := pw_le (b := 10) (by omega) (show t.q ≤ 9 by omega)
    have p2 := pw_pos (b := 10) (by omega) t.q
    have p3 := pw10_9
    have tt := tens_at (p := t.q) (by omega) (by omega)
    rw [tt.2]
    ((repeat' first | refine And.intro ?_ ?_ | refine cond_intro (fun h => ?_) (fun h => ?_)); all_goals grind (splits := 40) [s49, trN, rOK, e0])
  · ((repeat' first | refine And.intro ?_ ?_ | refine cond_intro (fun h => ?_) (fun h => ?_)); all_goals grind (splits := 40) [s49, trN, rOK, e0])

def s46 (v : Vl) (t : Ty) : Bool × Value := (true, tup [vv ⟨flN v t, e0⟩, I (fits v t)])
theorem fn46 : Fn1 Try.prog 46 Try.f46 := ⟨Try.func46, by kernel_rfl, by kernel_rfl, by kernel_rfl⟩
theorem v46 (v : Vl) (t : Ty) (R : Value → Prop) : bodyR Try.prog G9 noL Try.f46 [Enc.enc v, Enc.enc t] (fun _ => none) 0 (fun v _ _ => R v) = (
    bif fits v t != 0 then R (Value.tuple (Array.mk [Value.agg (Array.mk [Value.int IntKind.i64 0, Value.string (ByteArray.mk #[])]), Value.int IntKind.i64 (fits v t)]))
    else
      bif decide (Ty.q t ≤ 1000) then
        bif decide (IntKind.wrap IntKind.i64 (pw 10 (Ty.q t)) ≠ 0) then
          bif
              decide
                (IntKind.wrap IntKind.i64 (IntKind.wrap IntKind.i64 (Int.tdiv (Vl.n v) (IntKind.wrap IntKind.i64 (pw 10 (Ty.q t)))) * IntKind.wrap IntKind.i64 (pw 10 (Ty.q t))) >
                  Vl.n v) then
            R
              (Value.tuple
                (Array.mk
                  [Value.agg
                      (Array.mk
                        [Value.int IntKind.i64 (IntKind.wrap IntKind.i64 (IntKind.wrap IntKind.i64 (Int.tdiv (Vl.n v) (IntKind.wrap IntKind.i64 (pw 10 (Ty.q t)))) - 1)),
                          Value.string (ByteArray.mk #[])]),
                    Value.int IntKind.i64 0]))
          else
            R
              (Value.tuple
                (Array.mk
                  [Value.agg
                      (Array.mk [Value.int IntKind.i64 (IntKind.wrap IntKind.i64 (Int.tdiv (Vl.n v) (IntKind.wrap IntKind.i64 (pw 10 (Ty.q t))))), Value.string (ByteArray.mk #[])]),
                    Value.int IntKind.i64 0]))
        else False
      else False) := by kernel_rfl
theorem ok46 : PureOK Try.prog 46 (sp2 s46) := by
  refine pure2 ok_G9 hmix fn46 lokf_none (Nat.le_of_ble_eq_true (by kernel_rfl)) fun v t hc => ?_
  rw [Does, v46]
  by_cases hv : fits v t = 0
  · obtain ⟨va, fa⟩ := fits0.1 hv
    have ra := valid_r va
    have ba := bnd_range va
    have fa2 := fa.2
    have p1 := pw_le (b := 10) (by omega) (show t.q ≤ 9 by omega)
    have p2 := pw_pos (b := 10) (by omega) t.q
    have p3 := pw10_9
    have tt := tens_at (p := t.q) (by omega) (by omega)
    have e1 : (s46 v t).2 = tup [vv ⟨flr v.n (pw 10 t.q), e0⟩, I 0] := by simp [s46, flN, hv]
    rw [e1, pw_w64 (by omega)]
    generalize pw 10 t.q = u at *
    have d2 := tdiv_rng (x := v.n) (y := u) (A := 2147483648) (by omega)
    have e3 := flr_tdiv v.n p2
    have e4 := tdiv_mul v.n p2
    rw [w64 (n := v.n.tdiv u) (by omega), w64 (n := v.n.tdiv u * u) (by omega)]
    have e5 : IntKind.i64.wrap (v.n.tdiv u - 1) = v.n.tdiv u - 1 := w64 (by omega)
    rw [e5, e3]
    generalize v.n.tdiv u = A at *
    generalize A * u = B at *
    ((repeat' first | refine And.intro ?_ ?_ | refine cond_intro (fun h => ?_) (fun h => ?_)); all_goals grind (splits := 40) [e0])
  · ((repeat' first | refine And.intro ?_ ?_ | refine cond_intro (fun h => ?_) (fun h => ?_)); all_goals grind (splits := 40) [s46, flN, e0])

def s48 (v : Vl) (t : Ty) : Bool × Value := (true, tup [vv ⟨ceN v t, e0⟩, I (fits v t)])
theorem fn48 : Fn1 Try.prog 48 Try.f48 := ⟨Try.func48, by kernel_rfl, by kernel_rfl, by kernel_rfl⟩
theorem v48 (v : Vl) (t : Ty) (R : Value → Prop) : bodyR Try.prog G9 noL Try.f48 [Enc.enc v, Enc.enc t] (fun _ => none) 0 (fun v _ _ => R v) = (
    bif fits v t != 0 then R (Value.tuple (Array.mk [Value.agg (Array.mk [Value.int IntKind.i64 0, Value.string (ByteArray.mk #[])]), Value.int IntKind.i64 (fits v t)]))
    else
      bif decide (Ty.q t ≤ 1000) then
        bif decide (IntKind.wrap IntKind.i64 (pw 10 (Ty.q t)) ≠ 0) then
          bif
              decide
                (IntKind.wrap IntKind.i64 (IntKind.wrap IntKind.i64 (Int.tdiv (Vl.n v) (IntKind.wrap IntKind.i64 (pw 10 (Ty.q t)))) * IntKind.wrap IntKind.i64 (pw 10 (Ty.q t))) <
                  Vl.n v) then
            R
              (Value.tuple
                (Array.mk
                  [Value.agg
                      (Array.mk
                        [Value.int IntKind.i64 (IntKind.wrap IntKind.i64 (IntKind.wrap IntKind.i64 (Int.tdiv (Vl.n v) (IntKind.wrap IntKind.i64 (pw 10 (Ty.q t)))) + 1)),
                          Value.string (ByteArray.mk #[])]),
                    Value.int IntKind.i64 0]))
          else
            R
              (Value.tuple
                (Array.mk
                  [Value.agg
                      (Array.mk [Value.int IntKind.i64 (IntKind.wrap IntKind.i64 (Int.tdiv (Vl.n v) (IntKind.wrap IntKind.i64 (pw 10 (Ty.q t))))), Value.string (ByteArray.mk #[])]),
                    Value.int IntKind.i64 0]))
        else False
      else False) := by kernel_rfl
theorem ok48 : PureOK Try.prog 48 (sp2 s48) := by
  refine pure2 ok_G9 hmix fn48 lokf_none (Nat.le_of_ble_eq_true (by kernel_rfl)) fun v t hc => ?_
  rw [Does, v48]
  by_cases hv : fits v t = 0
  · obtain ⟨va, fa⟩ := fits0.1 hv
    have ra := valid_r va
    have ba := bnd_range va
    have fa2 := fa.2
    have p1 := pw_le (b := 10) (by omega) (show t.q ≤ 9 by omega)
    have p2 := pw_pos (b := 10) (by omega) t.q
    have p3 := pw10_9
    have tt := tens_at (p := t.q) (by omega) (by omega)
    have e1 : (s48 v t).2 = tup [vv ⟨cei v.n (pw 10 t.q), e0⟩, I 0] := by simp [s48, ceN, hv]
    rw [e1, pw_w64 (by omega)]
    generalize pw 10 t.q = u at *
    have d2 := tdiv_rng (x := v.n) (y := u) (A := 2147483648) (by omega)
    have e3 := cei_tdiv v.n p2
    have e4 := tdiv_mul v.n p2
    rw [w64 (n := v.n.tdiv u) (by omega), w64 (n := v.n.tdiv u * u) (by omega)]
    have e5 : IntKind.i64.wrap (v.n.tdiv u + 1) = v.n.tdiv u + 1 := w64 (by omega)
    rw [e5, e3]
    generalize v.n.tdiv u = A at *
    generalize A * u = B at *
    ((repeat' first | refine And.intro ?_ ?_ | refine cond_intro (fun h => ?_) (fun h => ?_)); all_goals grind (splits := 40) [e0])
  · ((repeat' first | refine And.intro ?_ ?_ | refine cond_intro (fun h => ?_) (fun h => ?_)); all_goals grind (splits := 40) [s48, ceN, e0])

def s50 (v : Vl) (t : Ty) : Bool × Value := (true, tup [vv ⟨trN v t, e0⟩, I (fits v t)])
theorem fn50 : Fn1 Try.prog 50 Try.f50 := ⟨Try.func50, by kernel_rfl, by kernel_rfl, by kernel_rfl⟩
theorem v50 (v : Vl) (t : Ty) (R : Value → Prop) : bodyR Try.prog G9 noL Try.f50 [Enc.enc v, Enc.enc t] (fun _ => none) 0 (fun v _ _ => R v) = (
    bif fits v t != 0 then R (Value.tuple (Array.mk [Value.agg (Array.mk [Value.int IntKind.i64 0, Value.string (ByteArray.mk #[])]), Value.int IntKind.i64 (fits v t)]))
    else
      bif decide (Ty.q t ≤ 1000) then
        bif decide (IntKind.wrap IntKind.i64 (pw 10 (Ty.q t)) ≠ 0) then
          R
            (Value.tuple
              (Array.mk
                [Value.agg
                    (Array.mk [Value.int IntKind.i64 (IntKind.wrap IntKind.i64 (Int.tdiv (Vl.n v) (IntKind.wrap IntKind.i64 (pw 10 (Ty.q t))))), Value.string (ByteArray.mk #[])]),
                  Value.int IntKind.i64 0]))
        else False
      else False) := by kernel_rfl
theorem ok50 : PureOK Try.prog 50 (sp2 s50) := by
  refine pure2 ok_G9 hmix fn50 lokf_none (Nat.le_of_ble_eq_true (by kernel_rfl)) fun v t hc => ?_
  rw [Does, v50]
  by_cases hv : fits v t = 0
  · obtain ⟨va, fa⟩ := fits0.1 hv
    have ra := valid_r va
    have ba := bnd_range va
    have fa2 := fa.2
    have p1 := pw_le (b := 10) (by omega) (show t.q ≤ 9 by omega)
    have p2 := pw_pos (b := 10) (by omega) t.q
    have p3 := pw10_9
    have tt := tens_at (p := t.q) (by omega) (by omega)
    have e1 : (s50 v t).2 = tup [vv ⟨v.n.tdiv (pw 10 t.q), e0⟩, I 0] := by simp [s50, trN, hv]
    rw [e1, pw_w64 (by omega)]
    generalize pw 10 t.q = u at *
    have d2 := tdiv_rng (x := v.n) (y := u) (A := 2147483648) (by omega)
    rw [w64 (n := v.n.tdiv u) (by omega)]
    generalize v.n.tdiv u = A at *
    ((repeat' first | refine And.intro ?_ ?_ | refine cond_intro (fun h => ?_) (fun h => ?_)); all_goals grind (splits := 40) [e0])
  · ((repeat' first | refine And.intro ?_ ?_ | refine cond_intro (fun h => ?_) (fun h => ?_)); all_goals grind (splits := 40) [s50, trN, e0])

def s39 (a : Vl) (ta : Ty) (b : Vl) (tb : Ty) : Bool × Value := (true, tup [I (cmN a ta b tb), I (cmE a ta b tb)])
theorem fn39 : Fn1 Try.prog 39 Try.f39 := ⟨Try.func39, by kernel_rfl, by kernel_rfl, by kernel_rfl⟩
theorem v39 (a : Vl) (ta : Ty) (b : Vl) (tb : Ty) (R : Value → Prop) : bodyR Try.prog G9 noL Try.f39 [Enc.enc a, Enc.enc ta, Enc.enc b, Enc.enc tb] (fun _ => none) 0 (fun v _ _ => R v) = (
    bif fst3 (fits a ta) (fits b tb) (same1 ta tb) != 0 then R (Value.tuple (Array.mk [Value.int IntKind.i64 0, Value.int IntKind.i64 (fst3 (fits a ta) (fits b tb) (same1 ta tb))]))
    else
      bif
          decide
            (-18 ≤ imax (Ty.q ta) (Ty.q tb) - Ty.q ta ∧
              imax (Ty.q ta) (Ty.q tb) - Ty.q ta ≤ 18 ∧ -100 ≤ Ty.q ta ∧ Ty.q ta ≤ 100 ∧ R64 (Vl.n a) ∧ R64 (scl (Vl.n a) (imax (Ty.q ta) (Ty.q tb) - Ty.q ta))) then
        bif
            decide
              (-18 ≤ imax (Ty.q ta) (Ty.q tb) - Ty.q tb ∧
                imax (Ty.q ta) (Ty.q tb) - Ty.q tb ≤ 18 ∧ -100 ≤ Ty.q tb ∧ Ty.q tb ≤ 100 ∧ R64 (Vl.n b) ∧ R64 (scl (Vl.n b) (imax (Ty.q ta) (Ty.q tb) - Ty.q tb))) then
          R
            (Value.tuple
              (Array.mk
                [Value.int IntKind.i64 (cmpI (scl (Vl.n a) (imax (Ty.q ta) (Ty.q tb) - Ty.q ta)) (scl (Vl.n b) (imax (Ty.q ta) (Ty.q tb) - Ty.q tb))), Value.int IntKind.i64 0]))
        else False
      else False) := by kernel_rfl
theorem ok39 : PureOK Try.prog 39 (sp4 s39) := by
  refine pure4 ok_G9 hmix fn39 lokf_none (Nat.le_of_ble_eq_true (by kernel_rfl)) fun a ta b tb hc => ?_
  rw [Does, v39]
  by_cases ea : fits a ta = 0
  · obtain ⟨va, fa⟩ := fits0.1 ea
    have ra := valid_r va
    have fa2 := fa.2
    have ba := bnd_range va
    by_cases eb : fits b tb = 0
    · obtain ⟨vb, fb⟩ := fits0.1 eb
      have rb := valid_r vb
      have fb2 := fb.2
      have bb := bnd_range vb
      by_cases ek : ta.k = tb.k
      · have sa := (scl_max va vb ek fa.2).1
        have sb := (scl_max vb va ek.symm fb.2).2
        unfold P18 at sa sb
        try simp only [imax_max]
        try simp (disch := omega) only [w64]
        ((repeat' first | refine And.intro ?_ ?_ | refine cond_intro (fun h => ?_) (fun h => ?_)); all_goals grind (splits := 40) [s39, cmN, cmE, fst3, same1, opnds, unary, cmpI, R64])
      · ((repeat' first | refine And.intro ?_ ?_ | refine cond_intro (fun h => ?_) (fun h => ?_)); all_goals grind (splits := 40) [s39, cmN, cmE, fst3, same1, opnds, unary, cmpI, R64])
    · ((repeat' first | refine And.intro ?_ ?_ | refine cond_intro (fun h => ?_) (fun h => ?_)); all_goals grind (splits := 40) [s39, cmN, cmE, fst3, same1, opnds, unary, cmpI, R64])
  · ((repeat' first | refine And.intro ?_ ?_ | refine cond_intro (fun h => ?_) (fun h => ?_)); all_goals grind (splits := 40) [s39, cmN, cmE, fst3, same1, opnds, unary, cmpI, R64])

def s40 (a : Vl) (ta : Ty) (b : Vl) (tb : Ty) : Bool × Value := (true, tup [I (cmN a ta b tb), I (cmE a ta b tb)])
theorem fn40 : Fn1 Try.prog 40 Try.f40 := ⟨Try.func40, by kernel_rfl, by kernel_rfl, by kernel_rfl⟩
theorem v40 (a : Vl) (ta : Ty) (b : Vl) (tb : Ty) (R : Value → Prop) : bodyR Try.prog G9 noL Try.f40 [Enc.enc a, Enc.enc ta, Enc.enc b, Enc.enc tb] (fun _ => none) 0 (fun v _ _ => R v) = (
    bif opnds 6 a ta b tb != 0 then R (Value.tuple (Array.mk [Value.int IntKind.i64 0, Value.int IntKind.i64 (opnds 6 a ta b tb)]))
    else
      bif Ty.k ta != Ty.k tb then R (Value.tuple (Array.mk [Value.int IntKind.i64 0, Value.int IntKind.i64 5]))
      else
        bif
            decide
              (-18 ≤ IntKind.wrap IntKind.i64 (imax (Ty.q ta) (Ty.q tb) - Ty.q ta) ∧
                IntKind.wrap IntKind.i64 (imax (Ty.q ta) (Ty.q tb) - Ty.q ta) ≤ 18 ∧
                  R64 (Vl.n a) ∧ R64 (scl (Vl.n a) (IntKind.wrap IntKind.i64 (imax (Ty.q ta) (Ty.q tb) - Ty.q ta)))) then
          bif
              decide
                (-18 ≤ IntKind.wrap IntKind.i64 (imax (Ty.q ta) (Ty.q tb) - Ty.q tb) ∧
                  IntKind.wrap IntKind.i64 (imax (Ty.q ta) (Ty.q tb) - Ty.q tb) ≤ 18 ∧
                    R64 (Vl.n b) ∧ R64 (scl (Vl.n b) (IntKind.wrap IntKind.i64 (imax (Ty.q ta) (Ty.q tb) - Ty.q tb)))) then
            bif
                decide
                  (scl (Vl.n a) (IntKind.wrap IntKind.i64 (imax (Ty.q ta) (Ty.q tb) - Ty.q ta)) < scl (Vl.n b) (IntKind.wrap IntKind.i64 (imax (Ty.q ta) (Ty.q tb) - Ty.q tb))) then
              R (Value.tuple (Array.mk [Value.int IntKind.i64 (-1), Value.int IntKind.i64 0]))
            else
              bif
                  decide
                    (scl (Vl.n a) (IntKind.wrap IntKind.i64 (imax (Ty.q ta) (Ty.q tb) - Ty.q ta)) > scl (Vl.n b) (IntKind.wrap IntKind.i64 (imax (Ty.q ta) (Ty.q tb) - Ty.q tb))) then
                R (Value.tuple (Array.mk [Value.int IntKind.i64 1, Value.int IntKind.i64 0]))
              else R (Value.tuple (Array.mk [Value.int IntKind.i64 0, Value.int IntKind.i64 0]))
          else False
        else False) := by kernel_rfl
theorem ok40 : PureOK Try.prog 40 (sp4 s40) := by
  refine pure4 ok_G9 hmix fn40 lokf_none (Nat.le_of_ble_eq_true (by kernel_rfl)) fun a ta b tb hc => ?_
  rw [Does, v40]
  by_cases ea : fits a ta = 0
  · obtain ⟨va, fa⟩ := fits0.1 ea
    have ra := valid_r va
    have fa2 := fa.2
    have ba := bnd_range va
    by_cases eb : fits b tb = 0
    · obtain ⟨vb, fb⟩ := fits0.1 eb
      have rb := valid_r vb
      have fb2 := fb.2
      have bb := bnd_range vb
      by_cases ek : ta.k = tb.k
      · have sa := (scl_max va vb ek fa.2).1
        have sb := (scl_max vb va ek.symm fb.2).2
        unfold P18 at sa sb
        try simp only [imax_max]
        try simp (disch := omega) only [w64]
        ((repeat' first | refine And.intro ?_ ?_ | refine cond_intro (fun h => ?_) (fun h => ?_)); all_goals grind (splits := 40) [s40, cmN, cmE, fst3, same1, opnds, unary, cmpI, R64])
      · ((repeat' first | refine And.intro ?_ ?_ | refine cond_intro (fun h => ?_) (fun h => ?_)); all_goals grind (splits := 40) [s40, cmN, cmE, fst3, same1, opnds, unary, cmpI, R64])
    · ((repeat' first | refine And.intro ?_ ?_ | refine cond_intro (fun h => ?_) (fun h => ?_)); all_goals grind (splits := 40) [s40, cmN, cmE, fst3, same1, opnds, unary, cmpI, R64])
  · ((repeat' first | refine And.intro ?_ ?_ | refine cond_intro (fun h => ?_) (fun h => ?_)); all_goals grind (splits := 40) [s40, cmN, cmE, fst3, same1, opnds, unary, cmpI, R64])

def s41 (v : Vl) (f : Ty) (t : Ty) : Bool × Value := (true, tup [vv ⟨asN v f t, e0⟩, I (asC v f t), I (asE v f t)])
theorem fn41 : Fn1 Try.prog 41 Try.f41 := ⟨Try.func41, by kernel_rfl, by kernel_rfl, by kernel_rfl⟩
theorem v41 (v : Vl) (f : Ty) (t : Ty) (R : Value → Prop) : bodyR Try.prog G9 noL Try.f41 [Enc.enc v, Enc.enc f, Enc.enc t] (fun _ => none) 0 (fun v _ _ => R v) = (
    bif fst2 (fits v f) (check t) != 0 then
      R
        (Value.tuple
          (Array.mk [Value.agg (Array.mk [Value.int IntKind.i64 0, Value.string (ByteArray.mk #[])]), Value.int IntKind.i64 0, Value.int IntKind.i64 (fst2 (fits v f) (check t))]))
    else
      bif decide (-18 ≤ Ty.q t - Ty.q f ∧ Ty.q t - Ty.q f ≤ 18 ∧ -100 ≤ Ty.q f ∧ Ty.q f ≤ 100 ∧ R64 (Vl.n v) ∧ R64 (scl (Vl.n v) (Ty.q t - Ty.q f))) then
        bif decide (Valid t) then
          R
            (Value.tuple
              (Array.mk
                [Value.agg (Array.mk [Value.int IntKind.i64 (cutN (scl (Vl.n v) (Ty.q t - Ty.q f)) t), Value.string e0]),
                  Value.int IntKind.i64 (cutC (scl (Vl.n v) (Ty.q t - Ty.q f)) t 1), Value.int IntKind.i64 0]))
        else False
      else False) := by kernel_rfl
theorem ok41 : PureOK Try.prog 41 (sp3 s41) := by
  refine pure3 ok_G9 hmix fn41 lokf_none (Nat.le_of_ble_eq_true (by kernel_rfl)) fun v f t hc => ?_
  rw [Does, v41]
  by_cases ea : fits v f = 0
  · obtain ⟨va, fa⟩ := fits0.1 ea
    have ra := valid_r va
    have fa2 := fa.2
    have ba := bnd_range va
    by_cases vt : Valid t
    · have rb := valid_r vt
      have sa := scl_any (d := t.q - f.q) va fa.2 (by omega)
      try simp (disch := omega) only [w64]
      ((repeat' first | refine And.intro ?_ ?_ | refine cond_intro (fun h => ?_) (fun h => ?_)); all_goals grind (splits := 40) [s41, asN, asE, asC, cutC, fst2, check, e0, R64])
    · ((repeat' first | refine And.intro ?_ ?_ | refine cond_intro (fun h => ?_) (fun h => ?_)); all_goals grind (splits := 40) [s41, asN, asE, asC, cutC, fst2, check, e0, R64])
  · ((repeat' first | refine And.intro ?_ ?_ | refine cond_intro (fun h => ?_) (fun h => ?_)); all_goals grind (splits := 40) [s41, asN, asE, asC, cutC, fst2, check, e0, R64])

def s42 (v : Vl) (f : Ty) (t : Ty) : Bool × Value := (true, tup [vv ⟨asN v f t, e0⟩, I (asC v f t), I (asE v f t)])
theorem fn42 : Fn1 Try.prog 42 Try.f42 := ⟨Try.func42, by kernel_rfl, by kernel_rfl, by kernel_rfl⟩
theorem v42 (v : Vl) (f : Ty) (t : Ty) (R : Value → Prop) : bodyR Try.prog G9 noL Try.f42 [Enc.enc v, Enc.enc f, Enc.enc t] (fun _ => none) 0 (fun v _ _ => R v) = (
    bif fits v f != 0 then
      R (Value.tuple (Array.mk [Value.agg (Array.mk [Value.int IntKind.i64 0, Value.string (ByteArray.mk #[])]), Value.int IntKind.i64 0, Value.int IntKind.i64 (fits v f)]))
    else
      bif check t != 0 then
        R (Value.tuple (Array.mk [Value.agg (Array.mk [Value.int IntKind.i64 0, Value.string (ByteArray.mk #[])]), Value.int IntKind.i64 0, Value.int IntKind.i64 (check t)]))
      else
        bif
            decide
              (-18 ≤ IntKind.wrap IntKind.i64 (Ty.q t - Ty.q f) ∧
                IntKind.wrap IntKind.i64 (Ty.q t - Ty.q f) ≤ 18 ∧ R64 (Vl.n v) ∧ R64 (scl (Vl.n v) (IntKind.wrap IntKind.i64 (Ty.q t - Ty.q f)))) then
          bif decide (Valid t) then
            bif !decide (InB (scl (Vl.n v) (IntKind.wrap IntKind.i64 (Ty.q t - Ty.q f))) t) then
              R
                (Value.tuple
                  (Array.mk
                    [Value.agg (Array.mk [Value.int IntKind.i64 (cutN (scl (Vl.n v) (IntKind.wrap IntKind.i64 (Ty.q t - Ty.q f))) t), Value.string (ByteArray.mk #[])]),
                      Value.int IntKind.i64 1, Value.int IntKind.i64 0]))
            else
              R
                (Value.tuple
                  (Array.mk
                    [Value.agg (Array.mk [Value.int IntKind.i64 (cutN (scl (Vl.n v) (IntKind.wrap IntKind.i64 (Ty.q t - Ty.q f))) t), Value.string (ByteArray.mk #[])]),
                      Value.int IntKind.i64 0, Value.int IntKind.i64 0]))
          else False
        else False) := by kernel_rfl
theorem ok42 : PureOK Try.prog 42 (sp3 s42) := by
  refine pure3 ok_G9 hmix fn42 lokf_none (Nat.le_of_ble_eq_true (by kernel_rfl)) fun v f t hc => ?_
  rw [Does, v42]
  by_cases ea : fits v f = 0
  · obtain ⟨va, fa⟩ := fits0.1 ea
    have ra := valid_r va
    have fa2 := fa.2
    have ba := bnd_range va
    by_cases vt : Valid t
    · have rb := valid_r vt
      have sa := scl_any (d := t.q - f.q) va fa.2 (by omega)
      try simp (disch := omega) only [w64]
      ((repeat' first | refine And.intro ?_ ?_ | refine cond_intro (fun h => ?_) (fun h => ?_)); all_goals grind (splits := 40) [s42, asN, asE, asC, cutC, fst2, check, e0, R64])
    · ((repeat' first | refine And.intro ?_ ?_ | refine cond_intro (fun h => ?_) (fun h => ?_)); all_goals grind (splits := 40) [s42, asN, asE, asC, cutC, fst2, check, e0, R64])
  · ((repeat' first | refine And.intro ?_ ?_ | refine cond_intro (fun h => ?_) (fun h => ?_)); all_goals grind (splits := 40) [s42, asN, asE, asC, cutC, fst2, check, e0, R64])

def G10 : Env := ((((((((((((G9.add 43 (sp3 s43)).add 44 (sp3 s44)).add 45 (sp2 s45)).add 46 (sp2 s46)).add 47 (sp2 s47)).add 48 (sp2 s48)).add 49 (sp2 s49)).add 50 (sp2 s50)).add 39 (sp4 s39)).add 40 (sp4 s40)).add 41 (sp3 s41)).add 42 (sp3 s42))
theorem ok_G10 : EnvOK Try.prog G10 := env_add (env_add (env_add (env_add (env_add (env_add (env_add (env_add (env_add (env_add (env_add (env_add (ok_G9) ok43) ok44) ok45) ok46) ok47) ok48) ok49) ok50) ok39) ok40) ok41) ok42

end Go.Fx
