/-
  The helpers of the laws.
-/
import Derived.Test.YthaedhabookjeaaFx11
set_option linter.unusedVariables false
set_option linter.unusedSimpArgs false
namespace Go.Fx
open Go Go.Ab Go.Proofs

def R63 (n : Int) : Prop := -9223372036854775807 ≤ n ∧ n ≤ 9223372036854775807
instance (n : Int) : Decidable (R63 n) := by unfold R63; infer_instance
def pwOK (b k : Int) : Prop := b = 10 ∧ k ≤ 18 ∨ b = 2 ∧ k ≤ 31
instance (b k : Int) : Decidable (pwOK b k) := by unfold pwOK; infer_instance

def s57 (n : Int) : Bool × Value := (decide (R63 n), I (max n (-n)))
theorem fn57 : Fn1 Try.prog 57 Try.f57 := ⟨Try.func57, by kernel_rfl, by kernel_rfl, by kernel_rfl⟩
theorem v57 (n : Int) (R : Value → Prop) : bodyR Try.prog G16 noL Try.f57 [Enc.enc n] (fun _ => none) 0 (fun v _ _ => R v) = (
    R (Value.int IntKind.i64 (imax n (IntKind.wrap IntKind.i64 (0 - n))))) := by kernel_rfl
theorem ok57 : PureOK Try.prog 57 (sp1 s57) := by
  refine pure1 ok_G16 hmix fn57 lokf_none (Nat.le_of_ble_eq_true (by kernel_rfl)) fun n hc => ?_
  rw [Does, v57]
  have hc : (R63 n) := of_decide_eq_true hc
  unfold R63 at hc
  simp only [imax_max, Int.zero_sub]
  rw [w64 (by omega)]
  rfl

def s56 (t : Ty) : Bool × Value := (true, I (most t.k))
theorem fn56 : Fn1 Try.prog 56 Try.f56 := ⟨Try.func56, by kernel_rfl, by kernel_rfl, by kernel_rfl⟩
theorem v56 (t : Ty) (R : Value → Prop) : bodyR Try.prog G16 noL Try.f56 [Enc.enc t] (fun _ => none) 0 (fun v _ _ => R v) = (
    bif Ty.k t == 1 then R (Value.int IntKind.i64 9) else R (Value.int IntKind.i64 31)) := by kernel_rfl
theorem ok56 : PureOK Try.prog 56 (sp1 s56) := by
  refine pure1 ok_G16 hmix fn56 lokf_none (Nat.le_of_ble_eq_true (by kernel_rfl)) fun t hc => ?_
  rw [Does, v56]
  repeat' first | refine And.intro ?_ ?_ | refine cond_intro (fun h => ?_) (fun h => ?_)
  all_goals grind (splits := 40) [s56, most]

def s59 (v : Vl) (t : Ty) : Bool × Value := (true, B (fits v t == 0))
theorem fn59 : Fn1 Try.prog 59 Try.f59 := ⟨Try.func59, by kernel_rfl, by kernel_rfl, by kernel_rfl⟩
theorem v59 (v : Vl) (t : Ty) (R : Value → Prop) : bodyR Try.prog G16 noL Try.f59 [Enc.enc v, Enc.enc t] (fun _ => none) 0 (fun v _ _ => R v) = (
    R (Value.bool (fits v t == 0))) := by kernel_rfl
theorem ok59 : PureOK Try.prog 59 (sp2 s59) := by
  refine pure2 ok_G16 hmix fn59 lokf_none (Nat.le_of_ble_eq_true (by kernel_rfl)) fun v t hc => ?_
  rw [Does, v59]
  repeat' first | refine And.intro ?_ ?_ | refine cond_intro (fun h => ?_) (fun h => ?_)
  all_goals grind (splits := 40) [s59]

def G17 : Env := (((G16.add 57 (sp1 s57)).add 56 (sp1 s56)).add 59 (sp2 s59))
theorem ok_G17 : EnvOK Try.prog G17 := env_add (env_add (env_add (ok_G16) ok57) ok56) ok59

def s53 (a : Vl) (ta : Ty) (b : Vl) (tb : Ty) : Bool × Value := (true, B (fits a ta == 0 && fits b tb == 0 && ta.k == tb.k))
theorem fn53 : Fn1 Try.prog 53 Try.f53 := ⟨Try.func53, by kernel_rfl, by kernel_rfl, by kernel_rfl⟩
theorem v53 (a : Vl) (ta : Ty) (b : Vl) (tb : Ty) (R : Value → Prop) : bodyR Try.prog G17 noL Try.f53 [Enc.enc a, Enc.enc ta, Enc.enc b, Enc.enc tb] (fun _ => none) 0 (fun v _ _ => R v) = (
    bif fits a ta == 0 then bif fits b tb == 0 then R (Value.bool (Ty.k ta == Ty.k tb)) else R (Value.bool false) else R (Value.bool false)) := by kernel_rfl
theorem ok53 : PureOK Try.prog 53 (sp4 s53) := by
  refine pure4 ok_G17 hmix fn53 lokf_none (Nat.le_of_ble_eq_true (by kernel_rfl)) fun a ta b tb hc => ?_
  rw [Does, v53]
  repeat' first | refine And.intro ?_ ?_ | refine cond_intro (fun h => ?_) (fun h => ?_)
  all_goals grind (splits := 40) [s53]

def s60 (op : Int) (a : Vl) (ta : Ty) (b : Vl) (tb : Ty) : Bool × Value := (true, tup [vv ⟨doN op a ta b tb, e0⟩, tv (resT op ta tb), B (resE op ta tb == 0 && doE op a ta b tb == 0 && doC op a ta b tb == 0)])
theorem fn60 : Fn1 Try.prog 60 Try.f60 := ⟨Try.func60, by kernel_rfl, by kernel_rfl, by kernel_rfl⟩
theorem v60 (op : Int) (a : Vl) (ta : Ty) (b : Vl) (tb : Ty) (R : Value → Prop) : bodyR Try.prog G17 noL Try.f60 [Enc.enc op, Enc.enc a, Enc.enc ta, Enc.enc b, Enc.enc tb] (fun _ => none) 0 (fun v _ _ => R v) = (
    bif resE op ta tb == 0 then
      bif doE op a ta b tb == 0 then
        R
          (Value.tuple
            (Array.mk
              [Value.agg (Array.mk [Value.int IntKind.i64 (doN op a ta b tb), Value.string e0]),
                Value.agg
                  (Array.mk
                    [Value.int IntKind.i64 (Ty.k (resT op ta tb)), Value.int IntKind.i64 (Ty.p (resT op ta tb)), Value.int IntKind.i64 (Ty.q (resT op ta tb)),
                      Value.bool (Ty.v (resT op ta tb)), Value.string (Ty.s (resT op ta tb))]),
                Value.bool (doC op a ta b tb == 0)]))
      else
        R
          (Value.tuple
            (Array.mk
              [Value.agg (Array.mk [Value.int IntKind.i64 (doN op a ta b tb), Value.string e0]),
                Value.agg
                  (Array.mk
                    [Value.int IntKind.i64 (Ty.k (resT op ta tb)), Value.int IntKind.i64 (Ty.p (resT op ta tb)), Value.int IntKind.i64 (Ty.q (resT op ta tb)),
                      Value.bool (Ty.v (resT op ta tb)), Value.string (Ty.s (resT op ta tb))]),
                Value.bool false]))
    else
      R
        (Value.tuple
          (Array.mk
            [Value.agg (Array.mk [Value.int IntKind.i64 (doN op a ta b tb), Value.string e0]),
              Value.agg
                (Array.mk
                  [Value.int IntKind.i64 (Ty.k (resT op ta tb)), Value.int IntKind.i64 (Ty.p (resT op ta tb)), Value.int IntKind.i64 (Ty.q (resT op ta tb)),
                    Value.bool (Ty.v (resT op ta tb)), Value.string (Ty.s (resT op ta tb))]),
              Value.bool false]))) := by kernel_rfl
theorem ok60 : PureOK Try.prog 60 (sp5 s60) := by
  refine pure5 ok_G17 hmix fn60 lokf_none (Nat.le_of_ble_eq_true (by kernel_rfl)) fun op a ta b tb hc => ?_
  rw [Does, v60]
  repeat' first | refine And.intro ?_ ?_ | refine cond_intro (fun h => ?_) (fun h => ?_)
  all_goals grind (splits := 40) [s60]

def s61 (a : Vl) (ta : Ty) (b : Vl) (tb : Ty) : Bool × Value := (true, B (cmE a ta b tb == 0 && cmN a ta b tb == 0))
theorem fn61 : Fn1 Try.prog 61 Try.f61 := ⟨Try.func61, by kernel_rfl, by kernel_rfl, by kernel_rfl⟩
theorem v61 (a : Vl) (ta : Ty) (b : Vl) (tb : Ty) (R : Value → Prop) : bodyR Try.prog G17 noL Try.f61 [Enc.enc a, Enc.enc ta, Enc.enc b, Enc.enc tb] (fun _ => none) 0 (fun v _ _ => R v) = (
    bif cmE a ta b tb == 0 then R (Value.bool (cmN a ta b tb == 0)) else R (Value.bool false)) := by kernel_rfl
theorem ok61 : PureOK Try.prog 61 (sp4 s61) := by
  refine pure4 ok_G17 hmix fn61 lokf_none (Nat.le_of_ble_eq_true (by kernel_rfl)) fun a ta b tb hc => ?_
  rw [Does, v61]
  repeat' first | refine And.intro ?_ ?_ | refine cond_intro (fun h => ?_) (fun h => ?_)
  all_goals grind (splits := 40) [s61]

def s62 (t : Ty) (u : Ty) : Bool × Value := (decide (Valid t ∧ Valid u), B (t.k == u.k && decide (u.q ≤ t.q) && decide (u.p - u.q ≤ t.p - t.q)))
theorem fn62 : Fn1 Try.prog 62 Try.f62 := ⟨Try.func62, by kernel_rfl, by kernel_rfl, by kernel_rfl⟩
theorem v62 (t : Ty) (u : Ty) (R : Value → Prop) : bodyR Try.prog G17 noL Try.f62 [Enc.enc t, Enc.enc u] (fun _ => none) 0 (fun v _ _ => R v) = (
    bif Ty.k t == Ty.k u then
      bif decide (Ty.q t ≥ Ty.q u) then R (Value.bool (decide (IntKind.wrap IntKind.i64 (Ty.p t - Ty.q t) ≥ IntKind.wrap IntKind.i64 (Ty.p u - Ty.q u)))) else R (Value.bool false)
    else R (Value.bool false)) := by kernel_rfl
theorem ok62 : PureOK Try.prog 62 (sp2 s62) := by
  refine pure2 ok_G17 hmix fn62 lokf_none (Nat.le_of_ble_eq_true (by kernel_rfl)) fun t u hc => ?_
  rw [Does, v62]
  have hc : (Valid t ∧ Valid u) := of_decide_eq_true hc
  have rt := valid_r hc.1
  have ru := valid_r hc.2
  try simp (disch := omega) only [w64]
  repeat' first | refine And.intro ?_ ?_ | refine cond_intro (fun h => ?_) (fun h => ?_)
  all_goals grind (splits := 40) [s62]

def V54_0 : Int × Int × Int × Int × Int → List Value := fun (b, k, x, m, i) => [I b, I k, I x, I m, I i]
def B54_0 : Int × Int × Int × Int × Int → List (Option Blk) := fun _ => []
def S54_0 : LSpec (Int × Int × Int × Int × Int) where
  live := [0, 1, 5, 7, 8]
  mid := []
  n := 60
  dec vs bs := match vs, bs with | [.int .i64 b, .int .i64 k, .int .i64 x, .int .i64 m, .int .i64 i], [] => some (b, k, x, m, i) | _, _ => none
  pre := fun (b, k, x, m, i) => decide (0 ≤ i ∧ i ≤ max m 0 ∧ m ≤ 31) && x == IntKind.i64.wrap (pw b i)
  fin := fun (b, k, x, m, i) Z => Z (.exit 0) [I b, I k, I (IntKind.i64.wrap (pw b m)), I m, I (max m 0)] []
theorem r54_0 (b : Int) (k : Int) (x : Int) (m : Int) (i : Int) (y : Tmps) (R : Exit → List Value → List (Option Blk) → Prop) : (codeR Try.prog G17 noL Try.f54.ntmps (loopOf Try.f54 0) (tl [0, 1, 5, 7, 8] [I b, I k, I x, I m, I i] y) (ml [] []) 60 fun e t' m' _ => R e (List.map t' [0, 1, 5, 7, 8]) (List.map m' [])) = (
    bif decide (i < m) then
      R Exit.normal
        [Value.int IntKind.i64 b, Value.int IntKind.i64 k, Value.int IntKind.i64 (IntKind.wrap IntKind.i64 (x * b)), Value.int IntKind.i64 m,
          Value.int IntKind.i64 (IntKind.wrap IntKind.i64 (i + 1))]
        []
    else R (Exit.exit 0) [Value.int IntKind.i64 b, Value.int IntKind.i64 k, Value.int IntKind.i64 x, Value.int IntKind.i64 m, Value.int IntKind.i64 i] []) := by kernel_rfl
theorem l54_0 : LOKf Try.prog (oneL 0 S54_0.h) Try.f54 := by
  refine lokf_one (by kernel_rfl) (loop_spec ok_G17 hmix (by kernel_rfl) (lok_none _) S54_0 V54_0 B54_0 (fun (b, k, x, m, i) => (m - i).toNat) ?_ ?_ ?_)
  · intro vs bs s h
    simp only [S54_0] at h
    split at h
    · cases h
      exact ⟨rfl, rfl⟩
    · cases h
  · exact fun _ _ _ _ => rfl
  · intro ⟨b, k, x, m, i⟩ y Z hp hf
    refine (r54_0 b k x m i y _).mpr ?_
    simp only [S54_0] at hp hf
    repeat' first | refine And.intro ?_ ?_ | refine cond_intro (fun h => ?_) (fun h => ?_)
    · have h := of_decide_eq_true h
      simp only [Bool.and_eq_true, decide_eq_true_eq, beq_iff_eq] at hp
      have hw : IntKind.i64.wrap (i + 1) = i + 1 := w64 (by omega)
      refine ⟨(b, k, IntKind.i64.wrap (x * b), m, i + 1), by rw [hw]; rfl, rfl, ?_, by simp only; omega, hf⟩
      simp only [S54_0, Bool.and_eq_true, decide_eq_true_eq, beq_iff_eq]
      exact ⟨by omega, by rw [hp.2, wrap_mul, pw_succ b hp.1.1]⟩
    · have h := of_decide_eq_false h
      simp only [Bool.and_eq_true, decide_eq_true_eq, beq_iff_eq] at hp
      show Z _ _ _
      obtain rfl : i = max m 0 := by omega
      rw [hp.2]
      rcases Int.le_total m 0 with hk | hk
      · rw [show max m 0 = 0 by omega] at hp ⊢
        rw [pw_zero b hk, ← pw_zero b (Int.le_refl 0)] at hf
        rw [show max m 0 = 0 by omega] at hf
        exact hf
      · rw [show max m 0 = m by omega] at hf ⊢
        exact hf

def s54 (b : Int) (k : Int) : Bool × Value := (decide (pwOK b k), I (pw b k))
theorem fn54 : Fn1 Try.prog 54 Try.f54 := ⟨Try.func54, by kernel_rfl, by kernel_rfl, by kernel_rfl⟩
theorem v54 (b : Int) (k : Int) (R : Value → Prop) : bodyR Try.prog G17 (oneL 0 S54_0.h) Try.f54 [Enc.enc b, Enc.enc k] (fun _ => none) 0 (fun v _ _ => R v) = (
    bif LSpec.pre S54_0 (b, k, 1, imin k 31, 0) then ∀ (x : Tmps), R (Value.int IntKind.i64 (IntKind.wrap IntKind.i64 (pw b (imin k 31)))) else False) := by kernel_rfl
theorem ok54 : PureOK Try.prog 54 (sp2 s54) := by
  refine pure2 ok_G17 hmix fn54 l54_0 (Nat.le_of_ble_eq_true (by kernel_rfl)) fun b k hc => ?_
  rw [Does, v54]
  have hc : (pwOK b k) := of_decide_eq_true hc
  unfold pwOK at hc
  rw [imin_min, show min k 31 = k by omega, pw_w64 (by omega)]
  refine cond_intro (fun _ _ => rfl) (fun h => ?_)
  have h1 : IntKind.i64.wrap (pw b 0) = 1 := by rw [pw_zero b (Int.le_refl 0)]; rfl
  simp only [S54_0, h1, Bool.and_eq_false_iff, decide_eq_false_iff_not, beq_eq_false_iff_ne] at h
  omega

def G18 : Env := (((((G17.add 53 (sp4 s53)).add 60 (sp5 s60)).add 61 (sp4 s61)).add 62 (sp2 s62)).add 54 (sp2 s54))
theorem ok_G18 : EnvOK Try.prog G18 := env_add (env_add (env_add (env_add (env_add (ok_G17) ok53) ok60) ok61) ok62) ok54

def s58 (t : Ty) (p : Int) : Bool × Value := (decide (p ≤ t.p ∧ Valid t ∨ p = most t.k), I (pw (base t.k) p))
theorem fn58 : Fn1 Try.prog 58 Try.f58 := ⟨Try.func58, by kernel_rfl, by kernel_rfl, by kernel_rfl⟩
theorem v58 (t : Ty) (p : Int) (R : Value → Prop) : bodyR Try.prog G18 noL Try.f58 [Enc.enc t, Enc.enc p] (fun _ => none) 0 (fun v _ _ => R v) = (
    bif Ty.k t == 1 then bif decide (pwOK 10 p) then R (Value.int IntKind.i64 (pw 10 p)) else False else bif decide (pwOK 2 p) then R (Value.int IntKind.i64 (pw 2 p)) else False) := by kernel_rfl
theorem ok58 : PureOK Try.prog 58 (sp2 s58) := by
  refine pure2 ok_G18 hmix fn58 lokf_none (Nat.le_of_ble_eq_true (by kernel_rfl)) fun t p hc => ?_
  rw [Does, v58]
  have hc : (p ≤ t.p ∧ Valid t ∨ p = most t.k) := of_decide_eq_true hc
  repeat' first | refine And.intro ?_ ?_ | refine cond_intro (fun h => ?_) (fun h => ?_)
  all_goals grind (splits := 40) [s58, base, Valid, most, pwOK]

def G19 : Env := (G18.add 58 (sp2 s58))
theorem ok_G19 : EnvOK Try.prog G19 := env_add (ok_G18) ok58

end Go.Fx
