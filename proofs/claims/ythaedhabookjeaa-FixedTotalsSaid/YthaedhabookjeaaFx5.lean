/-
  The middle functions.
-/
import Derived.Test.YthaedhabookjeaaFx4
set_option linter.unusedVariables false
set_option linter.unusedSimpArgs false
namespace Go.Fx
open Go Go.Ab Go.Proofs

def G2 : Env := ((G1.add 21 (sp1 s21)).add 22 (sp1 s22)).add 99 (sp2 s99)

theorem ok_G2 : EnvOK Try.prog G2 := env_add (env_add (env_add ok_G1 ok21) ok22) ok99

def s74 (t : Ty) : Bool × Value := (decide (Valid t), I (bnd t))
theorem fn74 : Fn1 Try.prog 74 Try.f74 := ⟨Try.func74, by kernel_rfl, by kernel_rfl, by kernel_rfl⟩
theorem v74 (t : Ty) (R : Value → Prop) : bodyR Try.prog G2 noL Try.f74 [Enc.enc t] (fun _ => none) 0 (fun v _ _ => R v) = (
    bif Ty.k t == 1 then
      bif decide (0 ≤ Ty.p t ∧ Ty.p t < 19) && isIntAt IntKind.i64 tensL (Int.toNat (Ty.p t)) then R (Value.int IntKind.i64 (intAt tensL (Int.toNat (Ty.p t)))) else False
    else bif decide (0 ≤ Ty.p t) then R (Value.int IntKind.i64 (IntKind.wrap IntKind.i64 (1 * 2 ^ min (Int.toNat (Ty.p t)) 64))) else False) := by kernel_rfl
theorem ok74 : PureOK Try.prog 74 (sp1 s74) := by
  refine pure1 ok_G2 hmix fn74 lokf_none (Nat.le_of_ble_eq_true (by kernel_rfl)) fun t hc => ?_
  rw [Does, v74]
  have hc : (Valid t) := of_decide_eq_true hc
  repeat' refine cond_intro (fun h => ?_) (fun h => ?_)
  all_goals grind [s74, bnd, base, Valid, tens_at, shl_pw, most]

def s75 (t : Ty) : Bool × Value := (decide (Valid t), I (bnd t))
theorem fn75 : Fn1 Try.prog 75 Try.f75 := ⟨Try.func75, by kernel_rfl, by kernel_rfl, by kernel_rfl⟩
theorem v75 (t : Ty) (R : Value → Prop) : bodyR Try.prog G2 noL Try.f75 [Enc.enc t] (fun _ => none) 0 (fun v _ _ => R v) = (
    bif decide (Ty.p t ≤ 1000) then R (Value.int IntKind.i64 (IntKind.wrap IntKind.i64 (pw (base (Ty.k t)) (Ty.p t)))) else False) := by kernel_rfl
theorem ok75 : PureOK Try.prog 75 (sp1 s75) := by
  refine pure1 ok_G2 hmix fn75 lokf_none (Nat.le_of_ble_eq_true (by kernel_rfl)) fun t hc => ?_
  rw [Does, v75]
  have hc : (Valid t) := of_decide_eq_true hc
  repeat' refine cond_intro (fun h => ?_) (fun h => ?_)
  all_goals grind [s75, s99, bnd, base, Valid, pw_w64, most]

def s77 : Ab.Spec := fun args bs => match args, bs with
  | [.slice (some ⟨_, 0, some 1⟩) 2 cap], [some ⟨[.int .i64 x, .int .i64 y], ty, own⟩] => some (true, I (fst2 x y))
  | [.slice (some ⟨_, 0, some 1⟩) 3 cap], [some ⟨[.int .i64 x, .int .i64 y, .int .i64 z], ty, own⟩] => some (true, I (fst3 x y z))
  | [.slice (some ⟨_, 0, some 1⟩) 4 cap], [some ⟨[.int .i64 x, .int .i64 y, .int .i64 z, .int .i64 w], ty, own⟩] => some (true, I (fst4 x y z w))
  | _, _ => none
theorem fn77 : Fn1 Try.prog 77 Try.f77 := ⟨Try.func77, by kernel_rfl, by kernel_rfl, by kernel_rfl⟩
theorem v77_0 (x : Int) (y : Int) (cap : Nat) (ty : TypeId) (own : Bool) (R : Value → Prop) : bodyR Try.prog G2 noL Try.f77 [.slice (some ⟨0, 0, some 1⟩) 2 cap] (viewL [some ⟨[I x, I y], ty, own⟩]) 1 (fun v _ _ => R v) = (
    bif x != 0 then R (Value.int IntKind.i64 x) else bif y != 0 then R (Value.int IntKind.i64 y) else R (Value.int IntKind.i64 0)) := by kernel_rfl
theorem v77_1 (x : Int) (y : Int) (z : Int) (cap : Nat) (ty : TypeId) (own : Bool) (R : Value → Prop) : bodyR Try.prog G2 noL Try.f77 [.slice (some ⟨0, 0, some 1⟩) 3 cap] (viewL [some ⟨[I x, I y, I z], ty, own⟩]) 1 (fun v _ _ => R v) = (
    bif x != 0 then R (Value.int IntKind.i64 x) else bif y != 0 then R (Value.int IntKind.i64 y) else bif z != 0 then R (Value.int IntKind.i64 z) else R (Value.int IntKind.i64 0)) := by kernel_rfl
theorem v77_2 (x : Int) (y : Int) (z : Int) (w : Int) (cap : Nat) (ty : TypeId) (own : Bool) (R : Value → Prop) : bodyR Try.prog G2 noL Try.f77 [.slice (some ⟨0, 0, some 1⟩) 4 cap] (viewL [some ⟨[I x, I y, I z, I w], ty, own⟩]) 1 (fun v _ _ => R v) = (
    bif x != 0 then R (Value.int IntKind.i64 x)
    else bif y != 0 then R (Value.int IntKind.i64 y) else bif z != 0 then R (Value.int IntKind.i64 z) else bif w != 0 then R (Value.int IntKind.i64 w) else R (Value.int IntKind.i64 0)) := by kernel_rfl
theorem k77_0 (x : Int) (y : Int) (cap : Nat) (ty : TypeId) (own : Bool) (hc : (true) = true) : DoesV Try.prog G2 noL Try.f77 [.slice (some ⟨0, 0, some 1⟩) 2 cap] [some ⟨[I x, I y], ty, own⟩] 1 (I (fst2 x y)) := by
  rw [DoesV, v77_0]
  repeat' refine cond_intro (fun h => ?_) (fun h => ?_)
  all_goals grind [fst2]
theorem k77_1 (x : Int) (y : Int) (z : Int) (cap : Nat) (ty : TypeId) (own : Bool) (hc : (true) = true) : DoesV Try.prog G2 noL Try.f77 [.slice (some ⟨0, 0, some 1⟩) 3 cap] [some ⟨[I x, I y, I z], ty, own⟩] 1 (I (fst3 x y z)) := by
  rw [DoesV, v77_1]
  repeat' refine cond_intro (fun h => ?_) (fun h => ?_)
  all_goals grind [fst3]
theorem k77_2 (x : Int) (y : Int) (z : Int) (w : Int) (cap : Nat) (ty : TypeId) (own : Bool) (hc : (true) = true) : DoesV Try.prog G2 noL Try.f77 [.slice (some ⟨0, 0, some 1⟩) 4 cap] [some ⟨[I x, I y, I z, I w], ty, own⟩] 1 (I (fst4 x y z w)) := by
  rw [DoesV, v77_2]
  repeat' refine cond_intro (fun h => ?_) (fun h => ?_)
  all_goals grind [fst4]
theorem ok77 : PureOK Try.prog 77 s77 := by
  refine pure_view ok_G2 hmix fn77 lokf_none fun args bs v hs => ?_
  simp only [s77] at hs
  split at hs
  · simp only [Option.some.injEq, Prod.mk.injEq] at hs
    obtain ⟨hc, rfl⟩ := hs
    exact ⟨_, 1, rfl, rfl, Nat.le_of_ble_eq_true (by kernel_rfl), k77_0 _ _ _ _ _ (by first | rfl | exact hc)⟩
  · simp only [Option.some.injEq, Prod.mk.injEq] at hs
    obtain ⟨hc, rfl⟩ := hs
    exact ⟨_, 1, rfl, rfl, Nat.le_of_ble_eq_true (by kernel_rfl), k77_1 _ _ _ _ _ _ (by first | rfl | exact hc)⟩
  · simp only [Option.some.injEq, Prod.mk.injEq] at hs
    obtain ⟨hc, rfl⟩ := hs
    exact ⟨_, 1, rfl, rfl, Nat.le_of_ble_eq_true (by kernel_rfl), k77_2 _ _ _ _ _ _ _ (by first | rfl | exact hc)⟩
  · cases hs

def s78 : Ab.Spec := fun args bs => match args, bs with
  | [.agg ⟨[.int .i64 tK, .int .i64 tP, .int .i64 tQ, .bool tV, .string tS]⟩, .slice (some ⟨_, 0, some 1⟩) 1 cap], [none, some ⟨[.int .i64 aK, .int .i64 aP, .int .i64 aQ, .bool aV, .string aS], ty, own⟩] => some (true, I (same1 ⟨tK, tP, tQ, tV, tS⟩ ⟨aK, aP, aQ, aV, aS⟩))
  | [.agg ⟨[.int .i64 tK, .int .i64 tP, .int .i64 tQ, .bool tV, .string tS]⟩, .slice (some ⟨_, 0, some 1⟩) 2 cap], [none, some ⟨[.int .i64 aK, .int .i64 aP, .int .i64 aQ, .bool aV, .string aS, .int .i64 bK, .int .i64 bP, .int .i64 bQ, .bool bV, .string bS], ty, own⟩] => some (true, I (same2 ⟨tK, tP, tQ, tV, tS⟩ ⟨aK, aP, aQ, aV, aS⟩ ⟨bK, bP, bQ, bV, bS⟩))
  | _, _ => none
theorem fn78 : Fn1 Try.prog 78 Try.f78 := ⟨Try.func78, by kernel_rfl, by kernel_rfl, by kernel_rfl⟩
theorem v78_0 (tK : Int) (tP : Int) (tQ : Int) (tV : Bool) (tS : ByteArray) (aK : Int) (aP : Int) (aQ : Int) (aV : Bool) (aS : ByteArray) (cap : Nat) (ty : TypeId) (own : Bool) (R : Value → Prop) : bodyR Try.prog G2 noL Try.f78 [.agg ⟨[I tK, I tP, I tQ, B tV, .string tS]⟩, .slice (some ⟨1, 0, some 1⟩) 1 cap] (viewL [none, some ⟨[I aK, I aP, I aQ, B aV, .string aS], ty, own⟩]) 2 (fun v _ _ => R v) = (
    bif aK != tK then R (Value.int IntKind.i64 5) else R (Value.int IntKind.i64 0)) := by kernel_rfl
theorem v78_1 (tK : Int) (tP : Int) (tQ : Int) (tV : Bool) (tS : ByteArray) (aK : Int) (aP : Int) (aQ : Int) (aV : Bool) (aS : ByteArray) (bK : Int) (bP : Int) (bQ : Int) (bV : Bool) (bS : ByteArray) (cap : Nat) (ty : TypeId) (own : Bool) (R : Value → Prop) : bodyR Try.prog G2 noL Try.f78 [.agg ⟨[I tK, I tP, I tQ, B tV, .string tS]⟩, .slice (some ⟨1, 0, some 1⟩) 2 cap] (viewL [none, some ⟨[I aK, I aP, I aQ, B aV, .string aS, I bK, I bP, I bQ, B bV, .string bS], ty, own⟩]) 2 (fun v _ _ => R v) = (
    bif aK != tK then R (Value.int IntKind.i64 5) else bif bK != tK then R (Value.int IntKind.i64 5) else R (Value.int IntKind.i64 0)) := by kernel_rfl
theorem k78_0 (tK : Int) (tP : Int) (tQ : Int) (tV : Bool) (tS : ByteArray) (aK : Int) (aP : Int) (aQ : Int) (aV : Bool) (aS : ByteArray) (cap : Nat) (ty : TypeId) (own : Bool) (hc : (true) = true) : DoesV Try.prog G2 noL Try.f78 [.agg ⟨[I tK, I tP, I tQ, B tV, .string tS]⟩, .slice (some ⟨1, 0, some 1⟩) 1 cap] [none, some ⟨[I aK, I aP, I aQ, B aV, .string aS], ty, own⟩] 2 (I (same1 ⟨tK, tP, tQ, tV, tS⟩ ⟨aK, aP, aQ, aV, aS⟩)) := by
  rw [DoesV, v78_0]
  repeat' refine cond_intro (fun h => ?_) (fun h => ?_)
  all_goals grind [same1]
theorem k78_1 (tK : Int) (tP : Int) (tQ : Int) (tV : Bool) (tS : ByteArray) (aK : Int) (aP : Int) (aQ : Int) (aV : Bool) (aS : ByteArray) (bK : Int) (bP : Int) (bQ : Int) (bV : Bool) (bS : ByteArray) (cap : Nat) (ty : TypeId) (own : Bool) (hc : (true) = true) : DoesV Try.prog G2 noL Try.f78 [.agg ⟨[I tK, I tP, I tQ, B tV, .string tS]⟩, .slice (some ⟨1, 0, some 1⟩) 2 cap] [none, some ⟨[I aK, I aP, I aQ, B aV, .string aS, I bK, I bP, I bQ, B bV, .string bS], ty, own⟩] 2 (I (same2 ⟨tK, tP, tQ, tV, tS⟩ ⟨aK, aP, aQ, aV, aS⟩ ⟨bK, bP, bQ, bV, bS⟩)) := by
  rw [DoesV, v78_1]
  repeat' refine cond_intro (fun h => ?_) (fun h => ?_)
  all_goals grind [same2]
theorem ok78 : PureOK Try.prog 78 s78 := by
  refine pure_view ok_G2 hmix fn78 lokf_none fun args bs v hs => ?_
  simp only [s78] at hs
  split at hs
  · simp only [Option.some.injEq, Prod.mk.injEq] at hs
    obtain ⟨hc, rfl⟩ := hs
    exact ⟨_, 2, rfl, rfl, Nat.le_of_ble_eq_true (by kernel_rfl), k78_0 _ _ _ _ _ _ _ _ _ _ _ _ _ (by first | rfl | exact hc)⟩
  · simp only [Option.some.injEq, Prod.mk.injEq] at hs
    obtain ⟨hc, rfl⟩ := hs
    exact ⟨_, 2, rfl, rfl, Nat.le_of_ble_eq_true (by kernel_rfl), k78_1 _ _ _ _ _ _ _ _ _ _ _ _ _ _ _ _ _ _ (by first | rfl | exact hc)⟩
  · cases hs

def s107 (op : Int) (a : Ty) (b : Ty) : Bool × Value := (decide (Valid a ∧ Valid b), I (resQ op a b))
theorem fn107 : Fn1 Try.prog 107 Try.f107 := ⟨Try.func107, by kernel_rfl, by kernel_rfl, by kernel_rfl⟩
theorem v107 (op : Int) (a : Ty) (b : Ty) (R : Value → Prop) : bodyR Try.prog G2 noL Try.f107 [Enc.enc op, Enc.enc a, Enc.enc b] (fun _ => none) 0 (fun v _ _ => R v) = (
    bif Ty.k a == 2 then R (Value.int IntKind.i64 0)
    else
      bif op == 5 then R (Value.int IntKind.i64 (Ty.q a))
      else
        bif op == 11 then R (Value.int IntKind.i64 (Ty.q a))
        else
          bif op == 8 then R (Value.int IntKind.i64 (imin 9 (IntKind.wrap IntKind.i64 (Ty.q a + Ty.q b))))
          else
            bif op == 9 then R (Value.int IntKind.i64 (imax 0 (IntKind.wrap IntKind.i64 (IntKind.wrap IntKind.i64 (9 - IntKind.wrap IntKind.i64 (Ty.p a - Ty.q a)) - Ty.q b))))
            else R (Value.int IntKind.i64 (imax (Ty.q a) (Ty.q b)))) := by kernel_rfl
theorem ok107 : PureOK Try.prog 107 (sp3 s107) := by
  refine pure3 ok_G2 hmix fn107 lokf_none (Nat.le_of_ble_eq_true (by kernel_rfl)) fun op a b hc => ?_
  rw [Does, v107]
  have hc : (Valid a ∧ Valid b) := of_decide_eq_true hc
  repeat' refine cond_intro (fun h => ?_) (fun h => ?_)
  all_goals grind [s107, resQ, Valid, most, IntKind.wrap_i64, imin, imax]

def s106 (op : Int) (a : Ty) (b : Ty) : Bool × Value := (decide (Valid a ∧ Valid b), I (resD op a b))
theorem fn106 : Fn1 Try.prog 106 Try.f106 := ⟨Try.func106, by kernel_rfl, by kernel_rfl, by kernel_rfl⟩
theorem v106 (op : Int) (a : Ty) (b : Ty) (R : Value → Prop) : bodyR Try.prog G2 noL Try.f106 [Enc.enc op, Enc.enc a, Enc.enc b] (fun _ => none) 0 (fun v _ _ => R v) = (
    bif op == 5 then R (Value.int IntKind.i64 (Ty.p a))
    else
      bif op == 11 then R (Value.int IntKind.i64 (Ty.p a))
      else
        bif op == 8 then R (Value.int IntKind.i64 (IntKind.wrap IntKind.i64 (IntKind.wrap IntKind.i64 (1 + Ty.p a) + Ty.p b)))
        else
          bif op == 9 then R (Value.int IntKind.i64 (most (Ty.k a)))
          else
            bif op == 10 then R (Value.int IntKind.i64 (IntKind.wrap IntKind.i64 (IntKind.wrap IntKind.i64 (Ty.p b - Ty.q b) + imax (Ty.q a) (Ty.q b))))
            else
              bif op == 12 then
                R
                  (Value.int IntKind.i64
                    (IntKind.wrap IntKind.i64 (imax (IntKind.wrap IntKind.i64 (Ty.p a - Ty.q a)) (IntKind.wrap IntKind.i64 (Ty.p b - Ty.q b)) + imax (Ty.q a) (Ty.q b))))
              else
                bif op == 13 then
                  R
                    (Value.int IntKind.i64
                      (IntKind.wrap IntKind.i64 (imax (IntKind.wrap IntKind.i64 (Ty.p a - Ty.q a)) (IntKind.wrap IntKind.i64 (Ty.p b - Ty.q b)) + imax (Ty.q a) (Ty.q b))))
                else
                  R
                    (Value.int IntKind.i64
                      (IntKind.wrap IntKind.i64
                        (IntKind.wrap IntKind.i64 (1 + imax (IntKind.wrap IntKind.i64 (Ty.p a - Ty.q a)) (IntKind.wrap IntKind.i64 (Ty.p b - Ty.q b))) + imax (Ty.q a) (Ty.q b))))) := by kernel_rfl
theorem ok106 : PureOK Try.prog 106 (sp3 s106) := by
  refine pure3 ok_G2 hmix fn106 lokf_none (Nat.le_of_ble_eq_true (by kernel_rfl)) fun op a b hc => ?_
  rw [Does, v106]
  have hc : (Valid a ∧ Valid b) := of_decide_eq_true hc
  repeat' refine cond_intro (fun h => ?_) (fun h => ?_)
  all_goals grind [s106, s84, resD, Valid, most, IntKind.wrap_i64, imin, imax]

def s83 (x : Int) (lo : Int) (hi : Int) : Bool × Value := (true, I (max lo (min x hi)))
theorem fn83 : Fn1 Try.prog 83 Try.f83 := ⟨Try.func83, by kernel_rfl, by kernel_rfl, by kernel_rfl⟩
theorem v83 (x : Int) (lo : Int) (hi : Int) (R : Value → Prop) : bodyR Try.prog G2 noL Try.f83 [Enc.enc x, Enc.enc lo, Enc.enc hi] (fun _ => none) 0 (fun v _ _ => R v) = (
    R (Value.int IntKind.i64 (imax lo (imin x hi)))) := by kernel_rfl
theorem ok83 : PureOK Try.prog 83 (sp3 s83) := by
  refine pure3 ok_G2 hmix fn83 lokf_none (Nat.le_of_ble_eq_true (by kernel_rfl)) fun x lo hi hc => ?_
  rw [Does, v83]
  repeat' refine cond_intro (fun h => ?_) (fun h => ?_)
  all_goals grind [s83, imin, imax]

def s101 (unit : Int) : Bool × Value := (decide (1 ≤ unit ∧ unit ≤ 1000000000000000000), I (unit - 1))
theorem fn101 : Fn1 Try.prog 101 Try.f101 := ⟨Try.func101, by kernel_rfl, by kernel_rfl, by kernel_rfl⟩
theorem v101 (unit : Int) (R : Value → Prop) : bodyR Try.prog G2 noL Try.f101 [Enc.enc unit] (fun _ => none) 0 (fun v _ _ => R v) = (
    R (Value.int IntKind.i64 (IntKind.wrap IntKind.i64 (unit - 1)))) := by kernel_rfl
theorem ok101 : PureOK Try.prog 101 (sp1 s101) := by
  refine pure1 ok_G2 hmix fn101 lokf_none (Nat.le_of_ble_eq_true (by kernel_rfl)) fun unit hc => ?_
  rw [Does, v101]
  have hc : (1 ≤ unit ∧ unit ≤ 1000000000000000000) := of_decide_eq_true hc
  repeat' refine cond_intro (fun h => ?_) (fun h => ?_)
  all_goals grind [s101, IntKind.wrap_i64, imin, imax]

def s102 (unit : Int) : Bool × Value := (true, I 0)
theorem fn102 : Fn1 Try.prog 102 Try.f102 := ⟨Try.func102, by kernel_rfl, by kernel_rfl, by kernel_rfl⟩
theorem v102 (unit : Int) (R : Value → Prop) : bodyR Try.prog G2 noL Try.f102 [Enc.enc unit] (fun _ => none) 0 (fun v _ _ => R v) = (
    R (Value.int IntKind.i64 0)) := by kernel_rfl
theorem ok102 : PureOK Try.prog 102 (sp1 s102) := by
  refine pure1 ok_G2 hmix fn102 lokf_none (Nat.le_of_ble_eq_true (by kernel_rfl)) fun unit hc => ?_
  rw [Does, v102]
  repeat' refine cond_intro (fun h => ?_) (fun h => ?_)
  all_goals grind [s102]

def s108 (x : Int) : Bool × Value := (true, B false)
theorem fn108 : Fn1 Try.prog 108 Try.f108 := ⟨Try.func108, by kernel_rfl, by kernel_rfl, by kernel_rfl⟩
theorem v108 (x : Int) (R : Value → Prop) : bodyR Try.prog G2 noL Try.f108 [Enc.enc x] (fun _ => none) 0 (fun v _ _ => R v) = (
    R (Value.bool (x != x))) := by kernel_rfl
theorem ok108 : PureOK Try.prog 108 (sp1 s108) := by
  refine pure1 ok_G2 hmix fn108 lokf_none (Nat.le_of_ble_eq_true (by kernel_rfl)) fun x hc => ?_
  rw [Does, v108]
  repeat' refine cond_intro (fun h => ?_) (fun h => ?_)
  all_goals grind [s108]

def G3 : Env := ((((((((((G2.add 74 (sp1 s74)).add 75 (sp1 s75)).add 77 s77).add 78 s78).add 107 (sp3 s107)).add 106 (sp3 s106)).add 83 (sp3 s83)).add 101 (sp1 s101)).add 102 (sp1 s102)).add 108 (sp1 s108))
theorem ok_G3 : EnvOK Try.prog G3 := env_add (env_add (env_add (env_add (env_add (env_add (env_add (env_add (env_add (env_add (ok_G2) ok74) ok75) ok77) ok78) ok107) ok106) ok83) ok101) ok102) ok108

end Go.Fx
