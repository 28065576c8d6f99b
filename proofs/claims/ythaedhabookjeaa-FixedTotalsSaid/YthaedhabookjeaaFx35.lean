/-
  The law of sums.
-/
import Derived.Test.YthaedhabookjeaaFx34
set_option linter.unusedVariables false
set_option linter.unusedSimpArgs false
namespace Go.Fx
open Go Go.Ab Go.Proofs

theorem v8 (c : List Value) (ty : Nat) (off : Nat) (n : Nat) (cap : Nat) (t : Ty) (R : Value → Prop) : (bodyQ Try.prog G23 noL Try.f8 [sl0 off n cap, Enc.enc t] (vw c ty) 2 (fun v _ _ => R v)) = (
    bif decide ((↑n : Int) > 1000) then R (Value.bool true)
    else
      bif vlsOK c off n && decide (n ≤ 1000) then
        bif vlsOK c off n && decide (n ≤ 1000) then
          bif
              bif suN (vlsA c off n) t == suN (vlsA c off n) t && (ByteArray.toList e0 == ByteArray.toList e0 && true) then suC (vlsA c off n) t == suC (vlsA c off n) t || true
              else true then
            R
              (Value.bool
                (suN (vlsA c off n) t == suN (vlsA c off n) t && (ByteArray.toList e0 == ByteArray.toList e0 && true) &&
                  (suC (vlsA c off n) t == suC (vlsA c off n) t && suE (vlsA c off n) t == suE (vlsA c off n) t)))
          else False
        else False
      else False) := by kernel_rfl

theorem v8n (t : Ty) (R : Value → Prop) : (bodyQ Try.prog G23 noL Try.f8 [.slice none 0 0, Enc.enc t] (fun _ => none) 2 (fun v _ _ => R v)) = (
    bif bif suN [] t == suN [] t && (ByteArray.toList e0 == ByteArray.toList e0 && true) then suC [] t == suC [] t || true else true then
      R (Value.bool (suN [] t == suN [] t && (ByteArray.toList e0 == ByteArray.toList e0 && true) && (suC [] t == suC [] t && suE [] t == suE [] t)))
    else False) := by kernel_rfl

theorem k8 (c : List Value) (ty : Nat) (own : Bool) (off n cap : Nat) (t : Ty) (hc : vlsOK c off n = true) :
    DoesVQ Try.prog G23 noL Try.f8 [sl0 off n cap, Enc.enc t] [some ⟨c, ty, own⟩, none] 2 (B true) := by
  obtain ⟨hl, hpl, hat⟩ := vls_at hc
  rw [DoesVQ, vw_viewL hpl [none] (by simp), v8, hc]
  refine cond_intro (fun _ => rfl) (fun h => ?_)
  have h := of_decide_eq_false h
  have hn : decide (n ≤ 1000) = true := decide_eq_true (by omega)
  rw [hn]
  simp
theorem k8n (t : Ty) : DoesVQ Try.prog G23 noL Try.f8 [.slice none 0 0, Enc.enc t] [none, none] 2 (B true) := by
  rw [DoesVQ, viewL_none2, v8n]
  simp
def s8 : Ab.Spec := fun args bs => match args, bs with
  | [.slice (some ⟨_, off, some 1⟩) n cap, .agg ⟨[.int .i64 k, .int .i64 p, .int .i64 q, .bool v, .string s]⟩], [some ⟨c, ty, own⟩, none] => some (vlsOK c off n, B true)
  | [.slice none 0 0, .agg ⟨[.int .i64 k, .int .i64 p, .int .i64 q, .bool v, .string s]⟩], [none, none] => some (true, B true)
  | _, _ => none
theorem fn8 : Fn1 Try.prog 8 Try.f8 := ⟨Try.func8, by kernel_rfl, by kernel_rfl, by kernel_rfl⟩
theorem ok8 : PureOK Try.prog 8 s8 := by
  refine pure_viewQ ok_G23 hmix fn8 lokf_none fun args bs v hs => ?_
  simp only [s8] at hs
  split at hs
  · simp only [Option.some.injEq, Prod.mk.injEq] at hs
    obtain ⟨hc, rfl⟩ := hs
    exact ⟨_, 2, rfl, rfl, Nat.le_of_ble_eq_true (by kernel_rfl), k8 _ _ _ _ _ _ ⟨_, _, _, _, _⟩ hc⟩
  · simp only [Option.some.injEq, Prod.mk.injEq] at hs
    obtain ⟨hc, rfl⟩ := hs
    exact ⟨_, 2, rfl, rfl, Nat.le_of_ble_eq_true (by kernel_rfl), k8n ⟨_, _, _, _, _⟩⟩
  · cases hs

end Go.Fx
