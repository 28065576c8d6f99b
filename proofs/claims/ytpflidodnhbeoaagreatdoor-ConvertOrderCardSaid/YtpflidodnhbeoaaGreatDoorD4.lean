/-
  The run and the laws that serve these rows (part 4)
-/
import Derived.Test.YtpflidodnhbeoaaGreatDoorD3
set_option linter.unusedVariables false
set_option linter.unusedSimpArgs false
noncomputable section
set_option maxRecDepth 100000
set_option maxHeartbeats 3200000
namespace Go.Cs
open Go Go.Ab Go.Proofs Go.Px Go.Cx
def A1 : Env := B29.add 152 (sp1 Cx.s152)
theorem ok_A1 : EnvOK Tryz.prog A1 := env_add ok_B29 (pureC Cx.ok152)
def A2 : Env := A1.add 213 (sp1 Cx.s213)
theorem ok_A2 : EnvOK Tryz.prog A2 := env_add ok_A1 (pureC Cx.ok213)
def A3 : Env := A2.add 141 (sp1 Cx.s141)
theorem ok_A3 : EnvOK Tryz.prog A3 := env_add ok_A2 (pureC Cx.ok141)
def A4 : Env := A3.add 66 (sp1 Cx.s66)
theorem ok_A4 : EnvOK Tryz.prog A4 := env_add ok_A3 (pureC Cx.ok66)
def A5 : Env := A4.add 85 (sp1 Cx.s85)
theorem ok_A5 : EnvOK Tryz.prog A5 := env_add ok_A4 (pureC Cx.ok85)
theorem fn20 : Fn1 Tryz.prog 20 Tryz.f20 := ⟨Tryz.func20, by kernel_rfl, by kernel_rfl, by kernel_rfl⟩
def m20 : List (List Value × Value) := [([.agg ⟨[.int .i64 1, .int .i64 4, .int .i64 2, .bool false, .string ⟨#[]⟩]⟩], .int .i64 0), ([.agg ⟨[.int .i64 3, .int .i64 3, .int .i64 0, .bool false, .string ⟨#[]⟩]⟩], .int .i64 0), ([.agg ⟨[.int .i64 1, .int .i64 3, .int .i64 0, .bool false, .string ⟨#[]⟩]⟩], .int .i64 0), ([.agg ⟨[.int .i64 2, .int .i64 15, .int .i64 0, .bool false, .string ⟨#[]⟩]⟩], .int .i64 0), ([.agg ⟨[.int .i64 4, .int .i64 1, .int .i64 0, .bool false, .string ⟨#[]⟩]⟩], .int .i64 0), ([.agg ⟨[.int .i64 4, .int .i64 3, .int .i64 0, .bool false, .string ⟨#[]⟩]⟩], .int .i64 0), ([.agg ⟨[.int .i64 3, .int .i64 5, .int .i64 0, .bool false, .string ⟨#[]⟩]⟩], .int .i64 0), ([.agg ⟨[.int .i64 1, .int .i64 3, .int .i64 1, .bool false, .string ⟨#[]⟩]⟩], .int .i64 0), ([.agg ⟨[.int .i64 5, .int .i64 0, .int .i64 0, .bool false, .string ⟨#[90, 90, 57, 86, 46, 57, 57]⟩]⟩], .int .i64 0), ([.agg ⟨[.int .i64 1, .int .i64 4, .int .i64 0, .bool false, .string ⟨#[]⟩]⟩], .int .i64 0), ([.agg ⟨[.int .i64 5, .int .i64 0, .int .i64 0, .bool false, .string ⟨#[57, 57, 57]⟩]⟩], .int .i64 0), ([.agg ⟨[.int .i64 5, .int .i64 0, .int .i64 0, .bool false, .string ⟨#[65, 65, 57]⟩]⟩], .int .i64 0), ([.agg ⟨[.int .i64 3, .int .i64 256, .int .i64 0, .bool false, .string ⟨#[]⟩]⟩], .int .i64 5), ([.agg ⟨[.int .i64 4, .int .i64 64, .int .i64 0, .bool false, .string ⟨#[]⟩]⟩], .int .i64 0)]
theorem v20_0 (R : Value → Prop) : bodyQ Tryz.prog A5 noL Tryz.f20 [.agg ⟨[I 1, I 4, I 2, B false, S ⟨#[]⟩]⟩] (fun _ => none) 0 (fun v _ _ => R v) = (R (I 0)) := by kernel_rfl
theorem v20_1 (R : Value → Prop) : bodyQ Tryz.prog A5 noL Tryz.f20 [.agg ⟨[I 3, I 3, I 0, B false, S ⟨#[]⟩]⟩] (fun _ => none) 0 (fun v _ _ => R v) = (R (I 0) ∧ R (I 0)) := by kernel_rfl
theorem v20_2 (R : Value → Prop) : bodyQ Tryz.prog A5 noL Tryz.f20 [.agg ⟨[I 1, I 3, I 0, B false, S ⟨#[]⟩]⟩] (fun _ => none) 0 (fun v _ _ => R v) = (R (I 0)) := by kernel_rfl
theorem v20_3 (R : Value → Prop) : bodyQ Tryz.prog A5 noL Tryz.f20 [.agg ⟨[I 2, I 15, I 0, B false, S ⟨#[]⟩]⟩] (fun _ => none) 0 (fun v _ _ => R v) = (R (I 0)) := by kernel_rfl
theorem v20_4 (R : Value → Prop) : bodyQ Tryz.prog A5 noL Tryz.f20 [.agg ⟨[I 4, I 1, I 0, B false, S ⟨#[]⟩]⟩] (fun _ => none) 0 (fun v _ _ => R v) = (R (I 0)) := by kernel_rfl
theorem v20_5 (R : Value → Prop) : bodyQ Tryz.prog A5 noL Tryz.f20 [.agg ⟨[I 4, I 3, I 0, B false, S ⟨#[]⟩]⟩] (fun _ => none) 0 (fun v _ _ => R v) = (R (I 0)) := by kernel_rfl
theorem v20_6 (R : Value → Prop) : bodyQ Tryz.prog A5 noL Tryz.f20 [.agg ⟨[I 3, I 5, I 0, B false, S ⟨#[]⟩]⟩] (fun _ => none) 0 (fun v _ _ => R v) = (R (I 0) ∧ R (I 0)) := by kernel_rfl
theorem v20_7 (R : Value → Prop) : bodyQ Tryz.prog A5 noL Tryz.f20 [.agg ⟨[I 1, I 3, I 1, B false, S ⟨#[]⟩]⟩] (fun _ => none) 0 (fun v _ _ => R v) = (R (I 0)) := by kernel_rfl
theorem v20_8 (R : Value → Prop) : bodyQ Tryz.prog A5 noL Tryz.f20 [.agg ⟨[I 5, I 0, I 0, B false, S ⟨#[90, 90, 57, 86, 46, 57, 57]⟩]⟩] (fun _ => none) 0 (fun v _ _ => R v) = (R (I 0)) := by kernel_rfl
theorem v20_9 (R : Value → Prop) : bodyQ Tryz.prog A5 noL Tryz.f20 [.agg ⟨[I 1, I 4, I 0, B false, S ⟨#[]⟩]⟩] (fun _ => none) 0 (fun v _ _ => R v) = (R (I 0)) := by kernel_rfl
theorem v20_10 (R : Value → Prop) : bodyQ Tryz.prog A5 noL Tryz.f20 [.agg ⟨[I 5, I 0, I 0, B false, S ⟨#[57, 57, 57]⟩]⟩] (fun _ => none) 0 (fun v _ _ => R v) = (R (I 0)) := by kernel_rfl
theorem v20_11 (R : Value → Prop) : bodyQ Tryz.prog A5 noL Tryz.f20 [.agg ⟨[I 5, I 0, I 0, B false, S ⟨#[65, 65, 57]⟩]⟩] (fun _ => none) 0 (fun v _ _ => R v) = (R (I 0)) := by kernel_rfl
theorem v20_12 (R : Value → Prop) : bodyQ Tryz.prog A5 noL Tryz.f20 [.agg ⟨[I 3, I 256, I 0, B false, S ⟨#[]⟩]⟩] (fun _ => none) 0 (fun v _ _ => R v) = (R (I 5) ∧ R (I 5)) := by kernel_rfl
theorem v20_13 (R : Value → Prop) : bodyQ Tryz.prog A5 noL Tryz.f20 [.agg ⟨[I 4, I 64, I 0, B false, S ⟨#[]⟩]⟩] (fun _ => none) 0 (fun v _ _ => R v) = (R (I 0)) := by kernel_rfl
theorem pk20 : PureOK Tryz.prog 20 (memo m20) := pure_memo ok_A5 hmix fn20 lokf_none (by kernel_rfl) ⟨by rw [DoesQ, v20_0], by rw [DoesQ, v20_1]; exact ⟨rfl, rfl⟩, by rw [DoesQ, v20_2], by rw [DoesQ, v20_3], by rw [DoesQ, v20_4], by rw [DoesQ, v20_5], by rw [DoesQ, v20_6]; exact ⟨rfl, rfl⟩, by rw [DoesQ, v20_7], by rw [DoesQ, v20_8], by rw [DoesQ, v20_9], by rw [DoesQ, v20_10], by rw [DoesQ, v20_11], by rw [DoesQ, v20_12]; exact ⟨rfl, rfl⟩, by rw [DoesQ, v20_13], trivial⟩
def A6 : Env := A5.add 20 (memo m20)
theorem ok_A6 : EnvOK Tryz.prog A6 := env_add ok_A5 pk20
theorem fn191 : Fn1 Tryz.prog 191 Tryz.f191 := ⟨Tryz.func191, by kernel_rfl, by kernel_rfl, by kernel_rfl⟩
def m191 : List (List Value × Value) := [([], .agg ⟨[.int .i64 1, .int .i64 10, .int .i64 100, .int .i64 1000, .int .i64 10000, .int .i64 100000, .int .i64 1000000, .int .i64 10000000, .int .i64 100000000, .int .i64 1000000000, .int .i64 10000000000, .int .i64 100000000000, .int .i64 1000000000000, .int .i64 10000000000000, .int .i64 100000000000000, .int .i64 1000000000000000, .int .i64 10000000000000000, .int .i64 100000000000000000, .int .i64 1000000000000000000]⟩)]
theorem v191_0 (R : Value → Prop) : bodyQ Tryz.prog A6 noL Tryz.f191 [] (fun _ => none) 0 (fun v _ _ => R v) = (R (.agg ⟨[I 1, I 10, I 100, I 1000, I 10000, I 100000, I 1000000, I 10000000, I 100000000, I 1000000000, I 10000000000, I 100000000000, I 1000000000000, I 10000000000000, I 100000000000000, I 1000000000000000, I 10000000000000000, I 100000000000000000, I 1000000000000000000]⟩)) := by kernel_rfl
theorem pk191 : PureOK Tryz.prog 191 (memo m191) := pure_memo ok_A6 hmix fn191 lokf_none (by kernel_rfl) ⟨by rw [DoesQ, v191_0], trivial⟩
def A7 : Env := A6.add 191 (memo m191)
theorem ok_A7 : EnvOK Tryz.prog A7 := env_add ok_A6 pk191
theorem fn144 : Fn1 Tryz.prog 144 Tryz.f144 := ⟨Tryz.func144, by kernel_rfl, by kernel_rfl, by kernel_rfl⟩
def m144 : List (List Value × Value) := [([.agg ⟨[.int .i64 1, .int .i64 4, .int .i64 2, .bool false, .string ⟨#[]⟩]⟩], .int .i64 10000), ([.agg ⟨[.int .i64 2, .int .i64 15, .int .i64 0, .bool false, .string ⟨#[]⟩]⟩], .int .i64 32768), ([.agg ⟨[.int .i64 1, .int .i64 3, .int .i64 1, .bool false, .string ⟨#[]⟩]⟩], .int .i64 1000), ([.agg ⟨[.int .i64 1, .int .i64 4, .int .i64 0, .bool false, .string ⟨#[]⟩]⟩], .int .i64 10000)]
theorem v144_0 (R : Value → Prop) : bodyQ Tryz.prog A7 noL Tryz.f144 [.agg ⟨[I 1, I 4, I 2, B false, S ⟨#[]⟩]⟩] (fun _ => none) 0 (fun v _ _ => R v) = (R (I 10000)) := by kernel_rfl
theorem v144_1 (R : Value → Prop) : bodyQ Tryz.prog A7 noL Tryz.f144 [.agg ⟨[I 2, I 15, I 0, B false, S ⟨#[]⟩]⟩] (fun _ => none) 0 (fun v _ _ => R v) = (R (I 32768)) := by kernel_rfl
theorem v144_2 (R : Value → Prop) : bodyQ Tryz.prog A7 noL Tryz.f144 [.agg ⟨[I 1, I 3, I 1, B false, S ⟨#[]⟩]⟩] (fun _ => none) 0 (fun v _ _ => R v) = (R (I 1000)) := by kernel_rfl
theorem v144_3 (R : Value → Prop) : bodyQ Tryz.prog A7 noL Tryz.f144 [.agg ⟨[I 1, I 4, I 0, B false, S ⟨#[]⟩]⟩] (fun _ => none) 0 (fun v _ _ => R v) = (R (I 10000)) := by kernel_rfl
theorem pk144 : PureOK Tryz.prog 144 (memo m144) := pure_memo ok_A7 hmix fn144 lokf_none (by kernel_rfl) ⟨by rw [DoesQ, v144_0], by rw [DoesQ, v144_1], by rw [DoesQ, v144_2], by rw [DoesQ, v144_3], trivial⟩
def A8 : Env := A7.add 144 (memo m144)
theorem ok_A8 : EnvOK Tryz.prog A8 := env_add ok_A7 pk144
theorem fn70 : Fn1 Tryz.prog 70 Tryz.f70 := ⟨Tryz.func70, by kernel_rfl, by kernel_rfl, by kernel_rfl⟩
def m70 : List (List Value × Value) := [([.agg ⟨[.int .i64 (-150), .string ⟨#[]⟩]⟩, .agg ⟨[.int .i64 1, .int .i64 4, .int .i64 2, .bool false, .string ⟨#[]⟩]⟩], .int .i64 0), ([.agg ⟨[.int .i64 1, .string ⟨#[]⟩]⟩, .agg ⟨[.int .i64 2, .int .i64 15, .int .i64 0, .bool false, .string ⟨#[]⟩]⟩], .int .i64 0), ([.agg ⟨[.int .i64 123, .string ⟨#[]⟩]⟩, .agg ⟨[.int .i64 1, .int .i64 3, .int .i64 1, .bool false, .string ⟨#[]⟩]⟩], .int .i64 0), ([.agg ⟨[.int .i64 1234, .string ⟨#[]⟩]⟩, .agg ⟨[.int .i64 1, .int .i64 4, .int .i64 0, .bool false, .string ⟨#[]⟩]⟩], .int .i64 0)]
theorem v70_0 (R : Value → Prop) : bodyQ Tryz.prog A8 noL Tryz.f70 [.agg ⟨[I (-150), S ⟨#[]⟩]⟩, .agg ⟨[I 1, I 4, I 2, B false, S ⟨#[]⟩]⟩] (fun _ => none) 0 (fun v _ _ => R v) = (R (I 0)) := by kernel_rfl
theorem v70_1 (R : Value → Prop) : bodyQ Tryz.prog A8 noL Tryz.f70 [.agg ⟨[I 1, S ⟨#[]⟩]⟩, .agg ⟨[I 2, I 15, I 0, B false, S ⟨#[]⟩]⟩] (fun _ => none) 0 (fun v _ _ => R v) = (R (I 0)) := by kernel_rfl
theorem v70_2 (R : Value → Prop) : bodyQ Tryz.prog A8 noL Tryz.f70 [.agg ⟨[I 123, S ⟨#[]⟩]⟩, .agg ⟨[I 1, I 3, I 1, B false, S ⟨#[]⟩]⟩] (fun _ => none) 0 (fun v _ _ => R v) = (R (I 0)) := by kernel_rfl
theorem v70_3 (R : Value → Prop) : bodyQ Tryz.prog A8 noL Tryz.f70 [.agg ⟨[I 1234, S ⟨#[]⟩]⟩, .agg ⟨[I 1, I 4, I 0, B false, S ⟨#[]⟩]⟩] (fun _ => none) 0 (fun v _ _ => R v) = (R (I 0)) := by kernel_rfl
theorem pk70 : PureOK Tryz.prog 70 (memo m70) := pure_memo ok_A8 hmix fn70 lokf_none (by kernel_rfl) ⟨by rw [DoesQ, v70_0], by rw [DoesQ, v70_1], by rw [DoesQ, v70_2], by rw [DoesQ, v70_3], trivial⟩
def A9 : Env := A8.add 70 (memo m70)
theorem ok_A9 : EnvOK Tryz.prog A9 := env_add ok_A8 pk70
theorem fn71 : Fn1 Tryz.prog 71 Tryz.f71 := ⟨Tryz.func71, by kernel_rfl, by kernel_rfl, by kernel_rfl⟩
def m71 : List (List Value × Value) := [([.string ⟨#[49, 48, 49]⟩], .bool true), ([.string ⟨#[50]⟩], .bool false)]
theorem v71_0 (R : Value → Prop) : bodyQ Tryz.prog A9 noL Tryz.f71 [S ⟨#[49, 48, 49]⟩] (fun _ => none) 0 (fun v _ _ => R v) = (R (B true)) := by kernel_rfl
theorem v71_1 (R : Value → Prop) : bodyQ Tryz.prog A9 noL Tryz.f71 [S ⟨#[50]⟩] (fun _ => none) 0 (fun v _ _ => R v) = (R (B false)) := by kernel_rfl
theorem pk71 : PureOK Tryz.prog 71 (memo m71) := pure_memo ok_A9 hmix fn71 lokf_none (by kernel_rfl) ⟨by rw [DoesQ, v71_0], by rw [DoesQ, v71_1], trivial⟩
def A10 : Env := A9.add 71 (memo m71)
theorem ok_A10 : EnvOK Tryz.prog A10 := env_add ok_A9 pk71
theorem fn22 : Fn1 Tryz.prog 22 Tryz.f22 := ⟨Tryz.func22, by kernel_rfl, by kernel_rfl, by kernel_rfl⟩
def m22 : List (List Value × Value) := [([.agg ⟨[.int .i64 (-150), .string ⟨#[]⟩]⟩, .agg ⟨[.int .i64 1, .int .i64 4, .int .i64 2, .bool false, .string ⟨#[]⟩]⟩], .int .i64 0), ([.agg ⟨[.int .i64 0, .string ⟨#[49, 50, 120]⟩]⟩, .agg ⟨[.int .i64 3, .int .i64 3, .int .i64 0, .bool false, .string ⟨#[]⟩]⟩], .int .i64 0), ([.agg ⟨[.int .i64 1, .string ⟨#[]⟩]⟩, .agg ⟨[.int .i64 2, .int .i64 15, .int .i64 0, .bool false, .string ⟨#[]⟩]⟩], .int .i64 0), ([.agg ⟨[.int .i64 0, .string ⟨#[49, 48, 49]⟩]⟩, .agg ⟨[.int .i64 4, .int .i64 3, .int .i64 0, .bool false, .string ⟨#[]⟩]⟩], .int .i64 0), ([.agg ⟨[.int .i64 123, .string ⟨#[]⟩]⟩, .agg ⟨[.int .i64 1, .int .i64 3, .int .i64 1, .bool false, .string ⟨#[]⟩]⟩], .int .i64 0), ([.agg ⟨[.int .i64 1234, .string ⟨#[]⟩]⟩, .agg ⟨[.int .i64 1, .int .i64 4, .int .i64 0, .bool false, .string ⟨#[]⟩]⟩], .int .i64 0), ([.agg ⟨[.int .i64 0, .string ⟨#[97, 49, 49]⟩]⟩, .agg ⟨[.int .i64 3, .int .i64 3, .int .i64 0, .bool false, .string ⟨#[]⟩]⟩], .int .i64 0), ([.agg ⟨[.int .i64 0, .string ⟨#[50]⟩]⟩, .agg ⟨[.int .i64 4, .int .i64 1, .int .i64 0, .bool false, .string ⟨#[]⟩]⟩], .int .i64 6)]
theorem v22_0 (R : Value → Prop) : bodyQ Tryz.prog A10 noL Tryz.f22 [.agg ⟨[I (-150), S ⟨#[]⟩]⟩, .agg ⟨[I 1, I 4, I 2, B false, S ⟨#[]⟩]⟩] (fun _ => none) 0 (fun v _ _ => R v) = (R (I 0)) := by kernel_rfl
theorem v22_1 (R : Value → Prop) : bodyQ Tryz.prog A10 noL Tryz.f22 [.agg ⟨[I 0, S ⟨#[49, 50, 120]⟩]⟩, .agg ⟨[I 3, I 3, I 0, B false, S ⟨#[]⟩]⟩] (fun _ => none) 0 (fun v _ _ => R v) = (R (I 0)) := by kernel_rfl
theorem v22_2 (R : Value → Prop) : bodyQ Tryz.prog A10 noL Tryz.f22 [.agg ⟨[I 1, S ⟨#[]⟩]⟩, .agg ⟨[I 2, I 15, I 0, B false, S ⟨#[]⟩]⟩] (fun _ => none) 0 (fun v _ _ => R v) = (R (I 0)) := by kernel_rfl
theorem v22_3 (R : Value → Prop) : bodyQ Tryz.prog A10 noL Tryz.f22 [.agg ⟨[I 0, S ⟨#[49, 48, 49]⟩]⟩, .agg ⟨[I 4, I 3, I 0, B false, S ⟨#[]⟩]⟩] (fun _ => none) 0 (fun v _ _ => R v) = (R (I 0)) := by kernel_rfl
theorem v22_4 (R : Value → Prop) : bodyQ Tryz.prog A10 noL Tryz.f22 [.agg ⟨[I 123, S ⟨#[]⟩]⟩, .agg ⟨[I 1, I 3, I 1, B false, S ⟨#[]⟩]⟩] (fun _ => none) 0 (fun v _ _ => R v) = (R (I 0)) := by kernel_rfl
theorem v22_5 (R : Value → Prop) : bodyQ Tryz.prog A10 noL Tryz.f22 [.agg ⟨[I 1234, S ⟨#[]⟩]⟩, .agg ⟨[I 1, I 4, I 0, B false, S ⟨#[]⟩]⟩] (fun _ => none) 0 (fun v _ _ => R v) = (R (I 0)) := by kernel_rfl
theorem v22_6 (R : Value → Prop) : bodyQ Tryz.prog A10 noL Tryz.f22 [.agg ⟨[I 0, S ⟨#[97, 49, 49]⟩]⟩, .agg ⟨[I 3, I 3, I 0, B false, S ⟨#[]⟩]⟩] (fun _ => none) 0 (fun v _ _ => R v) = (R (I 0)) := by kernel_rfl
theorem v22_7 (R : Value → Prop) : bodyQ Tryz.prog A10 noL Tryz.f22 [.agg ⟨[I 0, S ⟨#[50]⟩]⟩, .agg ⟨[I 4, I 1, I 0, B false, S ⟨#[]⟩]⟩] (fun _ => none) 0 (fun v _ _ => R v) = (R (I 6)) := by kernel_rfl
theorem pk22 : PureOK Tryz.prog 22 (memo m22) := pure_memo ok_A10 hmix fn22 lokf_none (by kernel_rfl) ⟨by rw [DoesQ, v22_0], by rw [DoesQ, v22_1], by rw [DoesQ, v22_2], by rw [DoesQ, v22_3], by rw [DoesQ, v22_4], by rw [DoesQ, v22_5], by rw [DoesQ, v22_6], by rw [DoesQ, v22_7], trivial⟩
def A11 : Env := A10.add 22 (memo m22)
theorem ok_A11 : EnvOK Tryz.prog A11 := env_add ok_A10 pk22
theorem fn77 : Fn1 Tryz.prog 77 Tryz.f77 := ⟨Tryz.func77, by kernel_rfl, by kernel_rfl, by kernel_rfl⟩
def m77 : List (List Value × Value) := [([.bool true, .string ⟨#[48, 48, 49, 50, 53, 48]⟩, .int .i64 2], .agg ⟨[.bool true, .string ⟨#[49, 50, 53]⟩, .int .i64 1]⟩), ([.bool false, .string ⟨#[49, 50, 48, 48]⟩, .int .i64 0], .agg ⟨[.bool false, .string ⟨#[49, 50]⟩, .int .i64 (-2)]⟩), ([.bool false, .string ⟨#[49, 50, 51]⟩, .int .i64 1], .agg ⟨[.bool false, .string ⟨#[49, 50, 51]⟩, .int .i64 1]⟩), ([.bool false, .string ⟨#[49, 50, 51, 52]⟩, .int .i64 0], .agg ⟨[.bool false, .string ⟨#[49, 50, 51, 52]⟩, .int .i64 0]⟩)]
theorem v77_0 (R : Value → Prop) : bodyQ Tryz.prog A11 noL Tryz.f77 [B true, S ⟨#[48, 48, 49, 50, 53, 48]⟩, I 2] (fun _ => none) 0 (fun v _ _ => R v) = (R (.agg ⟨[B true, S ⟨#[49, 50, 53]⟩, I 1]⟩)) := by kernel_rfl
theorem v77_1 (R : Value → Prop) : bodyQ Tryz.prog A11 noL Tryz.f77 [B false, S ⟨#[49, 50, 48, 48]⟩, I 0] (fun _ => none) 0 (fun v _ _ => R v) = (R (.agg ⟨[B false, S ⟨#[49, 50]⟩, I (-2)]⟩)) := by kernel_rfl
theorem v77_2 (R : Value → Prop) : bodyQ Tryz.prog A11 noL Tryz.f77 [B false, S ⟨#[49, 50, 51]⟩, I 1] (fun _ => none) 0 (fun v _ _ => R v) = (R (.agg ⟨[B false, S ⟨#[49, 50, 51]⟩, I 1]⟩)) := by kernel_rfl
theorem v77_3 (R : Value → Prop) : bodyQ Tryz.prog A11 noL Tryz.f77 [B false, S ⟨#[49, 50, 51, 52]⟩, I 0] (fun _ => none) 0 (fun v _ _ => R v) = (R (.agg ⟨[B false, S ⟨#[49, 50, 51, 52]⟩, I 0]⟩)) := by kernel_rfl
theorem pk77 : PureOK Tryz.prog 77 (memo m77) := pure_memo ok_A11 hmix fn77 lokf_none (by kernel_rfl) ⟨by rw [DoesQ, v77_0], by rw [DoesQ, v77_1], by rw [DoesQ, v77_2], by rw [DoesQ, v77_3], trivial⟩
def A12 : Env := A11.add 77 (memo m77)
theorem ok_A12 : EnvOK Tryz.prog A12 := env_add ok_A11 pk77
theorem fn84 : Fn1 Tryz.prog 84 Tryz.f84 := ⟨Tryz.func84, by kernel_rfl, by kernel_rfl, by kernel_rfl⟩
def m84 : List (List Value × Value) := [([.agg ⟨[.bool false, .string ⟨#[49, 50, 51, 52, 53]⟩, .int .i64 2]⟩], .bool true), ([.agg ⟨[.bool false, .string ⟨#[49, 50, 51]⟩, .int .i64 1]⟩], .bool true), ([.agg ⟨[.bool false, .string ⟨#[49, 50, 51, 52]⟩, .int .i64 0]⟩], .bool true)]
theorem v84_0 (R : Value → Prop) : bodyQ Tryz.prog A12 noL Tryz.f84 [.agg ⟨[B false, S ⟨#[49, 50, 51, 52, 53]⟩, I 2]⟩] (fun _ => none) 0 (fun v _ _ => R v) = (R (B true)) := by kernel_rfl
theorem v84_1 (R : Value → Prop) : bodyQ Tryz.prog A12 noL Tryz.f84 [.agg ⟨[B false, S ⟨#[49, 50, 51]⟩, I 1]⟩] (fun _ => none) 0 (fun v _ _ => R v) = (R (B true)) := by kernel_rfl
theorem v84_2 (R : Value → Prop) : bodyQ Tryz.prog A12 noL Tryz.f84 [.agg ⟨[B false, S ⟨#[49, 50, 51, 52]⟩, I 0]⟩] (fun _ => none) 0 (fun v _ _ => R v) = (R (B true)) := by kernel_rfl
theorem pk84 : PureOK Tryz.prog 84 (memo m84) := pure_memo ok_A12 hmix fn84 lokf_none (by kernel_rfl) ⟨by rw [DoesQ, v84_0], by rw [DoesQ, v84_1], by rw [DoesQ, v84_2], trivial⟩
def A13 : Env := A12.add 84 (memo m84)
theorem ok_A13 : EnvOK Tryz.prog A13 := env_add ok_A12 pk84
theorem fn86 : Fn1 Tryz.prog 86 Tryz.f86 := ⟨Tryz.func86, by kernel_rfl, by kernel_rfl, by kernel_rfl⟩
def m86 : List (List Value × Value) := [([.agg ⟨[.bool false, .string ⟨#[49, 50, 51, 52, 53]⟩, .int .i64 2]⟩, .int .i64 1], .string ⟨#[49, 50, 51, 52]⟩), ([.agg ⟨[.bool false, .string ⟨#[49, 50, 51]⟩, .int .i64 1]⟩, .int .i64 2], .string ⟨#[49, 50, 51, 48]⟩), ([.agg ⟨[.bool false, .string ⟨#[49, 50, 51, 52]⟩, .int .i64 0]⟩, .int .i64 0], .string ⟨#[49, 50, 51, 52]⟩)]
theorem v86_0 (R : Value → Prop) : bodyQ Tryz.prog A13 noL Tryz.f86 [.agg ⟨[B false, S ⟨#[49, 50, 51, 52, 53]⟩, I 2]⟩, I 1] (fun _ => none) 0 (fun v _ _ => R v) = (R (S ⟨#[49, 50, 51, 52]⟩)) := by kernel_rfl
theorem v86_1 (R : Value → Prop) : bodyQ Tryz.prog A13 noL Tryz.f86 [.agg ⟨[B false, S ⟨#[49, 50, 51]⟩, I 1]⟩, I 2] (fun _ => none) 0 (fun v _ _ => R v) = (R (S ⟨#[49, 50, 51, 48]⟩)) := by kernel_rfl
theorem v86_2 (R : Value → Prop) : bodyQ Tryz.prog A13 noL Tryz.f86 [.agg ⟨[B false, S ⟨#[49, 50, 51, 52]⟩, I 0]⟩, I 0] (fun _ => none) 0 (fun v _ _ => R v) = (R (S ⟨#[49, 50, 51, 52]⟩)) := by kernel_rfl
theorem pk86 : PureOK Tryz.prog 86 (memo m86) := pure_memo ok_A13 hmix fn86 lokf_none (by kernel_rfl) ⟨by rw [DoesQ, v86_0], by rw [DoesQ, v86_1], by rw [DoesQ, v86_2], trivial⟩
def A14 : Env := A13.add 86 (memo m86)
theorem ok_A14 : EnvOK Tryz.prog A14 := env_add ok_A13 pk86
theorem fn26 : Fn1 Tryz.prog 26 Tryz.f26 := ⟨Tryz.func26, by kernel_rfl, by kernel_rfl, by kernel_rfl⟩
def m26 : List (List Value × Value) := [([.agg ⟨[.bool false, .string ⟨#[49, 50, 51, 52, 53]⟩, .int .i64 2]⟩, .agg ⟨[.int .i64 1, .int .i64 3, .int .i64 1, .bool false, .string ⟨#[]⟩]⟩], .tuple ⟨[.agg ⟨[.int .i64 234, .string ⟨#[]⟩]⟩, .int .i64 1, .int .i64 0]⟩), ([.agg ⟨[.bool false, .string ⟨#[49, 50, 51]⟩, .int .i64 1]⟩, .agg ⟨[.int .i64 1, .int .i64 5, .int .i64 2, .bool false, .string ⟨#[]⟩]⟩], .tuple ⟨[.agg ⟨[.int .i64 1230, .string ⟨#[]⟩]⟩, .int .i64 0, .int .i64 0]⟩), ([.agg ⟨[.bool false, .string ⟨#[49, 50, 51, 52]⟩, .int .i64 0]⟩, .agg ⟨[.int .i64 1, .int .i64 3, .int .i64 0, .bool false, .string ⟨#[]⟩]⟩], .tuple ⟨[.agg ⟨[.int .i64 234, .string ⟨#[]⟩]⟩, .int .i64 1, .int .i64 0]⟩)]
theorem v26_0 (R : Value → Prop) : bodyQ Tryz.prog A14 noL Tryz.f26 [.agg ⟨[B false, S ⟨#[49, 50, 51, 52, 53]⟩, I 2]⟩, .agg ⟨[I 1, I 3, I 1, B false, S ⟨#[]⟩]⟩] (fun _ => none) 0 (fun v _ _ => R v) = (R (.tuple ⟨[.agg ⟨[I 234, S ⟨#[]⟩]⟩, I 1, I 0]⟩)) := by kernel_rfl
theorem v26_1 (R : Value → Prop) : bodyQ Tryz.prog A14 noL Tryz.f26 [.agg ⟨[B false, S ⟨#[49, 50, 51]⟩, I 1]⟩, .agg ⟨[I 1, I 5, I 2, B false, S ⟨#[]⟩]⟩] (fun _ => none) 0 (fun v _ _ => R v) = (R (.tuple ⟨[.agg ⟨[I 1230, S ⟨#[]⟩]⟩, I 0, I 0]⟩)) := by kernel_rfl
theorem v26_2 (R : Value → Prop) : bodyQ Tryz.prog A14 noL Tryz.f26 [.agg ⟨[B false, S ⟨#[49, 50, 51, 52]⟩, I 0]⟩, .agg ⟨[I 1, I 3, I 0, B false, S ⟨#[]⟩]⟩] (fun _ => none) 0 (fun v _ _ => R v) = (R (.tuple ⟨[.agg ⟨[I 234, S ⟨#[]⟩]⟩, I 1, I 0]⟩)) := by kernel_rfl
theorem pk26 : PureOK Tryz.prog 26 (memo m26) := pure_memo ok_A14 hmix fn26 lokf_none (by kernel_rfl) ⟨by rw [DoesQ, v26_0], by rw [DoesQ, v26_1], by rw [DoesQ, v26_2], trivial⟩
def A15 : Env := A14.add 26 (memo m26)
theorem ok_A15 : EnvOK Tryz.prog A15 := env_add ok_A14 pk26
theorem fn97 : Fn1 Tryz.prog 97 Tryz.f97 := ⟨Tryz.func97, by kernel_rfl, by kernel_rfl, by kernel_rfl⟩
def m97 : List (List Value × Value) := [([.agg ⟨[.int .i64 (-150), .string ⟨#[]⟩]⟩, .agg ⟨[.int .i64 1, .int .i64 4, .int .i64 2, .bool false, .string ⟨#[]⟩]⟩], .iface 174 (.agg ⟨[.int .i64 (-150), .int .i64 1, .int .i64 4, .int .i64 2, .bool false, .string ⟨#[]⟩]⟩)), ([.agg ⟨[.int .i64 0, .string ⟨#[49, 50, 120]⟩]⟩, .agg ⟨[.int .i64 3, .int .i64 3, .int .i64 0, .bool false, .string ⟨#[]⟩]⟩], .iface 178 (.string ⟨#[49, 50, 120]⟩)), ([.agg ⟨[.int .i64 1, .string ⟨#[]⟩]⟩, .agg ⟨[.int .i64 2, .int .i64 15, .int .i64 0, .bool false, .string ⟨#[]⟩]⟩], .iface 174 (.agg ⟨[.int .i64 1, .int .i64 2, .int .i64 15, .int .i64 0, .bool false, .string ⟨#[]⟩]⟩)), ([.agg ⟨[.int .i64 0, .string ⟨#[49, 48, 49]⟩]⟩, .agg ⟨[.int .i64 4, .int .i64 3, .int .i64 0, .bool false, .string ⟨#[]⟩]⟩], .iface 175 (.string ⟨#[49, 48, 49]⟩)), ([.agg ⟨[.int .i64 123, .string ⟨#[]⟩]⟩, .agg ⟨[.int .i64 1, .int .i64 3, .int .i64 1, .bool false, .string ⟨#[]⟩]⟩], .iface 174 (.agg ⟨[.int .i64 123, .int .i64 1, .int .i64 3, .int .i64 1, .bool false, .string ⟨#[]⟩]⟩)), ([.agg ⟨[.int .i64 1234, .string ⟨#[]⟩]⟩, .agg ⟨[.int .i64 1, .int .i64 4, .int .i64 0, .bool false, .string ⟨#[]⟩]⟩], .iface 174 (.agg ⟨[.int .i64 1234, .int .i64 1, .int .i64 4, .int .i64 0, .bool false, .string ⟨#[]⟩]⟩)), ([.agg ⟨[.int .i64 0, .string ⟨#[97, 49, 49]⟩]⟩, .agg ⟨[.int .i64 3, .int .i64 3, .int .i64 0, .bool false, .string ⟨#[]⟩]⟩], .iface 178 (.string ⟨#[97, 49, 49]⟩))]
theorem v97_0 (R : Value → Prop) : bodyQ Tryz.prog A15 noL Tryz.f97 [.agg ⟨[I (-150), S ⟨#[]⟩]⟩, .agg ⟨[I 1, I 4, I 2, B false, S ⟨#[]⟩]⟩] (fun _ => none) 0 (fun v _ _ => R v) = (R (.iface 174 (.agg ⟨[I (-150), I 1, I 4, I 2, B false, S ⟨#[]⟩]⟩))) := by kernel_rfl
theorem v97_1 (R : Value → Prop) : bodyQ Tryz.prog A15 noL Tryz.f97 [.agg ⟨[I 0, S ⟨#[49, 50, 120]⟩]⟩, .agg ⟨[I 3, I 3, I 0, B false, S ⟨#[]⟩]⟩] (fun _ => none) 0 (fun v _ _ => R v) = (R (.iface 178 (S ⟨#[49, 50, 120]⟩))) := by kernel_rfl
theorem v97_2 (R : Value → Prop) : bodyQ Tryz.prog A15 noL Tryz.f97 [.agg ⟨[I 1, S ⟨#[]⟩]⟩, .agg ⟨[I 2, I 15, I 0, B false, S ⟨#[]⟩]⟩] (fun _ => none) 0 (fun v _ _ => R v) = (R (.iface 174 (.agg ⟨[I 1, I 2, I 15, I 0, B false, S ⟨#[]⟩]⟩))) := by kernel_rfl
theorem v97_3 (R : Value → Prop) : bodyQ Tryz.prog A15 noL Tryz.f97 [.agg ⟨[I 0, S ⟨#[49, 48, 49]⟩]⟩, .agg ⟨[I 4, I 3, I 0, B false, S ⟨#[]⟩]⟩] (fun _ => none) 0 (fun v _ _ => R v) = (R (.iface 175 (S ⟨#[49, 48, 49]⟩))) := by kernel_rfl
theorem v97_4 (R : Value → Prop) : bodyQ Tryz.prog A15 noL Tryz.f97 [.agg ⟨[I 123, S ⟨#[]⟩]⟩, .agg ⟨[I 1, I 3, I 1, B false, S ⟨#[]⟩]⟩] (fun _ => none) 0 (fun v _ _ => R v) = (R (.iface 174 (.agg ⟨[I 123, I 1, I 3, I 1, B false, S ⟨#[]⟩]⟩))) := by kernel_rfl
theorem v97_5 (R : Value → Prop) : bodyQ Tryz.prog A15 noL Tryz.f97 [.agg ⟨[I 1234, S ⟨#[]⟩]⟩, .agg ⟨[I 1, I 4, I 0, B false, S ⟨#[]⟩]⟩] (fun _ => none) 0 (fun v _ _ => R v) = (R (.iface 174 (.agg ⟨[I 1234, I 1, I 4, I 0, B false, S ⟨#[]⟩]⟩))) := by kernel_rfl
theorem v97_6 (R : Value → Prop) : bodyQ Tryz.prog A15 noL Tryz.f97 [.agg ⟨[I 0, S ⟨#[97, 49, 49]⟩]⟩, .agg ⟨[I 3, I 3, I 0, B false, S ⟨#[]⟩]⟩] (fun _ => none) 0 (fun v _ _ => R v) = (R (.iface 178 (S ⟨#[97, 49, 49]⟩))) := by kernel_rfl
theorem pk97 : PureOK Tryz.prog 97 (memo m97) := pure_memo ok_A15 hmix fn97 lokf_none (by kernel_rfl) ⟨by rw [DoesQ, v97_0], by rw [DoesQ, v97_1], by rw [DoesQ, v97_2], by rw [DoesQ, v97_3], by rw [DoesQ, v97_4], by rw [DoesQ, v97_5], by rw [DoesQ, v97_6], trivial⟩
def A16 : Env := A15.add 97 (memo m97)
theorem ok_A16 : EnvOK Tryz.prog A16 := env_add ok_A15 pk97
theorem fn112 : Fn1 Tryz.prog 112 Tryz.f112 := ⟨Tryz.func112, by kernel_rfl, by kernel_rfl, by kernel_rfl⟩
def m112 : List (List Value × Value) := [([.agg ⟨[.int .i64 1, .int .i64 4, .int .i64 2, .bool false, .string ⟨#[]⟩]⟩], .int .i64 7), ([.agg ⟨[.int .i64 1, .int .i64 3, .int .i64 1, .bool false, .string ⟨#[]⟩]⟩], .int .i64 6)]
theorem v112_0 (R : Value → Prop) : bodyQ Tryz.prog A16 noL Tryz.f112 [.agg ⟨[I 1, I 4, I 2, B false, S ⟨#[]⟩]⟩] (fun _ => none) 0 (fun v _ _ => R v) = (R (I 7)) := by kernel_rfl
theorem v112_1 (R : Value → Prop) : bodyQ Tryz.prog A16 noL Tryz.f112 [.agg ⟨[I 1, I 3, I 1, B false, S ⟨#[]⟩]⟩] (fun _ => none) 0 (fun v _ _ => R v) = (R (I 6)) := by kernel_rfl
theorem pk112 : PureOK Tryz.prog 112 (memo m112) := pure_memo ok_A16 hmix fn112 lokf_none (by kernel_rfl) ⟨by rw [DoesQ, v112_0], by rw [DoesQ, v112_1], trivial⟩
def A17 : Env := A16.add 112 (memo m112)
theorem ok_A17 : EnvOK Tryz.prog A17 := env_add ok_A16 pk112
theorem fn321 : Fn1 Tryz.prog 321 Tryz.f321 := ⟨Tryz.func321, by kernel_rfl, by kernel_rfl, by kernel_rfl⟩
def m321 : List (List Value × Value) := [([.agg ⟨[.int .i64 (-150), .int .i64 1, .int .i64 4, .int .i64 2, .bool false, .string ⟨#[]⟩]⟩], .string ⟨#[32, 32, 45, 49, 46, 53, 48]⟩)]
theorem v321_0 (R : Value → Prop) : bodyQ Tryz.prog A17 noL Tryz.f321 [.agg ⟨[I (-150), I 1, I 4, I 2, B false, S ⟨#[]⟩]⟩] (fun _ => none) 0 (fun v _ _ => R v) = (R (S ⟨#[32, 32, 45, 49, 46, 53, 48]⟩)) := by kernel_rfl
theorem pk321 : PureOK Tryz.prog 321 (memo m321) := pure_memo ok_A17 hmix fn321 lokf_none (by kernel_rfl) ⟨by rw [DoesQ, v321_0], trivial⟩
def A18 : Env := A17.add 321 (memo m321)
theorem ok_A18 : EnvOK Tryz.prog A18 := env_add ok_A17 pk321
theorem fn322 : Fn1 Tryz.prog 322 Tryz.f322 := ⟨Tryz.func322, by kernel_rfl, by kernel_rfl, by kernel_rfl⟩
def m322 : List (List Value × Value) := [([.string ⟨#[49, 48, 49]⟩], .string ⟨#[49, 48, 49]⟩)]
theorem v322_0 (R : Value → Prop) : bodyQ Tryz.prog A18 noL Tryz.f322 [S ⟨#[49, 48, 49]⟩] (fun _ => none) 0 (fun v _ _ => R v) = (R (S ⟨#[49, 48, 49]⟩)) := by kernel_rfl
theorem pk322 : PureOK Tryz.prog 322 (memo m322) := pure_memo ok_A18 hmix fn322 lokf_none (by kernel_rfl) ⟨by rw [DoesQ, v322_0], trivial⟩
def A19 : Env := A18.add 322 (memo m322)
theorem ok_A19 : EnvOK Tryz.prog A19 := env_add ok_A18 pk322
theorem fn324 : Fn1 Tryz.prog 324 Tryz.f324 := ⟨Tryz.func324, by kernel_rfl, by kernel_rfl, by kernel_rfl⟩
def m324 : List (List Value × Value) := [([.string ⟨#[49, 50, 120]⟩], .string ⟨#[49, 50, 120]⟩), ([.string ⟨#[97, 49, 49]⟩], .string ⟨#[97, 49, 49]⟩)]
theorem v324_0 (R : Value → Prop) : bodyQ Tryz.prog A19 noL Tryz.f324 [S ⟨#[49, 50, 120]⟩] (fun _ => none) 0 (fun v _ _ => R v) = (R (S ⟨#[49, 50, 120]⟩)) := by kernel_rfl
theorem v324_1 (R : Value → Prop) : bodyQ Tryz.prog A19 noL Tryz.f324 [S ⟨#[97, 49, 49]⟩] (fun _ => none) 0 (fun v _ _ => R v) = (R (S ⟨#[97, 49, 49]⟩)) := by kernel_rfl
theorem pk324 : PureOK Tryz.prog 324 (memo m324) := pure_memo ok_A19 hmix fn324 lokf_none (by kernel_rfl) ⟨by rw [DoesQ, v324_0], by rw [DoesQ, v324_1], trivial⟩
def A20 : Env := A19.add 324 (memo m324)
theorem ok_A20 : EnvOK Tryz.prog A20 := env_add ok_A19 pk324
theorem fn32 : Fn1 Tryz.prog 32 Tryz.f32 := ⟨Tryz.func32, by kernel_rfl, by kernel_rfl, by kernel_rfl⟩
def m32 : List (List Value × Value) := [([.agg ⟨[.int .i64 (-150), .string ⟨#[]⟩]⟩, .agg ⟨[.int .i64 1, .int .i64 4, .int .i64 2, .bool false, .string ⟨#[]⟩]⟩], .tuple ⟨[.string ⟨#[32, 32, 45, 49, 46, 53, 48]⟩, .int .i64 0]⟩)]
theorem v32_0 (R : Value → Prop) : bodyQ Tryz.prog A20 noL Tryz.f32 [.agg ⟨[I (-150), S ⟨#[]⟩]⟩, .agg ⟨[I 1, I 4, I 2, B false, S ⟨#[]⟩]⟩] (fun _ => none) 0 (fun v _ _ => R v) = (R (.tuple ⟨[S ⟨#[32, 32, 45, 49, 46, 53, 48]⟩, I 0]⟩)) := by kernel_rfl
theorem pk32 : PureOK Tryz.prog 32 (memo m32) := pure_memo ok_A20 hmix fn32 lokf_none (by kernel_rfl) ⟨by rw [DoesQ, v32_0], trivial⟩
def A21 : Env := A20.add 32 (memo m32)
theorem ok_A21 : EnvOK Tryz.prog A21 := env_add ok_A20 pk32
theorem fn153 : Fn1 Tryz.prog 153 Tryz.f153 := ⟨Tryz.func153, by kernel_rfl, by kernel_rfl, by kernel_rfl⟩
def A22 : Env := A21.addG 153 (inlQ Tryz.prog A21 noL Tryz.f153)
theorem ok_A22 : EnvOK Tryz.prog A22 := env_addG ok_A21 (gen_inlQ ok_A21 hmix fn153 lokf_none)
theorem fn214 : Fn1 Tryz.prog 214 Tryz.f214 := ⟨Tryz.func214, by kernel_rfl, by kernel_rfl, by kernel_rfl⟩
def A23 : Env := A22.addG 214 (inlQ Tryz.prog A22 noL Tryz.f214)
theorem ok_A23 : EnvOK Tryz.prog A23 := env_addG ok_A22 (gen_inlQ ok_A22 hmix fn214 lokf_none)
theorem fn215 : Fn1 Tryz.prog 215 Tryz.f215 := ⟨Tryz.func215, by kernel_rfl, by kernel_rfl, by kernel_rfl⟩
def A24 : Env := A23.addG 215 (inlQ Tryz.prog A23 noL Tryz.f215)
theorem ok_A24 : EnvOK Tryz.prog A24 := env_addG ok_A23 (gen_inlQ ok_A23 hmix fn215 lokf_none)
theorem fn76 : Fn1 Tryz.prog 76 Tryz.f76 := ⟨Tryz.func76, by kernel_rfl, by kernel_rfl, by kernel_rfl⟩
def A25 : Env := A24.addG 76 (inlQ Tryz.prog A24 noL Tryz.f76)
theorem ok_A25 : EnvOK Tryz.prog A25 := env_addG ok_A24 (gen_inlQ ok_A24 hmix fn76 lokf_none)
theorem fn212 : Fn1 Tryz.prog 212 Tryz.f212 := ⟨Tryz.func212, by kernel_rfl, by kernel_rfl, by kernel_rfl⟩
def A26 : Env := A25.addG 212 (inlQ Tryz.prog A25 noL Tryz.f212)
theorem ok_A26 : EnvOK Tryz.prog A26 := env_addG ok_A25 (gen_inlQ ok_A25 hmix fn212 lokf_none)
theorem fn263 : Fn1 Tryz.prog 263 Tryz.f263 := ⟨Tryz.func263, by kernel_rfl, by kernel_rfl, by kernel_rfl⟩
def A27 : Env := A26.addG 263 (inlQ Tryz.prog A26 noL Tryz.f263)
theorem ok_A27 : EnvOK Tryz.prog A27 := env_addG ok_A26 (gen_inlQ ok_A26 hmix fn263 lokf_none)
theorem fn264 : Fn1 Tryz.prog 264 Tryz.f264 := ⟨Tryz.func264, by kernel_rfl, by kernel_rfl, by kernel_rfl⟩
def A28 : Env := A27.addG 264 (inlQ Tryz.prog A27 noL Tryz.f264)
theorem ok_A28 : EnvOK Tryz.prog A28 := env_addG ok_A27 (gen_inlQ ok_A27 hmix fn264 lokf_none)
theorem fn151 : Fn1 Tryz.prog 151 Tryz.f151 := ⟨Tryz.func151, by kernel_rfl, by kernel_rfl, by kernel_rfl⟩
def A29 : Env := A28.addG 151 (inlQ Tryz.prog A28 noL Tryz.f151)
theorem ok_A29 : EnvOK Tryz.prog A29 := env_addG ok_A28 (gen_inlQ ok_A28 hmix fn151 lokf_none)
theorem fn24 : Fn1 Tryz.prog 24 Tryz.f24 := ⟨Tryz.func24, by kernel_rfl, by kernel_rfl, by kernel_rfl⟩
def m24 : List (List Value × Value) := [([.string ⟨#[32, 32, 45, 48, 48, 49, 50, 46, 53, 48, 32]⟩], .tuple ⟨[.agg ⟨[.bool true, .string ⟨#[49, 50, 53]⟩, .int .i64 1]⟩, .bool true]⟩), ([.string ⟨#[49, 50, 48, 48]⟩], .tuple ⟨[.agg ⟨[.bool false, .string ⟨#[49, 50]⟩, .int .i64 (-2)]⟩, .bool true]⟩), ([.string ⟨#[49, 69, 49, 50, 51]⟩], .tuple ⟨[.agg ⟨[.bool false, .string ⟨#[]⟩, .int .i64 0]⟩, .bool false]⟩), ([.string ⟨#[49, 50, 120]⟩], .tuple ⟨[.agg ⟨[.bool false, .string ⟨#[]⟩, .int .i64 0]⟩, .bool false]⟩)]
theorem v24_0 (R : Value → Prop) : bodyQ Tryz.prog A29 noL Tryz.f24 [S ⟨#[32, 32, 45, 48, 48, 49, 50, 46, 53, 48, 32]⟩] (fun _ => none) 0 (fun v _ _ => R v) = (R (.tuple ⟨[.agg ⟨[B true, S ⟨#[49, 50, 53]⟩, I 1]⟩, B true]⟩)) := by kernel_rfl
theorem v24_1 (R : Value → Prop) : bodyQ Tryz.prog A29 noL Tryz.f24 [S ⟨#[49, 50, 48, 48]⟩] (fun _ => none) 0 (fun v _ _ => R v) = (R (.tuple ⟨[.agg ⟨[B false, S ⟨#[49, 50]⟩, I (-2)]⟩, B true]⟩)) := by kernel_rfl
theorem v24_2 (R : Value → Prop) : bodyQ Tryz.prog A29 noL Tryz.f24 [S ⟨#[49, 69, 49, 50, 51]⟩] (fun _ => none) 0 (fun v _ _ => R v) = (R (.tuple ⟨[.agg ⟨[B false, S ⟨#[]⟩, I 0]⟩, B false]⟩)) := by kernel_rfl
theorem v24_3 (R : Value → Prop) : bodyQ Tryz.prog A29 noL Tryz.f24 [S ⟨#[49, 50, 120]⟩] (fun _ => none) 0 (fun v _ _ => R v) = (R (.tuple ⟨[.agg ⟨[B false, S ⟨#[]⟩, I 0]⟩, B false]⟩)) := by kernel_rfl
theorem pk24 : PureOK Tryz.prog 24 (memo m24) := pure_memo ok_A29 hmix fn24 lokf_none (by kernel_rfl) ⟨by rw [DoesQ, v24_0], by rw [DoesQ, v24_1], by rw [DoesQ, v24_2], by rw [DoesQ, v24_3], trivial⟩
def A30 : Env := A29.add 24 (memo m24)
theorem ok_A30 : EnvOK Tryz.prog A30 := env_add ok_A29 pk24
theorem fn222 : Fn1 Tryz.prog 222 Tryz.f222 := ⟨Tryz.func222, by kernel_rfl, by kernel_rfl, by kernel_rfl⟩
def m222 : List (List Value × Value) := [([.iface 178 (.string ⟨#[49, 50, 120]⟩)], .tuple ⟨[.agg ⟨[.bool false, .string ⟨#[]⟩, .int .i64 0]⟩, .iface 119 (.agg ⟨[.string ⟨#[49, 50, 120]⟩]⟩)]⟩), ([.iface 174 (.agg ⟨[.int .i64 123, .int .i64 1, .int .i64 3, .int .i64 1, .bool false, .string ⟨#[]⟩]⟩)], .tuple ⟨[.agg ⟨[.bool false, .string ⟨#[49, 50, 51]⟩, .int .i64 1]⟩, .nilIface]⟩), ([.iface 174 (.agg ⟨[.int .i64 1234, .int .i64 1, .int .i64 4, .int .i64 0, .bool false, .string ⟨#[]⟩]⟩)], .tuple ⟨[.agg ⟨[.bool false, .string ⟨#[49, 50, 51, 52]⟩, .int .i64 0]⟩, .nilIface]⟩)]
theorem v222_0 (R : Value → Prop) : bodyQ Tryz.prog A30 noL Tryz.f222 [.iface 178 (S ⟨#[49, 50, 120]⟩)] (fun _ => none) 0 (fun v _ _ => R v) = (R (.tuple ⟨[.agg ⟨[B false, S ⟨#[]⟩, I 0]⟩, .iface 119 (.agg ⟨[S ⟨#[49, 50, 120]⟩]⟩)]⟩)) := by kernel_rfl
theorem v222_1 (R : Value → Prop) : bodyQ Tryz.prog A30 noL Tryz.f222 [.iface 174 (.agg ⟨[I 123, I 1, I 3, I 1, B false, S ⟨#[]⟩]⟩)] (fun _ => none) 0 (fun v _ _ => R v) = (R (.tuple ⟨[.agg ⟨[B false, S ⟨#[49, 50, 51]⟩, I 1]⟩, .nilIface]⟩)) := by kernel_rfl
theorem v222_2 (R : Value → Prop) : bodyQ Tryz.prog A30 noL Tryz.f222 [.iface 174 (.agg ⟨[I 1234, I 1, I 4, I 0, B false, S ⟨#[]⟩]⟩)] (fun _ => none) 0 (fun v _ _ => R v) = (R (.tuple ⟨[.agg ⟨[B false, S ⟨#[49, 50, 51, 52]⟩, I 0]⟩, .nilIface]⟩)) := by kernel_rfl
theorem pk222 : PureOK Tryz.prog 222 (memo m222) := pure_memo ok_A30 hmix fn222 lokf_none (by kernel_rfl) ⟨by rw [DoesQ, v222_0], by rw [DoesQ, v222_1], by rw [DoesQ, v222_2], trivial⟩
def A31 : Env := A30.add 222 (memo m222)
theorem ok_A31 : EnvOK Tryz.prog A31 := env_add ok_A30 pk222
theorem fn168 : Fn1 Tryz.prog 168 Tryz.f168 := ⟨Tryz.func168, by kernel_rfl, by kernel_rfl, by kernel_rfl⟩
def m168 : List (List Value × Value) := [([.iface 178 (.string ⟨#[49, 50, 120]⟩), .agg ⟨[.int .i64 1, .int .i64 3, .int .i64 0, .bool false, .string ⟨#[]⟩]⟩], .tuple ⟨[.agg ⟨[.int .i64 0, .string ⟨#[]⟩]⟩, .int .i64 0, .iface 119 (.agg ⟨[.string ⟨#[49, 50, 120]⟩]⟩)]⟩), ([.iface 174 (.agg ⟨[.int .i64 123, .int .i64 1, .int .i64 3, .int .i64 1, .bool false, .string ⟨#[]⟩]⟩), .agg ⟨[.int .i64 1, .int .i64 5, .int .i64 2, .bool false, .string ⟨#[]⟩]⟩], .tuple ⟨[.agg ⟨[.int .i64 1230, .string ⟨#[]⟩]⟩, .int .i64 0, .nilIface]⟩), ([.iface 174 (.agg ⟨[.int .i64 1234, .int .i64 1, .int .i64 4, .int .i64 0, .bool false, .string ⟨#[]⟩]⟩), .agg ⟨[.int .i64 1, .int .i64 3, .int .i64 0, .bool false, .string ⟨#[]⟩]⟩], .tuple ⟨[.agg ⟨[.int .i64 234, .string ⟨#[]⟩]⟩, .int .i64 1, .nilIface]⟩)]
theorem v168_0 (R : Value → Prop) : bodyQ Tryz.prog A31 noL Tryz.f168 [.iface 178 (S ⟨#[49, 50, 120]⟩), .agg ⟨[I 1, I 3, I 0, B false, S ⟨#[]⟩]⟩] (fun _ => none) 0 (fun v _ _ => R v) = (R (.tuple ⟨[.agg ⟨[I 0, S ⟨#[]⟩]⟩, I 0, .iface 119 (.agg ⟨[S ⟨#[49, 50, 120]⟩]⟩)]⟩)) := by kernel_rfl
theorem v168_1 (R : Value → Prop) : bodyQ Tryz.prog A31 noL Tryz.f168 [.iface 174 (.agg ⟨[I 123, I 1, I 3, I 1, B false, S ⟨#[]⟩]⟩), .agg ⟨[I 1, I 5, I 2, B false, S ⟨#[]⟩]⟩] (fun _ => none) 0 (fun v _ _ => R v) = (R (.tuple ⟨[.agg ⟨[I 1230, S ⟨#[]⟩]⟩, I 0, .nilIface]⟩)) := by kernel_rfl
theorem v168_2 (R : Value → Prop) : bodyQ Tryz.prog A31 noL Tryz.f168 [.iface 174 (.agg ⟨[I 1234, I 1, I 4, I 0, B false, S ⟨#[]⟩]⟩), .agg ⟨[I 1, I 3, I 0, B false, S ⟨#[]⟩]⟩] (fun _ => none) 0 (fun v _ _ => R v) = (R (.tuple ⟨[.agg ⟨[I 234, S ⟨#[]⟩]⟩, I 1, .nilIface]⟩)) := by kernel_rfl
theorem pk168 : PureOK Tryz.prog 168 (memo m168) := pure_memo ok_A31 hmix fn168 lokf_none (by kernel_rfl) ⟨by rw [DoesQ, v168_0], by rw [DoesQ, v168_1], by rw [DoesQ, v168_2], trivial⟩
def A32 : Env := A31.add 168 (memo m168)
theorem ok_A32 : EnvOK Tryz.prog A32 := env_add ok_A31 pk168
theorem fn115 : Fn1 Tryz.prog 115 Tryz.f115 := ⟨Tryz.func115, by kernel_rfl, by kernel_rfl, by kernel_rfl⟩
def m115 : List (List Value × Value) := [([.agg ⟨[.int .i64 2, .int .i64 15, .int .i64 0, .bool false, .string ⟨#[]⟩]⟩], .int .i64 15), ([.agg ⟨[.int .i64 1, .int .i64 3, .int .i64 0, .bool false, .string ⟨#[]⟩]⟩], .int .i64 10)]
theorem v115_0 (R : Value → Prop) : bodyQ Tryz.prog A32 noL Tryz.f115 [.agg ⟨[I 2, I 15, I 0, B false, S ⟨#[]⟩]⟩] (fun _ => none) 0 (fun v _ _ => R v) = (R (I 15)) := by kernel_rfl
theorem v115_1 (R : Value → Prop) : bodyQ Tryz.prog A32 noL Tryz.f115 [.agg ⟨[I 1, I 3, I 0, B false, S ⟨#[]⟩]⟩] (fun _ => none) 0 (fun v _ _ => R v) = (R (I 10)) := by kernel_rfl
theorem pk115 : PureOK Tryz.prog 115 (memo m115) := pure_memo ok_A32 hmix fn115 lokf_none (by kernel_rfl) ⟨by rw [DoesQ, v115_0], by rw [DoesQ, v115_1], trivial⟩
def A33 : Env := A32.add 115 (memo m115)
theorem ok_A33 : EnvOK Tryz.prog A33 := env_add ok_A32 pk115
theorem fn223 : Fn1 Tryz.prog 223 Tryz.f223 := ⟨Tryz.func223, by kernel_rfl, by kernel_rfl, by kernel_rfl⟩
def m223 : List (List Value × Value) := [([.int .i64 1, .int .i64 15], .string ⟨#[48, 48, 48, 48, 48, 48, 48, 48, 48, 48, 48, 48, 48, 48, 49]⟩)]
theorem v223_0 (R : Value → Prop) : bodyQ Tryz.prog A33 noL Tryz.f223 [I 1, I 15] (fun _ => none) 0 (fun v _ _ => R v) = (R (S ⟨#[48, 48, 48, 48, 48, 48, 48, 48, 48, 48, 48, 48, 48, 48, 49]⟩)) := by kernel_rfl
theorem pk223 : PureOK Tryz.prog 223 (memo m223) := pure_memo ok_A33 hmix fn223 lokf_none (by kernel_rfl) ⟨by rw [DoesQ, v223_0], trivial⟩
def A34 : Env := A33.add 223 (memo m223)
theorem ok_A34 : EnvOK Tryz.prog A34 := env_add ok_A33 pk223
theorem fn169 : Fn1 Tryz.prog 169 Tryz.f169 := ⟨Tryz.func169, by kernel_rfl, by kernel_rfl, by kernel_rfl⟩
def m169 : List (List Value × Value) := [([.string ⟨#[48, 48, 48, 48, 48, 48, 48, 48, 48, 48, 48, 48, 48, 48, 49]⟩, .int .i64 1, .string ⟨#[48]⟩], .string ⟨#[48]⟩), ([.string ⟨#[49, 48, 49]⟩, .int .i64 5, .string ⟨#[32]⟩], .string ⟨#[49, 48, 49, 32, 32]⟩), ([.string ⟨#[97, 49, 49]⟩, .int .i64 3, .string ⟨#[32]⟩], .string ⟨#[97, 49, 49]⟩)]
theorem v169_0 (R : Value → Prop) : bodyQ Tryz.prog A34 noL Tryz.f169 [S ⟨#[48, 48, 48, 48, 48, 48, 48, 48, 48, 48, 48, 48, 48, 48, 49]⟩, I 1, S ⟨#[48]⟩] (fun _ => none) 0 (fun v _ _ => R v) = (R (S ⟨#[48]⟩)) := by kernel_rfl
theorem v169_1 (R : Value → Prop) : bodyQ Tryz.prog A34 noL Tryz.f169 [S ⟨#[49, 48, 49]⟩, I 5, S ⟨#[32]⟩] (fun _ => none) 0 (fun v _ _ => R v) = (R (S ⟨#[49, 48, 49, 32, 32]⟩)) := by kernel_rfl
theorem v169_2 (R : Value → Prop) : bodyQ Tryz.prog A34 noL Tryz.f169 [S ⟨#[97, 49, 49]⟩, I 3, S ⟨#[32]⟩] (fun _ => none) 0 (fun v _ _ => R v) = (R (S ⟨#[97, 49, 49]⟩)) := by kernel_rfl
theorem pk169 : PureOK Tryz.prog 169 (memo m169) := pure_memo ok_A34 hmix fn169 lokf_none (by kernel_rfl) ⟨by rw [DoesQ, v169_0], by rw [DoesQ, v169_1], by rw [DoesQ, v169_2], trivial⟩
def A35 : Env := A34.add 169 (memo m169)
theorem ok_A35 : EnvOK Tryz.prog A35 := env_add ok_A34 pk169
theorem fn170 : Fn1 Tryz.prog 170 Tryz.f170 := ⟨Tryz.func170, by kernel_rfl, by kernel_rfl, by kernel_rfl⟩
def m170 : List (List Value × Value) := [([.iface 174 (.agg ⟨[.int .i64 1, .int .i64 2, .int .i64 15, .int .i64 0, .bool false, .string ⟨#[]⟩]⟩)], .tuple ⟨[.string ⟨#[48, 48, 48, 48, 48, 48, 48, 48, 48, 48, 48, 48, 48, 48, 49]⟩, .nilIface]⟩)]
theorem v170_0 (R : Value → Prop) : bodyQ Tryz.prog A35 noL Tryz.f170 [.iface 174 (.agg ⟨[I 1, I 2, I 15, I 0, B false, S ⟨#[]⟩]⟩)] (fun _ => none) 0 (fun v _ _ => R v) = (R (.tuple ⟨[S ⟨#[48, 48, 48, 48, 48, 48, 48, 48, 48, 48, 48, 48, 48, 48, 49]⟩, .nilIface]⟩)) := by kernel_rfl
theorem pk170 : PureOK Tryz.prog 170 (memo m170) := pure_memo ok_A35 hmix fn170 lokf_none (by kernel_rfl) ⟨by rw [DoesQ, v170_0], trivial⟩
def A36 : Env := A35.add 170 (memo m170)
theorem ok_A36 : EnvOK Tryz.prog A36 := env_add ok_A35 pk170
theorem fn99 : Fn1 Tryz.prog 99 Tryz.f99 := ⟨Tryz.func99, by kernel_rfl, by kernel_rfl, by kernel_rfl⟩
def m99 : List (List Value × Value) := [([.iface 178 (.string ⟨#[49, 50, 120]⟩), .agg ⟨[.int .i64 1, .int .i64 3, .int .i64 0, .bool false, .string ⟨#[]⟩]⟩], .tuple ⟨[.agg ⟨[.int .i64 0, .string ⟨#[]⟩]⟩, .int .i64 0, .iface 119 (.agg ⟨[.string ⟨#[49, 50, 120]⟩]⟩)]⟩), ([.iface 174 (.agg ⟨[.int .i64 1, .int .i64 2, .int .i64 15, .int .i64 0, .bool false, .string ⟨#[]⟩]⟩), .agg ⟨[.int .i64 4, .int .i64 1, .int .i64 0, .bool false, .string ⟨#[]⟩]⟩], .tuple ⟨[.agg ⟨[.int .i64 0, .string ⟨#[48]⟩]⟩, .int .i64 0, .nilIface]⟩), ([.iface 175 (.string ⟨#[49, 48, 49]⟩), .agg ⟨[.int .i64 3, .int .i64 5, .int .i64 0, .bool false, .string ⟨#[]⟩]⟩], .tuple ⟨[.agg ⟨[.int .i64 0, .string ⟨#[49, 48, 49, 32, 32]⟩]⟩, .int .i64 0, .nilIface]⟩), ([.iface 174 (.agg ⟨[.int .i64 123, .int .i64 1, .int .i64 3, .int .i64 1, .bool false, .string ⟨#[]⟩]⟩), .agg ⟨[.int .i64 5, .int .i64 0, .int .i64 0, .bool false, .string ⟨#[90, 90, 57, 86, 46, 57, 57]⟩]⟩], .tuple ⟨[.agg ⟨[.int .i64 0, .string ⟨#[32, 49, 50, 46, 51, 48]⟩]⟩, .int .i64 0, .nilIface]⟩), ([.iface 174 (.agg ⟨[.int .i64 1234, .int .i64 1, .int .i64 4, .int .i64 0, .bool false, .string ⟨#[]⟩]⟩), .agg ⟨[.int .i64 5, .int .i64 0, .int .i64 0, .bool false, .string ⟨#[57, 57, 57]⟩]⟩], .tuple ⟨[.agg ⟨[.int .i64 0, .string ⟨#[50, 51, 52]⟩]⟩, .int .i64 1, .nilIface]⟩), ([.iface 178 (.string ⟨#[97, 49, 49]⟩), .agg ⟨[.int .i64 5, .int .i64 0, .int .i64 0, .bool false, .string ⟨#[65, 65, 57]⟩]⟩], .tuple ⟨[.agg ⟨[.int .i64 0, .string ⟨#[]⟩]⟩, .int .i64 0, .iface 119 (.agg ⟨[.string ⟨#[97, 49, 49]⟩]⟩)]⟩)]
theorem v99_0 (R : Value → Prop) : bodyQ Tryz.prog A36 noL Tryz.f99 [.iface 178 (S ⟨#[49, 50, 120]⟩), .agg ⟨[I 1, I 3, I 0, B false, S ⟨#[]⟩]⟩] (fun _ => none) 0 (fun v _ _ => R v) = (R (.tuple ⟨[.agg ⟨[I 0, S ⟨#[]⟩]⟩, I 0, .iface 119 (.agg ⟨[S ⟨#[49, 50, 120]⟩]⟩)]⟩)) := by kernel_rfl
theorem v99_1 (R : Value → Prop) : bodyQ Tryz.prog A36 noL Tryz.f99 [.iface 174 (.agg ⟨[I 1, I 2, I 15, I 0, B false, S ⟨#[]⟩]⟩), .agg ⟨[I 4, I 1, I 0, B false, S ⟨#[]⟩]⟩] (fun _ => none) 0 (fun v _ _ => R v) = (R (.tuple ⟨[.agg ⟨[I 0, S ⟨#[48]⟩]⟩, I 0, .nilIface]⟩)) := by kernel_rfl
theorem v99_2 (R : Value → Prop) : bodyQ Tryz.prog A36 noL Tryz.f99 [.iface 175 (S ⟨#[49, 48, 49]⟩), .agg ⟨[I 3, I 5, I 0, B false, S ⟨#[]⟩]⟩] (fun _ => none) 0 (fun v _ _ => R v) = (R (.tuple ⟨[.agg ⟨[I 0, S ⟨#[49, 48, 49, 32, 32]⟩]⟩, I 0, .nilIface]⟩)) := by kernel_rfl
theorem v99_3 (R : Value → Prop) : bodyQ Tryz.prog A36 noL Tryz.f99 [.iface 174 (.agg ⟨[I 123, I 1, I 3, I 1, B false, S ⟨#[]⟩]⟩), .agg ⟨[I 5, I 0, I 0, B false, S ⟨#[90, 90, 57, 86, 46, 57, 57]⟩]⟩] (fun _ => none) 0 (fun v _ _ => R v) = (R (.tuple ⟨[.agg ⟨[I 0, S ⟨#[32, 49, 50, 46, 51, 48]⟩]⟩, I 0, .nilIface]⟩)) := by kernel_rfl
theorem v99_4 (R : Value → Prop) : bodyQ Tryz.prog A36 noL Tryz.f99 [.iface 174 (.agg ⟨[I 1234, I 1, I 4, I 0, B false, S ⟨#[]⟩]⟩), .agg ⟨[I 5, I 0, I 0, B false, S ⟨#[57, 57, 57]⟩]⟩] (fun _ => none) 0 (fun v _ _ => R v) = (R (.tuple ⟨[.agg ⟨[I 0, S ⟨#[50, 51, 52]⟩]⟩, I 1, .nilIface]⟩)) := by kernel_rfl
theorem v99_5 (R : Value → Prop) : bodyQ Tryz.prog A36 noL Tryz.f99 [.iface 178 (S ⟨#[97, 49, 49]⟩), .agg ⟨[I 5, I 0, I 0, B false, S ⟨#[65, 65, 57]⟩]⟩] (fun _ => none) 0 (fun v _ _ => R v) = (R (.tuple ⟨[.agg ⟨[I 0, S ⟨#[]⟩]⟩, I 0, .iface 119 (.agg ⟨[S ⟨#[97, 49, 49]⟩]⟩)]⟩) ∧ R (.tuple ⟨[.agg ⟨[I 0, S ⟨#[]⟩]⟩, I 0, .iface 119 (.agg ⟨[S ⟨#[97, 49, 49]⟩]⟩)]⟩) ∧ R (.tuple ⟨[.agg ⟨[I 0, S ⟨#[]⟩]⟩, I 0, .iface 119 (.agg ⟨[S ⟨#[97, 49, 49]⟩]⟩)]⟩)) := by kernel_rfl
theorem pk99 : PureOK Tryz.prog 99 (memo m99) := pure_memo ok_A36 hmix fn99 lokf_none (by kernel_rfl) ⟨by rw [DoesQ, v99_0], by rw [DoesQ, v99_1], by rw [DoesQ, v99_2], by rw [DoesQ, v99_3], by rw [DoesQ, v99_4], by rw [DoesQ, v99_5]; exact ⟨rfl, rfl, rfl⟩, trivial⟩
def A37 : Env := A36.add 99 (memo m99)
theorem ok_A37 : EnvOK Tryz.prog A37 := env_add ok_A36 pk99
theorem fn101 : Fn1 Tryz.prog 101 Tryz.f101 := ⟨Tryz.func101, by kernel_rfl, by kernel_rfl, by kernel_rfl⟩
def m101 : List (List Value × Value) := [([.agg ⟨[.int .i64 1, .int .i64 3, .int .i64 0, .bool false, .string ⟨#[]⟩]⟩], .agg ⟨[.int .i64 0, .string ⟨#[]⟩]⟩), ([.agg ⟨[.int .i64 5, .int .i64 0, .int .i64 0, .bool false, .string ⟨#[65, 65, 57]⟩]⟩], .agg ⟨[.int .i64 0, .string ⟨#[32, 32, 32]⟩]⟩)]
theorem v101_0 (R : Value → Prop) : bodyQ Tryz.prog A37 noL Tryz.f101 [.agg ⟨[I 1, I 3, I 0, B false, S ⟨#[]⟩]⟩] (fun _ => none) 0 (fun v _ _ => R v) = (R (.agg ⟨[I 0, S ⟨#[]⟩]⟩)) := by kernel_rfl
theorem v101_1 (R : Value → Prop) : bodyQ Tryz.prog A37 noL Tryz.f101 [.agg ⟨[I 5, I 0, I 0, B false, S ⟨#[65, 65, 57]⟩]⟩] (fun _ => none) 0 (fun v _ _ => R v) = (R (.agg ⟨[I 0, S ⟨#[32, 32, 32]⟩]⟩)) := by kernel_rfl
theorem pk101 : PureOK Tryz.prog 101 (memo m101) := pure_memo ok_A37 hmix fn101 lokf_none (by kernel_rfl) ⟨by rw [DoesQ, v101_0], by rw [DoesQ, v101_1], trivial⟩
def A38 : Env := A37.add 101 (memo m101)
theorem ok_A38 : EnvOK Tryz.prog A38 := env_add ok_A37 pk101
theorem fn34 : Fn1 Tryz.prog 34 Tryz.f34 := ⟨Tryz.func34, by kernel_rfl, by kernel_rfl, by kernel_rfl⟩
def m34 : List (List Value × Value) := [([.agg ⟨[.int .i64 0, .string ⟨#[49, 50, 120]⟩]⟩, .agg ⟨[.int .i64 3, .int .i64 3, .int .i64 0, .bool false, .string ⟨#[]⟩]⟩, .agg ⟨[.int .i64 1, .int .i64 3, .int .i64 0, .bool false, .string ⟨#[]⟩]⟩], .tuple ⟨[.agg ⟨[.int .i64 0, .string ⟨#[]⟩]⟩, .int .i64 4, .int .i64 0]⟩), ([.agg ⟨[.int .i64 1, .string ⟨#[]⟩]⟩, .agg ⟨[.int .i64 2, .int .i64 15, .int .i64 0, .bool false, .string ⟨#[]⟩]⟩, .agg ⟨[.int .i64 4, .int .i64 1, .int .i64 0, .bool false, .string ⟨#[]⟩]⟩], .tuple ⟨[.agg ⟨[.int .i64 0, .string ⟨#[48]⟩]⟩, .int .i64 0, .int .i64 0]⟩), ([.agg ⟨[.int .i64 0, .string ⟨#[49, 48, 49]⟩]⟩, .agg ⟨[.int .i64 4, .int .i64 3, .int .i64 0, .bool false, .string ⟨#[]⟩]⟩, .agg ⟨[.int .i64 3, .int .i64 5, .int .i64 0, .bool false, .string ⟨#[]⟩]⟩], .tuple ⟨[.agg ⟨[.int .i64 0, .string ⟨#[49, 48, 49, 32, 32]⟩]⟩, .int .i64 0, .int .i64 0]⟩), ([.agg ⟨[.int .i64 123, .string ⟨#[]⟩]⟩, .agg ⟨[.int .i64 1, .int .i64 3, .int .i64 1, .bool false, .string ⟨#[]⟩]⟩, .agg ⟨[.int .i64 5, .int .i64 0, .int .i64 0, .bool false, .string ⟨#[90, 90, 57, 86, 46, 57, 57]⟩]⟩], .tuple ⟨[.agg ⟨[.int .i64 0, .string ⟨#[32, 49, 50, 46, 51, 48]⟩]⟩, .int .i64 0, .int .i64 0]⟩), ([.agg ⟨[.int .i64 1234, .string ⟨#[]⟩]⟩, .agg ⟨[.int .i64 1, .int .i64 4, .int .i64 0, .bool false, .string ⟨#[]⟩]⟩, .agg ⟨[.int .i64 5, .int .i64 0, .int .i64 0, .bool false, .string ⟨#[57, 57, 57]⟩]⟩], .tuple ⟨[.agg ⟨[.int .i64 0, .string ⟨#[50, 51, 52]⟩]⟩, .int .i64 1, .int .i64 0]⟩), ([.agg ⟨[.int .i64 0, .string ⟨#[97, 49, 49]⟩]⟩, .agg ⟨[.int .i64 3, .int .i64 3, .int .i64 0, .bool false, .string ⟨#[]⟩]⟩, .agg ⟨[.int .i64 5, .int .i64 0, .int .i64 0, .bool false, .string ⟨#[65, 65, 57]⟩]⟩], .tuple ⟨[.agg ⟨[.int .i64 0, .string ⟨#[32, 32, 32]⟩]⟩, .int .i64 4, .int .i64 0]⟩)]
theorem v34_0 (R : Value → Prop) : bodyQ Tryz.prog A38 noL Tryz.f34 [.agg ⟨[I 0, S ⟨#[49, 50, 120]⟩]⟩, .agg ⟨[I 3, I 3, I 0, B false, S ⟨#[]⟩]⟩, .agg ⟨[I 1, I 3, I 0, B false, S ⟨#[]⟩]⟩] (fun _ => none) 0 (fun v _ _ => R v) = (R (.tuple ⟨[.agg ⟨[I 0, S ⟨#[]⟩]⟩, I 4, I 0]⟩)) := by kernel_rfl
theorem v34_1 (R : Value → Prop) : bodyQ Tryz.prog A38 noL Tryz.f34 [.agg ⟨[I 1, S ⟨#[]⟩]⟩, .agg ⟨[I 2, I 15, I 0, B false, S ⟨#[]⟩]⟩, .agg ⟨[I 4, I 1, I 0, B false, S ⟨#[]⟩]⟩] (fun _ => none) 0 (fun v _ _ => R v) = (R (.tuple ⟨[.agg ⟨[I 0, S ⟨#[48]⟩]⟩, I 0, I 0]⟩)) := by kernel_rfl
theorem v34_2 (R : Value → Prop) : bodyQ Tryz.prog A38 noL Tryz.f34 [.agg ⟨[I 0, S ⟨#[49, 48, 49]⟩]⟩, .agg ⟨[I 4, I 3, I 0, B false, S ⟨#[]⟩]⟩, .agg ⟨[I 3, I 5, I 0, B false, S ⟨#[]⟩]⟩] (fun _ => none) 0 (fun v _ _ => R v) = (R (.tuple ⟨[.agg ⟨[I 0, S ⟨#[49, 48, 49, 32, 32]⟩]⟩, I 0, I 0]⟩)) := by kernel_rfl
theorem v34_3 (R : Value → Prop) : bodyQ Tryz.prog A38 noL Tryz.f34 [.agg ⟨[I 123, S ⟨#[]⟩]⟩, .agg ⟨[I 1, I 3, I 1, B false, S ⟨#[]⟩]⟩, .agg ⟨[I 5, I 0, I 0, B false, S ⟨#[90, 90, 57, 86, 46, 57, 57]⟩]⟩] (fun _ => none) 0 (fun v _ _ => R v) = (R (.tuple ⟨[.agg ⟨[I 0, S ⟨#[32, 49, 50, 46, 51, 48]⟩]⟩, I 0, I 0]⟩)) := by kernel_rfl
theorem v34_4 (R : Value → Prop) : bodyQ Tryz.prog A38 noL Tryz.f34 [.agg ⟨[I 1234, S ⟨#[]⟩]⟩, .agg ⟨[I 1, I 4, I 0, B false, S ⟨#[]⟩]⟩, .agg ⟨[I 5, I 0, I 0, B false, S ⟨#[57, 57, 57]⟩]⟩] (fun _ => none) 0 (fun v _ _ => R v) = (R (.tuple ⟨[.agg ⟨[I 0, S ⟨#[50, 51, 52]⟩]⟩, I 1, I 0]⟩)) := by kernel_rfl
theorem v34_5 (R : Value → Prop) : bodyQ Tryz.prog A38 noL Tryz.f34 [.agg ⟨[I 0, S ⟨#[97, 49, 49]⟩]⟩, .agg ⟨[I 3, I 3, I 0, B false, S ⟨#[]⟩]⟩, .agg ⟨[I 5, I 0, I 0, B false, S ⟨#[65, 65, 57]⟩]⟩] (fun _ => none) 0 (fun v _ _ => R v) = (R (.tuple ⟨[.agg ⟨[I 0, S ⟨#[32, 32, 32]⟩]⟩, I 4, I 0]⟩)) := by kernel_rfl
theorem pk34 : PureOK Tryz.prog 34 (memo m34) := pure_memo ok_A38 hmix fn34 lokf_none (by kernel_rfl) ⟨by rw [DoesQ, v34_0], by rw [DoesQ, v34_1], by rw [DoesQ, v34_2], by rw [DoesQ, v34_3], by rw [DoesQ, v34_4], by rw [DoesQ, v34_5], trivial⟩
def A39 : Env := A38.add 34 (memo m34)
theorem ok_A39 : EnvOK Tryz.prog A39 := env_add ok_A38 pk34
theorem fn48 : Fn1 Tryz.prog 48 Tryz.f48 := ⟨Tryz.func48, by kernel_rfl, by kernel_rfl, by kernel_rfl⟩
def m48 : List (List Value × Value) := [([.agg ⟨[.int .i64 0, .string ⟨#[49, 50, 120]⟩]⟩, .agg ⟨[.int .i64 3, .int .i64 3, .int .i64 0, .bool false, .string ⟨#[]⟩]⟩, .agg ⟨[.int .i64 1, .int .i64 3, .int .i64 0, .bool false, .string ⟨#[]⟩]⟩, .agg ⟨[.int .i64 0, .string ⟨#[]⟩]⟩, .int .i64 4], .bool true), ([.agg ⟨[.int .i64 1, .string ⟨#[]⟩]⟩, .agg ⟨[.int .i64 2, .int .i64 15, .int .i64 0, .bool false, .string ⟨#[]⟩]⟩, .agg ⟨[.int .i64 4, .int .i64 1, .int .i64 0, .bool false, .string ⟨#[]⟩]⟩, .agg ⟨[.int .i64 0, .string ⟨#[48]⟩]⟩, .int .i64 0], .bool true), ([.agg ⟨[.int .i64 0, .string ⟨#[49, 48, 49]⟩]⟩, .agg ⟨[.int .i64 4, .int .i64 3, .int .i64 0, .bool false, .string ⟨#[]⟩]⟩, .agg ⟨[.int .i64 3, .int .i64 5, .int .i64 0, .bool false, .string ⟨#[]⟩]⟩, .agg ⟨[.int .i64 0, .string ⟨#[49, 48, 49, 32, 32]⟩]⟩, .int .i64 0], .bool true), ([.agg ⟨[.int .i64 123, .string ⟨#[]⟩]⟩, .agg ⟨[.int .i64 1, .int .i64 3, .int .i64 1, .bool false, .string ⟨#[]⟩]⟩, .agg ⟨[.int .i64 5, .int .i64 0, .int .i64 0, .bool false, .string ⟨#[90, 90, 57, 86, 46, 57, 57]⟩]⟩, .agg ⟨[.int .i64 0, .string ⟨#[32, 49, 50, 46, 51, 48]⟩]⟩, .int .i64 0], .bool true), ([.agg ⟨[.int .i64 1234, .string ⟨#[]⟩]⟩, .agg ⟨[.int .i64 1, .int .i64 4, .int .i64 0, .bool false, .string ⟨#[]⟩]⟩, .agg ⟨[.int .i64 5, .int .i64 0, .int .i64 0, .bool false, .string ⟨#[57, 57, 57]⟩]⟩, .agg ⟨[.int .i64 0, .string ⟨#[50, 51, 52]⟩]⟩, .int .i64 1], .bool true), ([.agg ⟨[.int .i64 0, .string ⟨#[97, 49, 49]⟩]⟩, .agg ⟨[.int .i64 3, .int .i64 3, .int .i64 0, .bool false, .string ⟨#[]⟩]⟩, .agg ⟨[.int .i64 5, .int .i64 0, .int .i64 0, .bool false, .string ⟨#[65, 65, 57]⟩]⟩, .agg ⟨[.int .i64 0, .string ⟨#[32, 32, 32]⟩]⟩, .int .i64 4], .bool true)]
theorem v48_0 (R : Value → Prop) : bodyQ Tryz.prog A39 noL Tryz.f48 [.agg ⟨[I 0, S ⟨#[49, 50, 120]⟩]⟩, .agg ⟨[I 3, I 3, I 0, B false, S ⟨#[]⟩]⟩, .agg ⟨[I 1, I 3, I 0, B false, S ⟨#[]⟩]⟩, .agg ⟨[I 0, S ⟨#[]⟩]⟩, I 4] (fun _ => none) 0 (fun v _ _ => R v) = (R (B true)) := by kernel_rfl
theorem v48_1 (R : Value → Prop) : bodyQ Tryz.prog A39 noL Tryz.f48 [.agg ⟨[I 1, S ⟨#[]⟩]⟩, .agg ⟨[I 2, I 15, I 0, B false, S ⟨#[]⟩]⟩, .agg ⟨[I 4, I 1, I 0, B false, S ⟨#[]⟩]⟩, .agg ⟨[I 0, S ⟨#[48]⟩]⟩, I 0] (fun _ => none) 0 (fun v _ _ => R v) = (R (B true)) := by kernel_rfl
theorem v48_2 (R : Value → Prop) : bodyQ Tryz.prog A39 noL Tryz.f48 [.agg ⟨[I 0, S ⟨#[49, 48, 49]⟩]⟩, .agg ⟨[I 4, I 3, I 0, B false, S ⟨#[]⟩]⟩, .agg ⟨[I 3, I 5, I 0, B false, S ⟨#[]⟩]⟩, .agg ⟨[I 0, S ⟨#[49, 48, 49, 32, 32]⟩]⟩, I 0] (fun _ => none) 0 (fun v _ _ => R v) = (R (B true)) := by kernel_rfl
theorem v48_3 (R : Value → Prop) : bodyQ Tryz.prog A39 noL Tryz.f48 [.agg ⟨[I 123, S ⟨#[]⟩]⟩, .agg ⟨[I 1, I 3, I 1, B false, S ⟨#[]⟩]⟩, .agg ⟨[I 5, I 0, I 0, B false, S ⟨#[90, 90, 57, 86, 46, 57, 57]⟩]⟩, .agg ⟨[I 0, S ⟨#[32, 49, 50, 46, 51, 48]⟩]⟩, I 0] (fun _ => none) 0 (fun v _ _ => R v) = (R (B true)) := by kernel_rfl
theorem v48_4 (R : Value → Prop) : bodyQ Tryz.prog A39 noL Tryz.f48 [.agg ⟨[I 1234, S ⟨#[]⟩]⟩, .agg ⟨[I 1, I 4, I 0, B false, S ⟨#[]⟩]⟩, .agg ⟨[I 5, I 0, I 0, B false, S ⟨#[57, 57, 57]⟩]⟩, .agg ⟨[I 0, S ⟨#[50, 51, 52]⟩]⟩, I 1] (fun _ => none) 0 (fun v _ _ => R v) = (R (B true)) := by kernel_rfl
theorem v48_5 (R : Value → Prop) : bodyQ Tryz.prog A39 noL Tryz.f48 [.agg ⟨[I 0, S ⟨#[97, 49, 49]⟩]⟩, .agg ⟨[I 3, I 3, I 0, B false, S ⟨#[]⟩]⟩, .agg ⟨[I 5, I 0, I 0, B false, S ⟨#[65, 65, 57]⟩]⟩, .agg ⟨[I 0, S ⟨#[32, 32, 32]⟩]⟩, I 4] (fun _ => none) 0 (fun v _ _ => R v) = (R (B true)) := by kernel_rfl
theorem pk48 : PureOK Tryz.prog 48 (memo m48) := pure_memo ok_A39 hmix fn48 lokf_none (by kernel_rfl) ⟨by rw [DoesQ, v48_0], by rw [DoesQ, v48_1], by rw [DoesQ, v48_2], by rw [DoesQ, v48_3], by rw [DoesQ, v48_4], by rw [DoesQ, v48_5], trivial⟩
def A40 : Env := A39.add 48 (memo m48)
theorem ok_A40 : EnvOK Tryz.prog A40 := env_add ok_A39 pk48
theorem fn108 : Fn1 Tryz.prog 108 Tryz.f108 := ⟨Tryz.func108, by kernel_rfl, by kernel_rfl, by kernel_rfl⟩
def m108 : List (List Value × Value) := [([.agg ⟨[.int .i64 4, .int .i64 3, .int .i64 0, .bool false, .string ⟨#[]⟩]⟩], .int .i64 0), ([.agg ⟨[.int .i64 1, .int .i64 3, .int .i64 1, .bool false, .string ⟨#[]⟩]⟩], .int .i64 0), ([.agg ⟨[.int .i64 1, .int .i64 3, .int .i64 0, .bool false, .string ⟨#[]⟩]⟩], .int .i64 0), ([.agg ⟨[.int .i64 2, .int .i64 15, .int .i64 0, .bool false, .string ⟨#[]⟩]⟩], .int .i64 0)]
theorem v108_0 (R : Value → Prop) : bodyQ Tryz.prog A40 noL Tryz.f108 [.agg ⟨[I 4, I 3, I 0, B false, S ⟨#[]⟩]⟩] (fun _ => none) 0 (fun v _ _ => R v) = (R (I 0)) := by kernel_rfl
theorem v108_1 (R : Value → Prop) : bodyQ Tryz.prog A40 noL Tryz.f108 [.agg ⟨[I 1, I 3, I 1, B false, S ⟨#[]⟩]⟩] (fun _ => none) 0 (fun v _ _ => R v) = (R (I 0)) := by kernel_rfl
theorem v108_2 (R : Value → Prop) : bodyQ Tryz.prog A40 noL Tryz.f108 [.agg ⟨[I 1, I 3, I 0, B false, S ⟨#[]⟩]⟩] (fun _ => none) 0 (fun v _ _ => R v) = (R (I 0)) := by kernel_rfl
theorem v108_3 (R : Value → Prop) : bodyQ Tryz.prog A40 noL Tryz.f108 [.agg ⟨[I 2, I 15, I 0, B false, S ⟨#[]⟩]⟩] (fun _ => none) 0 (fun v _ _ => R v) = (R (I 0)) := by kernel_rfl
theorem pk108 : PureOK Tryz.prog 108 (memo m108) := pure_memo ok_A40 hmix fn108 lokf_none (by kernel_rfl) ⟨by rw [DoesQ, v108_0], by rw [DoesQ, v108_1], by rw [DoesQ, v108_2], by rw [DoesQ, v108_3], trivial⟩
def A41 : Env := A40.add 108 (memo m108)
theorem ok_A41 : EnvOK Tryz.prog A41 := env_add ok_A40 pk108
theorem fn38 : Fn1 Tryz.prog 38 Tryz.f38 := ⟨Tryz.func38, by kernel_rfl, by kernel_rfl, by kernel_rfl⟩
def m38 : List (List Value × Value) := [([.agg ⟨[.int .i64 4, .int .i64 3, .int .i64 0, .bool false, .string ⟨#[]⟩]⟩], .tuple ⟨[.agg ⟨[.int .i64 2, .int .i64 31, .int .i64 0, .bool false, .string ⟨#[]⟩]⟩, .int .i64 0]⟩), ([.agg ⟨[.int .i64 1, .int .i64 3, .int .i64 1, .bool false, .string ⟨#[]⟩]⟩], .tuple ⟨[.agg ⟨[.int .i64 1, .int .i64 3, .int .i64 1, .bool false, .string ⟨#[]⟩]⟩, .int .i64 0]⟩), ([.agg ⟨[.int .i64 2, .int .i64 15, .int .i64 0, .bool false, .string ⟨#[]⟩]⟩], .tuple ⟨[.agg ⟨[.int .i64 2, .int .i64 15, .int .i64 0, .bool false, .string ⟨#[]⟩]⟩, .int .i64 0]⟩)]
theorem v38_0 (R : Value → Prop) : bodyQ Tryz.prog A41 noL Tryz.f38 [.agg ⟨[I 4, I 3, I 0, B false, S ⟨#[]⟩]⟩] (fun _ => none) 0 (fun v _ _ => R v) = (R (.tuple ⟨[.agg ⟨[I 2, I 31, I 0, B false, S ⟨#[]⟩]⟩, I 0]⟩)) := by kernel_rfl
theorem v38_1 (R : Value → Prop) : bodyQ Tryz.prog A41 noL Tryz.f38 [.agg ⟨[I 1, I 3, I 1, B false, S ⟨#[]⟩]⟩] (fun _ => none) 0 (fun v _ _ => R v) = (R (.tuple ⟨[.agg ⟨[I 1, I 3, I 1, B false, S ⟨#[]⟩]⟩, I 0]⟩)) := by kernel_rfl
theorem v38_2 (R : Value → Prop) : bodyQ Tryz.prog A41 noL Tryz.f38 [.agg ⟨[I 2, I 15, I 0, B false, S ⟨#[]⟩]⟩] (fun _ => none) 0 (fun v _ _ => R v) = (R (.tuple ⟨[.agg ⟨[I 2, I 15, I 0, B false, S ⟨#[]⟩]⟩, I 0]⟩)) := by kernel_rfl
theorem pk38 : PureOK Tryz.prog 38 (memo m38) := pure_memo ok_A41 hmix fn38 lokf_none (by kernel_rfl) ⟨by rw [DoesQ, v38_0], by rw [DoesQ, v38_1], by rw [DoesQ, v38_2], trivial⟩
def A42 : Env := A41.add 38 (memo m38)
theorem ok_A42 : EnvOK Tryz.prog A42 := env_add ok_A41 pk38
theorem fn40 : Fn1 Tryz.prog 40 Tryz.f40 := ⟨Tryz.func40, by kernel_rfl, by kernel_rfl, by kernel_rfl⟩
def m40 : List (List Value × Value) := [([.agg ⟨[.int .i64 1, .int .i64 3, .int .i64 1, .bool false, .string ⟨#[]⟩]⟩], .tuple ⟨[.agg ⟨[.int .i64 3, .int .i64 6, .int .i64 0, .bool false, .string ⟨#[]⟩]⟩, .int .i64 0]⟩)]
theorem v40_0 (R : Value → Prop) : bodyQ Tryz.prog A42 noL Tryz.f40 [.agg ⟨[I 1, I 3, I 1, B false, S ⟨#[]⟩]⟩] (fun _ => none) 0 (fun v _ _ => R v) = (R (.tuple ⟨[.agg ⟨[I 3, I 6, I 0, B false, S ⟨#[]⟩]⟩, I 0]⟩)) := by kernel_rfl
theorem pk40 : PureOK Tryz.prog 40 (memo m40) := pure_memo ok_A42 hmix fn40 lokf_none (by kernel_rfl) ⟨by rw [DoesQ, v40_0], trivial⟩
def A43 : Env := A42.add 40 (memo m40)
theorem ok_A43 : EnvOK Tryz.prog A43 := env_add ok_A42 pk40
theorem fn42 : Fn1 Tryz.prog 42 Tryz.f42 := ⟨Tryz.func42, by kernel_rfl, by kernel_rfl, by kernel_rfl⟩
def m42 : List (List Value × Value) := [([.agg ⟨[.int .i64 1, .int .i64 3, .int .i64 0, .bool false, .string ⟨#[]⟩]⟩], .tuple ⟨[.agg ⟨[.int .i64 4, .int .i64 10, .int .i64 0, .bool false, .string ⟨#[]⟩]⟩, .int .i64 0]⟩)]
theorem v42_0 (R : Value → Prop) : bodyQ Tryz.prog A43 noL Tryz.f42 [.agg ⟨[I 1, I 3, I 0, B false, S ⟨#[]⟩]⟩] (fun _ => none) 0 (fun v _ _ => R v) = (R (.tuple ⟨[.agg ⟨[I 4, I 10, I 0, B false, S ⟨#[]⟩]⟩, I 0]⟩)) := by kernel_rfl
theorem pk42 : PureOK Tryz.prog 42 (memo m42) := pure_memo ok_A43 hmix fn42 lokf_none (by kernel_rfl) ⟨by rw [DoesQ, v42_0], trivial⟩
def A44 : Env := A43.add 42 (memo m42)
theorem ok_A44 : EnvOK Tryz.prog A44 := env_add ok_A43 pk42
theorem fn117 : Fn1 Tryz.prog 117 Tryz.f117 := ⟨Tryz.func117, by kernel_rfl, by kernel_rfl, by kernel_rfl⟩
def m117 : List (List Value × Value) := [([.agg ⟨[.int .i64 1, .int .i64 3, .int .i64 1, .bool false, .string ⟨#[]⟩]⟩], .tuple ⟨[.agg ⟨[.int .i64 2, .int .i64 11, .int .i64 0, .bool false, .string ⟨#[]⟩]⟩, .int .i64 0]⟩)]
theorem v117_0 (R : Value → Prop) : bodyQ Tryz.prog A44 noL Tryz.f117 [.agg ⟨[I 1, I 3, I 1, B false, S ⟨#[]⟩]⟩] (fun _ => none) 0 (fun v _ _ => R v) = (R (.tuple ⟨[.agg ⟨[I 2, I 11, I 0, B false, S ⟨#[]⟩]⟩, I 0]⟩)) := by kernel_rfl
theorem pk117 : PureOK Tryz.prog 117 (memo m117) := pure_memo ok_A44 hmix fn117 lokf_none (by kernel_rfl) ⟨by rw [DoesQ, v117_0], trivial⟩
def A45 : Env := A44.add 117 (memo m117)
theorem ok_A45 : EnvOK Tryz.prog A45 := env_add ok_A44 pk117
theorem fn53 : Fn1 Tryz.prog 53 Tryz.f53 := ⟨Tryz.func53, by kernel_rfl, by kernel_rfl, by kernel_rfl⟩
def m53 : List (List Value × Value) := [([.int .i64 (-150)], .agg ⟨[.int .i64 (-150), .string ⟨#[]⟩]⟩), ([.int .i64 0], .agg ⟨[.int .i64 0, .string ⟨#[]⟩]⟩), ([.int .i64 1], .agg ⟨[.int .i64 1, .string ⟨#[]⟩]⟩), ([.int .i64 123], .agg ⟨[.int .i64 123, .string ⟨#[]⟩]⟩), ([.int .i64 1234], .agg ⟨[.int .i64 1234, .string ⟨#[]⟩]⟩), ([.int .i64 234], .agg ⟨[.int .i64 234, .string ⟨#[]⟩]⟩)]
theorem v53_0 (R : Value → Prop) : bodyQ Tryz.prog A45 noL Tryz.f53 [I (-150)] (fun _ => none) 0 (fun v _ _ => R v) = (R (.agg ⟨[I (-150), S ⟨#[]⟩]⟩)) := by kernel_rfl
theorem v53_1 (R : Value → Prop) : bodyQ Tryz.prog A45 noL Tryz.f53 [I 0] (fun _ => none) 0 (fun v _ _ => R v) = (R (.agg ⟨[I 0, S ⟨#[]⟩]⟩)) := by kernel_rfl
theorem v53_2 (R : Value → Prop) : bodyQ Tryz.prog A45 noL Tryz.f53 [I 1] (fun _ => none) 0 (fun v _ _ => R v) = (R (.agg ⟨[I 1, S ⟨#[]⟩]⟩)) := by kernel_rfl
theorem v53_3 (R : Value → Prop) : bodyQ Tryz.prog A45 noL Tryz.f53 [I 123] (fun _ => none) 0 (fun v _ _ => R v) = (R (.agg ⟨[I 123, S ⟨#[]⟩]⟩)) := by kernel_rfl
theorem v53_4 (R : Value → Prop) : bodyQ Tryz.prog A45 noL Tryz.f53 [I 1234] (fun _ => none) 0 (fun v _ _ => R v) = (R (.agg ⟨[I 1234, S ⟨#[]⟩]⟩)) := by kernel_rfl
theorem v53_5 (R : Value → Prop) : bodyQ Tryz.prog A45 noL Tryz.f53 [I 234] (fun _ => none) 0 (fun v _ _ => R v) = (R (.agg ⟨[I 234, S ⟨#[]⟩]⟩)) := by kernel_rfl
theorem pk53 : PureOK Tryz.prog 53 (memo m53) := pure_memo ok_A45 hmix fn53 lokf_none (by kernel_rfl) ⟨by rw [DoesQ, v53_0], by rw [DoesQ, v53_1], by rw [DoesQ, v53_2], by rw [DoesQ, v53_3], by rw [DoesQ, v53_4], by rw [DoesQ, v53_5], trivial⟩
def A46 : Env := A45.add 53 (memo m53)
theorem ok_A46 : EnvOK Tryz.prog A46 := env_add ok_A45 pk53
theorem fn65 : Fn1 Tryz.prog 65 Tryz.f65 := ⟨Tryz.func65, by kernel_rfl, by kernel_rfl, by kernel_rfl⟩
def m65 : List (List Value × Value) := [([.int .i64 3, .int .i64 1], .agg ⟨[.int .i64 1, .int .i64 3, .int .i64 1, .bool false, .string ⟨#[]⟩]⟩), ([.int .i64 4, .int .i64 2], .agg ⟨[.int .i64 1, .int .i64 4, .int .i64 2, .bool false, .string ⟨#[]⟩]⟩), ([.int .i64 3, .int .i64 0], .agg ⟨[.int .i64 1, .int .i64 3, .int .i64 0, .bool false, .string ⟨#[]⟩]⟩), ([.int .i64 4, .int .i64 0], .agg ⟨[.int .i64 1, .int .i64 4, .int .i64 0, .bool false, .string ⟨#[]⟩]⟩)]
theorem v65_0 (R : Value → Prop) : bodyQ Tryz.prog A46 noL Tryz.f65 [I 3, I 1] (fun _ => none) 0 (fun v _ _ => R v) = (R (.agg ⟨[I 1, I 3, I 1, B false, S ⟨#[]⟩]⟩)) := by kernel_rfl
theorem v65_1 (R : Value → Prop) : bodyQ Tryz.prog A46 noL Tryz.f65 [I 4, I 2] (fun _ => none) 0 (fun v _ _ => R v) = (R (.agg ⟨[I 1, I 4, I 2, B false, S ⟨#[]⟩]⟩)) := by kernel_rfl
theorem v65_2 (R : Value → Prop) : bodyQ Tryz.prog A46 noL Tryz.f65 [I 3, I 0] (fun _ => none) 0 (fun v _ _ => R v) = (R (.agg ⟨[I 1, I 3, I 0, B false, S ⟨#[]⟩]⟩)) := by kernel_rfl
theorem v65_3 (R : Value → Prop) : bodyQ Tryz.prog A46 noL Tryz.f65 [I 4, I 0] (fun _ => none) 0 (fun v _ _ => R v) = (R (.agg ⟨[I 1, I 4, I 0, B false, S ⟨#[]⟩]⟩)) := by kernel_rfl
theorem pk65 : PureOK Tryz.prog 65 (memo m65) := pure_memo ok_A46 hmix fn65 lokf_none (by kernel_rfl) ⟨by rw [DoesQ, v65_0], by rw [DoesQ, v65_1], by rw [DoesQ, v65_2], by rw [DoesQ, v65_3], trivial⟩
def A47 : Env := A46.add 65 (memo m65)
theorem ok_A47 : EnvOK Tryz.prog A47 := env_add ok_A46 pk65
theorem fn50 : Fn1 Tryz.prog 50 Tryz.f50 := ⟨Tryz.func50, by kernel_rfl, by kernel_rfl, by kernel_rfl⟩
def m50 : List (List Value × Value) := [([.int .i64 15], .agg ⟨[.int .i64 2, .int .i64 15, .int .i64 0, .bool false, .string ⟨#[]⟩]⟩), ([.int .i64 11], .agg ⟨[.int .i64 2, .int .i64 11, .int .i64 0, .bool false, .string ⟨#[]⟩]⟩), ([.int .i64 31], .agg ⟨[.int .i64 2, .int .i64 31, .int .i64 0, .bool false, .string ⟨#[]⟩]⟩)]
theorem v50_0 (R : Value → Prop) : bodyQ Tryz.prog A47 noL Tryz.f50 [I 15] (fun _ => none) 0 (fun v _ _ => R v) = (R (.agg ⟨[I 2, I 15, I 0, B false, S ⟨#[]⟩]⟩)) := by kernel_rfl
theorem v50_1 (R : Value → Prop) : bodyQ Tryz.prog A47 noL Tryz.f50 [I 11] (fun _ => none) 0 (fun v _ _ => R v) = (R (.agg ⟨[I 2, I 11, I 0, B false, S ⟨#[]⟩]⟩)) := by kernel_rfl
theorem v50_2 (R : Value → Prop) : bodyQ Tryz.prog A47 noL Tryz.f50 [I 31] (fun _ => none) 0 (fun v _ _ => R v) = (R (.agg ⟨[I 2, I 31, I 0, B false, S ⟨#[]⟩]⟩)) := by kernel_rfl
theorem pk50 : PureOK Tryz.prog 50 (memo m50) := pure_memo ok_A47 hmix fn50 lokf_none (by kernel_rfl) ⟨by rw [DoesQ, v50_0], by rw [DoesQ, v50_1], by rw [DoesQ, v50_2], trivial⟩
def A48 : Env := A47.add 50 (memo m50)
theorem ok_A48 : EnvOK Tryz.prog A48 := env_add ok_A47 pk50
theorem fn51 : Fn1 Tryz.prog 51 Tryz.f51 := ⟨Tryz.func51, by kernel_rfl, by kernel_rfl, by kernel_rfl⟩
def m51 : List (List Value × Value) := [([.int .i64 1], .agg ⟨[.int .i64 4, .int .i64 1, .int .i64 0, .bool false, .string ⟨#[]⟩]⟩), ([.int .i64 3], .agg ⟨[.int .i64 4, .int .i64 3, .int .i64 0, .bool false, .string ⟨#[]⟩]⟩), ([.int .i64 10], .agg ⟨[.int .i64 4, .int .i64 10, .int .i64 0, .bool false, .string ⟨#[]⟩]⟩), ([.int .i64 64], .agg ⟨[.int .i64 4, .int .i64 64, .int .i64 0, .bool false, .string ⟨#[]⟩]⟩)]
theorem v51_0 (R : Value → Prop) : bodyQ Tryz.prog A48 noL Tryz.f51 [I 1] (fun _ => none) 0 (fun v _ _ => R v) = (R (.agg ⟨[I 4, I 1, I 0, B false, S ⟨#[]⟩]⟩)) := by kernel_rfl
theorem v51_1 (R : Value → Prop) : bodyQ Tryz.prog A48 noL Tryz.f51 [I 3] (fun _ => none) 0 (fun v _ _ => R v) = (R (.agg ⟨[I 4, I 3, I 0, B false, S ⟨#[]⟩]⟩)) := by kernel_rfl
theorem v51_2 (R : Value → Prop) : bodyQ Tryz.prog A48 noL Tryz.f51 [I 10] (fun _ => none) 0 (fun v _ _ => R v) = (R (.agg ⟨[I 4, I 10, I 0, B false, S ⟨#[]⟩]⟩)) := by kernel_rfl
theorem v51_3 (R : Value → Prop) : bodyQ Tryz.prog A48 noL Tryz.f51 [I 64] (fun _ => none) 0 (fun v _ _ => R v) = (R (.agg ⟨[I 4, I 64, I 0, B false, S ⟨#[]⟩]⟩)) := by kernel_rfl
theorem pk51 : PureOK Tryz.prog 51 (memo m51) := pure_memo ok_A48 hmix fn51 lokf_none (by kernel_rfl) ⟨by rw [DoesQ, v51_0], by rw [DoesQ, v51_1], by rw [DoesQ, v51_2], by rw [DoesQ, v51_3], trivial⟩
def A49 : Env := A48.add 51 (memo m51)
theorem ok_A49 : EnvOK Tryz.prog A49 := env_add ok_A48 pk51
theorem fn54 : Fn1 Tryz.prog 54 Tryz.f54 := ⟨Tryz.func54, by kernel_rfl, by kernel_rfl, by kernel_rfl⟩
def m54 : List (List Value × Value) := [([.int .i64 3], .agg ⟨[.int .i64 3, .int .i64 3, .int .i64 0, .bool false, .string ⟨#[]⟩]⟩), ([.int .i64 5], .agg ⟨[.int .i64 3, .int .i64 5, .int .i64 0, .bool false, .string ⟨#[]⟩]⟩), ([.int .i64 6], .agg ⟨[.int .i64 3, .int .i64 6, .int .i64 0, .bool false, .string ⟨#[]⟩]⟩), ([.int .i64 256], .agg ⟨[.int .i64 3, .int .i64 256, .int .i64 0, .bool false, .string ⟨#[]⟩]⟩)]
theorem v54_0 (R : Value → Prop) : bodyQ Tryz.prog A49 noL Tryz.f54 [I 3] (fun _ => none) 0 (fun v _ _ => R v) = (R (.agg ⟨[I 3, I 3, I 0, B false, S ⟨#[]⟩]⟩)) := by kernel_rfl
theorem v54_1 (R : Value → Prop) : bodyQ Tryz.prog A49 noL Tryz.f54 [I 5] (fun _ => none) 0 (fun v _ _ => R v) = (R (.agg ⟨[I 3, I 5, I 0, B false, S ⟨#[]⟩]⟩)) := by kernel_rfl
theorem v54_2 (R : Value → Prop) : bodyQ Tryz.prog A49 noL Tryz.f54 [I 6] (fun _ => none) 0 (fun v _ _ => R v) = (R (.agg ⟨[I 3, I 6, I 0, B false, S ⟨#[]⟩]⟩)) := by kernel_rfl
theorem v54_3 (R : Value → Prop) : bodyQ Tryz.prog A49 noL Tryz.f54 [I 256] (fun _ => none) 0 (fun v _ _ => R v) = (R (.agg ⟨[I 3, I 256, I 0, B false, S ⟨#[]⟩]⟩)) := by kernel_rfl
theorem pk54 : PureOK Tryz.prog 54 (memo m54) := pure_memo ok_A49 hmix fn54 lokf_none (by kernel_rfl) ⟨by rw [DoesQ, v54_0], by rw [DoesQ, v54_1], by rw [DoesQ, v54_2], by rw [DoesQ, v54_3], trivial⟩
def A50 : Env := A49.add 54 (memo m54)
theorem ok_A50 : EnvOK Tryz.prog A50 := env_add ok_A49 pk54
theorem fn60 : Fn1 Tryz.prog 60 Tryz.f60 := ⟨Tryz.func60, by kernel_rfl, by kernel_rfl, by kernel_rfl⟩
def m60 : List (List Value × Value) := [([.string ⟨#[90, 90, 57, 86, 46, 57, 57]⟩], .agg ⟨[.int .i64 5, .int .i64 0, .int .i64 0, .bool false, .string ⟨#[90, 90, 57, 86, 46, 57, 57]⟩]⟩), ([.string ⟨#[57, 57, 57]⟩], .agg ⟨[.int .i64 5, .int .i64 0, .int .i64 0, .bool false, .string ⟨#[57, 57, 57]⟩]⟩), ([.string ⟨#[65, 65, 57]⟩], .agg ⟨[.int .i64 5, .int .i64 0, .int .i64 0, .bool false, .string ⟨#[65, 65, 57]⟩]⟩)]
theorem v60_0 (R : Value → Prop) : bodyQ Tryz.prog A50 noL Tryz.f60 [S ⟨#[90, 90, 57, 86, 46, 57, 57]⟩] (fun _ => none) 0 (fun v _ _ => R v) = (R (.agg ⟨[I 5, I 0, I 0, B false, S ⟨#[90, 90, 57, 86, 46, 57, 57]⟩]⟩)) := by kernel_rfl
theorem v60_1 (R : Value → Prop) : bodyQ Tryz.prog A50 noL Tryz.f60 [S ⟨#[57, 57, 57]⟩] (fun _ => none) 0 (fun v _ _ => R v) = (R (.agg ⟨[I 5, I 0, I 0, B false, S ⟨#[57, 57, 57]⟩]⟩)) := by kernel_rfl
theorem v60_2 (R : Value → Prop) : bodyQ Tryz.prog A50 noL Tryz.f60 [S ⟨#[65, 65, 57]⟩] (fun _ => none) 0 (fun v _ _ => R v) = (R (.agg ⟨[I 5, I 0, I 0, B false, S ⟨#[65, 65, 57]⟩]⟩)) := by kernel_rfl
theorem pk60 : PureOK Tryz.prog 60 (memo m60) := pure_memo ok_A50 hmix fn60 lokf_none (by kernel_rfl) ⟨by rw [DoesQ, v60_0], by rw [DoesQ, v60_1], by rw [DoesQ, v60_2], trivial⟩
def A51 : Env := A50.add 60 (memo m60)
theorem ok_A51 : EnvOK Tryz.prog A51 := env_add ok_A50 pk60
theorem fn52 : Fn1 Tryz.prog 52 Tryz.f52 := ⟨Tryz.func52, by kernel_rfl, by kernel_rfl, by kernel_rfl⟩
def m52 : List (List Value × Value) := [([.string ⟨#[49, 50, 120]⟩], .agg ⟨[.int .i64 0, .string ⟨#[49, 50, 120]⟩]⟩), ([.string ⟨#[48]⟩], .agg ⟨[.int .i64 0, .string ⟨#[48]⟩]⟩), ([.string ⟨#[49, 48, 49]⟩], .agg ⟨[.int .i64 0, .string ⟨#[49, 48, 49]⟩]⟩), ([.string ⟨#[49, 48, 49, 32, 32]⟩], .agg ⟨[.int .i64 0, .string ⟨#[49, 48, 49, 32, 32]⟩]⟩), ([.string ⟨#[32, 49, 50, 46, 51, 48]⟩], .agg ⟨[.int .i64 0, .string ⟨#[32, 49, 50, 46, 51, 48]⟩]⟩), ([.string ⟨#[50, 51, 52]⟩], .agg ⟨[.int .i64 0, .string ⟨#[50, 51, 52]⟩]⟩), ([.string ⟨#[97, 49, 49]⟩], .agg ⟨[.int .i64 0, .string ⟨#[97, 49, 49]⟩]⟩), ([.string ⟨#[32, 32, 32]⟩], .agg ⟨[.int .i64 0, .string ⟨#[32, 32, 32]⟩]⟩), ([.string ⟨#[50]⟩], .agg ⟨[.int .i64 0, .string ⟨#[50]⟩]⟩)]
theorem v52_0 (R : Value → Prop) : bodyQ Tryz.prog A51 noL Tryz.f52 [S ⟨#[49, 50, 120]⟩] (fun _ => none) 0 (fun v _ _ => R v) = (R (.agg ⟨[I 0, S ⟨#[49, 50, 120]⟩]⟩)) := by kernel_rfl
theorem v52_1 (R : Value → Prop) : bodyQ Tryz.prog A51 noL Tryz.f52 [S ⟨#[48]⟩] (fun _ => none) 0 (fun v _ _ => R v) = (R (.agg ⟨[I 0, S ⟨#[48]⟩]⟩)) := by kernel_rfl
theorem v52_2 (R : Value → Prop) : bodyQ Tryz.prog A51 noL Tryz.f52 [S ⟨#[49, 48, 49]⟩] (fun _ => none) 0 (fun v _ _ => R v) = (R (.agg ⟨[I 0, S ⟨#[49, 48, 49]⟩]⟩)) := by kernel_rfl
theorem v52_3 (R : Value → Prop) : bodyQ Tryz.prog A51 noL Tryz.f52 [S ⟨#[49, 48, 49, 32, 32]⟩] (fun _ => none) 0 (fun v _ _ => R v) = (R (.agg ⟨[I 0, S ⟨#[49, 48, 49, 32, 32]⟩]⟩)) := by kernel_rfl
theorem v52_4 (R : Value → Prop) : bodyQ Tryz.prog A51 noL Tryz.f52 [S ⟨#[32, 49, 50, 46, 51, 48]⟩] (fun _ => none) 0 (fun v _ _ => R v) = (R (.agg ⟨[I 0, S ⟨#[32, 49, 50, 46, 51, 48]⟩]⟩)) := by kernel_rfl
theorem v52_5 (R : Value → Prop) : bodyQ Tryz.prog A51 noL Tryz.f52 [S ⟨#[50, 51, 52]⟩] (fun _ => none) 0 (fun v _ _ => R v) = (R (.agg ⟨[I 0, S ⟨#[50, 51, 52]⟩]⟩)) := by kernel_rfl
theorem v52_6 (R : Value → Prop) : bodyQ Tryz.prog A51 noL Tryz.f52 [S ⟨#[97, 49, 49]⟩] (fun _ => none) 0 (fun v _ _ => R v) = (R (.agg ⟨[I 0, S ⟨#[97, 49, 49]⟩]⟩)) := by kernel_rfl
theorem v52_7 (R : Value → Prop) : bodyQ Tryz.prog A51 noL Tryz.f52 [S ⟨#[32, 32, 32]⟩] (fun _ => none) 0 (fun v _ _ => R v) = (R (.agg ⟨[I 0, S ⟨#[32, 32, 32]⟩]⟩)) := by kernel_rfl
theorem v52_8 (R : Value → Prop) : bodyQ Tryz.prog A51 noL Tryz.f52 [S ⟨#[50]⟩] (fun _ => none) 0 (fun v _ _ => R v) = (R (.agg ⟨[I 0, S ⟨#[50]⟩]⟩)) := by kernel_rfl
theorem pk52 : PureOK Tryz.prog 52 (memo m52) := pure_memo ok_A51 hmix fn52 lokf_none (by kernel_rfl) ⟨by rw [DoesQ, v52_0], by rw [DoesQ, v52_1], by rw [DoesQ, v52_2], by rw [DoesQ, v52_3], by rw [DoesQ, v52_4], by rw [DoesQ, v52_5], by rw [DoesQ, v52_6], by rw [DoesQ, v52_7], by rw [DoesQ, v52_8], trivial⟩
def A52 : Env := A51.add 52 (memo m52)
theorem ok_A52 : EnvOK Tryz.prog A52 := env_add ok_A51 pk52
theorem fn44 : Fn1 Tryz.prog 44 Tryz.f44 := ⟨Tryz.func44, by kernel_rfl, by kernel_rfl, by kernel_rfl⟩
def A53 : Env := A52.addG 44 (inlQ Tryz.prog A52 noL Tryz.f44)
theorem ok_A53 : EnvOK Tryz.prog A53 := env_addG ok_A52 (gen_inlQ ok_A52 hmix fn44 lokf_none)
theorem fn46 : Fn1 Tryz.prog 46 Tryz.f46 := ⟨Tryz.func46, by kernel_rfl, by kernel_rfl, by kernel_rfl⟩
def L46 : List Value := [.int .i64 2, .int .i64 11, .int .i64 0, .bool false, .string ⟨#[]⟩, .int .i64 2, .int .i64 15, .int .i64 0, .bool false, .string ⟨#[]⟩]
def s46c : Ab.Spec := fun args bs => match args, bs with
 | [.slice (some ⟨_, 0, some 1⟩) 2 _, .slice (some ⟨_, 0, some 1⟩) 2 _], [some ⟨l1, _, _⟩, some ⟨l2, _, _⟩] => match eqVL (l1.take 10) L46 && eqVL (l2.take 10) L46 with
  | true => some (plainL l1 && plainL l2, .bool true)
  | false => none
 | _, _ => none
def vwT (c d : List Value) (t u : TypeId) : Lk := fun k => match k with | 0 => some ⟨c, t, false⟩ | 1 => some ⟨d, u, false⟩ | _ => none
theorem v46 (r1 r2 : List Value) (t u : TypeId) (c1 c2 : Nat) (R : Value → Prop) : bodyQ Tryz.prog A53 noL Tryz.f46 [.slice (some ⟨0, 0, some 1⟩) 2 c1, .slice (some ⟨1, 0, some 1⟩) 2 c2] (vwT (L46 ++ r1) (L46 ++ r2) t u) 2 (fun v _ _ => R v) = R (B true) := by kernel_rfl
theorem pk46 : PureOK Tryz.prog 46 s46c := by
 refine pure_viewQ ok_A53 hmix fn46 lokf_none fun args bs v hs => ?_
 unfold s46c at hs
 split at hs
 case h_2 => cases hs
 rename_i k1 c1 k2 c2 l1 t1 o1 l2 t2 o2
 split at hs
 case h_2 => cases hs
 rename_i hq
 simp only [Option.some.injEq, Prod.mk.injEq, Bool.and_eq_true] at hs hq
 obtain ⟨⟨p1, p2⟩, rfl⟩ := hs
 obtain ⟨q1, q2⟩ := hq
 have e1 : l1 = L46 ++ l1.drop 10 := by rw [← eqVL_spec q1, List.take_append_drop]
 have e2 : l2 = L46 ++ l2.drop 10 := by rw [← eqVL_spec q2, List.take_append_drop]
 refine ⟨[.slice (some ⟨0, 0, some 1⟩) 2 c1, .slice (some ⟨1, 0, some 1⟩) 2 c2], 2, rfl, rfl, Nat.le_of_ble_eq_true (by kernel_rfl), ?_⟩
 have e : viewL [some ⟨l1, t1, o1⟩, some ⟨l2, t2, o2⟩] = vwT (L46 ++ l1.drop 10) (L46 ++ l2.drop 10) t1 t2 := by
  funext k
  rw [← e1, ← e2]
  match k with
  | 0 => simp only [viewL, view1, p1, vwT]
  | 1 => simp only [viewL, view1, p2, vwT]
  | k + 2 => rfl
 rw [DoesVQ, e, v46]
def A54 : Env := A53.add 46 (s46c)
theorem ok_A54 : EnvOK Tryz.prog A54 := env_add ok_A53 pk46
end Go.Cs
end
noncomputable section
set_option maxRecDepth 100000
namespace Go.Cs
open Go Go.Ab Go.Proofs Go.Px Go.Cx
def T31 : List Value := [.int .i64 1, .int .i64 3, .int .i64 1, .bool false, .string ⟨#[]⟩]
theorem fn18 : Fn1 Tryz.prog 18 Tryz.f18 := ⟨Tryz.func18, by kernel_rfl, by kernel_rfl, by kernel_rfl⟩
theorem v18 (R : Value → Prop) : bodyQ Tryz.prog A54 noL Tryz.f18 [] (fun _ => none) 0 (fun v _ _ => R v) = ( ∀ (cap : Nat) (tail : List Value), tailOK tail cap 1 5 = true → bif Nat.beq (List.length (T31 ++ tail)) (cap * 5) && Nat.ble 1 cap && Nat.ble cap 9223372036854775807 && true && true then ∀ (cap : Nat) (tail : List Value), tailOK tail cap (1 + 1) 5 = true → bif plainL (L46 ++ tail) && plainL L46 then R (B true) else False else False) := by kernel_rfl
def s18 : Bool × Value := (true, .bool true)
theorem okC18 : PureOK Tryz.prog 18 (sp0 s18) := by
 refine qure0 ok_A54 hmix fn18 lokf_none fun _ => ?_
 rw [DoesQ, v18]
 intro cap tail h
 simp only [tailOK, Bool.and_eq_true] at h
 obtain ⟨⟨⟨_, h2⟩, h3⟩, h4⟩ := h
 have e : (T31 ++ tail).length = tail.length + 1 * 5 := by rw [List.length_append]; show 5 + _ = _; omega
 refine c_t (by rw [e, h2, h3, h4]; rfl) fun cap2 tail2 h => ?_
 simp only [tailOK, Bool.and_eq_true] at h
 obtain ⟨⟨⟨h1, _⟩, _⟩, _⟩ := h
 refine c_t ?_ rfl
 have : plainL (L46 ++ tail2) = true := by rw [plainL_iff] at h1 ⊢; intro v hv; rcases List.mem_append.1 hv with hv | hv; exact plainL_iff.1 (show plainL L46 = true from rfl) v hv; exact h1 v hv
 rw [this]
 rfl
theorem ok18 : @PureOK tabs Tryz.prog 18 (sp0 s18) := pureT okC18
end Go.Cs
end
noncomputable section
set_option maxHeartbeats 3200000
namespace Go.Cx
open Go Go.Ab Go.Proofs Go.Shelf Go.Px Go.Cv
open Go.Fx (Ty Vl check Valid most base pw bnd Fit fits tv vv tup V0 T0 pw_zero pw_succ wrap_mul pw_w64 str0)
instance tabsR : Tabs := tabs
theorem toO_ex : ∃ d : (Vl → Ty → Ty → Bool) × (Vl → Ty → Ty → Int × ByteArray × Int), d = (fun v f t => decide (okAA v f t) && cvG (formT v f) t, fun v f t => ((cvV (formT v f) t).1, szO (cvV (formT v f) t).2.1, (cvV (formT v f) t).2.2)) := ⟨_, rfl⟩
def toO : (Vl → Ty → Ty → Bool) × (Vl → Ty → Ty → Int × ByteArray × Int) := Classical.choose toO_ex
theorem toO_eq : toO = (fun v f t => decide (okAA v f t) && cvG (formT v f) t, fun v f t => ((cvV (formT v f) t).1, szO (cvV (formT v f) t).2.1, (cvV (formT v f) t).2.2)) := Classical.choose_spec toO_ex
def s34o (v : Vl) (f t : Ty) : Bool × Value := (toO.1 v f t, .tuple ⟨[.agg ⟨[I (toO.2 v f t).1, S (toO.2 v f t).2.1]⟩, I (toO.2 v f t).2.2, I 0]⟩)
theorem ok34o : PureOK Tryz.prog 34 (sp3 s34o) := by
 have e : s34o = s34 := by funext v f t; unfold s34o s34; rw [toO_eq]
 rw [e]; exact ok34
theorem goO_ex : ∃ d : (Vl → Ty → Int) × (Ty → Int), d = (fit4, chk4) := ⟨_, rfl⟩
def goO : (Vl → Ty → Int) × (Ty → Int) := Classical.choose goO_ex
theorem goO_eq : goO = (fit4, chk4) := Classical.choose_spec goO_ex
def s23o (v : Vl) (t : Ty) : Bool × Value := (decide (t.s.size ≤ 9223372036854775807 ∧ v.s.size ≤ 9223372036854775807), I (goO.1 v t))
theorem ok23o : PureOK Tryz.prog 23 (sp2 s23o) := by
 have e : s23o = s23 := by funext v t; unfold s23o s23; rw [goO_eq]
 rw [e]; exact ok23
def s21o (t : Ty) : Bool × Value := (decide (t.s.size ≤ 9223372036854775807), I (goO.2 t))
theorem ok21o : PureOK Tryz.prog 21 (sp1 s21o) := by
 have e : s21o = s21 := by funext t; unfold s21o s21; rw [goO_eq]
 rw [e]; exact ok21
def L0 : Env := (((K6.add 34 (sp3 s34o)).add 23 (sp2 s23o)).add 21 (sp1 s21o)).add 18 (sp0 Cs.s18)
theorem ok_L0 : EnvOK Tryz.prog L0 := env_add (env_add (env_add (env_add ok_K6 ok34o) ok23o) ok21o) Cs.ok18
def s19 (t : Ty) : Bool × Value := (true, B (decide ((t.s.size : Int) ≤ 200)))
theorem fn19 : Fn1 Tryz.prog 19 Tryz.f19 := ⟨Tryz.func19, by kernel_rfl, by kernel_rfl, by kernel_rfl⟩
theorem v19 (t : Ty) (R : Value → Prop) : bodyQ Tryz.prog L0 noL Tryz.f19 [Enc.enc t] (fun _ => none) 0 (fun v _ _ => R v) = ( R (B (decide ((↑(ByteArray.size (Ty.s t)) : Int) ≤ 200)))) := by kernel_rfl
theorem ok19 : PureOK Tryz.prog 19 (sp1 s19) := by
 refine qure1 ok_L0 hmix fn19 lokf_none (Nat.le_of_ble_eq_true (by kernel_rfl)) fun t hc => ?_
 rw [DoesQ, v19]
 try dsimp only [s19]
def s96 (v : Vl) : Bool × Value := (true, B (decide ((v.s.size : Int) > 2000)))
theorem fn96 : Fn1 Tryz.prog 96 Tryz.f96 := ⟨Tryz.func96, by kernel_rfl, by kernel_rfl, by kernel_rfl⟩
theorem v96 (v : Vl) (R : Value → Prop) : bodyQ Tryz.prog L0 noL Tryz.f96 [Enc.enc v] (fun _ => none) 0 (fun v _ _ => R v) = ( R (B (decide ((↑(ByteArray.size (Vl.s v)) : Int) > 2000)))) := by kernel_rfl
theorem ok96 : PureOK Tryz.prog 96 (sp1 s96) := by
 refine qure1 ok_L0 hmix fn96 lokf_none (Nat.le_of_ble_eq_true (by kernel_rfl)) fun v hc => ?_
 rw [DoesQ, v96]
 try dsimp only [s96]
def L1 : Env := ((L0.add 19 (sp1 s19)).add 96 (sp1 s96))
theorem ok_L1 : EnvOK Tryz.prog L1 := env_add (env_add (ok_L0) ok19) ok96
theorem fn165 : Fn1 Tryz.prog 165 Tryz.f165 := ⟨Tryz.func165, by kernel_rfl, by kernel_rfl, by kernel_rfl⟩
noncomputable def L1_165 : Env := L1.addG 165 (inlQ Tryz.prog L1 noL Tryz.f165)
theorem ok_L1_165 : EnvOK Tryz.prog L1_165 := env_addG ok_L1 (gen_inlQ ok_L1 hmix fn165 lokf_none)
theorem fn95 : Fn1 Tryz.prog 95 Tryz.f95 := ⟨Tryz.func95, by kernel_rfl, by kernel_rfl, by kernel_rfl⟩
noncomputable def L1_95 : Env := L1_165.addG 95 (inlQ Tryz.prog L1_165 noL Tryz.f95)
theorem ok_L1_95 : EnvOK Tryz.prog L1_95 := env_addG ok_L1_165 (gen_inlQ ok_L1_165 hmix fn95 lokf_none)
theorem fn31 : Fn1 Tryz.prog 31 Tryz.f31 := ⟨Tryz.func31, by kernel_rfl, by kernel_rfl, by kernel_rfl⟩
noncomputable def L1_31 : Env := L1_95.addG 31 (inlQ Tryz.prog L1_95 noL Tryz.f31)
theorem ok_L1_31 : EnvOK Tryz.prog L1_31 := env_addG ok_L1_95 (gen_inlQ ok_L1_95 hmix fn31 lokf_none)
theorem fn108 : Fn1 Tryz.prog 108 Tryz.f108 := ⟨Tryz.func108, by kernel_rfl, by kernel_rfl, by kernel_rfl⟩
noncomputable def T108 : Env := L1.addG 108 (inlQ Tryz.prog L1 noL Tryz.f108)
theorem ok_T108 : EnvOK Tryz.prog T108 := env_addG ok_L1 (gen_inlQ ok_L1 hmix fn108 lokf_none)
def s47 (v : Vl) (t : Ty) : Bool × Value := (decide (t.s.size ≤ 9223372036854775807 ∧ v.s.size ≤ 9223372036854775807), B (decide (t.s.size ≤ 200 ∧ v.s.size ≤ 2000) && goO.1 v t == 0))
theorem fn47 : Fn1 Tryz.prog 47 Tryz.f47 := ⟨Tryz.func47, by kernel_rfl, by kernel_rfl, by kernel_rfl⟩
theorem v47 (v : Vl) (t : Ty) (R : Value → Prop) : bodyQ Tryz.prog L1_31 noL Tryz.f47 [Enc.enc v, Enc.enc t] (fun _ => none) 0 (fun v _ _ => R v) = ( bif decide ((↑(ByteArray.size (Ty.s t)) : Int) ≤ 200) then bif decide (0 < natO 1) then bif decide ((↑(ByteArray.size (Vl.s v)) : Int) > 2000) then R (B false) else bif decide (1 < natO 1) then False else bif decide (ByteArray.size (Ty.s t) ≤ 9223372036854775807 ∧ ByteArray.size (Vl.s v) ≤ 9223372036854775807) then R (B (Prod.fst goO v t == 0)) else False else bif decide (ByteArray.size (Ty.s t) ≤ 9223372036854775807 ∧ ByteArray.size (Vl.s v) ≤ 9223372036854775807) then R (B (Prod.fst goO v t == 0)) else False else R (B false)) := by kernel_rfl
theorem ok47 : PureOK Tryz.prog 47 (sp2 s47) := by
 refine qure2 ok_L1_31 hmix fn47 lokf_none (Nat.le_of_ble_eq_true (by kernel_rfl)) fun v t hc => ?_
 rw [DoesQ, v47]
 have hc : (t.s.size ≤ 9223372036854775807 ∧ v.s.size ≤ 9223372036854775807) := of_decide_eq_true hc
 try dsimp only [s47]
 have n1 : ∀ k : Nat, decide ((k : Int) < natO 1) = decide (k < 1) := fun k => by rw [natO_eq, decide_eq_decide]; omega
 have a0 : decide ((0 : Int) < natO 1) = true := by rw [natO_eq]; decide
 have a1 : decide ((1 : Int) < natO 1) = false := by rw [natO_eq]; decide
 rw [a0, a1]
 refine cond_intro (fun h => ?_) (fun h => ?_)
 ·have h := of_decide_eq_true h
  refine c_t rfl (cond_intro (fun q => ?_) (fun q => ?_))
  ·have q := of_decide_eq_true q
   rw [decide_eq_false (fun z => by omega)]
   rfl
  ·have q := of_decide_eq_false q
   refine c_f rfl (c_t (decide_eq_true hc) ?_)
   rw [decide_eq_true (show t.s.size ≤ 200 ∧ v.s.size ≤ 2000 by omega)]
   rfl
 ·have h := of_decide_eq_false h
  rw [decide_eq_false (fun z => by omega)]
  rfl
def s49 (t : Ty) : Bool × Value := (true, B (decide (t.k = 1 ∨ t.k = 2)))
theorem fn49 : Fn1 Tryz.prog 49 Tryz.f49 := ⟨Tryz.func49, by kernel_rfl, by kernel_rfl, by kernel_rfl⟩
theorem v49 (t : Ty) (R : Value → Prop) : bodyQ Tryz.prog L1_31 noL Tryz.f49 [Enc.enc t] (fun _ => none) 0 (fun v _ _ => R v) = ( bif Ty.k t == 1 || true then R (B (Ty.k t == 1 || Ty.k t == 2)) else False) := by kernel_rfl
theorem ok49 : PureOK Tryz.prog 49 (sp1 s49) := by
 refine qure1 ok_L1_31 hmix fn49 lokf_none (Nat.le_of_ble_eq_true (by kernel_rfl)) fun t hc => ?_
 rw [DoesQ, v49]
 try dsimp only [s49]
 refine c_t (Bool.or_true _) ?_
 congr 1
 rw [Bool.eq_iff_iff]
 simp
def s40 (t : Ty) : Bool × Value := (decide (Valid t), .tuple ⟨[.agg ⟨[I 3, I (wid t), I 0, B false, S ⟨#[]⟩]⟩, I 0]⟩)
theorem fn40 : Fn1 Tryz.prog 40 Tryz.f40 := ⟨Tryz.func40, by kernel_rfl, by kernel_rfl, by kernel_rfl⟩
theorem v40 (t : Ty) (R : Value → Prop) : bodyQ Tryz.prog T108 noL Tryz.f40 [Enc.enc t] (fun _ => none) 0 (fun v _ _ => R v) = ( bif Ty.k t == 6 then R (.tuple (.mk [.agg (.mk [I 0, I 0, I 0, B false, S (ByteArray.mk #[])]), I 5])) else bif decide (ByteArray.size (Ty.s t) ≤ 9223372036854775807 ∧ Ty.k t ≠ 5) then bif chk4 t != 0 then R (.tuple (.mk [.agg (.mk [I 0, I 0, I 0, B false, S (ByteArray.mk #[])]), I (chk4 t)])) else bif Ty.k t == 3 then R (.tuple (.mk [.agg (.mk [I (Ty.k t), I (Ty.p t), I (Ty.q t), B (Ty.v t), S (Ty.s t)]), I 0])) else bif Ty.k t == 1 then bif decide (0 ≤ Ty.p t ∧ Ty.p t ≤ 1000) then R (.tuple (.mk [.agg (.mk [I 3, I (wid t), I 0, B false, S (ByteArray.mk #[])]), I 0])) else False else bif Ty.k t == 2 then bif decide (0 ≤ Ty.p t ∧ Ty.p t ≤ 1000) then R (.tuple (.mk [.agg (.mk [I 3, I (wid t), I 0, B false, S (ByteArray.mk #[])]), I 0])) else False else bif Ty.k t == 5 then False else R (.tuple (.mk [.agg (.mk [I 3, I (Ty.p t), I 0, B false, S (ByteArray.mk #[])]), I 0])) else False) := by kernel_rfl
theorem ok40 : PureOK Tryz.prog 40 (sp1 s40) := by
 refine qure1 ok_T108 hmix fn40 lokf_none (Nat.le_of_ble_eq_true (by kernel_rfl)) fun t hc => ?_
 rw [DoesQ, v40]
 have hc : (Valid t) := of_decide_eq_true hc
 try dsimp only [s40]
 have hk := hc.1
 obtain ⟨v1, v2, v3, v4, v5⟩ := Fx.valid_r hc
 have hs : t.s = Fx.e0 := Fx.str_e0 hc.2.2.2.2.2.2.2
 have hz : t.s.size = 0 := by rw [hs]; rfl
 have h0 : chk4 t = 0 := if_pos hc
 have hp : decide (0 ≤ t.p ∧ t.p ≤ 1000) = true := decide_eq_true (by omega)
 rw [h0, hp]
 rcases hk with hk | hk <;> rw [hk] <;> refine c_f rfl (c_t (decide_eq_true (by omega)) (c_f rfl (c_f rfl ?_)))
 ·exact c_t rfl (c_t rfl rfl)
 ·exact c_f rfl (c_t rfl (c_t rfl rfl))
def L2 : Env := (((L1.add 47 (sp2 s47)).add 49 (sp1 s49)).add 40 (sp1 s40))
theorem ok_L2 : EnvOK Tryz.prog L2 := env_add (env_add (env_add (ok_L1) ok47) ok49) ok40
end Go.Cx
end
noncomputable section
namespace Go.Cx
open Go Go.Ab Go.Px Go.Cv
open Go.Fx (Ty Vl check Valid most base pw bnd Fit fits scl cutN cutC InB)
theorem decG_add : ∀ (l : List Int) (a : Int), decG l a = a * 10 ^ l.length + decG l 0
 | [], a => by simp [decG]
 | c :: r, a => by
  rw [decG, decG, decG_add r (10 * a + (c - 48)), decG_add r (10 * 0 + (c - 48)), List.length_cons, Int.pow_succ]
  grind
theorem decG_app (l r : List Int) (a : Int) : decG (l ++ r) a = decG r (decG l a) := by
 rw [decG_eq, decG_eq, decG_eq, List.foldl_append]
theorem decG_rep : ∀ (k : Nat) (a : Int), decG (rep48 k) a = a * 10 ^ k
 | 0, a => by simp [rep48, decG]
 | k + 1, a => by
  rw [rep48, List.replicate_succ, decG, ← rep48, decG_rep k, Int.pow_succ]
  grind
theorem decG_ge : ∀ (l : List Int) (a : Int), digsZ l = true → 0 ≤ a → a ≤ decG l a
 | [], a, _, _ => by simp [decG]
 | c :: r, a, h, h0 => by
  simp only [digsZ, List.all_cons, Bool.and_eq_true] at h
  have hc : 48 ≤ c ∧ c ≤ 57 := by simpa [dig] using h.1
  rw [decG]
  have := decG_ge r (10 * a + (c - 48)) h.2 (by omega)
  omega
theorem decG_lt : ∀ (l : List Int), digsZ l = true → decG l 0 < 10 ^ l.length
 | [], _ => by simp [decG]
 | c :: r, h => by
  simp only [digsZ, List.all_cons, Bool.and_eq_true] at h
  have hc : 48 ≤ c ∧ c ≤ 57 := by simpa [dig] using h.1
  have ih := decG_lt r h.2
  have hp : (0 : Int) < 10 ^ r.length := Int.pow_pos (by decide)
  rw [decG, decG_add, List.length_cons, Int.pow_succ]
  have : (10 * 0 + (c - 48)) * 10 ^ r.length ≤ 9 * (10 : Int) ^ r.length := Int.mul_le_mul_of_nonneg_right (by omega) (by omega)
  omega
theorem decG_pos (l : List Int) (h : digsZ l = true) : 0 ≤ decG l 0 := decG_ge l 0 h (Int.le_refl _)
theorem decG_mod {b : Int} (l : List Int) (y : Int) : decG l (y % b) % b = decG l y % b := by
 rw [decG_add l (y % b), decG_add l y, Int.add_emod, Int.mul_emod, Int.emod_emod_of_dvd y (Int.dvd_refl b), ← Int.mul_emod, ← Int.add_emod]
theorem tk_fst {b : Int} (hb : 0 < b) : ∀ (l : List Int) (x k : Int), digsZ l = true → 0 ≤ x ∧ x < b → (tkGo b l x k).1 = decG l x % b
 | [], x, k, _, hx => by simp only [tkGo, decG]; exact (Int.emod_eq_of_lt hx.1 hx.2).symm
 | c :: r, x, k, h, hx => by
  simp only [digsZ, List.all_cons, Bool.and_eq_true] at h
  have hc : 48 ≤ c ∧ c ≤ 57 := by simpa [dig] using h.1
  have h0 : 0 ≤ 10 * x + (c - 48) := by omega
  rw [tkGo, decG]
  split
  ·have e : (10 * x + (c - 48)).tmod b = (10 * x + (c - 48)) % b := Int.tmod_eq_emod_of_nonneg h0
   rw [e, tk_fst hb r _ _ h.2 ⟨Int.emod_nonneg _ (by omega), Int.emod_lt_of_pos _ hb⟩, decG_mod]
  ·exact tk_fst hb r _ _ h.2 ⟨h0, by omega⟩
theorem tk_one {b : Int} : ∀ (l : List Int) (x : Int), (tkGo b l x 1).2 = 1
 | [], x => rfl
 | c :: r, x => by rw [tkGo]; split <;> exact tk_one r _
theorem tk_snd {b : Int} (hb : 0 < b) : ∀ (l : List Int) (x k : Int), digsZ l = true → 0 ≤ x ∧ x < b → (tkGo b l x k).2 = if decG l x < b then k else 1
 | [], x, k, _, hx => (if_pos hx.2).symm
 | c :: r, x, k, h, hx => by
  simp only [digsZ, List.all_cons, Bool.and_eq_true] at h
  have hc : 48 ≤ c ∧ c ≤ 57 := by simpa [dig] using h.1
  have h0 : 0 ≤ 10 * x + (c - 48) := by omega
  rw [tkGo, decG]
  split
  ·have := decG_ge r _ h.2 h0
   rw [tk_one, if_neg (by omega)]
  ·exact tk_snd hb r _ _ h.2 ⟨h0, by omega⟩
theorem decG_take {l : List Int} (h : digsZ l = true) {k : Nat} (hk : k ≤ l.length) : decG (l.take (l.length - k)) 0 = decG l 0 / 10 ^ k := by
 have e : decG l 0 = decG (l.take (l.length - k)) 0 * 10 ^ k + decG (l.drop (l.length - k)) 0 := by
  have := decG_app (l.take (l.length - k)) (l.drop (l.length - k)) 0
  rw [List.take_append_drop, decG_add (l.drop _)] at this
  rw [this, List.length_drop, show l.length - (l.length - k) = k by omega]
 have hd : digsZ (l.drop (l.length - k)) = true := List.all_eq_true.2 fun c hc => List.all_eq_true.1 h c (List.drop_subset _ _ hc)
 have h1 := decG_pos _ hd
 have h2 := decG_lt _ hd
 rw [List.length_drop, show l.length - (l.length - k) = k by omega] at h2
 rw [e, Int.add_comm, Int.add_mul_ediv_right _ _ (by have : (0 : Int) < 10 ^ k := Int.pow_pos (by decide); omega), Int.ediv_eq_zero_of_lt h1 h2, Int.zero_add]
def shf (m d : Int) : Int := if 0 ≤ d then m * 10 ^ d.toNat else m / 10 ^ (-d).toNat
theorem plc_val {ds : List Int} {sc q : Int} (h : digsZ ds = true) : decG (plcR ds sc q) 0 = shf (decG ds 0) (q - sc) := by
 unfold plcR plcZ shf
 by_cases he : ds = []
 ·subst he
  rw [if_pos rfl, List.take_nil]
  have : decG [] 0 = 0 := rfl
  rw [this]
  split <;> simp
 ·rw [if_neg he]
  split
  ·have e : ((ds ++ rep48 (q - sc).toNat).length - max 0 (min ((ds ++ rep48 (q - sc).toNat).length : Int) (sc - q))).toNat = (ds ++ rep48 (q - sc).toNat).length := by omega
   rw [e, List.take_of_length_le (Nat.le_refl _), decG_app, decG_rep]
  ·have e : (q - sc).toNat = 0 := by omega
   rw [e, show rep48 0 = [] from rfl, List.append_nil]
   by_cases hl : (sc - q).toNat ≤ ds.length
   ·have e2 : ((ds.length : Int) - max 0 (min (ds.length : Int) (sc - q))).toNat = ds.length - (-(q - sc)).toNat := by omega
    rw [e2, decG_take h (by omega)]
   ·have e2 : ((ds.length : Int) - max 0 (min (ds.length : Int) (sc - q))).toNat = 0 := by omega
    rw [e2, List.take_zero]
    refine (Int.ediv_eq_zero_of_lt (decG_pos ds h) (Int.lt_of_lt_of_le (decG_lt ds h) ?_)).symm
    have : (10 : Nat) ^ ds.length ≤ 10 ^ (-(q - sc)).toNat := Nat.pow_le_pow_right (by decide) (by omega)
    exact_mod_cast this
theorem tl_app (l : List Int) : ∃ k, l = rep48 k ++ tlZ l 48 := by
 induction l with
 | nil => exact ⟨0, rfl⟩
 | cons c r ih =>
  by_cases h : c = 48
  ·subst h
   obtain ⟨k, e⟩ := ih
   refine ⟨k + 1, ?_⟩
   rw [tl_cons, rep48, List.replicate_succ, List.cons_append, ← rep48, ← e]
  ·exact ⟨0, by rw [tl_ne h]; rfl⟩
theorem tr_app (l : List Int) : ∃ k, l = trZ l 48 ++ rep48 k ∧ l.length = (trZ l 48).length + k := by
 obtain ⟨k, e⟩ := tl_app l.reverse
 refine ⟨k, ?_, ?_⟩
 ·have := congrArg List.reverse e
  rw [List.reverse_reverse, List.reverse_append, rep48, List.reverse_replicate, ← rep48] at this
  exact this
 ·have := congrArg List.length e
  rw [List.length_reverse, List.length_append, rep48, List.length_replicate] at this
  rw [trZ, List.length_reverse]
  unfold tlZ at this
  omega
theorem nz_val (l : List Int) : ∃ k : Nat, decG l 0 = decG (nz l) 0 * 10 ^ k ∧ (tlZ l 48).length = (nz l).length + k := by
 obtain ⟨j, e⟩ := tl_app l
 obtain ⟨k, e2, e3⟩ := tr_app (tlZ l 48)
 refine ⟨k, ?_, e3⟩
 have e1 : decG l 0 = decG (tlZ l 48) 0 := by
  have := decG_app (rep48 j) (tlZ l 48) 0
  rw [← e, decG_rep, Int.zero_mul] at this
  exact this
 rw [e1]
 have := decG_app (nz l) (rep48 k) 0
 rw [decG_rep] at this
 rw [← this]
 exact congrArg (decG · 0) e2
theorem shf_mul (m : Int) (k : Nat) (d : Int) : shf m (d + k) = shf (m * 10 ^ k) d := by
 unfold shf
 have hp : ∀ n : Nat, (10 : Int) ^ n ≠ 0 := fun n => Int.ne_of_gt (Int.pow_pos (by decide))
 by_cases h : 0 ≤ d
 ·rw [if_pos h, if_pos (by omega), show (d + k).toNat = k + d.toNat by omega, Int.pow_add, Int.mul_assoc]
 ·rw [if_neg h]
  by_cases h2 : 0 ≤ d + k
  ·rw [if_pos h2, show k = (d + k).toNat + (-d).toNat by omega, Int.pow_add, ← Int.mul_assoc, Int.mul_ediv_cancel _ (hp _)]
   congr 2
   omega
  ·rw [if_neg h2, show (-d).toNat = k + (-(d + k)).toNat by omega, Int.pow_add, Int.mul_comm m, Int.mul_ediv_mul_of_pos _ _ (Int.pow_pos (by decide))]
theorem nz_digs {l : List Int} (h : digsZ l = true) : digsZ (nz l) = true := List.all_eq_true.2 fun c hc => by
 refine List.all_eq_true.1 h c ?_
 unfold nz trZ at hc
 rw [List.mem_reverse] at hc
 have h1 := (List.dropWhile_sublist _).subset hc
 rw [List.mem_reverse] at h1
 exact (List.dropWhile_sublist _).subset h1
theorem norm_val {g : Bool} {l : List Int} {q Q : Int} (h : digsZ l = true) : decG (plcR (normZ g l q).2.1 (normZ g l q).2.2 Q) 0 = shf (decG l 0) (Q - q) := by
 obtain ⟨k, e1, e2⟩ := nz_val l
 unfold normZ
 by_cases h0 : nz l = []
 ·rw [if_pos h0, plc_val rfl]
  rw [h0] at e1
  rw [e1]
  have : decG [] 0 = 0 := rfl
  rw [this, Int.zero_mul]
  unfold shf
  split <;> split <;> simp
 ·rw [if_neg h0, plc_val (nz_digs h), e1, ← shf_mul]
  congr 1
  simp only
  omega
theorem dw_head {p : Int → Bool} : ∀ (l : List Int) (c : Int), (l.dropWhile p).head? = some c → p c = false
 | [], c, h => by cases h
 | a :: r, c, h => by
  by_cases ha : p a = true
  ·rw [List.dropWhile_cons_of_pos ha] at h
   exact dw_head r c h
  ·rw [List.dropWhile_cons_of_neg ha] at h
   cases h
   simpa using ha
theorem nz_head {l : List Int} : (nz l).head? ≠ some 48 ∧ (nz l).getLast? ≠ some 48 := by
 constructor
 ·intro q
  obtain ⟨k, e, _⟩ := tr_app (tlZ l 48)
  have : (tlZ l 48).head? = some 48 := by
   rw [e]
   change (nz l ++ rep48 k).head? = _
   rw [List.head?_append, q]; rfl
  have := dw_head l 48 this
  simp at this
 ·intro q
  unfold nz trZ at q
  rw [List.getLast?_reverse] at q
  have := dw_head _ 48 q
  simp at this
theorem norm_isNum {g : Bool} {l : List Int} {q : Int} (h : digsZ l = true) (hl : l.length ≤ 300) (hq : -100 ≤ q ∧ q ≤ 100) : isNum (normZ g l q).1 (normZ g l q).2.1 (normZ g l q).2.2 = true := by
 obtain ⟨k, e1, e2⟩ := nz_val l
 have hk := tl_len l 48
 unfold normZ
 by_cases h0 : nz l = []
 ·rw [if_pos h0]; rfl
 ·rw [if_neg h0]
  obtain ⟨n1, n2⟩ := nz_head (l := l)
  unfold isNum
  simp only
  rw [if_neg h0, nz_digs h, decide_eq_true (show (nz l).length ≤ 400 by omega), decide_eq_true (show -400 ≤ q - (((tlZ l 48).length : Int) - (nz l).length) ∧ q - (((tlZ l 48).length : Int) - (nz l).length) ≤ 400 by omega)]
  have a1 : ((nz l).head? == some 48) = false := by simpa using n1
  have a2 : ((nz l).getLast? == some 48) = false := by simpa using n2
  rw [a1, a2]
  rfl
theorem dec_val : ∀ (k n : Nat), n < 10 ^ (k + 1) → decG (zl (Lib.decDigits n)) 0 = n
 | k, n, h => by
  rw [Lib.decDigits]
  by_cases h10 : n < 10
  ·rw [dif_pos h10]
   simp only [zl, List.map_cons, List.map_nil, decG, u8n h10]
   omega
  ·rw [dif_neg h10]
   cases k with
   | zero => omega
   | succ k =>
    have ih := dec_val k (n / 10) (by rw [Nat.pow_succ] at h; omega)
    rw [zl, List.map_append, ← zl, decG_app, ih]
    simp only [List.map_cons, List.map_nil, decG, u8n (show n % 10 < 10 by omega)]
    omega
theorem ito_val {m : Int} (h : 0 ≤ m ∧ m ≤ 2147483648) : decG (itoZ m) 0 = m := by
 obtain ⟨k, rfl⟩ : ∃ k : Nat, m = (k : Int) := ⟨m.toNat, by omega⟩
 rw [itoZ, Lib.itoa_nonneg]
 exact dec_val 9 k (by omega)
theorem scl_shf {n d : Int} : scl n d = if n < 0 then -(shf (-n) d) else shf n d := by
 unfold scl shf pw
 have hp : ∀ k : Nat, (0 : Int) < 10 ^ k := fun k => Int.pow_pos (by decide)
 split
 ·split
  ·rw [Int.neg_mul, Int.neg_neg]
  ·rfl
 ·split
  ·rw [← Int.tdiv_eq_ediv_of_nonneg (by omega), Int.neg_tdiv, Int.neg_neg]
  ·rw [Int.tdiv_eq_ediv_of_nonneg (by omega)]
theorem shf_pos {n d : Int} (h : 0 ≤ n) : 0 ≤ shf n d := by
 have hp : ∀ k : Nat, (0 : Int) < 10 ^ k := fun k => Int.pow_pos (by decide)
 unfold shf
 split
 ·exact Int.mul_nonneg h (Int.le_of_lt (hp _))
 ·exact Int.ediv_nonneg h (Int.le_of_lt (hp _))
theorem norm_sg {g : Bool} {l : List Int} {q : Int} : (normZ g l q).1 = (!decide (nz l = []) && g) := by
 unfold normZ
 by_cases h : nz l = []
 ·rw [if_pos h, decide_eq_true h]; rfl
 ·rw [if_neg h, decide_eq_false h]; rfl
theorem tk_num {n q : Int} {t : Ty} (hv : Valid t) (hn : -2147483648 ≤ n ∧ n ≤ 2147483648) (hq : 0 ≤ q ∧ q ≤ 9) :
  tkV (numA n q).1 (numA n q).2.1 (numA n q).2.2 t = (cutN (scl n (t.q - q)) t, cutC (scl n (t.q - q)) t 1, 0) := by
 have hm : 0 ≤ (if n < 0 then -n else n) ∧ (if n < 0 then -n else n) ≤ 2147483648 := by split <;> omega
 obtain ⟨d1, d2⟩ := ito_digs hm
 have dl := ito_len hm
 have hb := (Fx.bnd_range hv).1
 have hN := norm_isNum (g := decide (n < 0)) (q := q) d1 (by omega) (by omega)
 have hV := norm_val (g := decide (n < 0)) (q := q) (Q := t.q) d1
 rw [ito_val hm] at hV
 obtain ⟨-, hD, -, -, -⟩ := isNum_facts hN
 have hP : digsZ (plcR (normZ (decide (n < 0)) (itoZ (if n < 0 then -n else n)) q).2.1 (normZ (decide (n < 0)) (itoZ (if n < 0 then -n else n)) q).2.2 t.q) = true := plc_digs hD
 have hs := shf_pos (d := t.q - q) hm.1
 have hg : (numA n q).1 = true → n < 0 := fun h => by
  rw [numA, norm_sg] at h
  simp only [Bool.and_eq_true, decide_eq_true_eq] at h
  exact h.2
 have hg2 : (numA n q).1 = false → n < 0 → shf (-n) (t.q - q) = 0 := fun h hlt => by
  rw [numA, norm_sg, decide_eq_true hlt, Bool.and_true] at h
  have h0 : nz (itoZ (if n < 0 then -n else n)) = [] := by simpa using h
  rw [normZ, if_pos h0] at hV
  rw [if_pos hlt] at hV
  rw [← hV]
  show decG (plcR [] 0 t.q) 0 = 0
  rw [plc_val rfl]
  show shf 0 _ = 0
  unfold shf
  split <;> simp
 unfold tkV
 rw [if_neg (by rw [numA, hN]; decide), if_neg (fun h => h hv)]
 unfold tkR
 rw [show plcR (numA n q).2.1 (numA n q).2.2 t.q = plcR (normZ (decide (n < 0)) (itoZ (if n < 0 then -n else n)) q).2.1 (normZ (decide (n < 0)) (itoZ (if n < 0 then -n else n)) q).2.2 t.q from rfl,
  tk_fst (by omega) _ 0 0 hP ⟨Int.le_refl _, by omega⟩, tk_snd (by omega) _ 0 0 hP ⟨Int.le_refl _, by omega⟩, hV]
 have key : ∀ X : Int, 0 ≤ X → (X.tmod (bnd t) = X % bnd t) := fun X h => Int.tmod_eq_emod_of_nonneg h
 have inb : ∀ Z : Int, InB Z t ↔ (-bnd t < Z ∧ Z < bnd t) := fun _ => Iff.rfl
 unfold cutN cutC
 by_cases hlt : n < 0
 ·rw [scl_shf, if_pos hlt]
  rw [if_pos hlt] at hs ⊢
  generalize hX : shf (-n) (t.q - q) = X at *
  have hmod := key X hs
  by_cases hg1 : (numA n q).1 = true
  ·rw [if_pos hg1]
   by_cases hl : X < bnd t
   ·rw [if_pos hl, if_pos ((inb _).2 (by omega)), if_pos ((inb _).2 (by omega)), Int.emod_eq_of_lt hs hl]
   ·rw [if_neg hl, if_neg (fun h => absurd ((inb _).1 h) (by omega)), if_neg (fun h => absurd ((inb _).1 h) (by omega)), Int.neg_tmod, hmod]
  ·have h0 := hg2 (by simpa using hg1) hlt
   have h0 : X = 0 := h0
   subst h0
   rw [if_neg hg1, if_pos (by omega), if_pos ((inb _).2 (by omega)), if_pos ((inb _).2 (by omega))]
   simp
 ·rw [scl_shf, if_neg hlt]
  rw [if_neg hlt] at hs ⊢
  generalize hX : shf n (t.q - q) = X at *
  have hmod := key X hs
  rw [if_neg (fun h => hlt (hg h))]
  by_cases hl : X < bnd t
  ·rw [if_pos hl, if_pos ((inb _).2 (by omega)), if_pos ((inb _).2 (by omega)), Int.emod_eq_of_lt hs hl]
  ·rw [if_neg hl, if_neg (fun h => absurd ((inb _).1 h) (by omega)), if_neg (fun h => absurd ((inb _).1 h) (by omega)), hmod]
theorem shf_mono {a b d : Int} (h : a ≤ b) : shf a d ≤ shf b d := by
 have hp : ∀ k : Nat, (0 : Int) < 10 ^ k := fun k => Int.pow_pos (by decide)
 unfold shf
 split
 ·exact Int.mul_le_mul_of_nonneg_right h (Int.le_of_lt (hp _))
 ·exact Int.ediv_le_ediv (hp _) h
theorem scl_mono {a b d : Int} (h : a ≤ b) : scl a d ≤ scl b d := by
 rw [scl_shf, scl_shf]
 split
 ·split
  ·have := shf_mono (d := d) (show -b ≤ -a by omega); omega
  ·have h1 := shf_pos (n := -a) (d := d) (by omega)
   have h2 := shf_pos (n := b) (d := d) (by omega)
   omega
 ·split
  ·omega
  ·exact shf_mono h
end Go.Cx
end
noncomputable section
set_option maxHeartbeats 3200000
namespace Go.Cx
open Go Go.Ab Go.Px Go.Cv
open Go.Fx (Ty Vl check Valid most base pw bnd Fit fits scl cutN cutC InB)
theorem ito_lt {m : Int} {k : Nat} (h : 0 ≤ m) (hk : m < 10 ^ (k + 1)) : (itoZ m).length ≤ k + 1 := by
 obtain ⟨j, rfl⟩ : ∃ j : Nat, m = (j : Int) := ⟨m.toNat, by omega⟩
 rw [itoZ, Lib.itoa_nonneg, zl, List.length_map]
 exact decD_len k j (by exact_mod_cast hk)
theorem dig_wid {m : Int} {t : Ty} (hv : Valid t) (h0 : 0 ≤ m) (hm : m < bnd t) : ((itoZ m).length : Int) + 3 ≤ wid t ∧ (t.k = 1 → ((itoZ m).length : Int) ≤ t.p) ∧ (t.k = 2 → t.q = 0) ∧ (t.k = 1 → wid t = t.p + 3) := by
 obtain ⟨v1, v2, v3, v4, v5⟩ := Fx.valid_r hv
 have two : t.k = 2 → t.q = 0 := hv.2.2.2.2.2.1
 rcases hv.1 with hk | hk
 ·have hb : bnd t = 10 ^ t.p.toNat := by unfold bnd base pw; rw [if_pos hk]
  have := ito_lt (k := t.p.toNat - 1) h0 (by rw [show t.p.toNat - 1 + 1 = t.p.toNat by omega, ← hb]; exact hm)
  have hw : wid t = t.p + 3 := by unfold wid; rw [if_neg (by omega)]
  exact ⟨by omega, fun _ => by omega, two, fun _ => hw⟩
 ·have hb : bnd t = 2 ^ t.p.toNat := by unfold bnd base pw; rw [if_neg (by omega)]
  have hw : wid t = 1 + (100 * t.p + 331) / 332 + 3 := by unfold wid; rw [if_pos hk]
  have tab : ∀ p : Nat, p < 32 → (2 : Nat) ^ p ≤ 10 ^ ((100 * p + 331) / 332 + 1) := by decide
  have h2 := tab t.p.toNat (by omega)
  have h3 : (2 : Int) ^ t.p.toNat ≤ 10 ^ ((100 * t.p.toNat + 331) / 332 + 1) := by exact_mod_cast h2
  have := ito_lt (k := (100 * t.p.toNat + 331) / 332) h0 (Int.lt_of_lt_of_le (by rw [← hb]; exact hm) h3)
  exact ⟨by omega, fun h => by omega, two, fun h => by omega⟩
theorem fixS_len {n : Int} {t : Ty} (hv : Valid t) (hn : -bnd t < n ∧ n < bnd t) : ((fixS n t.q).length : Int) ≤ wid t := by
 obtain ⟨v1, v2, v3, v4, v5⟩ := Fx.valid_r hv
 have key : ∀ m : Int, 0 ≤ m → m < bnd t → ((fixD m t.q).length : Int) + 1 ≤ wid t := fun m h0 hm => by
  obtain ⟨h1, h2, h3, h4⟩ := dig_wid hv h0 hm
  unfold fixD
  split
  ·rename_i hq
   have hk : t.k = 1 := by rcases hv.1 with h | h; exact h; have := h3 h; omega
   have hU : (fixU m t.q).length = (t.q + 1 - (itoZ m).length).toNat + (itoZ m).length := by rw [fixU, List.length_append, rep48, List.length_replicate]
   have := h2 hk
   have := h4 hk
   rw [List.length_append, List.length_cons, List.length_take, List.length_drop]
   omega
  ·omega
 unfold fixS
 split
 ·have := key (-n) (by omega) (by omega)
  rw [List.length_cons]; omega
 ·have := key n (by omega) (by omega)
  omega
theorem txt_len {n : Int} {t : Ty} (hv : Valid t) (hn : -bnd t < n ∧ n < bnd t) : ((txtZ n t).length : Int) = wid t := by
 have := fixS_len hv hn
 unfold txtZ
 rw [List.length_append, List.length_replicate]
 omega
theorem fillZ_self {l : List Int} {n : Nat} {c : Int} (h : l.length = n) : fillZ l n c = l := by
 unfold fillZ
 rw [List.take_of_length_le (by omega), show n - l.length = 0 by omega]
 simp
structure Ari (v : Vl) (f : Ty) : Prop where
 k : f.k = 1 ∨ f.k = 2
 va : Valid f
 n : -bnd f < v.n ∧ v.n < bnd f
 s : v.s = ⟨#[]⟩
 fs : f.s = ⟨#[]⟩
 fit : fit4 v f = 0
theorem ari_of {v : Vl} {f : Ty} (h : fit4 v f = 0) (hk : f.k = 1 ∨ f.k = 2) : Ari v f := by
 obtain ⟨c1, i1⟩ := fit4_facts h
 have hv := (chk4_facts c1).1 hk
 unfold is4 at i1
 rw [if_pos hk] at i1
 have i1 : Fx.fits v f = 0 := by simpa using i1
 unfold Fx.fits at i1
 rw [if_pos hv] at i1
 split at i1
 ·rename_i hF
  exact ⟨hk, hv, hF.2, Fx.str_e0 hF.1, Fx.str_e0 hv.2.2.2.2.2.2.2, h⟩
 ·cases i1
theorem Ari.n32 {v : Vl} {f : Ty} (h : Ari v f) : -2147483648 ≤ v.n ∧ v.n ≤ 2147483648 := by
 have := Fx.bnd_range h.va
 have := h.n
 omega
theorem chk_ari {t : Ty} (h : Valid t) : chk4 t = 0 := if_pos h
theorem e0_size : (ByteArray.mk #[]).size = 0 := rfl
theorem Ari.fm {v : Vl} {f : Ty} (h : Ari v f) : formT v f = .w v.n f := if_pos h.k
theorem toO1 {v : Vl} {f t : Ty} : toO.1 v f t = (decide (okAA v f t) && cvG (formT v f) t) := by rw [toO_eq]
theorem toO2 {v : Vl} {f t : Ty} : toO.2 v f t = ((cvV (formT v f) t).1, szO (cvV (formT v f) t).2.1, (cvV (formT v f) t).2.2) := by rw [toO_eq]
theorem to_num {v : Vl} {f t : Ty} (h : Ari v f) (ht : Valid t) : toO.1 v f t = true ∧ toO.2 v f t = (cutN (scl v.n (t.q - f.q)) t, ⟨#[]⟩, cutC (scl v.n (t.q - f.q)) t 1) := by
 have hk := ht.1
 have hts : t.s = ⟨#[]⟩ := Fx.str_e0 ht.2.2.2.2.2.2.2
 obtain ⟨v1, v2, v3, v4, v5⟩ := Fx.valid_r h.va
 have hd1 := ito_digs (m := if v.n < 0 then -v.n else v.n) (by have := h.n32; split <;> omega)
 constructor
 ·rw [toO1, Bool.and_eq_true]
  refine ⟨decide_eq_true ⟨h.fit, chk_ari ht, ?_, ?_, ?_, ?_, ?_⟩, ?_⟩
  ·rw [h.fs, e0_size]; decide
  ·rw [hts, e0_size]; decide
  ·rw [h.s, e0_size]; decide
  ·have := h.k; omega
  ·omega
  ·unfold cvG; rw [if_pos hk, h.fm]; rfl
 ·rw [toO2]
  unfold cvV
  rw [if_pos hk, h.fm]
  show ((tkV (numA v.n f.q).1 (bz (szO (numA v.n f.q).2.1)) (numA v.n f.q).2.2 t).1, szO [], (tkV (numA v.n f.q).1 (bz (szO (numA v.n f.q).2.1)) (numA v.n f.q).2.2 t).2.1) = _
  have hB : IsB (numA v.n f.q).2.1 := by
   have := isNum_facts (norm_isNum (g := decide (v.n < 0)) (l := itoZ (if v.n < 0 then -v.n else v.n)) (q := f.q) hd1.1 (by have := ito_len (m := if v.n < 0 then -v.n else v.n) (by have := h.n32; split <;> omega); omega) (by omega))
   exact digs_isB this.2.1
  rw [bz_szO hB, tk_num ht h.n32 (by omega), szO_nil]
abbrev chT (f : Ty) : Ty := ⟨3, wid f, 0, false, ⟨#[]⟩⟩
theorem wid_r {f : Ty} (hv : Valid f) : 4 ≤ wid f ∧ wid f ≤ 34 := by
 obtain ⟨v1, v2, v3, v4, v5⟩ := Fx.valid_r hv
 unfold wid; split <;> omega
theorem chT_chk {f : Ty} (hv : Valid f) : chk4 (chT f) = 0 := by
 have := wid_r hv
 unfold chk4
 rw [if_neg (fun h => by have := h.1; simp at this), if_pos ⟨rfl, rfl, bz_nil rfl, (by show 0 ≤ wid f; omega), (by show wid f ≤ 255; omega)⟩]
theorem to_txt {v : Vl} {f : Ty} (h : Ari v f) : toO.1 v f (chT f) = true ∧ toO.2 v f (chT f) = (0, szO (txtZ v.n f), 0) := by
 have hw := wid_r h.va
 constructor
 ·rw [toO1, Bool.and_eq_true]
  refine ⟨decide_eq_true ⟨h.fit, chT_chk h.va, ?_, ?_, ?_, ?_, ?_⟩, ?_⟩
  ·rw [h.fs, e0_size]; decide
  ·show (ByteArray.mk #[]).size ≤ _; rw [e0_size]; decide
  ·rw [h.s, e0_size]; decide
  ·have := h.k; omega
  ·show (3 : Int) = 1 ∨ (3 : Int) = 2 ∨ (3 : Int) = 3 ∨ (3 : Int) = 4; omega
  ·unfold cvG; rw [if_neg (by show ¬ ((3 : Int) = 1 ∨ (3 : Int) = 2); omega), if_neg (by show ¬ ((3 : Int) = 4); omega)]
 ·rw [toO2]
  unfold cvV
  rw [if_neg (by show ¬ ((3 : Int) = 1 ∨ (3 : Int) = 2); omega), if_neg (by show ¬ ((3 : Int) = 4); omega), h.fm]
  have e : (if (chT f).v = true ∧ ¬ ((txtF (.w v.n f)).length : Int) > (chT f).p then txtF (.w v.n f) else fillZ (txtF (.w v.n f)) (chT f).p.toNat 32) = txtZ v.n f := by
   rw [if_neg (fun h => by cases h.1)]
   exact fillZ_self (by have := txt_len h.va h.n; show (txtZ v.n f).length = (wid f).toNat; omega)
  rw [e]
theorem to_by {v : Vl} {f t : Ty} (h : Ari v f) (ht : Valid t) : toO.1 ⟨0, szO (txtZ v.n f)⟩ (chT f) t = true ∧ toO.2 ⟨0, szO (txtZ v.n f)⟩ (chT f) t = toO.2 v f t := by
 have hk := ht.1
 have hw := wid_r h.va
 have hts : t.s = ⟨#[]⟩ := Fx.str_e0 ht.2.2.2.2.2.2.2
 have hl := txt_len h.va h.n
 have hfm : formT ⟨0, szO (txtZ v.n f)⟩ (chT f) = .c (szO (txtZ v.n f)) := by
  unfold formT
  rw [if_neg (by show ¬ ((3 : Int) = 1 ∨ (3 : Int) = 2); omega), if_neg (by show ¬ ((3 : Int) = 4); omega)]
 have hnum : numF (.c (szO (txtZ v.n f))) = some (numA v.n f.q) := by
  show rdN (bz (szO (txtZ v.n f))) = _
  rw [bz_szO (txt_isB _ _), txt_read h.va h.n32]
 constructor
 ·rw [toO1, Bool.and_eq_true]
  refine ⟨decide_eq_true ⟨?_, chk_ari ht, ?_, ?_, ?_, ?_, ?_⟩, ?_⟩
  ·unfold fit4
   rw [if_neg (by rw [chT_chk h.va]; decide), if_pos]
   unfold is4
   rw [if_neg (by show ¬ ((3 : Int) = 1 ∨ (3 : Int) = 2); omega), if_pos rfl]
   exact decide_eq_true ⟨rfl, .inl (by rw [szO_size]; exact hl)⟩
  ·show (ByteArray.mk #[]).size ≤ _; rw [e0_size]; decide
  ·rw [hts, e0_size]; decide
  ·show (szO (txtZ v.n f)).size ≤ _; rw [szO_size]; omega
  ·show (3 : Int) = 1 ∨ (3 : Int) = 2 ∨ (3 : Int) = 3 ∨ (3 : Int) = 4; omega
  ·omega
  ·unfold cvG; rw [if_pos hk, hfm, hnum]; rfl
 ·rw [toO2, toO2]
  unfold cvV
  rw [if_pos hk, if_pos hk, hfm, hnum, h.fm]
  rfl
theorem cut_mono {x y : Int} {t : Ty} (h : x ≤ y) (hx : cutC x t 1 = 0) (hy : cutC y t 1 = 0) : cutN x t ≤ cutN y t := by
 unfold cutC at hx hy
 unfold cutN
 split at hx
 ·split at hy
  ·rename_i h1 h2
   rw [if_pos h1, if_pos h2]; exact h
  ·cases hy
 ·cases hx
end Go.Cx
end
noncomputable section
set_option maxHeartbeats 3200000
namespace Go.Cx
open Go Go.Ab Go.Proofs Go.Shelf Go.Px Go.Cv
open Go.Fx (Ty Vl check Valid most base pw bnd Fit fits tv vv tup V0 T0 pw_zero pw_succ wrap_mul pw_w64 str0)
theorem tail_facts {tail : List Value} {cap : Nat} (h : tailOK tail cap 1 2 = true) {x y : Value} : Nat.beq (List.length (x :: y :: tail)) (cap * 2) = true ∧ Nat.ble 1 cap = true ∧ Nat.ble cap 9223372036854775807 = true ∧ True := by
 unfold tailOK at h
 simp only [Bool.and_eq_true, Nat.ble_eq] at h
 have h1 := Nat.eq_of_beq_eq_true h.1.1.2
 refine ⟨?_, Nat.ble_eq ▸ h.1.2, Nat.ble_eq ▸ h.2, trivial⟩
 rw [show (x :: y :: tail).length = cap * 2 by rw [List.length_cons, List.length_cons]; omega]
 exact Nat.beq_refl _
instance tabsW : Tabs := Cs.tabsC
def LC : Env := ((((((Env.nil.add 34 (sp3 s34o)).add 21 (sp1 s21o)).add 18 (sp0 Cs.s18)).add 47 (sp2 s47)).add 49 (sp1 s49)).add 40 (sp1 s40))
theorem ok_LC : EnvOK Tryz.prog LC := env_add (env_add (env_add (env_add (env_add (env_add env_nil (Cs.pureC ok34o)) (Cs.pureC ok21o)) (Cs.pureC Cs.ok18)) (Cs.pureC ok47)) (Cs.pureC ok49)) (Cs.pureC ok40)
def s10 (a : Vl) (b : Vl) (f : Ty) (t : Ty) : Bool × Value := (decide (a.s.size ≤ 9223372036854775807 ∧ b.s.size ≤ 9223372036854775807 ∧ f.s.size ≤ 9223372036854775807 ∧ t.s.size ≤ 9223372036854775807), B true)
theorem fn10 : Fn1 Tryz.prog 10 Tryz.f10 := ⟨Tryz.func10, by kernel_rfl, by kernel_rfl, by kernel_rfl⟩
theorem v10 (a : Vl) (b : Vl) (f : Ty) (t : Ty) (R : Value → Prop) : bodyQ Tryz.prog LC noL Tryz.f10 [Enc.enc a, Enc.enc b, Enc.enc f, Enc.enc t] (fun _ => none) 0 (fun v _ _ => R v) = ( bif decide (ByteArray.size (Ty.s f) ≤ 9223372036854775807 ∧ ByteArray.size (Vl.s a) ≤ 9223372036854775807) && (!(decide (ByteArray.size (Ty.s f) ≤ 200 ∧ ByteArray.size (Vl.s a) ≤ 2000) && Prod.fst goO a f == 0) || decide (ByteArray.size (Ty.s f) ≤ 9223372036854775807 ∧ ByteArray.size (Vl.s b) ≤ 9223372036854775807) && (!(decide (ByteArray.size (Ty.s f) ≤ 200 ∧ ByteArray.size (Vl.s b) ≤ 2000) && Prod.fst goO b f == 0) || (!decide (Ty.k f = 1 ∨ Ty.k f = 2) || (!decide (Ty.k t = 1 ∨ Ty.k t = 2) || decide (ByteArray.size (Ty.s t) ≤ 9223372036854775807) && true)))) then bif !(decide (ByteArray.size (Ty.s f) ≤ 200 ∧ ByteArray.size (Vl.s a) ≤ 2000) && Prod.fst goO a f == 0) || (!(decide (ByteArray.size (Ty.s f) ≤ 200 ∧ ByteArray.size (Vl.s b) ≤ 2000) && Prod.fst goO b f == 0) || (!decide (Ty.k f = 1 ∨ Ty.k f = 2) || (!decide (Ty.k t = 1 ∨ Ty.k t = 2) || Prod.snd goO t != 0))) then R (B true) else bif decide (Valid f) then bif Prod.fst toO a f t then bif Prod.fst toO a f (Ty.mk 3 (wid f) 0 false (ByteArray.mk #[])) then bif Prod.fst toO (Vl.mk (Prod.fst (Prod.snd toO a f (Ty.mk 3 (wid f) 0 false (ByteArray.mk #[])))) (Prod.fst (Prod.snd (Prod.snd toO a f (Ty.mk 3 (wid f) 0 false (ByteArray.mk #[])))))) (Ty.mk 3 (wid f) 0 false (ByteArray.mk #[])) t then bif Prod.snd (Prod.snd (Prod.snd toO a f (Ty.mk 3 (wid f) 0 false (ByteArray.mk #[])))) != 0 || (Prod.snd (Prod.snd (Prod.snd toO (Vl.mk (Prod.fst (Prod.snd toO a f (Ty.mk 3 (wid f) 0 false (ByteArray.mk #[])))) (Prod.fst (Prod.snd (Prod.snd toO a f (Ty.mk 3 (wid f) 0 false (ByteArray.mk #[])))))) (Ty.mk 3 (wid f) 0 false (ByteArray.mk #[])) t)) != Prod.snd (Prod.snd (Prod.snd toO a f t)) || true) then bif 0 != 0 || (0 != 0 || (0 != 0 || (Prod.snd (Prod.snd (Prod.snd toO a f (Ty.mk 3 (wid f) 0 false (ByteArray.mk #[])))) != 0 || (Prod.snd (Prod.snd (Prod.snd toO (Vl.mk (Prod.fst (Prod.snd toO a f (Ty.mk 3 (wid f) 0 false (ByteArray.mk #[])))) (Prod.fst (Prod.snd (Prod.snd toO a f (Ty.mk 3 (wid f) 0 false (ByteArray.mk #[])))))) (Ty.mk 3 (wid f) 0 false (ByteArray.mk #[])) t)) != Prod.snd (Prod.snd (Prod.snd toO a f t)) || !(Prod.fst (Prod.snd toO (Vl.mk (Prod.fst (Prod.snd toO a f (Ty.mk 3 (wid f) 0 false (ByteArray.mk #[])))) (Prod.fst (Prod.snd (Prod.snd toO a f (Ty.mk 3 (wid f) 0 false (ByteArray.mk #[])))))) (Ty.mk 3 (wid f) 0 false (ByteArray.mk #[])) t) == Prod.fst (Prod.snd toO a f t) && (ByteArray.toList (Prod.fst (Prod.snd (Prod.snd toO (Vl.mk (Prod.fst (Prod.snd toO a f (Ty.mk 3 (wid f) 0 false (ByteArray.mk #[])))) (Prod.fst (Prod.snd (Prod.snd toO a f (Ty.mk 3 (wid f) 0 false (ByteArray.mk #[])))))) (Ty.mk 3 (wid f) 0 false (ByteArray.mk #[])) t))) == ByteArray.toList (Prod.fst (Prod.snd (Prod.snd toO a f t))) && true)))))) then R (B false) else bif Prod.snd (Prod.snd (Prod.snd toO a f t)) != 0 then R (B true) else ∀ (cap : Nat) (tail : List Value), tailOK tail cap 1 2 = true → bif Prod.fst toO b f t then bif Prod.fst toO b f (Ty.mk 3 (wid f) 0 false (ByteArray.mk #[])) then bif Prod.fst toO (Vl.mk (Prod.fst (Prod.snd toO b f (Ty.mk 3 (wid f) 0 false (ByteArray.mk #[])))) (Prod.fst (Prod.snd (Prod.snd toO b f (Ty.mk 3 (wid f) 0 false (ByteArray.mk #[])))))) (Ty.mk 3 (wid f) 0 false (ByteArray.mk #[])) t then bif Prod.snd (Prod.snd (Prod.snd toO b f (Ty.mk 3 (wid f) 0 false (ByteArray.mk #[])))) != 0 || (Prod.snd (Prod.snd (Prod.snd toO (Vl.mk (Prod.fst (Prod.snd toO b f (Ty.mk 3 (wid f) 0 false (ByteArray.mk #[])))) (Prod.fst (Prod.snd (Prod.snd toO b f (Ty.mk 3 (wid f) 0 false (ByteArray.mk #[])))))) (Ty.mk 3 (wid f) 0 false (ByteArray.mk #[])) t)) != Prod.snd (Prod.snd (Prod.snd toO b f t)) || true) then bif 0 != 0 || (0 != 0 || (0 != 0 || (Prod.snd (Prod.snd (Prod.snd toO b f (Ty.mk 3 (wid f) 0 false (ByteArray.mk #[])))) != 0 || (Prod.snd (Prod.snd (Prod.snd toO (Vl.mk (Prod.fst (Prod.snd toO b f (Ty.mk 3 (wid f) 0 false (ByteArray.mk #[])))) (Prod.fst (Prod.snd (Prod.snd toO b f (Ty.mk 3 (wid f) 0 false (ByteArray.mk #[])))))) (Ty.mk 3 (wid f) 0 false (ByteArray.mk #[])) t)) != Prod.snd (Prod.snd (Prod.snd toO b f t)) || !(Prod.fst (Prod.snd toO (Vl.mk (Prod.fst (Prod.snd toO b f (Ty.mk 3 (wid f) 0 false (ByteArray.mk #[])))) (Prod.fst (Prod.snd (Prod.snd toO b f (Ty.mk 3 (wid f) 0 false (ByteArray.mk #[])))))) (Ty.mk 3 (wid f) 0 false (ByteArray.mk #[])) t) == Prod.fst (Prod.snd toO b f t) && (ByteArray.toList (Prod.fst (Prod.snd (Prod.snd toO (Vl.mk (Prod.fst (Prod.snd toO b f (Ty.mk 3 (wid f) 0 false (ByteArray.mk #[])))) (Prod.fst (Prod.snd (Prod.snd toO b f (Ty.mk 3 (wid f) 0 false (ByteArray.mk #[])))))) (Ty.mk 3 (wid f) 0 false (ByteArray.mk #[])) t))) == ByteArray.toList (Prod.fst (Prod.snd (Prod.snd toO b f t))) && true)))))) then R (B false) else bif Prod.snd (Prod.snd (Prod.snd toO b f t)) != 0 then R (B true) else bif Nat.beq (List.length (I (Prod.fst (Prod.snd toO a f t)) :: S (Prod.fst (Prod.snd (Prod.snd toO a f t))) :: tail)) (cap * 2) && Nat.ble 1 cap && Nat.ble cap 9223372036854775807 && true && true then ∀ (cap : Nat) (tail : List Value), tailOK tail cap (1 + 1) 2 = true → bif decide (Vl.n a > Vl.n b) || true then R (B (decide (Vl.n a > Vl.n b) || decide (Prod.fst (Prod.snd toO a f t) ≤ Prod.fst (Prod.snd toO b f t)))) else False else False else False else False else False else False else False else False else False else False else False else False) := by kernel_rfl
theorem ok10 : PureOK Tryz.prog 10 (sp4 s10) := by
 refine qure4 ok_LC hmix fn10 lokf_none (Nat.le_of_ble_eq_true (by kernel_rfl)) fun a b f t hc => ?_
 rw [DoesQ, v10]
 have hc : (a.s.size ≤ 9223372036854775807 ∧ b.s.size ≤ 9223372036854775807 ∧ f.s.size ≤ 9223372036854775807 ∧ t.s.size ≤ 9223372036854775807) := of_decide_eq_true hc
 try dsimp only [s10]
 have big : ∀ n : Nat, n ≤ 9223372036854775807 → decide (n ≤ 9223372036854775807) = true := fun n h => decide_eq_true h
 obtain ⟨c1, c2, c3, c4⟩ := hc
 refine c_t (by rw [decide_eq_true (show f.s.size ≤ 9223372036854775807 ∧ a.s.size ≤ 9223372036854775807 from ⟨c3, c1⟩), decide_eq_true (show f.s.size ≤ 9223372036854775807 ∧ b.s.size ≤ 9223372036854775807 from ⟨c3, c2⟩), decide_eq_true c4]; simp) ?_
 refine cond_intro (fun _ => rfl) (fun h => ?_)
 simp only [Bool.or_eq_false_iff, Bool.not_eq_false', Bool.and_eq_true, decide_eq_true_eq, beq_iff_eq, bne_eq_false_iff_eq, goO_eq] at h
 obtain ⟨⟨-, ha⟩, ⟨-, hb⟩, hf, ht, htv⟩ := h
 have A := ari_of ha hf
 have Bb := ari_of hb hf
 have tv := (chk4_facts htv).1 ht
 refine c_t (decide_eq_true A.va) ?_
 obtain ⟨p1, p2⟩ := to_num A tv
 obtain ⟨p3, p4⟩ := to_txt A
 obtain ⟨p5, p6⟩ := to_by A tv
 obtain ⟨q1, q2⟩ := to_num Bb tv
 obtain ⟨q3, q4⟩ := to_txt Bb
 obtain ⟨q5, q6⟩ := to_by Bb tv
 rw [p4, q4]
 dsimp only
 rw [p5, p6, q5, q6, p1, p3, q1, q3, p2, q2]
 dsimp only
 refine c_t rfl (c_t rfl (c_t rfl (c_t (by simp) (c_f (by simp) ?_))))
 refine cond_intro (fun _ => rfl) (fun ca => ?_)
 intro cap tail ht1
 refine c_t rfl (c_t rfl (c_t rfl (c_t (by simp) (c_f (by simp) ?_))))
 refine cond_intro (fun _ => rfl) (fun cb => ?_)
 obtain ⟨z1, z2, z3, z4⟩ := tail_facts ht1
 refine c_t (by rw [z1, z2, z3]; rfl) fun cap' tail' ht2 => c_t (Bool.or_true _) ?_
 have ca : Fx.cutC (Fx.scl a.n (t.q - f.q)) t 1 = 0 := by simpa using ca
 have cb : Fx.cutC (Fx.scl b.n (t.q - f.q)) t 1 = 0 := by simpa using cb
 congr 1
 rw [Bool.or_eq_true, decide_eq_true_eq, decide_eq_true_eq]
 by_cases hab : a.n > b.n
 ·exact .inl hab
 ·exact .inr (cut_mono (scl_mono (by omega)) ca cb)
end Go.Cx
end
noncomputable section
set_option maxHeartbeats 3200000
namespace Go.Cx
open Go Go.Ab Go.Proofs Go.Shelf Go.Px Go.Cv
open Go.Fx (Ty Vl check Valid most base pw bnd Fit fits tv vv tup V0 T0 pw_zero pw_succ wrap_mul pw_w64 str0)
instance tabsA : Tabs := tabs
theorem mul_rng {n p : Int} (h : -2147483648 ≤ n ∧ n ≤ 2147483648) (hp : 0 ≤ p ∧ p ≤ 9) : -9223372036854775808 ≤ n * pw 10 p ∧ n * pw 10 p ≤ 9223372036854775807 := by
 have tab : ∀ k : Nat, k < 10 → (1 : Int) ≤ 10 ^ k ∧ (10 : Int) ^ k ≤ 1000000000 := by decide
 obtain ⟨h1, h2⟩ := tab p.toNat (by omega)
 unfold pw
 generalize (10 : Int) ^ p.toNat = m at *
 have a1 : -2147483648 * m ≤ n * m := Int.mul_le_mul_of_nonneg_right h.1 (by omega)
 have a2 : n * m ≤ 2147483648 * m := Int.mul_le_mul_of_nonneg_right h.2 (by omega)
 omega
theorem tdiv_rng {n m : Int} (hm : 1 ≤ m) (h : -2147483648 ≤ n ∧ n ≤ 2147483648) : -9223372036854775808 ≤ n.tdiv m ∧ n.tdiv m ≤ 9223372036854775807 := by
 have key : ∀ k : Int, 0 ≤ k → 0 ≤ k.tdiv m ∧ k.tdiv m ≤ k := fun k hk => by
  rw [Int.tdiv_eq_ediv_of_nonneg hk]
  exact ⟨Int.ediv_nonneg hk (by omega), Int.ediv_le_self _ hk⟩
 by_cases h0 : 0 ≤ n
 ·have := key n h0; omega
 ·have := key (-n) (by omega)
  rw [Int.neg_tdiv] at this
  omega
theorem scl_r {n d : Int} (h : -2147483648 ≤ n ∧ n ≤ 2147483648) (hd : -9 ≤ d ∧ d ≤ 9) : -4000000000000000000 ≤ Fx.scl n d ∧ Fx.scl n d ≤ 4000000000000000000 := by
 unfold Fx.scl
 have hp := Fx.pw_pos (b := 10) (by omega) (-d)
 split
 ·have tab : ∀ k : Nat, k < 10 → (1 : Int) ≤ 10 ^ k ∧ (10 : Int) ^ k ≤ 1000000000 := by decide
  obtain ⟨h1, h2⟩ := tab d.toNat (by omega)
  unfold pw
  generalize (10 : Int) ^ d.toNat = m at *
  have a1 : -2147483648 * m ≤ n * m := Int.mul_le_mul_of_nonneg_right h.1 (by omega)
  have a2 : n * m ≤ 2147483648 * m := Int.mul_le_mul_of_nonneg_right h.2 (by omega)
  omega
 ·have key : ∀ k : Int, 0 ≤ k → 0 ≤ k.tdiv (pw 10 (-d)) ∧ k.tdiv (pw 10 (-d)) ≤ k := fun k hk => by
   rw [Int.tdiv_eq_ediv_of_nonneg hk]
   exact ⟨Int.ediv_nonneg hk (by omega), Int.ediv_le_self _ hk⟩
  by_cases h0 : 0 ≤ n
  ·have := key n h0; omega
  ·have := key (-n) (by omega)
   rw [Int.neg_tdiv] at this
   omega
def s132 : Ab.Spec := fun args bs => match args, bs with
 | [.slice (some ⟨_, 0, some 1⟩) 2 cap], [some ⟨[.int .i64 x, .int .i64 y], ty, own⟩] => some (true, I (Fx.fst2 x y))
 | _, _ => none
theorem fn132 : Fn1 Tryz.prog 132 Tryz.f132 := ⟨Tryz.func132, by kernel_rfl, by kernel_rfl, by kernel_rfl⟩
theorem v132_0 (x : Int) (y : Int) (cap : Nat) (ty : TypeId) (own : Bool) (R : Value → Prop) : bodyR Tryz.prog K3 noL Tryz.f132 [.slice (some ⟨0, 0, some 1⟩) 2 cap] (viewL [some ⟨[I x, I y], ty, own⟩]) 1 (fun v _ _ => R v) = ( bif decide (0 < natO 2) then bif x != 0 then R (I x) else bif decide (1 < natO 2) then bif y != 0 then R (I y) else bif decide (2 < natO 2) then False else R (I 0) else R (I 0) else R (I 0)) := by kernel_rfl
theorem k132_0 (x : Int) (y : Int) (cap : Nat) (ty : TypeId) (own : Bool) (hc : (true) = true) : DoesV Tryz.prog K3 noL Tryz.f132 [.slice (some ⟨0, 0, some 1⟩) 2 cap] [some ⟨[I x, I y], ty, own⟩] 1 (I (Fx.fst2 x y)) := by
 rw [DoesV, v132_0]
 simp only [natO_eq]
 repeat' refine cond_intro (fun h => ?_) (fun h => ?_)
 all_goals grind [Fx.fst2]
theorem ok132 : PureOK Tryz.prog 132 s132 := by
 refine pure_view ok_K3 hmix fn132 lokf_none fun args bs v hs => ?_
 simp only [s132] at hs
 split at hs
 ·simp only [Option.some.injEq, Prod.mk.injEq] at hs
  obtain ⟨hc, rfl⟩ := hs
  exact ⟨_, 1, rfl, rfl, Nat.le_of_ble_eq_true (by kernel_rfl), k132_0 _ _ _ _ _ (by first | rfl | exact hc)⟩
 ·cases hs
def s134 (n : Int) (q : Int) (o : Int) : Bool × Value := (decide (0 ≤ q ∧ q ≤ 9 ∧ 0 ≤ o ∧ o ≤ 9 ∧ -2147483648 ≤ n ∧ n ≤ 2147483648), I (Fx.scl n (o - q)))
theorem fn134 : Fn1 Tryz.prog 134 Tryz.f134 := ⟨Tryz.func134, by kernel_rfl, by kernel_rfl, by kernel_rfl⟩
theorem v134 (n : Int) (q : Int) (o : Int) (R : Value → Prop) : bodyQ Tryz.prog K3 noL Tryz.f134 [Enc.enc n, Enc.enc q, Enc.enc o] (fun _ => none) 0 (fun v _ _ => R v) = ( bif decide (o ≥ q) then bif decide (0 ≤ IntKind.wrap .i64 (o - q) ∧ IntKind.wrap .i64 (o - q) < 19) && isIntAt IntKind.i64 Fx.tensL (Int.toNat (IntKind.wrap .i64 (o - q))) then R (I (IntKind.wrap .i64 (n * intAt Fx.tensL (Int.toNat (IntKind.wrap .i64 (o - q)))))) else False else bif decide (0 ≤ IntKind.wrap .i64 (q - o) ∧ IntKind.wrap .i64 (q - o) < 19) && isIntAt IntKind.i64 Fx.tensL (Int.toNat (IntKind.wrap .i64 (q - o))) then bif decide (intAt Fx.tensL (Int.toNat (IntKind.wrap .i64 (q - o))) ≠ 0) then R (I (IntKind.wrap .i64 (Int.tdiv n (intAt Fx.tensL (Int.toNat (IntKind.wrap .i64 (q - o))))))) else False else False) := by kernel_rfl
theorem ok134 : PureOK Tryz.prog 134 (sp3 s134) := by
 refine qure3 ok_K3 hmix fn134 lokf_none (Nat.le_of_ble_eq_true (by kernel_rfl)) fun n q o hc => ?_
 rw [DoesQ, v134]
 have hc : (0 ≤ q ∧ q ≤ 9 ∧ 0 ≤ o ∧ o ≤ 9 ∧ -2147483648 ≤ n ∧ n ≤ 2147483648) := of_decide_eq_true hc
 try dsimp only [s134]
 by_cases hq : q ≤ o
 ·have t1 := Fx.tens_at (p := o - q) (by omega) (by omega)
  have hs : Fx.scl n (o - q) = n * pw 10 (o - q) := if_pos (by omega)
  have hb := mul_rng (n := n) (p := o - q) (by omega) (by omega)
  refine c_t (decide_eq_true (by omega)) ?_
  rw [Fx.w64 (n := o - q) (by omega), hs, t1.1, t1.2, Fx.w64 hb]
  exact c_t (by rw [decide_eq_true (show 0 ≤ o - q ∧ o - q < 19 by omega)]; rfl) rfl
 ·have t1 := Fx.tens_at (p := q - o) (by omega) (by omega)
  have hs : Fx.scl n (o - q) = n.tdiv (pw 10 (q - o)) := by
   rw [Fx.scl, if_neg (by omega), show -(o - q) = q - o by omega]
  have hp := Fx.pw_pos (b := 10) (by omega) (q - o)
  refine c_f (decide_eq_false (by omega)) ?_
  rw [Fx.w64 (n := q - o) (by omega), hs, t1.1, t1.2]
  refine c_t (by rw [decide_eq_true (show 0 ≤ q - o ∧ q - o < 19 by omega)]; rfl) (c_t (decide_eq_true (by omega)) ?_)
  rw [Fx.w64 (tdiv_rng hp (by omega))]
def s133 (n : Int) (t : Ty) (c : Int) : Bool × Value := (decide (Valid t ∧ -4000000000000000000 ≤ n ∧ n ≤ 4000000000000000000), .tuple ⟨[.agg ⟨[I (Fx.cutN n t), S ⟨#[]⟩]⟩, I (Fx.cutC n t c)]⟩)
theorem fn133 : Fn1 Tryz.prog 133 Tryz.f133 := ⟨Tryz.func133, by kernel_rfl, by kernel_rfl, by kernel_rfl⟩
theorem v133 (n : Int) (t : Ty) (c : Int) (R : Value → Prop) : bodyQ Tryz.prog K3 noL Tryz.f133 [Enc.enc n, Enc.enc t, Enc.enc c] (fun _ => none) 0 (fun v _ _ => R v) = ( bif decide (Valid t) then bif decide (n > IntKind.wrap .i64 (0 - bnd t)) || true then bif decide (n > IntKind.wrap .i64 (0 - bnd t)) && decide (n < bnd t) then R (.tuple (.mk [.agg (.mk [I n, S (ByteArray.mk #[])]), I 0])) else bif decide (bnd t ≠ 0) then R (.tuple (.mk [.agg (.mk [I (Int.tmod n (bnd t)), S (ByteArray.mk #[])]), I c])) else False else False else False) := by kernel_rfl
theorem ok133 : PureOK Tryz.prog 133 (sp3 s133) := by
 refine qure3 ok_K3 hmix fn133 lokf_none (Nat.le_of_ble_eq_true (by kernel_rfl)) fun n t c hc => ?_
 rw [DoesQ, v133]
 have hc : (Valid t ∧ -4000000000000000000 ≤ n ∧ n ≤ 4000000000000000000) := of_decide_eq_true hc
 try dsimp only [s133]
 obtain ⟨hv, h1, h2⟩ := hc
 have br := Fx.bnd_range hv
 rw [Fx.w64 (n := 0 - bnd t) (by omega)]
 refine c_t (decide_eq_true hv) (c_t (Bool.or_true _) ?_)
 unfold Fx.cutN Fx.cutC
 by_cases hi : Fx.InB n t
 ·have h3 : -bnd t < n ∧ n < bnd t := hi
  rw [if_pos hi, if_pos hi]
  exact c_t (by rw [decide_eq_true (show n > 0 - bnd t by omega), decide_eq_true h3.2]; rfl) rfl
 ·have h3 : ¬ (-bnd t < n ∧ n < bnd t) := hi
  rw [if_neg hi, if_neg hi]
  refine c_f ?_ (c_t (decide_eq_true (by omega)) rfl)
  rw [Bool.and_eq_false_iff, decide_eq_false_iff_not, decide_eq_false_iff_not]
  omega
def A1 : Env := ((K3.add 132 s132).add 134 (sp3 s134)).add 133 (sp3 s133)
theorem ok_A1 : EnvOK Tryz.prog A1 := env_add (env_add (env_add ok_K3 ok132) ok134) ok133
def s57 (v : Vl) (f : Ty) (t : Ty) : Bool × Value := (decide (Fx.fits v f = 0 ∧ Valid t), .tuple ⟨[.agg ⟨[I (Fx.cutN (Fx.scl v.n (t.q - f.q)) t), S ⟨#[]⟩]⟩, I (Fx.cutC (Fx.scl v.n (t.q - f.q)) t 1), I 0]⟩)
theorem fn57 : Fn1 Tryz.prog 57 Tryz.f57 := ⟨Tryz.func57, by kernel_rfl, by kernel_rfl, by kernel_rfl⟩
theorem v57 (v : Vl) (f : Ty) (t : Ty) (R : Value → Prop) : bodyQ Tryz.prog A1 noL Tryz.f57 [Enc.enc v, Enc.enc f, Enc.enc t] (fun _ => none) 0 (fun v _ _ => R v) = ( bif Fx.fst2 (fits v f) (check t) != 0 then R (.tuple (.mk [.agg (.mk [I 0, S (ByteArray.mk #[])]), I 0, I (Fx.fst2 (fits v f) (check t))])) else bif decide (0 ≤ Ty.q f ∧ Ty.q f ≤ 9 ∧ 0 ≤ Ty.q t ∧ Ty.q t ≤ 9 ∧ -2147483648 ≤ Vl.n v ∧ Vl.n v ≤ 2147483648) then bif decide (Valid t ∧ -4000000000000000000 ≤ Fx.scl (Vl.n v) (Ty.q t - Ty.q f) ∧ Fx.scl (Vl.n v) (Ty.q t - Ty.q f) ≤ 4000000000000000000) then R (.tuple (.mk [.agg (.mk [I (Fx.cutN (Fx.scl (Vl.n v) (Ty.q t - Ty.q f)) t), S (ByteArray.mk #[])]), I (Fx.cutC (Fx.scl (Vl.n v) (Ty.q t - Ty.q f)) t 1), I 0])) else False else False) := by kernel_rfl
theorem ok57 : PureOK Tryz.prog 57 (sp3 s57) := by
 refine qure3 ok_A1 hmix fn57 lokf_none (Nat.le_of_ble_eq_true (by kernel_rfl)) fun v f t hc => ?_
 rw [DoesQ, v57]
 have hc : (Fx.fits v f = 0 ∧ Valid t) := of_decide_eq_true hc
 try dsimp only [s57]
 obtain ⟨hf, ht⟩ := hc
 have hv : Valid f := by
  unfold Fx.fits at hf; split at hf
  ·assumption
  ·cases hf
 have hn : -bnd f < v.n ∧ v.n < bnd f := by
  unfold Fx.fits at hf; rw [if_pos hv] at hf; split at hf
  ·rename_i h; exact h.2
  ·cases hf
 have br := Fx.bnd_range hv
 obtain ⟨v1, v2, v3, v4, v5⟩ := Fx.valid_r hv
 obtain ⟨u1, u2, u3, u4, u5⟩ := Fx.valid_r ht
 refine c_f (by rw [hf, Fx.fst2, Fx.check, if_pos ht]; rfl) (c_t (decide_eq_true (by omega)) (c_t (decide_eq_true ⟨ht, scl_r (by omega) (by omega)⟩) rfl))
theorem x32_1 (v : Vl) (p : Int) (q : Int) (w : Bool) (u : ByteArray) (R : Value → Prop) : (bodyQ Tryz.prog K11 noL Tryz.f32 [Enc.enc v, .agg ⟨[I 1, I p, I q, B w, S u]⟩] (fun _ => none) 0 (fun v _ _ => R v)) = ( bif fitO v (Ty.mk 1 p q w u) then bif decide (Valid (Ty.mk 1 p q w u) ∧ -2147483648 ≤ Vl.n v ∧ Vl.n v ≤ 2147483648) then R (.tuple (.mk [S (szO (txtZ (Vl.n v) (Ty.mk 1 p q w u))), I 0])) else False else False) := by kernel_rfl
theorem x32_2 (v : Vl) (p : Int) (q : Int) (w : Bool) (u : ByteArray) (R : Value → Prop) : (bodyQ Tryz.prog K11 noL Tryz.f32 [Enc.enc v, .agg ⟨[I 2, I p, I q, B w, S u]⟩] (fun _ => none) 0 (fun v _ _ => R v)) = ( bif fitO v (Ty.mk 2 p q w u) then bif decide (Valid (Ty.mk 2 p q w u) ∧ -2147483648 ≤ Vl.n v ∧ Vl.n v ≤ 2147483648) then R (.tuple (.mk [S (szO (txtZ (Vl.n v) (Ty.mk 2 p q w u))), I 0])) else False else False) := by kernel_rfl
theorem fn32 : Fn1 Tryz.prog 32 Tryz.f32 := ⟨Tryz.func32, by kernel_rfl, by kernel_rfl, by kernel_rfl⟩
def s32 (v : Vl) (t : Ty) : Bool × Value := (decide (fit4 v t = 0 ∧ Valid t), .tuple ⟨[S (szO (txtZ v.n t)), I 0]⟩)
theorem ok32 : PureOK Tryz.prog 32 (sp2 s32) := by
 refine qure2 ok_K11 hmix fn32 lokf_none (Nat.le_of_ble_eq_true (by kernel_rfl)) fun v t hc => ?_
 have hc : fit4 v t = 0 ∧ Valid t := of_decide_eq_true hc
 obtain ⟨k, p, q, w, u⟩ := t
 have en : ∀ (k p q : Int) (w : Bool) (u : ByteArray), (Enc.enc (⟨k, p, q, w, u⟩ : Ty) : Value) = .agg ⟨[.int .i64 k, .int .i64 p, .int .i64 q, .bool w, .string u]⟩ := fun _ _ _ _ _ => rfl
 rcases hc.2.1 with hk | hk
 ·have hk : k = 1 := hk
  subst hk
  have hx := x32_1 v p q w u (fun v' => v' = (s32 v ⟨1, p, q, w, u⟩).2)
  rw [DoesQ, en, hx]
  have A := ari_of hc.1 (.inl rfl)
  refine c_t ?_ (c_t (decide_eq_true ⟨hc.2, A.n32⟩) rfl)
  rw [fitO_eq]
  have h1 := A.s
  have h2 : u = ⟨#[]⟩ := A.fs
  refine decide_eq_true ⟨hc.1, ?_, ?_, ?_⟩
  all_goals first | (rw [h1, e0_size]; decide) | (show u.size ≤ _; rw [h2, e0_size]; decide) | (show (1 : Int) ≠ 5; decide)
 ·have hk : k = 2 := hk
  subst hk
  have hx := x32_2 v p q w u (fun v' => v' = (s32 v ⟨2, p, q, w, u⟩).2)
  rw [DoesQ, en, hx]
  have A := ari_of hc.1 (.inr rfl)
  refine c_t ?_ (c_t (decide_eq_true ⟨hc.2, A.n32⟩) rfl)
  rw [fitO_eq]
  have h1 := A.s
  have h2 : u = ⟨#[]⟩ := A.fs
  refine decide_eq_true ⟨hc.1, ?_, ?_, ?_⟩
  all_goals first | (rw [h1, e0_size]; decide) | (show u.size ≤ _; rw [h2, e0_size]; decide) | (show (2 : Int) ≠ 5; decide)
end Go.Cx
end
noncomputable section
set_option maxHeartbeats 3200000
namespace Go.Cx
open Go Go.Ab Go.Px Go.Cv
open Go.Fx (Ty Vl check Valid most base pw bnd Fit fits scl cutN cutC InB)
theorem dec_ge {l : List Int} (h : digsZ l = true) (h0 : l ≠ []) (hh : l.head? ≠ some 48) : (10 : Int) ^ (l.length - 1) ≤ decG l 0 := by
 cases l with
 | nil => exact absurd rfl h0
 | cons c r =>
  simp only [digsZ, List.all_cons, Bool.and_eq_true] at h
  have hc : 48 ≤ c ∧ c ≤ 57 := by simpa [dig] using h.1
  have hne : c ≠ 48 := fun q => hh (by rw [q]; rfl)
  have hr := decG_pos r h.2
  have hp : (0 : Int) < 10 ^ r.length := Int.pow_pos (by decide)
  rw [decG, decG_add, List.length_cons, Nat.add_sub_cancel]
  have : 1 * (10 : Int) ^ r.length ≤ (10 * 0 + (c - 48)) * 10 ^ r.length := Int.mul_le_mul_of_nonneg_right (by omega) (by omega)
  omega
theorem p10_le {a b : Nat} (h : a ≤ b) : (10 : Int) ^ a ≤ 10 ^ b := by
 have : (10 : Nat) ^ a ≤ 10 ^ b := Nat.pow_le_pow_right (by decide) h
 exact_mod_cast this
theorem shf_lt {l : List Int} (h : digsZ l = true) (h0 : l ≠ []) (hh : l.head? ≠ some 48) {d : Int} {p : Nat} : shf (decG l 0) d < 10 ^ p ↔ (l.length : Int) + d ≤ p := by
 have hp : ∀ k : Nat, (0 : Int) < 10 ^ k := fun k => Int.pow_pos (by decide)
 have h1 := dec_ge h h0 hh
 have h2 := decG_lt l h
 have hl : 1 ≤ l.length := by cases l with | nil => exact absurd rfl h0 | cons c r => simp
 unfold shf
 split
 ·constructor
  ·intro hlt
   refine Int.not_lt.1 fun hgt => ?_
   have a1 : (10 : Int) ^ (l.length - 1) * 10 ^ d.toNat ≤ decG l 0 * 10 ^ d.toNat := Int.mul_le_mul_of_nonneg_right h1 (Int.le_of_lt (hp _))
   rw [← Int.pow_add] at a1
   have a2 : (10 : Int) ^ p ≤ 10 ^ (l.length - 1 + d.toNat) := p10_le (by omega)
   omega
  ·intro hle
   have a1 : decG l 0 * 10 ^ d.toNat < 10 ^ l.length * 10 ^ d.toNat := Int.mul_lt_mul_of_pos_right h2 (hp _)
   rw [← Int.pow_add] at a1
   have a2 : (10 : Int) ^ (l.length + d.toNat) ≤ 10 ^ p := p10_le (by omega)
   omega
 ·rw [Int.ediv_lt_iff_lt_mul (hp _), ← Int.pow_add]
  constructor
  ·intro hlt
   refine Int.not_lt.1 fun hgt => ?_
   have a2 : (10 : Int) ^ (p + (-d).toNat) ≤ 10 ^ (l.length - 1) := p10_le (by omega)
   omega
  ·intro hle
   have a2 : (10 : Int) ^ l.length ≤ 10 ^ (p + (-d).toNat) := p10_le (by omega)
   omega
theorem tk_cond {g : Bool} {l : List Int} {c : Int} {t : Ty} (hn : isNum g l c = true) (hv : Valid t) (hk : t.k = 1) :
  (tkV g l c t).2.2 = 0 ∧ (tkV g l c t).2.1 = if (l.length : Int) - c > t.p - t.q then 1 else 0 := by
 obtain ⟨n1, n2, n3, n4, n5⟩ := isNum_facts hn
 obtain ⟨v1, v2, v3, v4, v5⟩ := Fx.valid_r hv
 have hb := (Fx.bnd_range hv).1
 have hP := plc_digs (c := c) (q := t.q) n2
 unfold tkV
 rw [if_neg (by rw [hn]; decide), if_neg (fun h => h hv)]
 refine ⟨rfl, ?_⟩
 unfold tkR
 show (tkGo (bnd t) (plcR l c t.q) 0 0).2 = _
 rw [tk_snd (by omega) _ 0 0 hP ⟨Int.le_refl _, by omega⟩, plc_val n2]
 have hbd : bnd t = 10 ^ t.p.toNat := by unfold bnd base pw; rw [if_pos hk]
 by_cases h0 : l = []
 ·have hc := n5 h0
  subst h0
  have : shf (decG [] 0) (t.q - c) = 0 := by
   show shf 0 _ = 0
   unfold shf
   split <;> simp
  rw [this, if_pos (by omega), if_neg (by simp only [List.length_nil]; omega)]
 ·have key := shf_lt (d := t.q - c) (p := t.p.toNat) n2 h0 n3
  rw [hbd]
  by_cases hlt : shf (decG l 0) (t.q - c) < 10 ^ t.p.toNat
  ·have := key.1 hlt
   rw [if_pos hlt, if_neg (by omega)]
  ·have : ¬ ((l.length : Int) + (t.q - c) ≤ (t.p.toNat : Int)) := fun h => hlt (key.2 h)
   rw [if_neg hlt, if_pos (by omega)]
end Go.Cx
end
noncomputable section
set_option maxHeartbeats 3200000
namespace Go.Cx
open Go Go.Ab Go.Proofs Go.Shelf Go.Px Go.Cv
open Go.Fx (Ty Vl check Valid most base pw bnd Fit fits tv vv tup V0 T0 pw_zero pw_succ wrap_mul pw_w64 str0)
instance tabsN : Tabs := tabs
def s48 (v : Vl) (f : Ty) (t : Ty) (w : Vl) (c : Int) : Bool × Value := (toO.1 v f t, B (decide ((toO.2 v f t).1 = w.n ∧ bz (toO.2 v f t).2.1 = bz w.s ∧ (toO.2 v f t).2.2 = c)))
theorem fn48 : Fn1 Tryz.prog 48 Tryz.f48 := ⟨Tryz.func48, by kernel_rfl, by kernel_rfl, by kernel_rfl⟩
theorem v48 (v : Vl) (f : Ty) (t : Ty) (w : Vl) (c : Int) (R : Value → Prop) : bodyQ Tryz.prog L2 noL Tryz.f48 [Enc.enc v, Enc.enc f, Enc.enc t, Enc.enc w, Enc.enc c] (fun _ => none) 0 (fun v _ _ => R v) = ( bif Prod.fst toO v f t then bif Prod.fst (Prod.snd toO v f t) == Vl.n w && (ByteArray.toList (Prod.fst (Prod.snd (Prod.snd toO v f t))) == ByteArray.toList (Vl.s w) && true) || true then R (B (0 == 0 && (Prod.fst (Prod.snd toO v f t) == Vl.n w && (ByteArray.toList (Prod.fst (Prod.snd (Prod.snd toO v f t))) == ByteArray.toList (Vl.s w) && true) && Prod.snd (Prod.snd (Prod.snd toO v f t)) == c))) else False else False) := by kernel_rfl
theorem ok48 : PureOK Tryz.prog 48 (sp5 s48) := by
 refine qure5 ok_L2 hmix fn48 lokf_none (Nat.le_of_ble_eq_true (by kernel_rfl)) fun v f t w c hc => ?_
 rw [DoesQ, v48]
 try dsimp only [s48]
 refine c_t hc (c_t (Bool.or_true _) ?_)
 congr 1
 rw [toList_beq, Bool.eq_iff_iff]
 simp [and_assoc]
def L15 : Env := (((((L2.add 57 (sp3 s57)).add 32 (sp2 s32)).addG 24 hidN).add 26 (sp2 s26)).add 58 (sp1 s58)).add 48 (sp5 s48)
theorem ok_L15 : EnvOK Tryz.prog L15 := env_add (env_add (env_add (env_addG (env_add (env_add ok_L2 ok57) ok32) gen_hidN) ok26) ok58) ok48
def s15 (v : Vl) (f : Ty) (t : Ty) (n : Nu) : Bool × Value := (decide (v.s.size ≤ 9223372036854775807 ∧ f.s.size ≤ 9223372036854775807 ∧ t.s.size ≤ 9223372036854775807 ∧ n.d.size ≤ 9223372036854775807 ∧ (-9223372036854775808 ≤ n.c ∧ n.c ≤ 9223372036854775807)), B true)
theorem fn15 : Fn1 Tryz.prog 15 Tryz.f15 := ⟨Tryz.func15, by kernel_rfl, by kernel_rfl, by kernel_rfl⟩
theorem v15 (v : Vl) (f : Ty) (t : Ty) (n : Nu) (R : Value → Prop) : bodyQ Tryz.prog L15 noL Tryz.f15 [Enc.enc v, Enc.enc f, Enc.enc t, Enc.enc n] (fun _ => none) 0 (fun v _ _ => R v) = ( bif decide (ByteArray.size (Ty.s f) ≤ 9223372036854775807 ∧ ByteArray.size (Vl.s v) ≤ 9223372036854775807) && (!(decide (ByteArray.size (Ty.s f) ≤ 200 ∧ ByteArray.size (Vl.s v) ≤ 2000) && Prod.fst goO v f == 0) || (!decide (Ty.k f = 1 ∨ Ty.k f = 2) || (!decide (Ty.k t = 1 ∨ Ty.k t = 2) || decide (ByteArray.size (Ty.s t) ≤ 9223372036854775807) && true))) then bif !(decide (ByteArray.size (Ty.s f) ≤ 200 ∧ ByteArray.size (Vl.s v) ≤ 2000) && Prod.fst goO v f == 0) || (!decide (Ty.k f = 1 ∨ Ty.k f = 2) || (!decide (Ty.k t = 1 ∨ Ty.k t = 2) || Prod.snd goO t != 0)) then R (B true) else bif decide (fits v f = 0 ∧ Valid t) then bif decide (fit4 v f = 0 ∧ Valid f) then bif decide (ByteArray.size (szO (txtZ (Vl.n v) f)) ≤ 9223372036854775807) then ∀ (b g : Bool) (d : ByteArray) (c : Int), RdN (szO (txtZ (Vl.n v) f)) b g d c → bif decide (ByteArray.size d ≤ 9223372036854775807) then bif !b || (Prod.snd (Prod.snd (tkV g (bz d) c t)) != 0 || (!(Prod.fst (tkV g (bz d) c t) == Fx.cutN (Fx.scl (Vl.n v) (Ty.q t - Ty.q f)) t && (ByteArray.toList (ByteArray.mk #[]) == ByteArray.toList (ByteArray.mk #[]) && true)) || (Prod.fst (Prod.snd (tkV g (bz d) c t)) != Fx.cutC (Fx.scl (Vl.n v) (Ty.q t - Ty.q f)) t 1 || Prod.fst toO v f t && true))) then bif 0 != 0 || (0 != 0 || (!b || (Prod.snd (Prod.snd (tkV g (bz d) c t)) != 0 || (!(Prod.fst (tkV g (bz d) c t) == Fx.cutN (Fx.scl (Vl.n v) (Ty.q t - Ty.q f)) t && (ByteArray.toList (ByteArray.mk #[]) == ByteArray.toList (ByteArray.mk #[]) && true)) || (Prod.fst (Prod.snd (tkV g (bz d) c t)) != Fx.cutC (Fx.scl (Vl.n v) (Ty.q t - Ty.q f)) t 1 || !decide (Prod.fst (Prod.snd toO v f t) = Fx.cutN (Fx.scl (Vl.n v) (Ty.q t - Ty.q f)) t ∧ bz (Prod.fst (Prod.snd (Prod.snd toO v f t))) = bz (ByteArray.mk #[]) ∧ Prod.snd (Prod.snd (Prod.snd toO v f t)) = Fx.cutC (Fx.scl (Vl.n v) (Ty.q t - Ty.q f)) t 1)))))) then R (B false) else bif Ty.k t != 1 || (decide ((↑(ByteArray.size (Nu.d n)) : Int) > 1000) || decide (ByteArray.size (Nu.d n) ≤ 9223372036854775807) && true) then bif Ty.k t != 1 || (decide ((↑(ByteArray.size (Nu.d n)) : Int) > 1000) || !isNum (Nu.g n) (bz (Nu.d n)) (Nu.c n)) then R (B true) else bif decide (ByteArray.size (Nu.d n) ≤ 9223372036854775807) then bif bif Prod.snd (Prod.snd (tkV (Nu.g n) (bz (Nu.d n)) (Nu.c n) t)) == 0 then bif (Prod.fst (Prod.snd (tkV (Nu.g n) (bz (Nu.d n)) (Nu.c n) t)) == 1) == decide (IntKind.wrap .i64 ((↑(ByteArray.size (Nu.d n)) : Int) - Nu.c n) > IntKind.wrap .i64 (Ty.p t - Ty.q t)) then Prod.fst (Prod.snd (tkV (Nu.g n) (bz (Nu.d n)) (Nu.c n) t)) == 0 || true else true else true then R (B (Prod.snd (Prod.snd (tkV (Nu.g n) (bz (Nu.d n)) (Nu.c n) t)) == 0 && ((Prod.fst (Prod.snd (tkV (Nu.g n) (bz (Nu.d n)) (Nu.c n) t)) == 1) == decide (IntKind.wrap .i64 ((↑(ByteArray.size (Nu.d n)) : Int) - Nu.c n) > IntKind.wrap .i64 (Ty.p t - Ty.q t)) && (Prod.fst (Prod.snd (tkV (Nu.g n) (bz (Nu.d n)) (Nu.c n) t)) == 0 || Prod.fst (Prod.snd (tkV (Nu.g n) (bz (Nu.d n)) (Nu.c n) t)) == 1)))) else False else False else False else False else False else False else False else False else False) := by kernel_rfl
theorem ok15 : PureOK Tryz.prog 15 (sp4 s15) := by
 refine qure4 ok_L15 hmix fn15 lokf_none (Nat.le_of_ble_eq_true (by kernel_rfl)) fun v f t n hc => ?_
 rw [DoesQ, v15]
 have hc : (v.s.size ≤ 9223372036854775807 ∧ f.s.size ≤ 9223372036854775807 ∧ t.s.size ≤ 9223372036854775807 ∧ n.d.size ≤ 9223372036854775807 ∧ (-9223372036854775808 ≤ n.c ∧ n.c ≤ 9223372036854775807)) := of_decide_eq_true hc
 try dsimp only [s15]
 obtain ⟨c1, c2, c3, c4, c5⟩ := hc
 refine c_t (by rw [decide_eq_true (show f.s.size ≤ 9223372036854775807 ∧ v.s.size ≤ 9223372036854775807 from ⟨c2, c1⟩), decide_eq_true c3]; simp) ?_
 refine cond_intro (fun _ => rfl) (fun h => ?_)
 simp only [Bool.or_eq_false_iff, Bool.not_eq_false', Bool.and_eq_true, decide_eq_true_eq, beq_iff_eq, bne_eq_false_iff_eq, goO_eq] at h
 obtain ⟨⟨-, hv⟩, hf, ht, htv⟩ := h
 have A := ari_of hv hf
 have tv := (chk4_facts htv).1 ht
 have hft : fits v f = 0 := by
  obtain ⟨z1, z2⟩ := fit4_facts hv
  unfold is4 at z2
  rw [if_pos hf] at z2
  simpa using z2
 obtain ⟨p1, p2⟩ := to_num A tv
 have hq := Fx.valid_r A.va
 have hB : IsB (numA v.n f.q).2.1 := by
  have hd1 := ito_digs (m := if v.n < 0 then -v.n else v.n) (by have := A.n32; split <;> omega)
  have := isNum_facts (norm_isNum (g := decide (v.n < 0)) (l := itoZ (if v.n < 0 then -v.n else v.n)) (q := f.q) hd1.1 (by have := ito_len (m := if v.n < 0 then -v.n else v.n) (by have := A.n32; split <;> omega); omega) (by omega))
  exact digs_isB this.2.1
 have hL : (numA v.n f.q).2.1.length ≤ 20 := by
  refine Nat.le_trans (norm_len _ _ _) ?_
  have := ito_len (m := if v.n < 0 then -v.n else v.n) (by have := A.n32; split <;> omega)
  omega
 have hw := wid_r A.va
 have hl := txt_len A.va A.n
 refine c_t (decide_eq_true ⟨hft, tv⟩) (c_t (decide_eq_true ⟨hv, A.va⟩) (c_t (decide_eq_true (by rw [szO_size]; omega)) fun b g d c hR => ?_))
 have hr : rdN (bz (szO (txtZ v.n f))) = some (numA v.n f.q) := by rw [bz_szO (txt_isB _ _), txt_read A.va A.n32]
 obtain ⟨rfl, rfl, rfl, rfl⟩ : b = true ∧ g = (numA v.n f.q).1 ∧ d = szO (numA v.n f.q).2.1 ∧ c = (numA v.n f.q).2.2 := by
  rcases hR with ⟨q, _⟩ | ⟨l, q, q2, q3⟩
  ·rw [hr] at q; cases q
  ·rw [hr] at q
   have q := Option.some.inj q
   exact ⟨q3, by rw [q], by rw [q2, q], by rw [q]⟩
 rw [bz_szO hB, tk_num tv A.n32 (by omega), p1, p2]
 refine c_t (decide_eq_true (by rw [szO_size]; omega)) (c_t (by simp) (c_f (by simp) ?_))
 refine c_t (by rw [decide_eq_true c4]; simp) (cond_intro (fun _ => rfl) (fun h => ?_))
 simp only [Bool.or_eq_false_iff, Bool.not_eq_false', decide_eq_false_iff_not, bne_eq_false_iff_eq] at h
 obtain ⟨hk, -, hn⟩ := h
 obtain ⟨n1, n2, n3, n4, n5⟩ := isNum_facts hn
 obtain ⟨k1, k2⟩ := tk_cond hn tv hk
 have ht2 := Fx.valid_r tv
 have hsz : ((bz n.d).length : Int) = n.d.size := by rw [bz_length]
 rw [k1, k2, ← hsz, Fx.w64 (n := ((bz n.d).length : Int) - n.c) (by omega), Fx.w64 (n := t.p - t.q) (by omega)]
 refine c_t (decide_eq_true c4) ?_
 by_cases hgt : ((bz n.d).length : Int) - n.c > t.p - t.q
 ·rw [if_pos hgt, decide_eq_true hgt]; rfl
 ·rw [if_neg hgt, decide_eq_false hgt]; rfl
end Go.Cx
end
noncomputable section
set_option maxHeartbeats 3200000
namespace Go.Cx
open Go Go.Ab Go.Px Go.Cv
open Go.Fx (Ty Vl check Valid most base pw bnd Fit fits scl cutN cutC InB)
theorem divT_eq : ∀ (k : Nat) (n : Int), 0 ≤ n → divT k n = n / 10 ^ k
 | 0, n, _ => by simp [divT]
 | k + 1, n, h => by
  rw [divT, divT_eq k (n / 10) (Int.ediv_nonneg h (by decide)), Int.pow_succ, Int.mul_comm, Int.ediv_ediv_of_nonneg (by decide : (0 : Int) ≤ 10)]
theorem binG_app : ∀ (l r : List Int) (a : Int), binG (l ++ r) a = binG r (binG l a)
 | [], r, a => rfl
 | c :: l, r, a => by rw [List.cons_append, binG, binG, binG_app l r]
theorem inB_bits : ∀ (k : Nat) (n : Int), 0 ≤ n → bitsZ (inB k n) = true
 | 0, _, _ => rfl
 | k + 1, n, h => by
  have := inB_bits k (n / 2) (by omega)
  rw [inB, bitsZ, List.all_append]
  have e : List.all (inB k (n / 2)) (fun c => decide (c = 48 ∨ c = 49)) = true := this
  rw [e]
  simp
  omega
theorem binG_inB : ∀ (k : Nat) (n : Int), 0 ≤ n → n < 2 ^ k → binG (inB k n) 0 = n
 | 0, n, h0, h => by simp at h; simp [inB, binG]; omega
 | k + 1, n, h0, h => by
  rw [Int.pow_succ] at h
  rw [inB, binG_app, binG_inB k (n / 2) (by omega) (by omega)]
  simp only [binG]
  omega
theorem inB_binG : ∀ (k : Nat) (l : List Int), l.length = k → bitsZ l = true → inB k (binG l 0) = l
 | 0, l, h, _ => by
  have := List.length_eq_zero_iff.1 h
  subst this; rfl
 | k + 1, l, h, hb => by
  obtain ⟨r, c, rfl⟩ : ∃ r c, l = r ++ [c] := ⟨l.dropLast, l.getLast (by intro q; subst q; simp at h), (List.dropLast_concat_getLast _).symm⟩
  have hb' : bitsZ r = true ∧ (c = 48 ∨ c = 49) := by
   simp only [bitsZ, List.all_append, Bool.and_eq_true, List.all_cons, List.all_nil, Bool.and_true, decide_eq_true_eq] at hb
   exact hb
  have hl : r.length = k := by simp at h; exact h
  have h0 := (bin_lt r 0 hb'.1 (Int.le_refl _)).1
  rw [binG_app, inB]
  simp only [binG]
  rw [show (2 * binG r 0 + (c - 48)) / 2 = binG r 0 by omega, inB_binG k r hl hb'.1]
  congr 1
  congr 1
  omega
abbrev biT (P : Int) : Ty := ⟨4, P, 0, false, ⟨#[]⟩⟩
abbrev bnT (P : Int) : Ty := ⟨2, P, 0, false, ⟨#[]⟩⟩
theorem bnT_v {P : Int} (h : 1 ≤ P ∧ P ≤ 31) : Valid (bnT P) := ⟨.inr rfl, h.1, h.2, Int.le_refl _, (by show (0 : Int) ≤ P; omega), fun _ => rfl, rfl, (by show (ByteArray.mk #[]).toList = []; rw [ByteArray.toList_eq])⟩
theorem bnT_b {P : Int} : bnd (bnT P) = 2 ^ P.toNat := by unfold bnd base pw; rw [if_neg (by show ¬ ((2 : Int) = 1); decide)]
theorem biT_chk {P : Int} (h : 0 ≤ P ∧ P ≤ 64) : chk4 (biT P) = 0 := by
 unfold chk4
 rw [if_neg (fun h => by have := h.1; simp at this), if_neg (fun h => by have : (4 : Int) = 3 := h.1; omega), if_pos ⟨rfl, rfl, bz_nil rfl, rfl, h.1, h.2⟩]
def bitL (n : Int) (f : Ty) : List Int := inB (bitWd f).toNat (divT f.q.toNat (absI n))
theorem to_bit {v : Vl} {f : Ty} (h : Ari v f) {P : Int} (hP : 0 ≤ P ∧ P ≤ 64) : toO.1 v f (biT P) = true ∧ toO.2 v f (biT P) = (0, szO (fillZ (bitL v.n f) P.toNat 48), 0) := by
 constructor
 ·rw [toO1, Bool.and_eq_true]
  refine ⟨decide_eq_true ⟨h.fit, biT_chk hP, ?_, ?_, ?_, ?_, ?_⟩, ?_⟩
  ·rw [h.fs, e0_size]; decide
  ·show (ByteArray.mk #[]).size ≤ _; rw [e0_size]; decide
  ·rw [h.s, e0_size]; decide
  ·have := h.k; omega
  ·show (4 : Int) = 1 ∨ (4 : Int) = 2 ∨ (4 : Int) = 3 ∨ (4 : Int) = 4; omega
  ·unfold cvG; rw [if_neg (by show ¬ ((4 : Int) = 1 ∨ (4 : Int) = 2); omega), if_pos rfl, h.fm]; rfl
 ·rw [toO2]
  unfold cvV
  rw [if_neg (by show ¬ ((4 : Int) = 1 ∨ (4 : Int) = 2); omega), if_pos rfl, h.fm]
  rfl
structure Bts (v : Vl) (P : Int) : Prop where
 n : v.n = 0
 r : 0 ≤ P ∧ P ≤ 64
 s : (v.s.size : Int) = P
 b : bitsZ (bz v.s) = true
theorem bts_of {v : Vl} {f : Ty} (h : fit4 v f = 0) (hk : f.k = 4) : Bts v f.p ∧ f = biT f.p := by
 obtain ⟨c1, i1⟩ := fit4_facts h
 have hr := (chk4_facts c1).2.2 hk
 unfold is4 at i1
 rw [if_neg (by omega), if_neg (by omega), if_pos hk] at i1
 simp only [Bool.and_eq_true, decide_eq_true_eq] at i1
 refine ⟨⟨i1.1.1, hr, i1.1.2, i1.2⟩, ?_⟩
 unfold chk4 at c1
 rw [if_neg (fun h => by have := h.1; omega), if_neg (fun h => by have := h.1; omega)] at c1
 split at c1
 ·rename_i h4
  obtain ⟨k, p, q, w, u⟩ := f
  obtain ⟨h1, h2, h3, h4, -⟩ := h4
  simp only at h1 h2 h3 h4
  subst h1 h2 h4
  have : u = ⟨#[]⟩ := by rw [← sz_bz u, h3]; rfl
  rw [this]
 ·rw [if_neg (fun h => by have := h.1; omega), if_neg (fun h => by have := h.1; omega)] at c1
  cases c1
theorem Bts.fit {v : Vl} {P : Int} (h : Bts v P) : fit4 v (biT P) = 0 := by
 unfold fit4
 rw [if_neg (by rw [biT_chk h.r]; decide), if_pos]
 unfold is4
 rw [if_neg (by show ¬ ((4 : Int) = 1 ∨ (4 : Int) = 2); omega), if_neg (by show ¬ ((4 : Int) = 3); omega), if_pos rfl, Bool.and_eq_true]
 exact ⟨decide_eq_true ⟨h.n, h.s⟩, h.b⟩
theorem dec_valU {n : Int} (h : 0 ≤ n ∧ n < 18446744073709551616) : decG (decZ n) 0 = n ∧ digsZ (decZ n) = true ∧ (decZ n).length ≤ 20 := by
 obtain ⟨k, rfl⟩ : ∃ k : Nat, n = (k : Int) := ⟨n.toNat, by omega⟩
 unfold decZ
 rw [Int.toNat_natCast]
 refine ⟨dec_val 19 k (by omega), (dec_digs 19 k (by omega)).1, ?_⟩
 rw [zl, List.length_map]
 exact decD_len 19 k (by omega)
theorem to_bnum {v : Vl} {P : Int} (h : Bts v P) {t : Ty} (ht : Valid t) (hlt : binG (bz v.s) 0 < bnd t) (hq : t.q = 0) : toO.1 v (biT P) t = true ∧ toO.2 v (biT P) t = (binG (bz v.s) 0, ⟨#[]⟩, 0) := by
 have hk := ht.1
 have hts : t.s = ⟨#[]⟩ := Fx.str_e0 ht.2.2.2.2.2.2.2
 have hfm : formT v (biT P) = .b v.s := by
  unfold formT
  rw [if_neg (by show ¬ ((4 : Int) = 1 ∨ (4 : Int) = 2); omega), if_pos rfl]
 have hn : numF (.b v.s) = some (normZ false (binD (bz v.s)) 0) := rfl
 have hsz : (bz v.s).length ≤ 64 := by rw [bz_length]; have := h.s; have := h.r; omega
 obtain ⟨d1, d2, d3⟩ := dec_valU (bin_64 h.b hsz)
 have hb := (Fx.bnd_range ht).1
 constructor
 ·rw [toO1, Bool.and_eq_true]
  refine ⟨decide_eq_true ⟨h.fit, chk_ari ht, ?_, ?_, ?_, ?_, ?_⟩, ?_⟩
  ·show (ByteArray.mk #[]).size ≤ _; rw [e0_size]; decide
  ·rw [hts, e0_size]; decide
  ·have := h.s; have := h.r; omega
  ·show (4 : Int) = 1 ∨ (4 : Int) = 2 ∨ (4 : Int) = 3 ∨ (4 : Int) = 4; omega
  ·omega
  ·unfold cvG; rw [if_pos hk, hfm, hn]; rfl
 ·have hN := norm_isNum (g := false) (q := 0) d2 (by omega) (by omega)
  have hV := norm_val (g := false) (q := 0) (Q := t.q) d2
  rw [d1, hq] at hV
  obtain ⟨-, hD, -, -, -⟩ := isNum_facts hN
  rw [toO2]
  unfold cvV
  rw [if_pos hk, hfm, hn]
  show ((tkV (normZ false (binD (bz v.s)) 0).1 (bz (szO (normZ false (binD (bz v.s)) 0).2.1)) (normZ false (binD (bz v.s)) 0).2.2 t).1, szO [], (tkV (normZ false (binD (bz v.s)) 0).1 (bz (szO (normZ false (binD (bz v.s)) 0).2.1)) (normZ false (binD (bz v.s)) 0).2.2 t).2.1) = _
  have hB : bz (szO (normZ false (binD (bz v.s)) 0).2.1) = (normZ false (binD (bz v.s)) 0).2.1 := bz_szO (digs_isB hD)
  rw [hB, szO_nil]
  have hP : digsZ (plcR (normZ false (binD (bz v.s)) 0).2.1 (normZ false (binD (bz v.s)) 0).2.2 0) = true := plc_digs hD
  have hV : decG (plcR (normZ false (binD (bz v.s)) 0).2.1 (normZ false (binD (bz v.s)) 0).2.2 0) 0 = binG (bz v.s) 0 := by
   refine hV.trans ?_
   unfold shf
   simp
  have hg : (normZ false (binD (bz v.s)) 0).1 = false := by rw [norm_sg, Bool.and_false]
  have h0 := (bin_64 h.b hsz).1
  unfold tkV
  have hN' : isNum (normZ false (binD (bz v.s)) 0).1 (normZ false (binD (bz v.s)) 0).2.1 (normZ false (binD (bz v.s)) 0).2.2 = true := hN
  rw [if_neg (by rw [hN']; decide), if_neg (fun z => z ht)]
  unfold tkR
  rw [hg, hq, tk_fst (by omega) _ 0 0 hP ⟨Int.le_refl _, by omega⟩, tk_snd (by omega) _ 0 0 hP ⟨Int.le_refl _, by omega⟩, hV, if_pos hlt, Int.emod_eq_of_lt h0 hlt]
  rfl
theorem bit_hold {v : Vl} {f : Ty} (h : Ari v f) : 0 ≤ bitWd f ∧ bitWd f ≤ 31 ∧ 0 ≤ divT f.q.toNat (absI v.n) ∧ divT f.q.toNat (absI v.n) < 2 ^ (bitWd f).toNat := by
 obtain ⟨v1, v2, v3, v4, v5⟩ := Fx.valid_r h.va
 have hn := h.n
 have ha : 0 ≤ absI v.n ∧ absI v.n < bnd f := by unfold absI; split <;> omega
 rw [divT_eq _ _ ha.1]
 have hp : (0 : Int) < 10 ^ f.q.toNat := Int.pow_pos (by decide)
 refine ⟨?_, ?_, Int.ediv_nonneg ha.1 (Int.le_of_lt hp), ?_⟩
 ·unfold bitWd; split <;> omega
 ·unfold bitWd
  rcases h.k with hk | hk
  ·have : f.p ≤ 9 := by have := h.va.2.2.1; unfold most at this; rw [if_pos hk] at this; exact this
   rw [if_neg (by omega)]; omega
  ·rw [if_pos hk]; omega
 ·rw [Int.ediv_lt_iff_lt_mul hp]
  rcases h.k with hk | hk
  ·have hp9 : f.p ≤ 9 := by have := h.va.2.2.1; unfold most at this; rw [if_pos hk] at this; exact this
   have hb : bnd f = 10 ^ f.p.toNat := by unfold bnd base pw; rw [if_pos hk]
   have hw : bitWd f = (332 * (f.p - f.q) + 99) / 100 := by unfold bitWd; rw [if_neg (by omega)]
   have tab : ∀ m : Nat, m < 10 → (10 : Nat) ^ m ≤ 2 ^ ((332 * m + 99) / 100) := by decide
   have h2 := tab (f.p - f.q).toNat (by omega)
   have h3 : (10 : Int) ^ (f.p - f.q).toNat ≤ 2 ^ (bitWd f).toNat := by
    rw [show (bitWd f).toNat = (332 * (f.p - f.q).toNat + 99) / 100 by omega]
    exact_mod_cast h2
   have h4 : (10 : Int) ^ (f.p - f.q).toNat * 10 ^ f.q.toNat ≤ 2 ^ (bitWd f).toNat * 10 ^ f.q.toNat := Int.mul_le_mul_of_nonneg_right h3 (Int.le_of_lt hp)
   rw [← Int.pow_add, show (f.p - f.q).toNat + f.q.toNat = f.p.toNat by omega] at h4
   rw [hb] at ha
   omega
  ·have hq0 : f.q = 0 := h.va.2.2.2.2.2.1 hk
   have hb : bnd f = 2 ^ f.p.toNat := by unfold bnd base pw; rw [if_neg (by omega)]
   have hw : bitWd f = f.p := by unfold bitWd; rw [if_pos hk]
   rw [hw, hq0]
   rw [hb] at ha
   simpa using ha.2
end Go.Cx
end
noncomputable section
set_option maxHeartbeats 3200000
namespace Go.Cx
open Go Go.Ab Go.Proofs Go.Shelf Go.Px Go.Cv
open Go.Fx (Ty Vl check Valid most base pw bnd Fit fits tv vv tup V0 T0 pw_zero pw_succ wrap_mul pw_w64 str0)
theorem ari_bn {P G : Int} (hR : 1 ≤ P ∧ P ≤ 31) (hG : 0 ≤ G ∧ G < 2 ^ P.toNat) : Ari ⟨G, ⟨#[]⟩⟩ (bnT P) := by
 have hv := bnT_v hR
 have hF : Fit ⟨G, ⟨#[]⟩⟩ (bnT P) := ⟨(by show (ByteArray.mk #[]).toList = []; rw [ByteArray.toList_eq]), by rw [bnT_b]; show -2 ^ P.toNat < G; omega, by rw [bnT_b]; exact hG.2⟩
 refine ⟨.inr rfl, hv, hF.2, rfl, rfl, ?_⟩
 unfold fit4
 rw [if_neg (by rw [chk_ari hv]; decide), if_pos]
 unfold is4
 rw [if_pos (.inr rfl)]
 unfold Fx.fits
 rw [if_pos hv, if_pos hF]
 rfl
instance tabsM : Tabs := tabs
def s50 (p : Int) : Bool × Value := (true, .agg ⟨[I 2, I p, I 0, B false, S ⟨#[]⟩]⟩)
theorem fn50 : Fn1 Tryz.prog 50 Tryz.f50 := ⟨Tryz.func50, by kernel_rfl, by kernel_rfl, by kernel_rfl⟩
theorem v50 (p : Int) (R : Value → Prop) : bodyQ Tryz.prog L2 noL Tryz.f50 [Enc.enc p] (fun _ => none) 0 (fun v _ _ => R v) = ( R (.agg (.mk [I 2, I p, I 0, B false, S (ByteArray.mk #[])]))) := by kernel_rfl
theorem ok50 : PureOK Tryz.prog 50 (sp1 s50) := by
 refine qure1 ok_L2 hmix fn50 lokf_none (Nat.le_of_ble_eq_true (by kernel_rfl)) fun p hc => ?_
 rw [DoesQ, v50]
 try dsimp only [s50]
def s51 (p : Int) : Bool × Value := (true, .agg ⟨[I 4, I p, I 0, B false, S ⟨#[]⟩]⟩)
theorem fn51 : Fn1 Tryz.prog 51 Tryz.f51 := ⟨Tryz.func51, by kernel_rfl, by kernel_rfl, by kernel_rfl⟩
theorem v51 (p : Int) (R : Value → Prop) : bodyQ Tryz.prog L2 noL Tryz.f51 [Enc.enc p] (fun _ => none) 0 (fun v _ _ => R v) = ( R (.agg (.mk [I 4, I p, I 0, B false, S (ByteArray.mk #[])]))) := by kernel_rfl
theorem ok51 : PureOK Tryz.prog 51 (sp1 s51) := by
 refine qure1 ok_L2 hmix fn51 lokf_none (Nat.le_of_ble_eq_true (by kernel_rfl)) fun p hc => ?_
 rw [DoesQ, v51]
 try dsimp only [s51]
def s52 (s : ByteArray) : Bool × Value := (true, .agg ⟨[I 0, S s]⟩)
theorem fn52 : Fn1 Tryz.prog 52 Tryz.f52 := ⟨Tryz.func52, by kernel_rfl, by kernel_rfl, by kernel_rfl⟩
theorem v52 (s : ByteArray) (R : Value → Prop) : bodyQ Tryz.prog L2 noL Tryz.f52 [Enc.enc s] (fun _ => none) 0 (fun v _ _ => R v) = ( R (.agg (.mk [I 0, S s]))) := by kernel_rfl
theorem ok52 : PureOK Tryz.prog 52 (sp1 s52) := by
 refine qure1 ok_L2 hmix fn52 lokf_none (Nat.le_of_ble_eq_true (by kernel_rfl)) fun s hc => ?_
 rw [DoesQ, v52]
 try dsimp only [s52]
def s53 (n : Int) : Bool × Value := (true, .agg ⟨[I n, S ⟨#[]⟩]⟩)
theorem fn53 : Fn1 Tryz.prog 53 Tryz.f53 := ⟨Tryz.func53, by kernel_rfl, by kernel_rfl, by kernel_rfl⟩
theorem v53 (n : Int) (R : Value → Prop) : bodyQ Tryz.prog L2 noL Tryz.f53 [Enc.enc n] (fun _ => none) 0 (fun v _ _ => R v) = ( R (.agg (.mk [I n, S (ByteArray.mk #[])]))) := by kernel_rfl
theorem ok53 : PureOK Tryz.prog 53 (sp1 s53) := by
 refine qure1 ok_L2 hmix fn53 lokf_none (Nat.le_of_ble_eq_true (by kernel_rfl)) fun n hc => ?_
 rw [DoesQ, v53]
 try dsimp only [s53]
noncomputable def T8 : Env := (K8.addG 20 hid20).addG 108 (inlQ Tryz.prog (K8.addG 20 hid20) noL Tryz.f108)
theorem ok_T8 : EnvOK Tryz.prog T8 := env_addG (env_addG ok_K8 gen_hid20) (gen_inlQ (env_addG ok_K8 gen_hid20) hmix fn108 lokf_none)
def s42 (t : Ty) : Bool × Value := (decide (Valid t), .tuple ⟨[.agg ⟨[I 4, I (bitWd t), I 0, B false, S ⟨#[]⟩]⟩, I 0]⟩)
theorem fn42 : Fn1 Tryz.prog 42 Tryz.f42 := ⟨Tryz.func42, by kernel_rfl, by kernel_rfl, by kernel_rfl⟩
theorem v42 (t : Ty) (R : Value → Prop) : bodyQ Tryz.prog T8 noL Tryz.f42 [Enc.enc t] (fun _ => none) 0 (fun v _ _ => R v) = ( bif Ty.k t == 6 then R (.tuple (.mk [.agg (.mk [I 0, I 0, I 0, B false, S (ByteArray.mk #[])]), I 5])) else bif chkO t then bif Ty.k t == 1 then bif decide (Ty.q t ≤ Ty.p t ∧ Ty.p t ≤ 1000 ∧ 0 ≤ Ty.q t) then R (.tuple (.mk [.agg (.mk [I 4, I (if Ty.k t = 2 then Ty.p t else (332 * (Ty.p t - Ty.q t) + 99) / 100), I 0, B false, S (ByteArray.mk #[])]), I 0])) else False else bif Ty.k t == 2 then bif decide (Ty.q t ≤ Ty.p t ∧ Ty.p t ≤ 1000 ∧ 0 ≤ Ty.q t) then R (.tuple (.mk [.agg (.mk [I 4, I (if Ty.k t = 2 then Ty.p t else (332 * (Ty.p t - Ty.q t) + 99) / 100), I 0, B false, S (ByteArray.mk #[])]), I 0])) else False else bif Ty.k t == 3 then R (.tuple (.mk [.agg (.mk [I 4, I (imin (Ty.p t) 64), I 0, B false, S (ByteArray.mk #[])]), I 0])) else bif Ty.k t == 5 then False else R (.tuple (.mk [.agg (.mk [I 4, I (Ty.p t), I 0, B false, S (ByteArray.mk #[])]), I 0])) else False) := by kernel_rfl
theorem ok42 : PureOK Tryz.prog 42 (sp1 s42) := by
 refine qure1 ok_T8 hmix fn42 lokf_none (Nat.le_of_ble_eq_true (by kernel_rfl)) fun t hc => ?_
 rw [DoesQ, v42]
 have hc : (Valid t) := of_decide_eq_true hc
 try dsimp only [s42]
 obtain ⟨v1, v2, v3, v4, v5⟩ := Fx.valid_r hc
 have hs : t.s = ⟨#[]⟩ := Fx.str_e0 hc.2.2.2.2.2.2.2
 have hk := hc.1
 have hch : chkO t = true := by
  rw [chkO_eq]
  exact decide_eq_true ⟨chk_ari hc, by rw [hs, e0_size]; decide, by omega⟩
 rw [hch]
 rcases hk with hk | hk <;> rw [hk]
 ·exact c_f rfl (c_t rfl (c_t rfl (c_t (decide_eq_true (by omega)) (by unfold bitWd; rw [hk]))))
 ·exact c_f rfl (c_t rfl (c_f rfl (c_t rfl (c_t (decide_eq_true (by omega)) (by unfold bitWd; rw [hk])))))
def L11 : Env := ((((((L2.add 48 (sp5 s48)).add 50 (sp1 s50)).add 51 (sp1 s51)).add 52 (sp1 s52)).add 53 (sp1 s53)).add 42 (sp1 s42))
theorem ok_L11 : EnvOK Tryz.prog L11 := env_add (env_add (env_add (env_add (env_add (env_add ok_L2 ok48) ok50) ok51) ok52) ok53) ok42
def V11_0 : Int × ByteArray × Int × Int × Int × Bool × ByteArray × Int × Int × Int × Bool × ByteArray × Int × ByteArray × Int × Int × Int → List Value := fun (vn, vs, k, p, q, w, u, a1, a2, a3, a4, a5, o1, o2, n, Q, i) => [.pointer (some ⟨0, 0, some 0⟩), .pointer (some ⟨1, 0, some 0⟩), .pointer (some ⟨35, 0, some 0⟩), .pointer (some ⟨46, 0, some 0⟩), I n, I Q, I i]
def B11_0 : Int × ByteArray × Int × Int × Int × Bool × ByteArray × Int × Int × Int × Bool × ByteArray × Int × ByteArray × Int × Int × Int → List (Option Blk) := fun (vn, vs, k, p, q, w, u, a1, a2, a3, a4, a5, o1, o2, n, Q, i) => [some ⟨[I vn, S vs], 25, true⟩, some ⟨[I k, I p, I q, B w, S u], 23, true⟩, some ⟨[I a1, I a2, I a3, B a4, S a5], 23, true⟩, some ⟨[I o1, S o2], 25, true⟩]
def S11_0 : LSpec (Int × ByteArray × Int × Int × Int × Bool × ByteArray × Int × Int × Int × Bool × ByteArray × Int × ByteArray × Int × Int × Int) where
 live := [2, 3, 8, 10, 13, 116, 117]
 mid := [0, 1, 35, 46]
 n := 90
 dec vs bs := match vs, bs with | [.pointer (some ⟨0, 0, some 0⟩), .pointer (some ⟨1, 0, some 0⟩), .pointer (some ⟨35, 0, some 0⟩), .pointer (some ⟨46, 0, some 0⟩), .int .i64 n, .int .i64 Q, .int .i64 i], [some ⟨[.int .i64 vn, .string vs], 25, true⟩, some ⟨[.int .i64 k, .int .i64 p, .int .i64 q, .bool w, .string u], 23, true⟩, some ⟨[.int .i64 a1, .int .i64 a2, .int .i64 a3, .bool a4, .string a5], 23, true⟩, some ⟨[.int .i64 o1, .string o2], 25, true⟩] => some (vn, vs, k, p, q, w, u, a1, a2, a3, a4, a5, o1, o2, n, Q, i) | _, _ => none
 pre := fun (vn, vs, k, p, q, w, u, a1, a2, a3, a4, a5, o1, o2, n, Q, i) => decide (0 ≤ n ∧ n ≤ 2147483648 ∧ 0 ≤ i ∧ i ≤ Q ∧ Q ≤ 1000)
 fin := fun (vn, vs, k, p, q, w, u, a1, a2, a3, a4, a5, o1, o2, n, Q, i) Z => Z (.exit 0) [.pointer (some ⟨0, 0, some 0⟩), .pointer (some ⟨1, 0, some 0⟩), .pointer (some ⟨35, 0, some 0⟩), .pointer (some ⟨46, 0, some 0⟩), I (divT (Q - i).toNat n), I Q, I Q] [some ⟨[I vn, S vs], 25, true⟩, some ⟨[I k, I p, I q, B w, S u], 23, true⟩, some ⟨[I a1, I a2, I a3, B a4, S a5], 23, true⟩, some ⟨[I o1, S o2], 25, true⟩]
theorem r11_0 (vn : Int) (vs : ByteArray) (k : Int) (p : Int) (q : Int) (w : Bool) (u : ByteArray) (a1 : Int) (a2 : Int) (a3 : Int) (a4 : Bool) (a5 : ByteArray) (o1 : Int) (o2 : ByteArray) (n : Int) (Q : Int) (i : Int) (jk : Tmps) (R : Exit → List Value → List (Option Blk) → Prop) : (codeQ Tryz.prog L11 noL Tryz.f11.ntmps (loopOf Tryz.f11 0) (tl S11_0.live (V11_0 (vn, vs, k, p, q, w, u, a1, a2, a3, a4, a5, o1, o2, n, Q, i)) jk) (ml S11_0.mid (B11_0 (vn, vs, k, p, q, w, u, a1, a2, a3, a4, a5, o1, o2, n, Q, i))) S11_0.n fun e t' m' _ => R e (List.map t' S11_0.live) (List.map m' S11_0.mid)) = ( bif decide (i < Q) then R Exit.normal [.pointer (some (.mk 0 0 (some 0))), .pointer (some (.mk 1 0 (some 0))), .pointer (some (.mk 35 0 (some 0))), .pointer (some (.mk 46 0 (some 0))), I (IntKind.wrap .i64 (Int.tdiv n 10)), I Q, I (IntKind.wrap .i64 (i + 1))] [some (.mk [I vn, S vs] 25 true), some (.mk [I k, I p, I q, B w, S u] 23 true), some (.mk [I a1, I a2, I a3, B a4, S a5] 23 true), some (.mk [I o1, S o2] 25 true)] else R (Exit.exit 0) [.pointer (some (.mk 0 0 (some 0))), .pointer (some (.mk 1 0 (some 0))), .pointer (some (.mk 35 0 (some 0))), .pointer (some (.mk 46 0 (some 0))), I n, I Q, I i] [some (.mk [I vn, S vs] 25 true), some (.mk [I k, I p, I q, B w, S u] 23 true), some (.mk [I a1, I a2, I a3, B a4, S a5] 23 true), some (.mk [I o1, S o2] 25 true)]) := by kernel_rfl
theorem l11_0 : LOKf Tryz.prog (oneL 0 S11_0.h) Tryz.f11 := by
 refine lokf_one (h := S11_0.h) (by kernel_rfl) (loop_specQ ok_L11 hmix (by kernel_rfl) (lok_none _) S11_0 V11_0 B11_0 (fun (vn, vs, k, p, q, w, u, a1, a2, a3, a4, a5, o1, o2, n, Q, i) => (Q - i).toNat) ?_ ?_ ?_)
 ·intro vs bs s h
  simp only [S11_0] at h
  split at h
  all_goals first | (cases h; exact ⟨rfl, rfl⟩) | cases h | (split at h <;> first | (rename_i hq; cases h; have hq := Nat.eq_of_beq_eq_true hq; subst hq; exact ⟨rfl, rfl⟩) | cases h)
 ·exact fun _ _ _ h => h
 ·intro ⟨vn, vs, k, p, q, w, u, a1, a2, a3, a4, a5, o1, o2, n, Q, i⟩ jk Z hp hf
  rw [r11_0]
  simp only [S11_0] at hp hf
  have hp := of_decide_eq_true hp
  refine cond_intro (fun h => ?_) (fun h => ?_)
  ·have h := of_decide_eq_true h
   rw [show (Q - i).toNat = (Q - (i + 1)).toNat + 1 by omega, divT] at hf
   rw [Int.tdiv_eq_ediv_of_nonneg hp.1, w64 (n := n / 10) (by omega), w64 (n := i + 1) (by omega)]
   exact ⟨(vn, vs, k, p, q, w, u, a1, a2, a3, a4, a5, o1, o2, n / 10, Q, i + 1), rfl, rfl, by simp only [S11_0, decide_eq_true_eq]; omega, by simp only; omega, hf⟩
  ·have h := of_decide_eq_false h
   obtain rfl : i = Q := by omega
   rw [Int.sub_self] at hf
   exact hf
def s11 (v : Vl) (t : Ty) : Bool × Value := (decide (v.s.size ≤ 9223372036854775807 ∧ t.s.size ≤ 9223372036854775807), B true)
theorem fn11 : Fn1 Tryz.prog 11 Tryz.f11 := ⟨Tryz.func11, by kernel_rfl, by kernel_rfl, by kernel_rfl⟩
theorem v11 (v : Vl) (t : Ty) (R : Value → Prop) : bodyQ Tryz.prog L11 (oneL 0 S11_0.h) Tryz.f11 [Enc.enc v, Enc.enc t] (fun _ => none) 0 (fun v _ _ => R v) = ( bif decide (ByteArray.size (Ty.s t) ≤ 9223372036854775807 ∧ ByteArray.size (Vl.s v) ≤ 9223372036854775807) && (!(decide (ByteArray.size (Ty.s t) ≤ 200 ∧ ByteArray.size (Vl.s v) ≤ 2000) && Prod.fst goO v t == 0) || true) then bif !(decide (ByteArray.size (Ty.s t) ≤ 200 ∧ ByteArray.size (Vl.s v) ≤ 2000) && Prod.fst goO v t == 0) || Ty.k t == 6 then R (B true) else bif bif Ty.k t == 4 then decide (Ty.p t ≥ 1) || true else true then bif Ty.k t == 4 && (decide (Ty.p t ≥ 1) && decide (Ty.p t ≤ 31)) then bif Prod.fst toO v t (Ty.mk 2 (Ty.p t) 0 false (ByteArray.mk #[])) then bif Prod.snd (Prod.snd (Prod.snd toO v t (Ty.mk 2 (Ty.p t) 0 false (ByteArray.mk #[])))) != 0 || Prod.fst toO (Vl.mk (Prod.fst (Prod.snd toO v t (Ty.mk 2 (Ty.p t) 0 false (ByteArray.mk #[])))) (Prod.fst (Prod.snd (Prod.snd toO v t (Ty.mk 2 (Ty.p t) 0 false (ByteArray.mk #[])))))) (Ty.mk 2 (Ty.p t) 0 false (ByteArray.mk #[])) t && true then bif 0 != 0 || (Prod.snd (Prod.snd (Prod.snd toO v t (Ty.mk 2 (Ty.p t) 0 false (ByteArray.mk #[])))) != 0 || !decide (Prod.fst (Prod.snd toO (Vl.mk (Prod.fst (Prod.snd toO v t (Ty.mk 2 (Ty.p t) 0 false (ByteArray.mk #[])))) (Prod.fst (Prod.snd (Prod.snd toO v t (Ty.mk 2 (Ty.p t) 0 false (ByteArray.mk #[])))))) (Ty.mk 2 (Ty.p t) 0 false (ByteArray.mk #[])) t) = Vl.n v ∧ bz (Prod.fst (Prod.snd (Prod.snd toO (Vl.mk (Prod.fst (Prod.snd toO v t (Ty.mk 2 (Ty.p t) 0 false (ByteArray.mk #[])))) (Prod.fst (Prod.snd (Prod.snd toO v t (Ty.mk 2 (Ty.p t) 0 false (ByteArray.mk #[])))))) (Ty.mk 2 (Ty.p t) 0 false (ByteArray.mk #[])) t))) = bz (Vl.s v) ∧ Prod.snd (Prod.snd (Prod.snd toO (Vl.mk (Prod.fst (Prod.snd toO v t (Ty.mk 2 (Ty.p t) 0 false (ByteArray.mk #[])))) (Prod.fst (Prod.snd (Prod.snd toO v t (Ty.mk 2 (Ty.p t) 0 false (ByteArray.mk #[])))))) (Ty.mk 2 (Ty.p t) 0 false (ByteArray.mk #[])) t)) = 0)) then R (B false) else bif !decide (Ty.k t = 1 ∨ Ty.k t = 2) then R (B true) else bif decide (Valid t) then bif Prod.fst toO v t (Ty.mk 4 1 0 false (ByteArray.mk #[])) then bif Prod.snd (Prod.snd (Prod.snd toO v t (Ty.mk 4 1 0 false (ByteArray.mk #[])))) != 0 || (decide (bitWd t < 0) || true) then bif 0 != 0 || (0 != 0 || (Prod.snd (Prod.snd (Prod.snd toO v t (Ty.mk 4 1 0 false (ByteArray.mk #[])))) != 0 || (decide (bitWd t < 0) || decide (bitWd t > 64)))) then R (B false) else bif bitWd t == 0 then R (B (Prod.fst (Prod.snd toO v t (Ty.mk 4 1 0 false (ByteArray.mk #[]))) == 0 && (ByteArray.toList (Prod.fst (Prod.snd (Prod.snd toO v t (Ty.mk 4 1 0 false (ByteArray.mk #[]))))) == ByteArray.toList (ByteArray.mk #[48]) && true))) else False else False else False else False else False else False else bif !decide (Ty.k t = 1 ∨ Ty.k t = 2) then R (B true) else bif decide (Valid t) then bif Prod.fst toO v t (Ty.mk 4 1 0 false (ByteArray.mk #[])) then bif Prod.snd (Prod.snd (Prod.snd toO v t (Ty.mk 4 1 0 false (ByteArray.mk #[])))) != 0 || (decide (bitWd t < 0) || true) then bif 0 != 0 || (0 != 0 || (Prod.snd (Prod.snd (Prod.snd toO v t (Ty.mk 4 1 0 false (ByteArray.mk #[])))) != 0 || (decide (bitWd t < 0) || decide (bitWd t > 64)))) then R (B false) else bif bitWd t == 0 then R (B (Prod.fst (Prod.snd toO v t (Ty.mk 4 1 0 false (ByteArray.mk #[]))) == 0 && (ByteArray.toList (Prod.fst (Prod.snd (Prod.snd toO v t (Ty.mk 4 1 0 false (ByteArray.mk #[]))))) == ByteArray.toList (ByteArray.mk #[48]) && true))) else bif LSpec.pre S11_0 (Vl.n v, Vl.s v, Ty.k t, Ty.p t, Ty.q t, Ty.v t, Ty.s t, 4, bitWd t, 0, false, ByteArray.mk #[], Prod.fst (Prod.snd toO v t (Ty.mk 4 1 0 false (ByteArray.mk #[]))), Prod.fst (Prod.snd (Prod.snd toO v t (Ty.mk 4 1 0 false (ByteArray.mk #[])))), imax (Vl.n v) (IntKind.wrap .i64 (0 - Vl.n v)), Ty.q t, 0) then ∀ (x : Tmps), bif Prod.fst toO v t (Ty.mk 4 (bitWd t) 0 false (ByteArray.mk #[])) then bif Prod.fst toO (Vl.mk (Prod.fst (Prod.snd toO v t (Ty.mk 4 (bitWd t) 0 false (ByteArray.mk #[])))) (Prod.fst (Prod.snd (Prod.snd toO v t (Ty.mk 4 (bitWd t) 0 false (ByteArray.mk #[])))))) (Ty.mk 4 (bitWd t) 0 false (ByteArray.mk #[])) (Ty.mk 2 31 0 false (ByteArray.mk #[])) then bif bif Prod.snd (Prod.snd (Prod.snd toO v t (Ty.mk 4 (bitWd t) 0 false (ByteArray.mk #[])))) == 0 then bif Prod.snd (Prod.snd (Prod.snd toO (Vl.mk (Prod.fst (Prod.snd toO v t (Ty.mk 4 (bitWd t) 0 false (ByteArray.mk #[])))) (Prod.fst (Prod.snd (Prod.snd toO v t (Ty.mk 4 (bitWd t) 0 false (ByteArray.mk #[])))))) (Ty.mk 4 (bitWd t) 0 false (ByteArray.mk #[])) (Ty.mk 2 31 0 false (ByteArray.mk #[])))) == 0 then bif (↑(ByteArray.size (Prod.fst (Prod.snd (Prod.snd toO v t (Ty.mk 4 (bitWd t) 0 false (ByteArray.mk #[])))))) : Int) == bitWd t then decide ((0 : Int) ≤ 0 ∧ (0 : Int) ≤ 1 ∧ 1 ≤ (↑(ByteArray.size (Prod.fst (Prod.snd (Prod.snd toO v t (Ty.mk 4 (bitWd t) 0 false (ByteArray.mk #[])))))) : Int)) && (Prod.fst (Prod.snd toO v t (Ty.mk 4 1 0 false (ByteArray.mk #[]))) == 0 && (ByteArray.toList (Prod.fst (Prod.snd (Prod.snd toO v t (Ty.mk 4 1 0 false (ByteArray.mk #[]))))) == ByteArray.toList (ByteArray.extract (Prod.fst (Prod.snd (Prod.snd toO v t (Ty.mk 4 (bitWd t) 0 false (ByteArray.mk #[]))))) 0 (Int.toNat 1)) && true) || true) else true else true else true then R (B (0 == 0 && (0 == 0 && (Prod.snd (Prod.snd (Prod.snd toO v t (Ty.mk 4 (bitWd t) 0 false (ByteArray.mk #[])))) == 0 && (Prod.snd (Prod.snd (Prod.snd toO (Vl.mk (Prod.fst (Prod.snd toO v t (Ty.mk 4 (bitWd t) 0 false (ByteArray.mk #[])))) (Prod.fst (Prod.snd (Prod.snd toO v t (Ty.mk 4 (bitWd t) 0 false (ByteArray.mk #[])))))) (Ty.mk 4 (bitWd t) 0 false (ByteArray.mk #[])) (Ty.mk 2 31 0 false (ByteArray.mk #[])))) == 0 && ((↑(ByteArray.size (Prod.fst (Prod.snd (Prod.snd toO v t (Ty.mk 4 (bitWd t) 0 false (ByteArray.mk #[])))))) : Int) == bitWd t && (Prod.fst (Prod.snd toO v t (Ty.mk 4 1 0 false (ByteArray.mk #[]))) == 0 && (ByteArray.toList (Prod.fst (Prod.snd (Prod.snd toO v t (Ty.mk 4 1 0 false (ByteArray.mk #[]))))) == ByteArray.toList (ByteArray.extract (Prod.fst (Prod.snd (Prod.snd toO v t (Ty.mk 4 (bitWd t) 0 false (ByteArray.mk #[]))))) 0 (Int.toNat 1)) && true) && (Prod.fst (Prod.snd toO (Vl.mk (Prod.fst (Prod.snd toO v t (Ty.mk 4 (bitWd t) 0 false (ByteArray.mk #[])))) (Prod.fst (Prod.snd (Prod.snd toO v t (Ty.mk 4 (bitWd t) 0 false (ByteArray.mk #[])))))) (Ty.mk 4 (bitWd t) 0 false (ByteArray.mk #[])) (Ty.mk 2 31 0 false (ByteArray.mk #[]))) == divT (Int.toNat (Ty.q t - 0)) (imax (Vl.n v) (IntKind.wrap .i64 (0 - Vl.n v))) && (ByteArray.toList (Prod.fst (Prod.snd (Prod.snd toO (Vl.mk (Prod.fst (Prod.snd toO v t (Ty.mk 4 (bitWd t) 0 false (ByteArray.mk #[])))) (Prod.fst (Prod.snd (Prod.snd toO v t (Ty.mk 4 (bitWd t) 0 false (ByteArray.mk #[])))))) (Ty.mk 4 (bitWd t) 0 false (ByteArray.mk #[])) (Ty.mk 2 31 0 false (ByteArray.mk #[]))))) == ByteArray.toList (ByteArray.mk #[]) && true))))))))) else False else False else False else False else False else False else False else False else False) := by kernel_rfl
theorem ok11 : PureOK Tryz.prog 11 (sp2 s11) := by
 refine qure2 ok_L11 hmix fn11 l11_0 (Nat.le_of_ble_eq_true (by kernel_rfl)) fun v t hc => ?_
 rw [DoesQ, v11]
 have hc : (v.s.size ≤ 9223372036854775807 ∧ t.s.size ≤ 9223372036854775807) := of_decide_eq_true hc
 try dsimp only [s11]
 obtain ⟨c1, c2⟩ := hc
 refine c_t (by rw [decide_eq_true (show t.s.size ≤ 9223372036854775807 ∧ v.s.size ≤ 9223372036854775807 from ⟨c2, c1⟩), Bool.or_true]; rfl) ?_
 refine cond_intro (fun _ => rfl) (fun h => ?_)
 simp only [Bool.or_eq_false_iff, Bool.not_eq_false', Bool.and_eq_true, decide_eq_true_eq, beq_iff_eq, beq_eq_false_iff_ne, goO_eq] at h
 obtain ⟨⟨-, hv⟩, h6⟩ := h
 refine c_t (by cases (t.k == 4) <;> simp) ?_
 refine cond_intro (fun h4 => ?_) (fun h4 => ?_)
 ·simp only [Bool.and_eq_true, decide_eq_true_eq, beq_iff_eq] at h4
  obtain ⟨hk4, hp⟩ := h4
  obtain ⟨B, e⟩ := bts_of hv hk4
  have hR : 1 ≤ t.p ∧ t.p ≤ 31 := by omega
  have hG := bin_lt (bz v.s) 0 B.b (Int.le_refl _)
  have hln : (bz v.s).length = t.p.toNat := by rw [bz_length]; have := B.s; omega
  rw [hln] at hG
  have hG2 : binG (bz v.s) 0 < 2 ^ t.p.toNat := by have := hG.2; simpa using this
  obtain ⟨p1, p2⟩ := to_bnum B (t := bnT t.p) (bnT_v hR) (by rw [bnT_b]; exact hG2) rfl
  have A : Ari ⟨binG (bz v.s) 0, ⟨#[]⟩⟩ (bnT t.p) := ari_bn hR ⟨hG.1, hG2⟩
  obtain ⟨p3, p4⟩ := to_bit A (P := t.p) B.r
  have eL : fillZ (bitL (binG (bz v.s) 0) (bnT t.p)) t.p.toNat 48 = bz v.s := by
   have e1 : bitL (binG (bz v.s) 0) (bnT t.p) = bz v.s := by
    have hw : bitWd (bnT t.p) = t.p := if_pos rfl
    have ha : absI (binG (bz v.s) 0) = binG (bz v.s) 0 := by unfold absI; rw [if_neg (by omega)]
    unfold bitL
    rw [hw, ha]
    exact inB_binG _ _ hln B.b
   rw [e1]
   exact fillZ_self hln
  rw [eL] at p4
  have e' : toO.1 v t (bnT t.p) = toO.1 v (biT t.p) (bnT t.p) := by rw [← e]
  have e2 : toO.2 v t (bnT t.p) = toO.2 v (biT t.p) (bnT t.p) := by rw [← e]
  have e3 : toO.1 ⟨binG (bz v.s) 0, ⟨#[]⟩⟩ (bnT t.p) t = true := by rw [e]; exact p3
  have e4 : toO.2 ⟨binG (bz v.s) 0, ⟨#[]⟩⟩ (bnT t.p) t = (0, szO (bz v.s), 0) := by rw [e]; exact p4
  rw [p1] at e'
  rw [p2] at e2
  rw [e', e2]
  dsimp only
  rw [e3, e4]
  dsimp only
  have hsz : szO (bz v.s) = v.s := by rw [szO_eq, sz_bz]
  refine c_t rfl (c_t (by simp) (c_f (by rw [decide_eq_true (show (0 : Int) = v.n ∧ bz (szO (bz v.s)) = bz v.s ∧ (0 : Int) = 0 from ⟨B.n.symm, by rw [hsz], rfl⟩)]; simp) ?_))
  rw [hk4]
  exact c_t rfl rfl
 ·refine cond_intro (fun _ => rfl) (fun ha => ?_)
  have hf : t.k = 1 ∨ t.k = 2 := of_decide_eq_true ((Bool.not_eq_false' (b := decide _)).mp ha)
  have A := ari_of hv hf
  obtain ⟨b1, b2, b3, b4⟩ := bit_hold A
  obtain ⟨p1, p2⟩ := to_bit A (P := 1) (by omega)
  obtain ⟨p3, p4⟩ := to_bit A (P := bitWd t) (by omega)
  have hlen : (bitL v.n t).length = (bitWd t).toNat := inB_len _ _
  have eL : fillZ (bitL v.n t) (bitWd t).toNat 48 = bitL v.n t := fillZ_self hlen
  rw [eL] at p4
  have hB : IsB (bitL v.n t) := inB_isB _ _
  have Bt : Bts ⟨0, szO (bitL v.n t)⟩ (bitWd t) := ⟨rfl, by omega, by rw [szO_size, hlen]; omega, by rw [bz_szO hB]; exact inB_bits _ _ b3⟩
  have hbn : binG (bz (szO (bitL v.n t))) 0 = divT t.q.toNat (absI v.n) := by rw [bz_szO hB]; exact binG_inB _ _ b3 b4
  have h31 : (2 : Int) ^ (bitWd t).toNat ≤ 2 ^ 31 := by
   have : (2 : Nat) ^ (bitWd t).toNat ≤ 2 ^ 31 := Nat.pow_le_pow_right (by decide) (by omega)
   exact_mod_cast this
  obtain ⟨p5, p6⟩ := to_bnum Bt (t := bnT 31) (bnT_v (by omega)) (by rw [hbn, bnT_b]; exact Int.lt_of_lt_of_le b4 h31) rfl
  rw [hbn] at p6
  have hab : imax v.n (IntKind.i64.wrap (0 - v.n)) = absI v.n := by
   have := A.n32
   rw [w64 (n := 0 - v.n) (by omega)]
   unfold imax absI
   split <;> split <;> omega
  have hA : 0 ≤ absI v.n ∧ absI v.n ≤ 2147483648 := by have := A.n32; unfold absI; split <;> omega
  have hq := Fx.valid_r A.va
  refine c_t (decide_eq_true A.va) ?_
  rw [p1, p2, hab]
  refine c_t rfl (c_t (by simp) (c_f (by rw [decide_eq_false (show ¬ bitWd t < 0 by omega), decide_eq_false (show ¬ bitWd t > 64 by omega)]; rfl) ?_))
  refine cond_intro (fun h0 => ?_) (fun h0 => ?_)
  ·have h0 : bitWd t = 0 := by simpa using h0
   have e1 : bitL v.n t = [] := List.length_eq_zero_iff.1 (by rw [hlen, h0]; rfl)
   rw [e1, toList_beq]
   have : fillZ [] (1 : Int).toNat 48 = [48] := rfl
   rw [this, bz_szO (IsB.cons (by omega) (fun _ h => by cases h))]
   rfl
  ·have h0 : bitWd t ≠ 0 := by simpa using h0
   refine c_t (by simp only [S11_0]; exact decide_eq_true (by omega)) fun x => ?_
   rw [p3, p4]
   dsimp only
   rw [p5, p6]
   dsimp only
   refine c_t rfl (c_t rfl ?_)
   have hsz : ((szO (bitL v.n t)).size : Int) = bitWd t := Bt.s
   have h1 : bz (szO (fillZ (bitL v.n t) (1 : Int).toNat 48)) = bz ((szO (bitL v.n t)).extract 0 (1 : Int).toNat) := by
    have hB1 : IsB (fillZ (bitL v.n t) (1 : Int).toNat 48) := fun c hc => by
     unfold fillZ at hc
     rcases List.mem_append.1 hc with h | h
     ·exact hB c (List.mem_of_mem_take h)
     ·rw [List.eq_of_mem_replicate h]; omega
    rw [bz_szO hB1, bz_take, bz_szO hB]
    unfold fillZ
    rw [show (1 : Int).toNat - (bitL v.n t).length = 0 by rw [hlen]; omega]
    simp
   rw [toList_beq, h1, hsz, show t.q - 0 = t.q by omega]
   have hle : decide ((0 : Int) ≤ 0 ∧ (0 : Int) ≤ 1 ∧ 1 ≤ bitWd t) = true := decide_eq_true (by omega)
   rw [hle]
   exact c_t (by simp) (by simp)
end Go.Cx
end
noncomputable section
namespace Go.Px
open Go Go.Proofs
open Go.Proofs.YtpflidodnhbeoaaGreatDoor
theorem q_laid : laidOutB Tryz.prog = true := by kernel_rfl
theorem q_maps : mapsRowed Tryz.prog = true := by kernel_rfl
theorem q_stop : (Tryz.prog.stops == []) = true := by kernel_rfl
theorem q_knob : (Tryz.prog.stopKnobs == []) = true := by kernel_rfl
theorem q_keys : (Rows.convertTypesRow.plainKeys == Tryz.prog.plainKeys) = true := by kernel_rfl
theorem q_heard : Tryz.prog.stopsHeard = true := by kernel_rfl
theorem q_enter : Tryz.prog.mayEnter = true := by kernel_rfl
theorem q_lifts : (Rows.convertTypesRow.lifted == Tryz.prog.liftsFinal) = true := by kernel_rfl
theorem q_make : (Tryz.prog.make == some Rows.convertTypesRow.make) = true := by kernel_rfl
theorem main_is : Tryz.pinned.checked.prog.mainIs = some (true, ("2cb47cbf95087f7cc8d5ede91c198a947601d35cfd546d8bdc61f47b13d7b636" : String).toList) := by kernel_rfl
theorem looks_is : true = Tryz.pinned.checked.prog.looks [] := by kernel_rfl
end Go.Px
end
noncomputable section
namespace Go.Px
open Go Go.Ab Go.Proofs Go.Shelf Go.ChangeMaps Go.ChangeShapes Go.WideShapes Go.ChangeAt Go.RowKit Go.Joins
open Go.Proofs.YtpflidodnhbeoaaGreatDoor
theorem own : ownKnob Tryz.prog.godebug = none := by kernel_rfl
def laidL : List (String × DataW Unit) := Rows.convertTypesRow.laid
theorem tab_is {P : Program} {W : World} {name : String} {k : IntKind} {zs : List Int} {g : Nat} {t e : TypeId} {n : Nat} (hr : Lib.VarReads P W name (Lib.tabData k zs))
  (hg : P.globalNamed name = some g) (hty : (P.globals[g]?).map (·.type) = some t) (ht : P.underlying t = some (.array n e)) (he : P.underlying e = some (.int k)) (hce : P.cellsOf e = 1) (hct : P.cellsOf t = n) :
  g < W.heap.size ∧ ∃ ty fr, W.heap[g]? = some (.cells ⟨zs.map fun z => Value.int k z⟩ ty fr) := by
 obtain ⟨g', t', cs, fuel, p, h1, h2, h3, h4⟩ := hr
 obtain rfl := Option.some.inj (hg.symm.trans h1)
 obtain rfl := Option.some.inj (hty.symm.trans h2)
 have hc := Lib.cells_of_tab ht he hce hct h4
 unfold World.var? at h3
 rw [hg, Option.bind_some] at h3
 split at h3
 case h_2 => cases h3
 rename_i cs' ty fr hh
 have h3 := Option.some.inj h3
 refine ⟨(Array.getElem?_eq_some_iff.1 hh).1, ty, fr, ?_⟩
 rw [hh, h3]
 congr 2
 rw [← hc]
theorem rt : (Tryz.prog.cutTypes.find? (·.1 == "internal/reflectlite.rtype")).map (·.2) = some 229 := by kernel_rfl
theorem tsz : Tryz.prog.types.size = 321 := by kernel_rfl
theorem oneRow : ((List.range 321).filter fun t => Tryz.prog.rowNamed t [101, 114, 114, 111, 114]) = [105] := by kernel_rfl
theorem hdl : typeHandle Tryz.prog 105 = .pointer (some ⟨10, 105, none⟩) := by kernel_rfl
theorem gE : Tryz.prog.globalNamed "errors.errorType" = some 0 := by kernel_rfl
theorem laid_h : laidL.filter (fun x => x.2.handleName?.isSome) = [("errors.errorType", Rows.laid_errors_errorType)] := by kernel_rfl
theorem laid_d : laidL.filter (fun x => x.2.handleName?.isNone) = [("math/bits.deBruijn32tab", Rows.laid_math_bits_deBruijn32tab), ("math/bits.deBruijn64tab", Rows.laid_math_bits_deBruijn64tab), ("internal/strconv.uint64pow10", Rows.laid_internal_strconv_uint64pow10), ("unicode/utf8.acceptRanges", Rows.laid_unicode_utf8_acceptRanges), ("strconv.ErrRange", Rows.laid_strconv_ErrRange), ("strconv.ErrSyntax", Rows.laid_strconv_ErrSyntax), ("pliant/picture.punched", Rows.laid_pliant_picture_punched), ("unicode/utf8.first", Rows.laid_unicode_utf8_first)] := by kernel_rfl
theorem handle_of_laid {W : World} (h : handlesMet Tryz.prog [("errors.errorType", Rows.laid_errors_errorType)] W) : 0 < W.heap.size ∧ ∃ ty fr, W.heap[0]? = some (.cells #[.iface 229 (.agg #[.pointer (some ⟨10, 105, none⟩)])] ty fr) := by
 obtain ⟨name, u, ty, e1, e2, e3, e4, e5⟩ := h _ (List.mem_singleton.2 rfl)
 have en : name = [101, 114, 114, 111, 114] := (Option.some.inj e1).symm
 subst en
 obtain rfl := Option.some.inj (rt.symm.trans e2)
 have hm : ty ∈ (List.range 321).filter fun t => Tryz.prog.rowNamed t [101, 114, 114, 111, 114] := List.mem_filter.2 ⟨List.mem_range.2 (by rw [← tsz]; exact e3), e4⟩
 rw [oneRow] at hm
 obtain rfl := List.mem_singleton.1 hm
 rw [hdl] at e5
 unfold World.var? at e5
 rw [gE, Option.bind_some] at e5
 split at e5
 case h_2 => cases e5
 rename_i cs' ty fr hh
 have e5 := Option.some.inj e5
 exact ⟨(Array.getElem?_eq_some_iff.1 hh).1, ty, fr, by rw [hh, e5]⟩
set_option maxRecDepth 100000 in
theorem tabs_of_laid {W : World} (h : laidMetH Tryz.prog laidL W) : TabsIn W.heap.size W := by
 obtain ⟨hd, hh⟩ := laidMetH_iff.1 h
 rw [laid_h] at hh
 rw [laid_d] at hd
 intro b r hb
 have key : ∀ b : Nat, rowsT b = some r → b = 5 ∧ r = punchedZ.map (fun n => Value.int .u8 n) ∨ b = 1 ∧ r = pow10Z.map (fun n => Value.int .u64 n) ∨ b = 0 ∧ r = [.iface 229 (.agg ⟨[.pointer (some ⟨10, 105, none⟩)]⟩)] := by
  intro b hb
  unfold rowsT at hb
  split at hb
  ·cases hb; exact .inl ⟨rfl, rfl⟩
  ·cases hb; exact .inr (.inl ⟨rfl, rfl⟩)
  ·cases hb; exact .inr (.inr ⟨rfl, rfl⟩)
  ·cases hb
 have t5 : Tryz.prog.cellsOf 5 = 1 := by kernel_rfl
 rcases key b hb with ⟨rfl, rfl⟩ | ⟨rfl, rfl⟩ | ⟨rfl, rfl⟩
 ·have hr : Lib.VarReads Tryz.prog W "pliant/picture.punched" (Lib.tabData .u8 punchedZ) := Lib.laidMet.reads hd (.tail _ (.tail _ (.tail _ (.tail _ (.tail _ (.tail _ (.head _)))))))
  exact tab_is hr (g := 5) (t := 273) (n := 20) (e := 5) (by kernel_rfl) (by kernel_rfl) (by kernel_rfl) (by kernel_rfl) t5 (by kernel_rfl)
 ·have hr : Lib.VarReads Tryz.prog W "internal/strconv.uint64pow10" (Lib.tabData .u64 pow10Z) := Lib.laidMet.reads hd (.tail _ (.tail _ (.head _)))
  exact tab_is hr (g := 1) (t := 262) (n := 20) (e := 90) (by kernel_rfl) (by kernel_rfl) (by kernel_rfl) (by kernel_rfl) (by kernel_rfl) (by kernel_rfl)
 ·exact handle_of_laid hh
noncomputable def handleWorld (os : Os) : World :=
 let w0 := World.holding Tryz.prog os ⟨#[], #[], []⟩
 { w0 with heap := w0.heap.modify 0 fun
   | .cells _ t frozen => .cells #[.iface 229 (.agg #[.pointer (some ⟨10, 105, none⟩)])] t frozen
   | o => o }
def laidD : List (String × DataW Unit) := laidL.filter fun x => x.2.handleName?.isNone
noncomputable def laidWorld (os : Os) : World := (handleWorld os).layVars Tryz.prog laidD
theorem laidWorld_os (os : Os) : (laidWorld os).os = os := World.layVars_os _ _ _
theorem laidWorld_met (os : Os) (args : Array Value) : laidMetH Tryz.prog laidL ((laidWorld os).forCall (fun _ _ => 0) ⟨#[], args, []⟩).memory := by
 refine laidMetH_of_parts ?_ (by kernel_rfl)
 have e1 : (laidD.filter fun x => (laidD.map (·.1)).contains x.1) = laidD := List.filter_eq_self.2 fun x hx => List.contains_iff_mem.2 (List.mem_map.2 ⟨x, hx, rfl⟩)
 have e2 : (laidD.filter fun x => !(laidD.map (·.1)).contains x.1) = [] := List.filter_eq_nil_iff.2 fun x hx => by rw [List.contains_iff_mem.2 (List.mem_map.2 ⟨x, hx, rfl⟩)]; simp
 have h : laidMet Tryz.prog laidD (laidWorld os) := laidMet_layVars (w0 := handleWorld os) (laidD.map (·.1)) [] (by rw [e1]; rfl) (by rw [e1]; kernel_rfl) (by rw [e1]; kernel_rfl) (by rw [e2]; exact LaidIn.none)
 exact h.of_heap (by simp [World.memory, World.forCall, Input.heap])
def OpensP (P : Program) (t : TypeId) (α : Type) [Enc α] (Q : α → Prop) : Prop :=
 ∀ {H : Type} {enc : TypeId × Value → H} {w : World} {base : Nat} {spare : Nat → Bool} {held : Bool} {r : Reach} {b0 : Nat} {v : Value} {d : DataW H} {p : List MemPlace}, Value.okWide P w r b0 t v → DataW.Trod enc P w base spare held t v d p →
  ∃ a : α, v = Enc.enc a ∧ Q a ∧ p = [] ∧ ∀ (w' : World) (b' : Nat) (sp' : Nat → Bool) (hd' : Bool), DataW.Trod enc P w' b' sp' hd' t v d []
theorem opensP_string {P : Program} {t : TypeId} (ht : P.underlying t = some .string) : OpensP P t ByteArray fun s => s.size ≤ 9223372036854775807 := by
 intro H enc w base spare held r b0 v d p hv h
 obtain ⟨n, rfl, rfl, rfl, hw⟩ := open_string ht hv h
 exact ⟨n, rfl, Nat.le_trans hw (by decide), rfl, fun w' b' sp' hd' => shut_string ht hw⟩
theorem oS : OpensP Tryz.prog 9 ByteArray fun s => s.size ≤ 9223372036854775807 := opensP_string Tryz.underlying9
theorem opensP_int {P : Program} {t : TypeId} (ht : P.underlying t = some (.int .i64)) : OpensP P t Int fun n => -9223372036854775808 ≤ n ∧ n ≤ 9223372036854775807 := by
 intro H enc w base spare held r b0 v d p hv h
 obtain ⟨n, rfl, rfl, rfl, hw⟩ := open_int ht hv h
 exact ⟨n, rfl, by simpa [Lit.wf, IntKind.min, IntKind.max, IntKind.signed, IntKind.bits] using hw, rfl, fun w' b' sp' hd' => shut_int ht hw⟩
theorem oI : OpensP Tryz.prog 3 Int fun n => -9223372036854775808 ≤ n ∧ n ≤ 9223372036854775807 := opensP_int Tryz.underlying3
theorem opensP_bool {P : Program} {t : TypeId} (ht : P.underlying t = some .bool) : OpensP P t Bool fun _ => True := by
 intro H enc w base spare held r b0 v d p hv h
 obtain ⟨n, rfl, rfl, rfl⟩ := open_bool ht hv h
 exact ⟨n, rfl, trivial, rfl, fun w' b' sp' hd' => shut_bool ht n⟩
theorem oB : OpensP Tryz.prog 4 Bool fun _ => True := opensP_bool Tryz.underlying4
theorem opensP_leaves {P : Program} {α : Type} [Enc α] {t : TypeId} {fs : Array Field} {Q : α → Prop} (hs : P.underlying t = some (.struct fs)) (hl : fs.toList.all (fun f => leafT P f.type) = true)
  (hc : ∀ cs : Array Value, cs.size = P.cellsOf t → (∀ (i : Nat) (f : Field), fs[i]? = some f → ∃ (H : Type) (enc : TypeId × Value → H) (w : World) (base : Nat) (spare : Nat → Bool) (held : Bool) (n : Nat) (y : DataW H × List MemPlace),
   DataW.trod enc P w base spare held n f.type ((cs.toList.drop f.offset).take (P.cellsOf f.type)) = some y) → ∃ a : α, Value.agg cs = Enc.enc a ∧ Q a) : OpensP P t α Q := by
 intro H enc w base spare held r b0 v d p hv h
 obtain ⟨cs, rfl, hsz⟩ := okWide_struct hs hv
 obtain ⟨fuel, hf⟩ := h
 simp only [Value.cells] at hf
 obtain ⟨hp, hany⟩ := leaves_any hs hl hf
 obtain ⟨xs, n, _, _, hlen, hxs, hg⟩ := DataW.trod_struct hs hf
 obtain ⟨a, ha, hq⟩ := hc cs hsz fun i f hi => by
  have hlt : i < xs.length := by
   have := (Array.getElem?_eq_some_iff.1 hi).1
   omega
  exact ⟨H, enc, w, base, spare, held, n, xs[i], by rw [hg i f hi, List.getElem?_eq_getElem hlt]⟩
 simp only at hp
 subst hp
 exact ⟨a, ha, hq, rfl, fun w' b' sp' hd' => ⟨2, by simpa [Value.cells] using hany w' b' sp' hd'⟩⟩
def r64 (n : Int) : Prop := -9223372036854775808 ≤ n ∧ n ≤ 9223372036854775807
def rS (s : ByteArray) : Prop := s.size ≤ 9223372036854775807
theorem r64_wf {n : Int} (h : (Lit.int .i64 n).wf = true) : r64 n := by simpa [Lit.wf, IntKind.min, IntKind.max, IntKind.signed, IntKind.bits, r64] using h
theorem array5 {α : Type} {cs : Array α} (h : cs.size = 5) : ∃ c0 c1 c2 c3 c4, cs = #[c0, c1, c2, c3, c4] := by
 obtain ⟨l⟩ := cs
 match l, h with
 | [c0, c1, c2, c3, c4], _ => exact ⟨c0, c1, c2, c3, c4, rfl⟩
theorem array3 {α : Type} {cs : Array α} (h : cs.size = 3) : ∃ c0 c1 c2, cs = #[c0, c1, c2] := by
 obtain ⟨l⟩ := cs
 match l, h with
 | [c0, c1, c2], _ => exact ⟨c0, c1, c2, rfl⟩
theorem oT : OpensP Tryz.prog 23 Fx.Ty fun t => r64 t.k ∧ r64 t.p ∧ r64 t.q ∧ rS t.s := by
 refine opensP_leaves Tryz.underlying23 (by kernel_rfl) fun cs hsz hf => ?_
 have hc : Tryz.prog.cellsOf 23 = 5 := by kernel_rfl
 have h3 : Tryz.prog.cellsOf 3 = 1 := by kernel_rfl
 have h4 : Tryz.prog.cellsOf 4 = 1 := by kernel_rfl
 have h9 : Tryz.prog.cellsOf 9 = 1 := by kernel_rfl
 rw [hc] at hsz
 obtain ⟨c0, c1, c2, c3, c4, rfl⟩ := array5 hsz
 ·obtain ⟨H, enc, w, base, spare, held, n, y, h0⟩ := hf 0 { name := "Kind", type := 3, offset := 0, embedded := false, tag := "", pkgPath := "", byteOffset := 0 } rfl
  obtain ⟨H, enc, w, base, spare, held, n, y, h1⟩ := hf 1 { name := "P", type := 3, offset := 1, embedded := false, tag := "", pkgPath := "", byteOffset := 8 } rfl
  obtain ⟨H, enc, w, base, spare, held, n, y, h2⟩ := hf 2 { name := "Q", type := 3, offset := 2, embedded := false, tag := "", pkgPath := "", byteOffset := 16 } rfl
  obtain ⟨H, enc, w, base, spare, held, n, y, hv⟩ := hf 3 { name := "Vary", type := 4, offset := 3, embedded := false, tag := "", pkgPath := "", byteOffset := 24 } rfl
  obtain ⟨H, enc, w, base, spare, held, n, y, hs⟩ := hf 4 { name := "Pic", type := 9, offset := 4, embedded := false, tag := "", pkgPath := "", byteOffset := 32 } rfl
  obtain ⟨k, e0, _, w0⟩ := DataW.trod_int Tryz.underlying3 h0
  obtain ⟨p, e1, _, w1⟩ := DataW.trod_int Tryz.underlying3 h1
  obtain ⟨q, e2, _, w2⟩ := DataW.trod_int Tryz.underlying3 h2
  obtain ⟨v, e3, _⟩ := DataW.trod_bool Tryz.underlying4 hv
  obtain ⟨s, e4, _, w4⟩ := DataW.trod_string Tryz.underlying9 hs
  simp only [h3, h4, h9, List.drop_zero, List.drop_succ_cons, List.take_succ_cons, List.take_zero, List.cons.injEq, and_true] at e0 e1 e2 e3 e4
  exact ⟨⟨k, p, q, v, s⟩, by rw [e0, e1, e2, e3, e4]; rfl, r64_wf w0, r64_wf w1, r64_wf w2, Nat.le_trans w4 (by decide)⟩
theorem oV : OpensP Tryz.prog 25 Fx.Vl fun v => r64 v.n ∧ rS v.s := by
 refine opensP_leaves Tryz.underlying25 (by kernel_rfl) fun cs hsz hf => ?_
 have hc : Tryz.prog.cellsOf 25 = 2 := by kernel_rfl
 have h3 : Tryz.prog.cellsOf 3 = 1 := by kernel_rfl
 have h9 : Tryz.prog.cellsOf 9 = 1 := by kernel_rfl
 rw [hc] at hsz
 obtain ⟨c0, c1, rfl⟩ := array2 hsz
 ·obtain ⟨H, enc, w, base, spare, held, n, y, h0⟩ := hf 0 { name := "N", type := 3, offset := 0, embedded := false, tag := "", pkgPath := "", byteOffset := 0 } rfl
  obtain ⟨H, enc, w, base, spare, held, n, y, h1⟩ := hf 1 { name := "S", type := 9, offset := 1, embedded := false, tag := "", pkgPath := "", byteOffset := 8 } rfl
  obtain ⟨k, e0, _, w0⟩ := DataW.trod_int Tryz.underlying3 h0
  obtain ⟨s, e4, _, w4⟩ := DataW.trod_string Tryz.underlying9 h1
  simp only [h3, h9, List.drop_zero, List.drop_succ_cons, List.take_succ_cons, List.take_zero, List.cons.injEq, and_true] at e0 e4
  exact ⟨⟨k, s⟩, by rw [e0, e4]; rfl, r64_wf w0, Nat.le_trans w4 (by decide)⟩
theorem oN : OpensP Tryz.prog 33 Cx.Nu fun v => rS v.d ∧ r64 v.c := by
 refine opensP_leaves Tryz.underlying33 (by kernel_rfl) fun cs hsz hf => ?_
 have hc : Tryz.prog.cellsOf 33 = 3 := by kernel_rfl
 have h3 : Tryz.prog.cellsOf 3 = 1 := by kernel_rfl
 have h4 : Tryz.prog.cellsOf 4 = 1 := by kernel_rfl
 have h9 : Tryz.prog.cellsOf 9 = 1 := by kernel_rfl
 rw [hc] at hsz
 obtain ⟨c0, c1, c2, rfl⟩ := array3 hsz
 ·obtain ⟨H, enc, w, base, spare, held, n, y, hv⟩ := hf 0 { name := "Neg", type := 4, offset := 0, embedded := false, tag := "", pkgPath := "", byteOffset := 0 } rfl
  obtain ⟨H, enc, w, base, spare, held, n, y, hs⟩ := hf 1 { name := "Digits", type := 9, offset := 1, embedded := false, tag := "", pkgPath := "", byteOffset := 8 } rfl
  obtain ⟨H, enc, w, base, spare, held, n, y, h0⟩ := hf 2 { name := "Scale", type := 3, offset := 2, embedded := false, tag := "", pkgPath := "", byteOffset := 24 } rfl
  obtain ⟨v, e3, _⟩ := DataW.trod_bool Tryz.underlying4 hv
  obtain ⟨s, e4, _, w4⟩ := DataW.trod_string Tryz.underlying9 hs
  obtain ⟨k, e0, _, w0⟩ := DataW.trod_int Tryz.underlying3 h0
  simp only [h3, h4, h9, List.drop_zero, List.drop_succ_cons, List.take_succ_cons, List.take_zero, List.cons.injEq, and_true] at e0 e3 e4
  exact ⟨⟨v, s, k⟩, by rw [e0, e3, e4]; rfl, Nat.le_trans w4 (by decide), r64_wf w0⟩
noncomputable def hAB (fn : Func) (s : ChangeSpec) (c : OpenClaim) : Bool := c.wf (OpenSpec.ofChange s) && fn.params.all (Tryz.prog.readableRec ·) && namedTie Tryz.prog c.named s.vars && (c.stops == []) && (c.knobs == [])
noncomputable def hRB (fn : Func) (s : ChangeSpec) (c : OpenClaim) : Bool := (c.maps == (fn.params.toList ++ s.plain.varTypes Tryz.prog).any (Tryz.prog.mapsRec ·)) && (c.ifaces == (fn.params.toList ++ s.plain.varTypes Tryz.prog).any (Tryz.prog.ifacesRec ·)) && (c.mapsOut == Tryz.prog.mapsAmong fn.resultTypes.toList) && (c.loops == (fn.params.toList ++ s.plain.varTypes Tryz.prog).any (Tryz.prog.loopsFrom ·))
noncomputable def hSB (fn : Func) (s : ChangeSpec) (c : OpenClaim) : Bool := (c.wideKeys == (fn.params.toList ++ s.plain.varTypes Tryz.prog ++ fn.resultTypes.toList).any (Tryz.prog.wideKeysFrom ·)) && s.vars.all (Tryz.prog.varReadable ·) && fn.resultTypes.all (fun t => Tryz.prog.readableRec t && decide (t < Tryz.prog.types.size)) && (c.ifacesOut == fn.resultTypes.toList.any (Tryz.prog.ifacesRec ·)) && (c.loopsOut == fn.resultTypes.toList.any (Tryz.prog.loopsFrom ·)) && c.shortTexts.isNone
noncomputable def hTB (fn : Func) (s : ChangeSpec) (c : OpenClaim) : Bool := (c.kinds == (if c.domain.isEmpty then [] else fn.params.toList.map fun t => match Tryz.prog.underlying t with | some (.int k) => some k | _ => none)) && (c.pinned == c.pinnedBy) && (c.veiled == (fn.params.toList ++ s.plain.varTypes Tryz.prog ++ fn.resultTypes.toList).any (Tryz.prog.veiledRec ·)) && c.veiledFits Tryz.prog fn.params.toList (fn.params.toList ++ s.plain.varTypes Tryz.prog ++ fn.resultTypes.toList)
set_option maxRecDepth 100000 in
theorem jf_mk {f : FuncId} {fn : Func} {s : ChangeSpec} {c : OpenClaim} (hA : hAB fn s c = true) (h1 : (c.inPlace == Tryz.prog.inPlace f) = true) (h2 : (c.unfollowed == Tryz.prog.unfollowed f) = true) (h3 : (c.recurses == Tryz.prog.recurses f) = true) (h4 : (c.named == Tryz.prog.varsNamed f) = true)
  (hR : hRB fn s c = true) (hS : hSB fn s c = true)
  (hk : (c.plainKeys == Tryz.prog.plainKeys) = true) (hl : (c.lifted == Tryz.prog.liftsFinal) = true) (hm : (Tryz.prog.make == some c.make) = true)
  (hT : hTB fn s c = true) : joinedFacts Tryz.prog f fn s c = true := by
 unfold joinedFacts
 simp only [hAB, hRB, hSB, hTB, Bool.and_eq_true] at hA hR hS hT
 obtain ⟨⟨⟨⟨a1, a2⟩, a3⟩, a4⟩, a5⟩ := hA
 obtain ⟨⟨⟨r1, r2⟩, r3⟩, r4⟩ := hR
 obtain ⟨⟨⟨⟨⟨s1, s2⟩, s3⟩, s4⟩, s5⟩, s6⟩ := hS
 obtain ⟨⟨⟨t1, t2⟩, t3⟩, t4⟩ := hT
 rw [a1, a2, a3, a4, a5, h1, h2, h3, h4, r1, r2, r3, r4, s1, s2, s3, s4, s5, s6, t2, t3, t4, q_laid, q_maps, q_stop, q_knob, q_heard, q_enter, hk, hl, hm]
 simp only [Bool.true_and, Bool.and_true]
 exact t1
end Go.Px
end
section

end
