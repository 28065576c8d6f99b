/-
  The run and the laws that serve these rows (part 2)
-/
import Derived.Test.YtpflidodnhbeoaaGreatDoorO1
set_option linter.unusedVariables false
set_option linter.unusedSimpArgs false
noncomputable section
set_option maxRecDepth 100000
set_option maxHeartbeats 3200000
namespace Go.Cs
open Go Go.Ab Go.Proofs Go.Px Go.Cx
def A1 : Env := B29.add 152 (sp1 Cx.s152)
theorem ok_A1 : EnvOK Tryz.prog A1 := env_add ok_B29 (pureC Cx.ok152)
def A2 : Env := A1.add 213 (sp1 Cx.s213)
theorem ok_A2 : EnvOK Tryz.prog A2 := env_add ok_A1 (pureC Cx.ok213)
def A3 : Env := A2.add 141 (sp1 Cx.s141)
theorem ok_A3 : EnvOK Tryz.prog A3 := env_add ok_A2 (pureC Cx.ok141)
def A4 : Env := A3.add 66 (sp1 Cx.s66)
theorem ok_A4 : EnvOK Tryz.prog A4 := env_add ok_A3 (pureC Cx.ok66)
def A5 : Env := A4.add 85 (sp1 Cx.s85)
theorem ok_A5 : EnvOK Tryz.prog A5 := env_add ok_A4 (pureC Cx.ok85)
theorem fn20 : Fn1 Tryz.prog 20 Tryz.f20 := ⟨Tryz.func20, by kernel_rfl, by kernel_rfl, by kernel_rfl⟩
def m20 : List (List Value × Value) := [([.agg ⟨[.int .i64 1, .int .i64 4, .int .i64 2, .bool false, .string ⟨#[]⟩]⟩], .int .i64 0), ([.agg ⟨[.int .i64 3, .int .i64 3, .int .i64 0, .bool false, .string ⟨#[]⟩]⟩], .int .i64 0), ([.agg ⟨[.int .i64 1, .int .i64 3, .int .i64 0, .bool false, .string ⟨#[]⟩]⟩], .int .i64 0), ([.agg ⟨[.int .i64 2, .int .i64 15, .int .i64 0, .bool false, .string ⟨#[]⟩]⟩], .int .i64 0), ([.agg ⟨[.int .i64 4, .int .i64 1, .int .i64 0, .bool false, .string ⟨#[]⟩]⟩], .int .i64 0), ([.agg ⟨[.int .i64 4, .int .i64 3, .int .i64 0, .bool false, .string ⟨#[]⟩]⟩], .int .i64 0), ([.agg ⟨[.int .i64 3, .int .i64 5, .int .i64 0, .bool false, .string ⟨#[]⟩]⟩], .int .i64 0), ([.agg ⟨[.int .i64 1, .int .i64 3, .int .i64 1, .bool false, .string ⟨#[]⟩]⟩], .int .i64 0), ([.agg ⟨[.int .i64 5, .int .i64 0, .int .i64 0, .bool false, .string ⟨#[90, 90, 57, 86, 46, 57, 57]⟩]⟩], .int .i64 0), ([.agg ⟨[.int .i64 1, .int .i64 4, .int .i64 0, .bool false, .string ⟨#[]⟩]⟩], .int .i64 0), ([.agg ⟨[.int .i64 5, .int .i64 0, .int .i64 0, .bool false, .string ⟨#[57, 57, 57]⟩]⟩], .int .i64 0), ([.agg ⟨[.int .i64 5, .int .i64 0, .int .i64 0, .bool false, .string ⟨#[65, 65, 57]⟩]⟩], .int .i64 0), ([.agg ⟨[.int .i64 3, .int .i64 256, .int .i64 0, .bool false, .string ⟨#[]⟩]⟩], .int .i64 5), ([.agg ⟨[.int .i64 4, .int .i64 64, .int .i64 0, .bool false, .string ⟨#[]⟩]⟩], .int .i64 0)]
theorem v20_0 (R : Value → Prop) : bodyQ Tryz.prog A5 noL Tryz.f20 [.agg ⟨[.int .i64 1, .int .i64 4, .int .i64 2, .bool false, .string ⟨#[]⟩]⟩] (fun _ => none) 0 (fun v _ _ => R v) = (R (.int .i64 0)) := by kernel_rfl
theorem v20_1 (R : Value → Prop) : bodyQ Tryz.prog A5 noL Tryz.f20 [.agg ⟨[.int .i64 3, .int .i64 3, .int .i64 0, .bool false, .string ⟨#[]⟩]⟩] (fun _ => none) 0 (fun v _ _ => R v) = (R (.int .i64 0) ∧ R (.int .i64 0)) := by kernel_rfl
theorem v20_2 (R : Value → Prop) : bodyQ Tryz.prog A5 noL Tryz.f20 [.agg ⟨[.int .i64 1, .int .i64 3, .int .i64 0, .bool false, .string ⟨#[]⟩]⟩] (fun _ => none) 0 (fun v _ _ => R v) = (R (.int .i64 0)) := by kernel_rfl
theorem v20_3 (R : Value → Prop) : bodyQ Tryz.prog A5 noL Tryz.f20 [.agg ⟨[.int .i64 2, .int .i64 15, .int .i64 0, .bool false, .string ⟨#[]⟩]⟩] (fun _ => none) 0 (fun v _ _ => R v) = (R (.int .i64 0)) := by kernel_rfl
theorem v20_4 (R : Value → Prop) : bodyQ Tryz.prog A5 noL Tryz.f20 [.agg ⟨[.int .i64 4, .int .i64 1, .int .i64 0, .bool false, .string ⟨#[]⟩]⟩] (fun _ => none) 0 (fun v _ _ => R v) = (R (.int .i64 0)) := by kernel_rfl
theorem v20_5 (R : Value → Prop) : bodyQ Tryz.prog A5 noL Tryz.f20 [.agg ⟨[.int .i64 4, .int .i64 3, .int .i64 0, .bool false, .string ⟨#[]⟩]⟩] (fun _ => none) 0 (fun v _ _ => R v) = (R (.int .i64 0)) := by kernel_rfl
theorem v20_6 (R : Value → Prop) : bodyQ Tryz.prog A5 noL Tryz.f20 [.agg ⟨[.int .i64 3, .int .i64 5, .int .i64 0, .bool false, .string ⟨#[]⟩]⟩] (fun _ => none) 0 (fun v _ _ => R v) = (R (.int .i64 0) ∧ R (.int .i64 0)) := by kernel_rfl
theorem v20_7 (R : Value → Prop) : bodyQ Tryz.prog A5 noL Tryz.f20 [.agg ⟨[.int .i64 1, .int .i64 3, .int .i64 1, .bool false, .string ⟨#[]⟩]⟩] (fun _ => none) 0 (fun v _ _ => R v) = (R (.int .i64 0)) := by kernel_rfl
theorem v20_8 (R : Value → Prop) : bodyQ Tryz.prog A5 noL Tryz.f20 [.agg ⟨[.int .i64 5, .int .i64 0, .int .i64 0, .bool false, .string ⟨#[90, 90, 57, 86, 46, 57, 57]⟩]⟩] (fun _ => none) 0 (fun v _ _ => R v) = (R (.int .i64 0)) := by kernel_rfl
theorem v20_9 (R : Value → Prop) : bodyQ Tryz.prog A5 noL Tryz.f20 [.agg ⟨[.int .i64 1, .int .i64 4, .int .i64 0, .bool false, .string ⟨#[]⟩]⟩] (fun _ => none) 0 (fun v _ _ => R v) = (R (.int .i64 0)) := by kernel_rfl
theorem v20_10 (R : Value → Prop) : bodyQ Tryz.prog A5 noL Tryz.f20 [.agg ⟨[.int .i64 5, .int .i64 0, .int .i64 0, .bool false, .string ⟨#[57, 57, 57]⟩]⟩] (fun _ => none) 0 (fun v _ _ => R v) = (R (.int .i64 0)) := by kernel_rfl
theorem v20_11 (R : Value → Prop) : bodyQ Tryz.prog A5 noL Tryz.f20 [.agg ⟨[.int .i64 5, .int .i64 0, .int .i64 0, .bool false, .string ⟨#[65, 65, 57]⟩]⟩] (fun _ => none) 0 (fun v _ _ => R v) = (R (.int .i64 0)) := by kernel_rfl
theorem v20_12 (R : Value → Prop) : bodyQ Tryz.prog A5 noL Tryz.f20 [.agg ⟨[.int .i64 3, .int .i64 256, .int .i64 0, .bool false, .string ⟨#[]⟩]⟩] (fun _ => none) 0 (fun v _ _ => R v) = (R (.int .i64 5) ∧ R (.int .i64 5)) := by kernel_rfl
theorem v20_13 (R : Value → Prop) : bodyQ Tryz.prog A5 noL Tryz.f20 [.agg ⟨[.int .i64 4, .int .i64 64, .int .i64 0, .bool false, .string ⟨#[]⟩]⟩] (fun _ => none) 0 (fun v _ _ => R v) = (R (.int .i64 0)) := by kernel_rfl
theorem pk20 : PureOK Tryz.prog 20 (memo m20) := pure_memo ok_A5 hmix fn20 lokf_none (by kernel_rfl) ⟨by rw [DoesQ, v20_0], by rw [DoesQ, v20_1]; exact ⟨rfl, rfl⟩, by rw [DoesQ, v20_2], by rw [DoesQ, v20_3], by rw [DoesQ, v20_4], by rw [DoesQ, v20_5], by rw [DoesQ, v20_6]; exact ⟨rfl, rfl⟩, by rw [DoesQ, v20_7], by rw [DoesQ, v20_8], by rw [DoesQ, v20_9], by rw [DoesQ, v20_10], by rw [DoesQ, v20_11], by rw [DoesQ, v20_12]; exact ⟨rfl, rfl⟩, by rw [DoesQ, v20_13], trivial⟩
def A6 : Env := A5.add 20 (memo m20)
theorem ok_A6 : EnvOK Tryz.prog A6 := env_add ok_A5 pk20
theorem fn191 : Fn1 Tryz.prog 191 Tryz.f191 := ⟨Tryz.func191, by kernel_rfl, by kernel_rfl, by kernel_rfl⟩
def m191 : List (List Value × Value) := [([], .agg ⟨[.int .i64 1, .int .i64 10, .int .i64 100, .int .i64 1000, .int .i64 10000, .int .i64 100000, .int .i64 1000000, .int .i64 10000000, .int .i64 100000000, .int .i64 1000000000, .int .i64 10000000000, .int .i64 100000000000, .int .i64 1000000000000, .int .i64 10000000000000, .int .i64 100000000000000, .int .i64 1000000000000000, .int .i64 10000000000000000, .int .i64 100000000000000000, .int .i64 1000000000000000000]⟩)]
theorem v191_0 (R : Value → Prop) : bodyQ Tryz.prog A6 noL Tryz.f191 [] (fun _ => none) 0 (fun v _ _ => R v) = (R (.agg ⟨[.int .i64 1, .int .i64 10, .int .i64 100, .int .i64 1000, .int .i64 10000, .int .i64 100000, .int .i64 1000000, .int .i64 10000000, .int .i64 100000000, .int .i64 1000000000, .int .i64 10000000000, .int .i64 100000000000, .int .i64 1000000000000, .int .i64 10000000000000, .int .i64 100000000000000, .int .i64 1000000000000000, .int .i64 10000000000000000, .int .i64 100000000000000000, .int .i64 1000000000000000000]⟩)) := by kernel_rfl
theorem pk191 : PureOK Tryz.prog 191 (memo m191) := pure_memo ok_A6 hmix fn191 lokf_none (by kernel_rfl) ⟨by rw [DoesQ, v191_0], trivial⟩
def A7 : Env := A6.add 191 (memo m191)
theorem ok_A7 : EnvOK Tryz.prog A7 := env_add ok_A6 pk191
theorem fn144 : Fn1 Tryz.prog 144 Tryz.f144 := ⟨Tryz.func144, by kernel_rfl, by kernel_rfl, by kernel_rfl⟩
def m144 : List (List Value × Value) := [([.agg ⟨[.int .i64 1, .int .i64 4, .int .i64 2, .bool false, .string ⟨#[]⟩]⟩], .int .i64 10000), ([.agg ⟨[.int .i64 2, .int .i64 15, .int .i64 0, .bool false, .string ⟨#[]⟩]⟩], .int .i64 32768), ([.agg ⟨[.int .i64 1, .int .i64 3, .int .i64 1, .bool false, .string ⟨#[]⟩]⟩], .int .i64 1000), ([.agg ⟨[.int .i64 1, .int .i64 4, .int .i64 0, .bool false, .string ⟨#[]⟩]⟩], .int .i64 10000)]
theorem v144_0 (R : Value → Prop) : bodyQ Tryz.prog A7 noL Tryz.f144 [.agg ⟨[.int .i64 1, .int .i64 4, .int .i64 2, .bool false, .string ⟨#[]⟩]⟩] (fun _ => none) 0 (fun v _ _ => R v) = (R (.int .i64 10000)) := by kernel_rfl
theorem v144_1 (R : Value → Prop) : bodyQ Tryz.prog A7 noL Tryz.f144 [.agg ⟨[.int .i64 2, .int .i64 15, .int .i64 0, .bool false, .string ⟨#[]⟩]⟩] (fun _ => none) 0 (fun v _ _ => R v) = (R (.int .i64 32768)) := by kernel_rfl
theorem v144_2 (R : Value → Prop) : bodyQ Tryz.prog A7 noL Tryz.f144 [.agg ⟨[.int .i64 1, .int .i64 3, .int .i64 1, .bool false, .string ⟨#[]⟩]⟩] (fun _ => none) 0 (fun v _ _ => R v) = (R (.int .i64 1000)) := by kernel_rfl
theorem v144_3 (R : Value → Prop) : bodyQ Tryz.prog A7 noL Tryz.f144 [.agg ⟨[.int .i64 1, .int .i64 4, .int .i64 0, .bool false, .string ⟨#[]⟩]⟩] (fun _ => none) 0 (fun v _ _ => R v) = (R (.int .i64 10000)) := by kernel_rfl
theorem pk144 : PureOK Tryz.prog 144 (memo m144) := pure_memo ok_A7 hmix fn144 lokf_none (by kernel_rfl) ⟨by rw [DoesQ, v144_0], by rw [DoesQ, v144_1], by rw [DoesQ, v144_2], by rw [DoesQ, v144_3], trivial⟩
def A8 : Env := A7.add 144 (memo m144)
theorem ok_A8 : EnvOK Tryz.prog A8 := env_add ok_A7 pk144
theorem fn70 : Fn1 Tryz.prog 70 Tryz.f70 := ⟨Tryz.func70, by kernel_rfl, by kernel_rfl, by kernel_rfl⟩
def m70 : List (List Value × Value) := [([.agg ⟨[.int .i64 (-150), .string ⟨#[]⟩]⟩, .agg ⟨[.int .i64 1, .int .i64 4, .int .i64 2, .bool false, .string ⟨#[]⟩]⟩], .int .i64 0), ([.agg ⟨[.int .i64 1, .string ⟨#[]⟩]⟩, .agg ⟨[.int .i64 2, .int .i64 15, .int .i64 0, .bool false, .string ⟨#[]⟩]⟩], .int .i64 0), ([.agg ⟨[.int .i64 123, .string ⟨#[]⟩]⟩, .agg ⟨[.int .i64 1, .int .i64 3, .int .i64 1, .bool false, .string ⟨#[]⟩]⟩], .int .i64 0), ([.agg ⟨[.int .i64 1234, .string ⟨#[]⟩]⟩, .agg ⟨[.int .i64 1, .int .i64 4, .int .i64 0, .bool false, .string ⟨#[]⟩]⟩], .int .i64 0)]
theorem v70_0 (R : Value → Prop) : bodyQ Tryz.prog A8 noL Tryz.f70 [.agg ⟨[.int .i64 (-150), .string ⟨#[]⟩]⟩, .agg ⟨[.int .i64 1, .int .i64 4, .int .i64 2, .bool false, .string ⟨#[]⟩]⟩] (fun _ => none) 0 (fun v _ _ => R v) = (R (.int .i64 0)) := by kernel_rfl
theorem v70_1 (R : Value → Prop) : bodyQ Tryz.prog A8 noL Tryz.f70 [.agg ⟨[.int .i64 1, .string ⟨#[]⟩]⟩, .agg ⟨[.int .i64 2, .int .i64 15, .int .i64 0, .bool false, .string ⟨#[]⟩]⟩] (fun _ => none) 0 (fun v _ _ => R v) = (R (.int .i64 0)) := by kernel_rfl
theorem v70_2 (R : Value → Prop) : bodyQ Tryz.prog A8 noL Tryz.f70 [.agg ⟨[.int .i64 123, .string ⟨#[]⟩]⟩, .agg ⟨[.int .i64 1, .int .i64 3, .int .i64 1, .bool false, .string ⟨#[]⟩]⟩] (fun _ => none) 0 (fun v _ _ => R v) = (R (.int .i64 0)) := by kernel_rfl
theorem v70_3 (R : Value → Prop) : bodyQ Tryz.prog A8 noL Tryz.f70 [.agg ⟨[.int .i64 1234, .string ⟨#[]⟩]⟩, .agg ⟨[.int .i64 1, .int .i64 4, .int .i64 0, .bool false, .string ⟨#[]⟩]⟩] (fun _ => none) 0 (fun v _ _ => R v) = (R (.int .i64 0)) := by kernel_rfl
theorem pk70 : PureOK Tryz.prog 70 (memo m70) := pure_memo ok_A8 hmix fn70 lokf_none (by kernel_rfl) ⟨by rw [DoesQ, v70_0], by rw [DoesQ, v70_1], by rw [DoesQ, v70_2], by rw [DoesQ, v70_3], trivial⟩
def A9 : Env := A8.add 70 (memo m70)
theorem ok_A9 : EnvOK Tryz.prog A9 := env_add ok_A8 pk70
theorem fn71 : Fn1 Tryz.prog 71 Tryz.f71 := ⟨Tryz.func71, by kernel_rfl, by kernel_rfl, by kernel_rfl⟩
def m71 : List (List Value × Value) := [([.string ⟨#[49, 48, 49]⟩], .bool true), ([.string ⟨#[50]⟩], .bool false)]
theorem v71_0 (R : Value → Prop) : bodyQ Tryz.prog A9 noL Tryz.f71 [.string ⟨#[49, 48, 49]⟩] (fun _ => none) 0 (fun v _ _ => R v) = (R (.bool true)) := by kernel_rfl
theorem v71_1 (R : Value → Prop) : bodyQ Tryz.prog A9 noL Tryz.f71 [.string ⟨#[50]⟩] (fun _ => none) 0 (fun v _ _ => R v) = (R (.bool false)) := by kernel_rfl
theorem pk71 : PureOK Tryz.prog 71 (memo m71) := pure_memo ok_A9 hmix fn71 lokf_none (by kernel_rfl) ⟨by rw [DoesQ, v71_0], by rw [DoesQ, v71_1], trivial⟩
def A10 : Env := A9.add 71 (memo m71)
theorem ok_A10 : EnvOK Tryz.prog A10 := env_add ok_A9 pk71
theorem fn22 : Fn1 Tryz.prog 22 Tryz.f22 := ⟨Tryz.func22, by kernel_rfl, by kernel_rfl, by kernel_rfl⟩
def m22 : List (List Value × Value) := [([.agg ⟨[.int .i64 (-150), .string ⟨#[]⟩]⟩, .agg ⟨[.int .i64 1, .int .i64 4, .int .i64 2, .bool false, .string ⟨#[]⟩]⟩], .int .i64 0), ([.agg ⟨[.int .i64 0, .string ⟨#[49, 50, 120]⟩]⟩, .agg ⟨[.int .i64 3, .int .i64 3, .int .i64 0, .bool false, .string ⟨#[]⟩]⟩], .int .i64 0), ([.agg ⟨[.int .i64 1, .string ⟨#[]⟩]⟩, .agg ⟨[.int .i64 2, .int .i64 15, .int .i64 0, .bool false, .string ⟨#[]⟩]⟩], .int .i64 0), ([.agg ⟨[.int .i64 0, .string ⟨#[49, 48, 49]⟩]⟩, .agg ⟨[.int .i64 4, .int .i64 3, .int .i64 0, .bool false, .string ⟨#[]⟩]⟩], .int .i64 0), ([.agg ⟨[.int .i64 123, .string ⟨#[]⟩]⟩, .agg ⟨[.int .i64 1, .int .i64 3, .int .i64 1, .bool false, .string ⟨#[]⟩]⟩], .int .i64 0), ([.agg ⟨[.int .i64 1234, .string ⟨#[]⟩]⟩, .agg ⟨[.int .i64 1, .int .i64 4, .int .i64 0, .bool false, .string ⟨#[]⟩]⟩], .int .i64 0), ([.agg ⟨[.int .i64 0, .string ⟨#[97, 49, 49]⟩]⟩, .agg ⟨[.int .i64 3, .int .i64 3, .int .i64 0, .bool false, .string ⟨#[]⟩]⟩], .int .i64 0), ([.agg ⟨[.int .i64 0, .string ⟨#[50]⟩]⟩, .agg ⟨[.int .i64 4, .int .i64 1, .int .i64 0, .bool false, .string ⟨#[]⟩]⟩], .int .i64 6)]
theorem v22_0 (R : Value → Prop) : bodyQ Tryz.prog A10 noL Tryz.f22 [.agg ⟨[.int .i64 (-150), .string ⟨#[]⟩]⟩, .agg ⟨[.int .i64 1, .int .i64 4, .int .i64 2, .bool false, .string ⟨#[]⟩]⟩] (fun _ => none) 0 (fun v _ _ => R v) = (R (.int .i64 0)) := by kernel_rfl
theorem v22_1 (R : Value → Prop) : bodyQ Tryz.prog A10 noL Tryz.f22 [.agg ⟨[.int .i64 0, .string ⟨#[49, 50, 120]⟩]⟩, .agg ⟨[.int .i64 3, .int .i64 3, .int .i64 0, .bool false, .string ⟨#[]⟩]⟩] (fun _ => none) 0 (fun v _ _ => R v) = (R (.int .i64 0)) := by kernel_rfl
theorem v22_2 (R : Value → Prop) : bodyQ Tryz.prog A10 noL Tryz.f22 [.agg ⟨[.int .i64 1, .string ⟨#[]⟩]⟩, .agg ⟨[.int .i64 2, .int .i64 15, .int .i64 0, .bool false, .string ⟨#[]⟩]⟩] (fun _ => none) 0 (fun v _ _ => R v) = (R (.int .i64 0)) := by kernel_rfl
theorem v22_3 (R : Value → Prop) : bodyQ Tryz.prog A10 noL Tryz.f22 [.agg ⟨[.int .i64 0, .string ⟨#[49, 48, 49]⟩]⟩, .agg ⟨[.int .i64 4, .int .i64 3, .int .i64 0, .bool false, .string ⟨#[]⟩]⟩] (fun _ => none) 0 (fun v _ _ => R v) = (R (.int .i64 0)) := by kernel_rfl
theorem v22_4 (R : Value → Prop) : bodyQ Tryz.prog A10 noL Tryz.f22 [.agg ⟨[.int .i64 123, .string ⟨#[]⟩]⟩, .agg ⟨[.int .i64 1, .int .i64 3, .int .i64 1, .bool false, .string ⟨#[]⟩]⟩] (fun _ => none) 0 (fun v _ _ => R v) = (R (.int .i64 0)) := by kernel_rfl
theorem v22_5 (R : Value → Prop) : bodyQ Tryz.prog A10 noL Tryz.f22 [.agg ⟨[.int .i64 1234, .string ⟨#[]⟩]⟩, .agg ⟨[.int .i64 1, .int .i64 4, .int .i64 0, .bool false, .string ⟨#[]⟩]⟩] (fun _ => none) 0 (fun v _ _ => R v) = (R (.int .i64 0)) := by kernel_rfl
theorem v22_6 (R : Value → Prop) : bodyQ Tryz.prog A10 noL Tryz.f22 [.agg ⟨[.int .i64 0, .string ⟨#[97, 49, 49]⟩]⟩, .agg ⟨[.int .i64 3, .int .i64 3, .int .i64 0, .bool false, .string ⟨#[]⟩]⟩] (fun _ => none) 0 (fun v _ _ => R v) = (R (.int .i64 0)) := by kernel_rfl
theorem v22_7 (R : Value → Prop) : bodyQ Tryz.prog A10 noL Tryz.f22 [.agg ⟨[.int .i64 0, .string ⟨#[50]⟩]⟩, .agg ⟨[.int .i64 4, .int .i64 1, .int .i64 0, .bool false, .string ⟨#[]⟩]⟩] (fun _ => none) 0 (fun v _ _ => R v) = (R (.int .i64 6)) := by kernel_rfl
theorem pk22 : PureOK Tryz.prog 22 (memo m22) := pure_memo ok_A10 hmix fn22 lokf_none (by kernel_rfl) ⟨by rw [DoesQ, v22_0], by rw [DoesQ, v22_1], by rw [DoesQ, v22_2], by rw [DoesQ, v22_3], by rw [DoesQ, v22_4], by rw [DoesQ, v22_5], by rw [DoesQ, v22_6], by rw [DoesQ, v22_7], trivial⟩
def A11 : Env := A10.add 22 (memo m22)
theorem ok_A11 : EnvOK Tryz.prog A11 := env_add ok_A10 pk22
theorem fn77 : Fn1 Tryz.prog 77 Tryz.f77 := ⟨Tryz.func77, by kernel_rfl, by kernel_rfl, by kernel_rfl⟩
def m77 : List (List Value × Value) := [([.bool true, .string ⟨#[48, 48, 49, 50, 53, 48]⟩, .int .i64 2], .agg ⟨[.bool true, .string ⟨#[49, 50, 53]⟩, .int .i64 1]⟩), ([.bool false, .string ⟨#[49, 50, 48, 48]⟩, .int .i64 0], .agg ⟨[.bool false, .string ⟨#[49, 50]⟩, .int .i64 (-2)]⟩), ([.bool false, .string ⟨#[49, 50, 51]⟩, .int .i64 1], .agg ⟨[.bool false, .string ⟨#[49, 50, 51]⟩, .int .i64 1]⟩), ([.bool false, .string ⟨#[49, 50, 51, 52]⟩, .int .i64 0], .agg ⟨[.bool false, .string ⟨#[49, 50, 51, 52]⟩, .int .i64 0]⟩)]
theorem v77_0 (R : Value → Prop) : bodyQ Tryz.prog A11 noL Tryz.f77 [.bool true, .string ⟨#[48, 48, 49, 50, 53, 48]⟩, .int .i64 2] (fun _ => none) 0 (fun v _ _ => R v) = (R (.agg ⟨[.bool true, .string ⟨#[49, 50, 53]⟩, .int .i64 1]⟩)) := by kernel_rfl
theorem v77_1 (R : Value → Prop) : bodyQ Tryz.prog A11 noL Tryz.f77 [.bool false, .string ⟨#[49, 50, 48, 48]⟩, .int .i64 0] (fun _ => none) 0 (fun v _ _ => R v) = (R (.agg ⟨[.bool false, .string ⟨#[49, 50]⟩, .int .i64 (-2)]⟩)) := by kernel_rfl
theorem v77_2 (R : Value → Prop) : bodyQ Tryz.prog A11 noL Tryz.f77 [.bool false, .string ⟨#[49, 50, 51]⟩, .int .i64 1] (fun _ => none) 0 (fun v _ _ => R v) = (R (.agg ⟨[.bool false, .string ⟨#[49, 50, 51]⟩, .int .i64 1]⟩)) := by kernel_rfl
theorem v77_3 (R : Value → Prop) : bodyQ Tryz.prog A11 noL Tryz.f77 [.bool false, .string ⟨#[49, 50, 51, 52]⟩, .int .i64 0] (fun _ => none) 0 (fun v _ _ => R v) = (R (.agg ⟨[.bool false, .string ⟨#[49, 50, 51, 52]⟩, .int .i64 0]⟩)) := by kernel_rfl
theorem pk77 : PureOK Tryz.prog 77 (memo m77) := pure_memo ok_A11 hmix fn77 lokf_none (by kernel_rfl) ⟨by rw [DoesQ, v77_0], by rw [DoesQ, v77_1], by rw [DoesQ, v77_2], by rw [DoesQ, v77_3], trivial⟩
def A12 : Env := A11.add 77 (memo m77)
theorem ok_A12 : EnvOK Tryz.prog A12 := env_add ok_A11 pk77
theorem fn84 : Fn1 Tryz.prog 84 Tryz.f84 := ⟨Tryz.func84, by kernel_rfl, by kernel_rfl, by kernel_rfl⟩
def m84 : List (List Value × Value) := [([.agg ⟨[.bool false, .string ⟨#[49, 50, 51, 52, 53]⟩, .int .i64 2]⟩], .bool true), ([.agg ⟨[.bool false, .string ⟨#[49, 50, 51]⟩, .int .i64 1]⟩], .bool true), ([.agg ⟨[.bool false, .string ⟨#[49, 50, 51, 52]⟩, .int .i64 0]⟩], .bool true)]
theorem v84_0 (R : Value → Prop) : bodyQ Tryz.prog A12 noL Tryz.f84 [.agg ⟨[.bool false, .string ⟨#[49, 50, 51, 52, 53]⟩, .int .i64 2]⟩] (fun _ => none) 0 (fun v _ _ => R v) = (R (.bool true)) := by kernel_rfl
theorem v84_1 (R : Value → Prop) : bodyQ Tryz.prog A12 noL Tryz.f84 [.agg ⟨[.bool false, .string ⟨#[49, 50, 51]⟩, .int .i64 1]⟩] (fun _ => none) 0 (fun v _ _ => R v) = (R (.bool true)) := by kernel_rfl
theorem v84_2 (R : Value → Prop) : bodyQ Tryz.prog A12 noL Tryz.f84 [.agg ⟨[.bool false, .string ⟨#[49, 50, 51, 52]⟩, .int .i64 0]⟩] (fun _ => none) 0 (fun v _ _ => R v) = (R (.bool true)) := by kernel_rfl
theorem pk84 : PureOK Tryz.prog 84 (memo m84) := pure_memo ok_A12 hmix fn84 lokf_none (by kernel_rfl) ⟨by rw [DoesQ, v84_0], by rw [DoesQ, v84_1], by rw [DoesQ, v84_2], trivial⟩
def A13 : Env := A12.add 84 (memo m84)
theorem ok_A13 : EnvOK Tryz.prog A13 := env_add ok_A12 pk84
theorem fn86 : Fn1 Tryz.prog 86 Tryz.f86 := ⟨Tryz.func86, by kernel_rfl, by kernel_rfl, by kernel_rfl⟩
def m86 : List (List Value × Value) := [([.agg ⟨[.bool false, .string ⟨#[49, 50, 51, 52, 53]⟩, .int .i64 2]⟩, .int .i64 1], .string ⟨#[49, 50, 51, 52]⟩), ([.agg ⟨[.bool false, .string ⟨#[49, 50, 51]⟩, .int .i64 1]⟩, .int .i64 2], .string ⟨#[49, 50, 51, 48]⟩), ([.agg ⟨[.bool false, .string ⟨#[49, 50, 51, 52]⟩, .int .i64 0]⟩, .int .i64 0], .string ⟨#[49, 50, 51, 52]⟩)]
theorem v86_0 (R : Value → Prop) : bodyQ Tryz.prog A13 noL Tryz.f86 [.agg ⟨[.bool false, .string ⟨#[49, 50, 51, 52, 53]⟩, .int .i64 2]⟩, .int .i64 1] (fun _ => none) 0 (fun v _ _ => R v) = (R (.string ⟨#[49, 50, 51, 52]⟩)) := by kernel_rfl
theorem v86_1 (R : Value → Prop) : bodyQ Tryz.prog A13 noL Tryz.f86 [.agg ⟨[.bool false, .string ⟨#[49, 50, 51]⟩, .int .i64 1]⟩, .int .i64 2] (fun _ => none) 0 (fun v _ _ => R v) = (R (.string ⟨#[49, 50, 51, 48]⟩)) := by kernel_rfl
theorem v86_2 (R : Value → Prop) : bodyQ Tryz.prog A13 noL Tryz.f86 [.agg ⟨[.bool false, .string ⟨#[49, 50, 51, 52]⟩, .int .i64 0]⟩, .int .i64 0] (fun _ => none) 0 (fun v _ _ => R v) = (R (.string ⟨#[49, 50, 51, 52]⟩)) := by kernel_rfl
theorem pk86 : PureOK Tryz.prog 86 (memo m86) := pure_memo ok_A13 hmix fn86 lokf_none (by kernel_rfl) ⟨by rw [DoesQ, v86_0], by rw [DoesQ, v86_1], by rw [DoesQ, v86_2], trivial⟩
def A14 : Env := A13.add 86 (memo m86)
theorem ok_A14 : EnvOK Tryz.prog A14 := env_add ok_A13 pk86
theorem fn26 : Fn1 Tryz.prog 26 Tryz.f26 := ⟨Tryz.func26, by kernel_rfl, by kernel_rfl, by kernel_rfl⟩
def m26 : List (List Value × Value) := [([.agg ⟨[.bool false, .string ⟨#[49, 50, 51, 52, 53]⟩, .int .i64 2]⟩, .agg ⟨[.int .i64 1, .int .i64 3, .int .i64 1, .bool false, .string ⟨#[]⟩]⟩], .tuple ⟨[.agg ⟨[.int .i64 234, .string ⟨#[]⟩]⟩, .int .i64 1, .int .i64 0]⟩), ([.agg ⟨[.bool false, .string ⟨#[49, 50, 51]⟩, .int .i64 1]⟩, .agg ⟨[.int .i64 1, .int .i64 5, .int .i64 2, .bool false, .string ⟨#[]⟩]⟩], .tuple ⟨[.agg ⟨[.int .i64 1230, .string ⟨#[]⟩]⟩, .int .i64 0, .int .i64 0]⟩), ([.agg ⟨[.bool false, .string ⟨#[49, 50, 51, 52]⟩, .int .i64 0]⟩, .agg ⟨[.int .i64 1, .int .i64 3, .int .i64 0, .bool false, .string ⟨#[]⟩]⟩], .tuple ⟨[.agg ⟨[.int .i64 234, .string ⟨#[]⟩]⟩, .int .i64 1, .int .i64 0]⟩)]
theorem v26_0 (R : Value → Prop) : bodyQ Tryz.prog A14 noL Tryz.f26 [.agg ⟨[.bool false, .string ⟨#[49, 50, 51, 52, 53]⟩, .int .i64 2]⟩, .agg ⟨[.int .i64 1, .int .i64 3, .int .i64 1, .bool false, .string ⟨#[]⟩]⟩] (fun _ => none) 0 (fun v _ _ => R v) = (R (.tuple ⟨[.agg ⟨[.int .i64 234, .string ⟨#[]⟩]⟩, .int .i64 1, .int .i64 0]⟩)) := by kernel_rfl
theorem v26_1 (R : Value → Prop) : bodyQ Tryz.prog A14 noL Tryz.f26 [.agg ⟨[.bool false, .string ⟨#[49, 50, 51]⟩, .int .i64 1]⟩, .agg ⟨[.int .i64 1, .int .i64 5, .int .i64 2, .bool false, .string ⟨#[]⟩]⟩] (fun _ => none) 0 (fun v _ _ => R v) = (R (.tuple ⟨[.agg ⟨[.int .i64 1230, .string ⟨#[]⟩]⟩, .int .i64 0, .int .i64 0]⟩)) := by kernel_rfl
theorem v26_2 (R : Value → Prop) : bodyQ Tryz.prog A14 noL Tryz.f26 [.agg ⟨[.bool false, .string ⟨#[49, 50, 51, 52]⟩, .int .i64 0]⟩, .agg ⟨[.int .i64 1, .int .i64 3, .int .i64 0, .bool false, .string ⟨#[]⟩]⟩] (fun _ => none) 0 (fun v _ _ => R v) = (R (.tuple ⟨[.agg ⟨[.int .i64 234, .string ⟨#[]⟩]⟩, .int .i64 1, .int .i64 0]⟩)) := by kernel_rfl
theorem pk26 : PureOK Tryz.prog 26 (memo m26) := pure_memo ok_A14 hmix fn26 lokf_none (by kernel_rfl) ⟨by rw [DoesQ, v26_0], by rw [DoesQ, v26_1], by rw [DoesQ, v26_2], trivial⟩
def A15 : Env := A14.add 26 (memo m26)
theorem ok_A15 : EnvOK Tryz.prog A15 := env_add ok_A14 pk26
theorem fn97 : Fn1 Tryz.prog 97 Tryz.f97 := ⟨Tryz.func97, by kernel_rfl, by kernel_rfl, by kernel_rfl⟩
def m97 : List (List Value × Value) := [([.agg ⟨[.int .i64 (-150), .string ⟨#[]⟩]⟩, .agg ⟨[.int .i64 1, .int .i64 4, .int .i64 2, .bool false, .string ⟨#[]⟩]⟩], .iface 174 (.agg ⟨[.int .i64 (-150), .int .i64 1, .int .i64 4, .int .i64 2, .bool false, .string ⟨#[]⟩]⟩)), ([.agg ⟨[.int .i64 0, .string ⟨#[49, 50, 120]⟩]⟩, .agg ⟨[.int .i64 3, .int .i64 3, .int .i64 0, .bool false, .string ⟨#[]⟩]⟩], .iface 178 (.string ⟨#[49, 50, 120]⟩)), ([.agg ⟨[.int .i64 1, .string ⟨#[]⟩]⟩, .agg ⟨[.int .i64 2, .int .i64 15, .int .i64 0, .bool false, .string ⟨#[]⟩]⟩], .iface 174 (.agg ⟨[.int .i64 1, .int .i64 2, .int .i64 15, .int .i64 0, .bool false, .string ⟨#[]⟩]⟩)), ([.agg ⟨[.int .i64 0, .string ⟨#[49, 48, 49]⟩]⟩, .agg ⟨[.int .i64 4, .int .i64 3, .int .i64 0, .bool false, .string ⟨#[]⟩]⟩], .iface 175 (.string ⟨#[49, 48, 49]⟩)), ([.agg ⟨[.int .i64 123, .string ⟨#[]⟩]⟩, .agg ⟨[.int .i64 1, .int .i64 3, .int .i64 1, .bool false, .string ⟨#[]⟩]⟩], .iface 174 (.agg ⟨[.int .i64 123, .int .i64 1, .int .i64 3, .int .i64 1, .bool false, .string ⟨#[]⟩]⟩)), ([.agg ⟨[.int .i64 1234, .string ⟨#[]⟩]⟩, .agg ⟨[.int .i64 1, .int .i64 4, .int .i64 0, .bool false, .string ⟨#[]⟩]⟩], .iface 174 (.agg ⟨[.int .i64 1234, .int .i64 1, .int .i64 4, .int .i64 0, .bool false, .string ⟨#[]⟩]⟩)), ([.agg ⟨[.int .i64 0, .string ⟨#[97, 49, 49]⟩]⟩, .agg ⟨[.int .i64 3, .int .i64 3, .int .i64 0, .bool false, .string ⟨#[]⟩]⟩], .iface 178 (.string ⟨#[97, 49, 49]⟩))]
theorem v97_0 (R : Value → Prop) : bodyQ Tryz.prog A15 noL Tryz.f97 [.agg ⟨[.int .i64 (-150), .string ⟨#[]⟩]⟩, .agg ⟨[.int .i64 1, .int .i64 4, .int .i64 2, .bool false, .string ⟨#[]⟩]⟩] (fun _ => none) 0 (fun v _ _ => R v) = (R (.iface 174 (.agg ⟨[.int .i64 (-150), .int .i64 1, .int .i64 4, .int .i64 2, .bool false, .string ⟨#[]⟩]⟩))) := by kernel_rfl
theorem v97_1 (R : Value → Prop) : bodyQ Tryz.prog A15 noL Tryz.f97 [.agg ⟨[.int .i64 0, .string ⟨#[49, 50, 120]⟩]⟩, .agg ⟨[.int .i64 3, .int .i64 3, .int .i64 0, .bool false, .string ⟨#[]⟩]⟩] (fun _ => none) 0 (fun v _ _ => R v) = (R (.iface 178 (.string ⟨#[49, 50, 120]⟩))) := by kernel_rfl
theorem v97_2 (R : Value → Prop) : bodyQ Tryz.prog A15 noL Tryz.f97 [.agg ⟨[.int .i64 1, .string ⟨#[]⟩]⟩, .agg ⟨[.int .i64 2, .int .i64 15, .int .i64 0, .bool false, .string ⟨#[]⟩]⟩] (fun _ => none) 0 (fun v _ _ => R v) = (R (.iface 174 (.agg ⟨[.int .i64 1, .int .i64 2, .int .i64 15, .int .i64 0, .bool false, .string ⟨#[]⟩]⟩))) := by kernel_rfl
theorem v97_3 (R : Value → Prop) : bodyQ Tryz.prog A15 noL Tryz.f97 [.agg ⟨[.int .i64 0, .string ⟨#[49, 48, 49]⟩]⟩, .agg ⟨[.int .i64 4, .int .i64 3, .int .i64 0, .bool false, .string ⟨#[]⟩]⟩] (fun _ => none) 0 (fun v _ _ => R v) = (R (.iface 175 (.string ⟨#[49, 48, 49]⟩))) := by kernel_rfl
theorem v97_4 (R : Value → Prop) : bodyQ Tryz.prog A15 noL Tryz.f97 [.agg ⟨[.int .i64 123, .string ⟨#[]⟩]⟩, .agg ⟨[.int .i64 1, .int .i64 3, .int .i64 1, .bool false, .string ⟨#[]⟩]⟩] (fun _ => none) 0 (fun v _ _ => R v) = (R (.iface 174 (.agg ⟨[.int .i64 123, .int .i64 1, .int .i64 3, .int .i64 1, .bool false, .string ⟨#[]⟩]⟩))) := by kernel_rfl
theorem v97_5 (R : Value → Prop) : bodyQ Tryz.prog A15 noL Tryz.f97 [.agg ⟨[.int .i64 1234, .string ⟨#[]⟩]⟩, .agg ⟨[.int .i64 1, .int .i64 4, .int .i64 0, .bool false, .string ⟨#[]⟩]⟩] (fun _ => none) 0 (fun v _ _ => R v) = (R (.iface 174 (.agg ⟨[.int .i64 1234, .int .i64 1, .int .i64 4, .int .i64 0, .bool false, .string ⟨#[]⟩]⟩))) := by kernel_rfl
theorem v97_6 (R : Value → Prop) : bodyQ Tryz.prog A15 noL Tryz.f97 [.agg ⟨[.int .i64 0, .string ⟨#[97, 49, 49]⟩]⟩, .agg ⟨[.int .i64 3, .int .i64 3, .int .i64 0, .bool false, .string ⟨#[]⟩]⟩] (fun _ => none) 0 (fun v _ _ => R v) = (R (.iface 178 (.string ⟨#[97, 49, 49]⟩))) := by kernel_rfl
theorem pk97 : PureOK Tryz.prog 97 (memo m97) := pure_memo ok_A15 hmix fn97 lokf_none (by kernel_rfl) ⟨by rw [DoesQ, v97_0], by rw [DoesQ, v97_1], by rw [DoesQ, v97_2], by rw [DoesQ, v97_3], by rw [DoesQ, v97_4], by rw [DoesQ, v97_5], by rw [DoesQ, v97_6], trivial⟩
def A16 : Env := A15.add 97 (memo m97)
theorem ok_A16 : EnvOK Tryz.prog A16 := env_add ok_A15 pk97
theorem fn112 : Fn1 Tryz.prog 112 Tryz.f112 := ⟨Tryz.func112, by kernel_rfl, by kernel_rfl, by kernel_rfl⟩
def m112 : List (List Value × Value) := [([.agg ⟨[.int .i64 1, .int .i64 4, .int .i64 2, .bool false, .string ⟨#[]⟩]⟩], .int .i64 7), ([.agg ⟨[.int .i64 1, .int .i64 3, .int .i64 1, .bool false, .string ⟨#[]⟩]⟩], .int .i64 6)]
theorem v112_0 (R : Value → Prop) : bodyQ Tryz.prog A16 noL Tryz.f112 [.agg ⟨[.int .i64 1, .int .i64 4, .int .i64 2, .bool false, .string ⟨#[]⟩]⟩] (fun _ => none) 0 (fun v _ _ => R v) = (R (.int .i64 7)) := by kernel_rfl
theorem v112_1 (R : Value → Prop) : bodyQ Tryz.prog A16 noL Tryz.f112 [.agg ⟨[.int .i64 1, .int .i64 3, .int .i64 1, .bool false, .string ⟨#[]⟩]⟩] (fun _ => none) 0 (fun v _ _ => R v) = (R (.int .i64 6)) := by kernel_rfl
theorem pk112 : PureOK Tryz.prog 112 (memo m112) := pure_memo ok_A16 hmix fn112 lokf_none (by kernel_rfl) ⟨by rw [DoesQ, v112_0], by rw [DoesQ, v112_1], trivial⟩
def A17 : Env := A16.add 112 (memo m112)
theorem ok_A17 : EnvOK Tryz.prog A17 := env_add ok_A16 pk112
theorem fn321 : Fn1 Tryz.prog 321 Tryz.f321 := ⟨Tryz.func321, by kernel_rfl, by kernel_rfl, by kernel_rfl⟩
def m321 : List (List Value × Value) := [([.agg ⟨[.int .i64 (-150), .int .i64 1, .int .i64 4, .int .i64 2, .bool false, .string ⟨#[]⟩]⟩], .string ⟨#[32, 32, 45, 49, 46, 53, 48]⟩)]
theorem v321_0 (R : Value → Prop) : bodyQ Tryz.prog A17 noL Tryz.f321 [.agg ⟨[.int .i64 (-150), .int .i64 1, .int .i64 4, .int .i64 2, .bool false, .string ⟨#[]⟩]⟩] (fun _ => none) 0 (fun v _ _ => R v) = (R (.string ⟨#[32, 32, 45, 49, 46, 53, 48]⟩)) := by kernel_rfl
theorem pk321 : PureOK Tryz.prog 321 (memo m321) := pure_memo ok_A17 hmix fn321 lokf_none (by kernel_rfl) ⟨by rw [DoesQ, v321_0], trivial⟩
def A18 : Env := A17.add 321 (memo m321)
theorem ok_A18 : EnvOK Tryz.prog A18 := env_add ok_A17 pk321
theorem fn322 : Fn1 Tryz.prog 322 Tryz.f322 := ⟨Tryz.func322, by kernel_rfl, by kernel_rfl, by kernel_rfl⟩
def m322 : List (List Value × Value) := [([.string ⟨#[49, 48, 49]⟩], .string ⟨#[49, 48, 49]⟩)]
theorem v322_0 (R : Value → Prop) : bodyQ Tryz.prog A18 noL Tryz.f322 [.string ⟨#[49, 48, 49]⟩] (fun _ => none) 0 (fun v _ _ => R v) = (R (.string ⟨#[49, 48, 49]⟩)) := by kernel_rfl
theorem pk322 : PureOK Tryz.prog 322 (memo m322) := pure_memo ok_A18 hmix fn322 lokf_none (by kernel_rfl) ⟨by rw [DoesQ, v322_0], trivial⟩
def A19 : Env := A18.add 322 (memo m322)
theorem ok_A19 : EnvOK Tryz.prog A19 := env_add ok_A18 pk322
theorem fn324 : Fn1 Tryz.prog 324 Tryz.f324 := ⟨Tryz.func324, by kernel_rfl, by kernel_rfl, by kernel_rfl⟩
def m324 : List (List Value × Value) := [([.string ⟨#[49, 50, 120]⟩], .string ⟨#[49, 50, 120]⟩), ([.string ⟨#[97, 49, 49]⟩], .string ⟨#[97, 49, 49]⟩)]
theorem v324_0 (R : Value → Prop) : bodyQ Tryz.prog A19 noL Tryz.f324 [.string ⟨#[49, 50, 120]⟩] (fun _ => none) 0 (fun v _ _ => R v) = (R (.string ⟨#[49, 50, 120]⟩)) := by kernel_rfl
theorem v324_1 (R : Value → Prop) : bodyQ Tryz.prog A19 noL Tryz.f324 [.string ⟨#[97, 49, 49]⟩] (fun _ => none) 0 (fun v _ _ => R v) = (R (.string ⟨#[97, 49, 49]⟩)) := by kernel_rfl
theorem pk324 : PureOK Tryz.prog 324 (memo m324) := pure_memo ok_A19 hmix fn324 lokf_none (by kernel_rfl) ⟨by rw [DoesQ, v324_0], by rw [DoesQ, v324_1], trivial⟩
def A20 : Env := A19.add 324 (memo m324)
theorem ok_A20 : EnvOK Tryz.prog A20 := env_add ok_A19 pk324
theorem fn32 : Fn1 Tryz.prog 32 Tryz.f32 := ⟨Tryz.func32, by kernel_rfl, by kernel_rfl, by kernel_rfl⟩
def m32 : List (List Value × Value) := [([.agg ⟨[.int .i64 (-150), .string ⟨#[]⟩]⟩, .agg ⟨[.int .i64 1, .int .i64 4, .int .i64 2, .bool false, .string ⟨#[]⟩]⟩], .tuple ⟨[.string ⟨#[32, 32, 45, 49, 46, 53, 48]⟩, .int .i64 0]⟩)]
theorem v32_0 (R : Value → Prop) : bodyQ Tryz.prog A20 noL Tryz.f32 [.agg ⟨[.int .i64 (-150), .string ⟨#[]⟩]⟩, .agg ⟨[.int .i64 1, .int .i64 4, .int .i64 2, .bool false, .string ⟨#[]⟩]⟩] (fun _ => none) 0 (fun v _ _ => R v) = (R (.tuple ⟨[.string ⟨#[32, 32, 45, 49, 46, 53, 48]⟩, .int .i64 0]⟩)) := by kernel_rfl
theorem pk32 : PureOK Tryz.prog 32 (memo m32) := pure_memo ok_A20 hmix fn32 lokf_none (by kernel_rfl) ⟨by rw [DoesQ, v32_0], trivial⟩
def A21 : Env := A20.add 32 (memo m32)
theorem ok_A21 : EnvOK Tryz.prog A21 := env_add ok_A20 pk32
theorem fn153 : Fn1 Tryz.prog 153 Tryz.f153 := ⟨Tryz.func153, by kernel_rfl, by kernel_rfl, by kernel_rfl⟩
def A22 : Env := A21.addG 153 (inlQ Tryz.prog A21 noL Tryz.f153)
theorem ok_A22 : EnvOK Tryz.prog A22 := env_addG ok_A21 (gen_inlQ ok_A21 hmix fn153 lokf_none)
theorem fn214 : Fn1 Tryz.prog 214 Tryz.f214 := ⟨Tryz.func214, by kernel_rfl, by kernel_rfl, by kernel_rfl⟩
def A23 : Env := A22.addG 214 (inlQ Tryz.prog A22 noL Tryz.f214)
theorem ok_A23 : EnvOK Tryz.prog A23 := env_addG ok_A22 (gen_inlQ ok_A22 hmix fn214 lokf_none)
theorem fn215 : Fn1 Tryz.prog 215 Tryz.f215 := ⟨Tryz.func215, by kernel_rfl, by kernel_rfl, by kernel_rfl⟩
def A24 : Env := A23.addG 215 (inlQ Tryz.prog A23 noL Tryz.f215)
theorem ok_A24 : EnvOK Tryz.prog A24 := env_addG ok_A23 (gen_inlQ ok_A23 hmix fn215 lokf_none)
theorem fn76 : Fn1 Tryz.prog 76 Tryz.f76 := ⟨Tryz.func76, by kernel_rfl, by kernel_rfl, by kernel_rfl⟩
def A25 : Env := A24.addG 76 (inlQ Tryz.prog A24 noL Tryz.f76)
theorem ok_A25 : EnvOK Tryz.prog A25 := env_addG ok_A24 (gen_inlQ ok_A24 hmix fn76 lokf_none)
theorem fn212 : Fn1 Tryz.prog 212 Tryz.f212 := ⟨Tryz.func212, by kernel_rfl, by kernel_rfl, by kernel_rfl⟩
def A26 : Env := A25.addG 212 (inlQ Tryz.prog A25 noL Tryz.f212)
theorem ok_A26 : EnvOK Tryz.prog A26 := env_addG ok_A25 (gen_inlQ ok_A25 hmix fn212 lokf_none)
theorem fn263 : Fn1 Tryz.prog 263 Tryz.f263 := ⟨Tryz.func263, by kernel_rfl, by kernel_rfl, by kernel_rfl⟩
def A27 : Env := A26.addG 263 (inlQ Tryz.prog A26 noL Tryz.f263)
theorem ok_A27 : EnvOK Tryz.prog A27 := env_addG ok_A26 (gen_inlQ ok_A26 hmix fn263 lokf_none)
theorem fn264 : Fn1 Tryz.prog 264 Tryz.f264 := ⟨Tryz.func264, by kernel_rfl, by kernel_rfl, by kernel_rfl⟩
def A28 : Env := A27.addG 264 (inlQ Tryz.prog A27 noL Tryz.f264)
theorem ok_A28 : EnvOK Tryz.prog A28 := env_addG ok_A27 (gen_inlQ ok_A27 hmix fn264 lokf_none)
theorem fn151 : Fn1 Tryz.prog 151 Tryz.f151 := ⟨Tryz.func151, by kernel_rfl, by kernel_rfl, by kernel_rfl⟩
def A29 : Env := A28.addG 151 (inlQ Tryz.prog A28 noL Tryz.f151)
theorem ok_A29 : EnvOK Tryz.prog A29 := env_addG ok_A28 (gen_inlQ ok_A28 hmix fn151 lokf_none)
theorem fn24 : Fn1 Tryz.prog 24 Tryz.f24 := ⟨Tryz.func24, by kernel_rfl, by kernel_rfl, by kernel_rfl⟩
def m24 : List (List Value × Value) := [([.string ⟨#[32, 32, 45, 48, 48, 49, 50, 46, 53, 48, 32]⟩], .tuple ⟨[.agg ⟨[.bool true, .string ⟨#[49, 50, 53]⟩, .int .i64 1]⟩, .bool true]⟩), ([.string ⟨#[49, 50, 48, 48]⟩], .tuple ⟨[.agg ⟨[.bool false, .string ⟨#[49, 50]⟩, .int .i64 (-2)]⟩, .bool true]⟩), ([.string ⟨#[49, 69, 49, 50, 51]⟩], .tuple ⟨[.agg ⟨[.bool false, .string ⟨#[]⟩, .int .i64 0]⟩, .bool false]⟩), ([.string ⟨#[49, 50, 120]⟩], .tuple ⟨[.agg ⟨[.bool false, .string ⟨#[]⟩, .int .i64 0]⟩, .bool false]⟩)]
theorem v24_0 (R : Value → Prop) : bodyQ Tryz.prog A29 noL Tryz.f24 [.string ⟨#[32, 32, 45, 48, 48, 49, 50, 46, 53, 48, 32]⟩] (fun _ => none) 0 (fun v _ _ => R v) = (R (.tuple ⟨[.agg ⟨[.bool true, .string ⟨#[49, 50, 53]⟩, .int .i64 1]⟩, .bool true]⟩)) := by kernel_rfl
theorem v24_1 (R : Value → Prop) : bodyQ Tryz.prog A29 noL Tryz.f24 [.string ⟨#[49, 50, 48, 48]⟩] (fun _ => none) 0 (fun v _ _ => R v) = (R (.tuple ⟨[.agg ⟨[.bool false, .string ⟨#[49, 50]⟩, .int .i64 (-2)]⟩, .bool true]⟩)) := by kernel_rfl
theorem v24_2 (R : Value → Prop) : bodyQ Tryz.prog A29 noL Tryz.f24 [.string ⟨#[49, 69, 49, 50, 51]⟩] (fun _ => none) 0 (fun v _ _ => R v) = (R (.tuple ⟨[.agg ⟨[.bool false, .string ⟨#[]⟩, .int .i64 0]⟩, .bool false]⟩)) := by kernel_rfl
theorem v24_3 (R : Value → Prop) : bodyQ Tryz.prog A29 noL Tryz.f24 [.string ⟨#[49, 50, 120]⟩] (fun _ => none) 0 (fun v _ _ => R v) = (R (.tuple ⟨[.agg ⟨[.bool false, .string ⟨#[]⟩, .int .i64 0]⟩, .bool false]⟩)) := by kernel_rfl
theorem pk24 : PureOK Tryz.prog 24 (memo m24) := pure_memo ok_A29 hmix fn24 lokf_none (by kernel_rfl) ⟨by rw [DoesQ, v24_0], by rw [DoesQ, v24_1], by rw [DoesQ, v24_2], by rw [DoesQ, v24_3], trivial⟩
def A30 : Env := A29.add 24 (memo m24)
theorem ok_A30 : EnvOK Tryz.prog A30 := env_add ok_A29 pk24
theorem fn222 : Fn1 Tryz.prog 222 Tryz.f222 := ⟨Tryz.func222, by kernel_rfl, by kernel_rfl, by kernel_rfl⟩
def m222 : List (List Value × Value) := [([.iface 178 (.string ⟨#[49, 50, 120]⟩)], .tuple ⟨[.agg ⟨[.bool false, .string ⟨#[]⟩, .int .i64 0]⟩, .iface 119 (.agg ⟨[.string ⟨#[49, 50, 120]⟩]⟩)]⟩), ([.iface 174 (.agg ⟨[.int .i64 123, .int .i64 1, .int .i64 3, .int .i64 1, .bool false, .string ⟨#[]⟩]⟩)], .tuple ⟨[.agg ⟨[.bool false, .string ⟨#[49, 50, 51]⟩, .int .i64 1]⟩, .nilIface]⟩), ([.iface 174 (.agg ⟨[.int .i64 1234, .int .i64 1, .int .i64 4, .int .i64 0, .bool false, .string ⟨#[]⟩]⟩)], .tuple ⟨[.agg ⟨[.bool false, .string ⟨#[49, 50, 51, 52]⟩, .int .i64 0]⟩, .nilIface]⟩)]
theorem v222_0 (R : Value → Prop) : bodyQ Tryz.prog A30 noL Tryz.f222 [.iface 178 (.string ⟨#[49, 50, 120]⟩)] (fun _ => none) 0 (fun v _ _ => R v) = (R (.tuple ⟨[.agg ⟨[.bool false, .string ⟨#[]⟩, .int .i64 0]⟩, .iface 119 (.agg ⟨[.string ⟨#[49, 50, 120]⟩]⟩)]⟩)) := by kernel_rfl
theorem v222_1 (R : Value → Prop) : bodyQ Tryz.prog A30 noL Tryz.f222 [.iface 174 (.agg ⟨[.int .i64 123, .int .i64 1, .int .i64 3, .int .i64 1, .bool false, .string ⟨#[]⟩]⟩)] (fun _ => none) 0 (fun v _ _ => R v) = (R (.tuple ⟨[.agg ⟨[.bool false, .string ⟨#[49, 50, 51]⟩, .int .i64 1]⟩, .nilIface]⟩)) := by kernel_rfl
theorem v222_2 (R : Value → Prop) : bodyQ Tryz.prog A30 noL Tryz.f222 [.iface 174 (.agg ⟨[.int .i64 1234, .int .i64 1, .int .i64 4, .int .i64 0, .bool false, .string ⟨#[]⟩]⟩)] (fun _ => none) 0 (fun v _ _ => R v) = (R (.tuple ⟨[.agg ⟨[.bool false, .string ⟨#[49, 50, 51, 52]⟩, .int .i64 0]⟩, .nilIface]⟩)) := by kernel_rfl
theorem pk222 : PureOK Tryz.prog 222 (memo m222) := pure_memo ok_A30 hmix fn222 lokf_none (by kernel_rfl) ⟨by rw [DoesQ, v222_0], by rw [DoesQ, v222_1], by rw [DoesQ, v222_2], trivial⟩
def A31 : Env := A30.add 222 (memo m222)
theorem ok_A31 : EnvOK Tryz.prog A31 := env_add ok_A30 pk222
theorem fn168 : Fn1 Tryz.prog 168 Tryz.f168 := ⟨Tryz.func168, by kernel_rfl, by kernel_rfl, by kernel_rfl⟩
def m168 : List (List Value × Value) := [([.iface 178 (.string ⟨#[49, 50, 120]⟩), .agg ⟨[.int .i64 1, .int .i64 3, .int .i64 0, .bool false, .string ⟨#[]⟩]⟩], .tuple ⟨[.agg ⟨[.int .i64 0, .string ⟨#[]⟩]⟩, .int .i64 0, .iface 119 (.agg ⟨[.string ⟨#[49, 50, 120]⟩]⟩)]⟩), ([.iface 174 (.agg ⟨[.int .i64 123, .int .i64 1, .int .i64 3, .int .i64 1, .bool false, .string ⟨#[]⟩]⟩), .agg ⟨[.int .i64 1, .int .i64 5, .int .i64 2, .bool false, .string ⟨#[]⟩]⟩], .tuple ⟨[.agg ⟨[.int .i64 1230, .string ⟨#[]⟩]⟩, .int .i64 0, .nilIface]⟩), ([.iface 174 (.agg ⟨[.int .i64 1234, .int .i64 1, .int .i64 4, .int .i64 0, .bool false, .string ⟨#[]⟩]⟩), .agg ⟨[.int .i64 1, .int .i64 3, .int .i64 0, .bool false, .string ⟨#[]⟩]⟩], .tuple ⟨[.agg ⟨[.int .i64 234, .string ⟨#[]⟩]⟩, .int .i64 1, .nilIface]⟩)]
theorem v168_0 (R : Value → Prop) : bodyQ Tryz.prog A31 noL Tryz.f168 [.iface 178 (.string ⟨#[49, 50, 120]⟩), .agg ⟨[.int .i64 1, .int .i64 3, .int .i64 0, .bool false, .string ⟨#[]⟩]⟩] (fun _ => none) 0 (fun v _ _ => R v) = (R (.tuple ⟨[.agg ⟨[.int .i64 0, .string ⟨#[]⟩]⟩, .int .i64 0, .iface 119 (.agg ⟨[.string ⟨#[49, 50, 120]⟩]⟩)]⟩)) := by kernel_rfl
theorem v168_1 (R : Value → Prop) : bodyQ Tryz.prog A31 noL Tryz.f168 [.iface 174 (.agg ⟨[.int .i64 123, .int .i64 1, .int .i64 3, .int .i64 1, .bool false, .string ⟨#[]⟩]⟩), .agg ⟨[.int .i64 1, .int .i64 5, .int .i64 2, .bool false, .string ⟨#[]⟩]⟩] (fun _ => none) 0 (fun v _ _ => R v) = (R (.tuple ⟨[.agg ⟨[.int .i64 1230, .string ⟨#[]⟩]⟩, .int .i64 0, .nilIface]⟩)) := by kernel_rfl
theorem v168_2 (R : Value → Prop) : bodyQ Tryz.prog A31 noL Tryz.f168 [.iface 174 (.agg ⟨[.int .i64 1234, .int .i64 1, .int .i64 4, .int .i64 0, .bool false, .string ⟨#[]⟩]⟩), .agg ⟨[.int .i64 1, .int .i64 3, .int .i64 0, .bool false, .string ⟨#[]⟩]⟩] (fun _ => none) 0 (fun v _ _ => R v) = (R (.tuple ⟨[.agg ⟨[.int .i64 234, .string ⟨#[]⟩]⟩, .int .i64 1, .nilIface]⟩)) := by kernel_rfl
theorem pk168 : PureOK Tryz.prog 168 (memo m168) := pure_memo ok_A31 hmix fn168 lokf_none (by kernel_rfl) ⟨by rw [DoesQ, v168_0], by rw [DoesQ, v168_1], by rw [DoesQ, v168_2], trivial⟩
def A32 : Env := A31.add 168 (memo m168)
theorem ok_A32 : EnvOK Tryz.prog A32 := env_add ok_A31 pk168
theorem fn115 : Fn1 Tryz.prog 115 Tryz.f115 := ⟨Tryz.func115, by kernel_rfl, by kernel_rfl, by kernel_rfl⟩
def m115 : List (List Value × Value) := [([.agg ⟨[.int .i64 2, .int .i64 15, .int .i64 0, .bool false, .string ⟨#[]⟩]⟩], .int .i64 15), ([.agg ⟨[.int .i64 1, .int .i64 3, .int .i64 0, .bool false, .string ⟨#[]⟩]⟩], .int .i64 10)]
theorem v115_0 (R : Value → Prop) : bodyQ Tryz.prog A32 noL Tryz.f115 [.agg ⟨[.int .i64 2, .int .i64 15, .int .i64 0, .bool false, .string ⟨#[]⟩]⟩] (fun _ => none) 0 (fun v _ _ => R v) = (R (.int .i64 15)) := by kernel_rfl
theorem v115_1 (R : Value → Prop) : bodyQ Tryz.prog A32 noL Tryz.f115 [.agg ⟨[.int .i64 1, .int .i64 3, .int .i64 0, .bool false, .string ⟨#[]⟩]⟩] (fun _ => none) 0 (fun v _ _ => R v) = (R (.int .i64 10)) := by kernel_rfl
theorem pk115 : PureOK Tryz.prog 115 (memo m115) := pure_memo ok_A32 hmix fn115 lokf_none (by kernel_rfl) ⟨by rw [DoesQ, v115_0], by rw [DoesQ, v115_1], trivial⟩
def A33 : Env := A32.add 115 (memo m115)
theorem ok_A33 : EnvOK Tryz.prog A33 := env_add ok_A32 pk115
theorem fn223 : Fn1 Tryz.prog 223 Tryz.f223 := ⟨Tryz.func223, by kernel_rfl, by kernel_rfl, by kernel_rfl⟩
def m223 : List (List Value × Value) := [([.int .i64 1, .int .i64 15], .string ⟨#[48, 48, 48, 48, 48, 48, 48, 48, 48, 48, 48, 48, 48, 48, 49]⟩)]
theorem v223_0 (R : Value → Prop) : bodyQ Tryz.prog A33 noL Tryz.f223 [.int .i64 1, .int .i64 15] (fun _ => none) 0 (fun v _ _ => R v) = (R (.string ⟨#[48, 48, 48, 48, 48, 48, 48, 48, 48, 48, 48, 48, 48, 48, 49]⟩)) := by kernel_rfl
theorem pk223 : PureOK Tryz.prog 223 (memo m223) := pure_memo ok_A33 hmix fn223 lokf_none (by kernel_rfl) ⟨by rw [DoesQ, v223_0], trivial⟩
def A34 : Env := A33.add 223 (memo m223)
theorem ok_A34 : EnvOK Tryz.prog A34 := env_add ok_A33 pk223
theorem fn169 : Fn1 Tryz.prog 169 Tryz.f169 := ⟨Tryz.func169, by kernel_rfl, by kernel_rfl, by kernel_rfl⟩
def m169 : List (List Value × Value) := [([.string ⟨#[48, 48, 48, 48, 48, 48, 48, 48, 48, 48, 48, 48, 48, 48, 49]⟩, .int .i64 1, .string ⟨#[48]⟩], .string ⟨#[48]⟩), ([.string ⟨#[49, 48, 49]⟩, .int .i64 5, .string ⟨#[32]⟩], .string ⟨#[49, 48, 49, 32, 32]⟩), ([.string ⟨#[97, 49, 49]⟩, .int .i64 3, .string ⟨#[32]⟩], .string ⟨#[97, 49, 49]⟩)]
theorem v169_0 (R : Value → Prop) : bodyQ Tryz.prog A34 noL Tryz.f169 [.string ⟨#[48, 48, 48, 48, 48, 48, 48, 48, 48, 48, 48, 48, 48, 48, 49]⟩, .int .i64 1, .string ⟨#[48]⟩] (fun _ => none) 0 (fun v _ _ => R v) = (R (.string ⟨#[48]⟩)) := by kernel_rfl
theorem v169_1 (R : Value → Prop) : bodyQ Tryz.prog A34 noL Tryz.f169 [.string ⟨#[49, 48, 49]⟩, .int .i64 5, .string ⟨#[32]⟩] (fun _ => none) 0 (fun v _ _ => R v) = (R (.string ⟨#[49, 48, 49, 32, 32]⟩)) := by kernel_rfl
theorem v169_2 (R : Value → Prop) : bodyQ Tryz.prog A34 noL Tryz.f169 [.string ⟨#[97, 49, 49]⟩, .int .i64 3, .string ⟨#[32]⟩] (fun _ => none) 0 (fun v _ _ => R v) = (R (.string ⟨#[97, 49, 49]⟩)) := by kernel_rfl
theorem pk169 : PureOK Tryz.prog 169 (memo m169) := pure_memo ok_A34 hmix fn169 lokf_none (by kernel_rfl) ⟨by rw [DoesQ, v169_0], by rw [DoesQ, v169_1], by rw [DoesQ, v169_2], trivial⟩
def A35 : Env := A34.add 169 (memo m169)
theorem ok_A35 : EnvOK Tryz.prog A35 := env_add ok_A34 pk169
theorem fn170 : Fn1 Tryz.prog 170 Tryz.f170 := ⟨Tryz.func170, by kernel_rfl, by kernel_rfl, by kernel_rfl⟩
def m170 : List (List Value × Value) := [([.iface 174 (.agg ⟨[.int .i64 1, .int .i64 2, .int .i64 15, .int .i64 0, .bool false, .string ⟨#[]⟩]⟩)], .tuple ⟨[.string ⟨#[48, 48, 48, 48, 48, 48, 48, 48, 48, 48, 48, 48, 48, 48, 49]⟩, .nilIface]⟩)]
theorem v170_0 (R : Value → Prop) : bodyQ Tryz.prog A35 noL Tryz.f170 [.iface 174 (.agg ⟨[.int .i64 1, .int .i64 2, .int .i64 15, .int .i64 0, .bool false, .string ⟨#[]⟩]⟩)] (fun _ => none) 0 (fun v _ _ => R v) = (R (.tuple ⟨[.string ⟨#[48, 48, 48, 48, 48, 48, 48, 48, 48, 48, 48, 48, 48, 48, 49]⟩, .nilIface]⟩)) := by kernel_rfl
theorem pk170 : PureOK Tryz.prog 170 (memo m170) := pure_memo ok_A35 hmix fn170 lokf_none (by kernel_rfl) ⟨by rw [DoesQ, v170_0], trivial⟩
def A36 : Env := A35.add 170 (memo m170)
theorem ok_A36 : EnvOK Tryz.prog A36 := env_add ok_A35 pk170
theorem fn99 : Fn1 Tryz.prog 99 Tryz.f99 := ⟨Tryz.func99, by kernel_rfl, by kernel_rfl, by kernel_rfl⟩
def m99 : List (List Value × Value) := [([.iface 178 (.string ⟨#[49, 50, 120]⟩), .agg ⟨[.int .i64 1, .int .i64 3, .int .i64 0, .bool false, .string ⟨#[]⟩]⟩], .tuple ⟨[.agg ⟨[.int .i64 0, .string ⟨#[]⟩]⟩, .int .i64 0, .iface 119 (.agg ⟨[.string ⟨#[49, 50, 120]⟩]⟩)]⟩), ([.iface 174 (.agg ⟨[.int .i64 1, .int .i64 2, .int .i64 15, .int .i64 0, .bool false, .string ⟨#[]⟩]⟩), .agg ⟨[.int .i64 4, .int .i64 1, .int .i64 0, .bool false, .string ⟨#[]⟩]⟩], .tuple ⟨[.agg ⟨[.int .i64 0, .string ⟨#[48]⟩]⟩, .int .i64 0, .nilIface]⟩), ([.iface 175 (.string ⟨#[49, 48, 49]⟩), .agg ⟨[.int .i64 3, .int .i64 5, .int .i64 0, .bool false, .string ⟨#[]⟩]⟩], .tuple ⟨[.agg ⟨[.int .i64 0, .string ⟨#[49, 48, 49, 32, 32]⟩]⟩, .int .i64 0, .nilIface]⟩), ([.iface 174 (.agg ⟨[.int .i64 123, .int .i64 1, .int .i64 3, .int .i64 1, .bool false, .string ⟨#[]⟩]⟩), .agg ⟨[.int .i64 5, .int .i64 0, .int .i64 0, .bool false, .string ⟨#[90, 90, 57, 86, 46, 57, 57]⟩]⟩], .tuple ⟨[.agg ⟨[.int .i64 0, .string ⟨#[32, 49, 50, 46, 51, 48]⟩]⟩, .int .i64 0, .nilIface]⟩), ([.iface 174 (.agg ⟨[.int .i64 1234, .int .i64 1, .int .i64 4, .int .i64 0, .bool false, .string ⟨#[]⟩]⟩), .agg ⟨[.int .i64 5, .int .i64 0, .int .i64 0, .bool false, .string ⟨#[57, 57, 57]⟩]⟩], .tuple ⟨[.agg ⟨[.int .i64 0, .string ⟨#[50, 51, 52]⟩]⟩, .int .i64 1, .nilIface]⟩), ([.iface 178 (.string ⟨#[97, 49, 49]⟩), .agg ⟨[.int .i64 5, .int .i64 0, .int .i64 0, .bool false, .string ⟨#[65, 65, 57]⟩]⟩], .tuple ⟨[.agg ⟨[.int .i64 0, .string ⟨#[]⟩]⟩, .int .i64 0, .iface 119 (.agg ⟨[.string ⟨#[97, 49, 49]⟩]⟩)]⟩)]
theorem v99_0 (R : Value → Prop) : bodyQ Tryz.prog A36 noL Tryz.f99 [.iface 178 (.string ⟨#[49, 50, 120]⟩), .agg ⟨[.int .i64 1, .int .i64 3, .int .i64 0, .bool false, .string ⟨#[]⟩]⟩] (fun _ => none) 0 (fun v _ _ => R v) = (R (.tuple ⟨[.agg ⟨[.int .i64 0, .string ⟨#[]⟩]⟩, .int .i64 0, .iface 119 (.agg ⟨[.string ⟨#[49, 50, 120]⟩]⟩)]⟩)) := by kernel_rfl
theorem v99_1 (R : Value → Prop) : bodyQ Tryz.prog A36 noL Tryz.f99 [.iface 174 (.agg ⟨[.int .i64 1, .int .i64 2, .int .i64 15, .int .i64 0, .bool false, .string ⟨#[]⟩]⟩), .agg ⟨[.int .i64 4, .int .i64 1, .int .i64 0, .bool false, .string ⟨#[]⟩]⟩] (fun _ => none) 0 (fun v _ _ => R v) = (R (.tuple ⟨[.agg ⟨[.int .i64 0, .string ⟨#[48]⟩]⟩, .int .i64 0, .nilIface]⟩)) := by kernel_rfl
theorem v99_2 (R : Value → Prop) : bodyQ Tryz.prog A36 noL Tryz.f99 [.iface 175 (.string ⟨#[49, 48, 49]⟩), .agg ⟨[.int .i64 3, .int .i64 5, .int .i64 0, .bool false, .string ⟨#[]⟩]⟩] (fun _ => none) 0 (fun v _ _ => R v) = (R (.tuple ⟨[.agg ⟨[.int .i64 0, .string ⟨#[49, 48, 49, 32, 32]⟩]⟩, .int .i64 0, .nilIface]⟩)) := by kernel_rfl
theorem v99_3 (R : Value → Prop) : bodyQ Tryz.prog A36 noL Tryz.f99 [.iface 174 (.agg ⟨[.int .i64 123, .int .i64 1, .int .i64 3, .int .i64 1, .bool false, .string ⟨#[]⟩]⟩), .agg ⟨[.int .i64 5, .int .i64 0, .int .i64 0, .bool false, .string ⟨#[90, 90, 57, 86, 46, 57, 57]⟩]⟩] (fun _ => none) 0 (fun v _ _ => R v) = (R (.tuple ⟨[.agg ⟨[.int .i64 0, .string ⟨#[32, 49, 50, 46, 51, 48]⟩]⟩, .int .i64 0, .nilIface]⟩)) := by kernel_rfl
theorem v99_4 (R : Value → Prop) : bodyQ Tryz.prog A36 noL Tryz.f99 [.iface 174 (.agg ⟨[.int .i64 1234, .int .i64 1, .int .i64 4, .int .i64 0, .bool false, .string ⟨#[]⟩]⟩), .agg ⟨[.int .i64 5, .int .i64 0, .int .i64 0, .bool false, .string ⟨#[57, 57, 57]⟩]⟩] (fun _ => none) 0 (fun v _ _ => R v) = (R (.tuple ⟨[.agg ⟨[.int .i64 0, .string ⟨#[50, 51, 52]⟩]⟩, .int .i64 1, .nilIface]⟩)) := by kernel_rfl
theorem v99_5 (R : Value → Prop) : bodyQ Tryz.prog A36 noL Tryz.f99 [.iface 178 (.string ⟨#[97, 49, 49]⟩), .agg ⟨[.int .i64 5, .int .i64 0, .int .i64 0, .bool false, .string ⟨#[65, 65, 57]⟩]⟩] (fun _ => none) 0 (fun v _ _ => R v) = (R (.tuple ⟨[.agg ⟨[.int .i64 0, .string ⟨#[]⟩]⟩, .int .i64 0, .iface 119 (.agg ⟨[.string ⟨#[97, 49, 49]⟩]⟩)]⟩) ∧ R (.tuple ⟨[.agg ⟨[.int .i64 0, .string ⟨#[]⟩]⟩, .int .i64 0, .iface 119 (.agg ⟨[.string ⟨#[97, 49, 49]⟩]⟩)]⟩) ∧ R (.tuple ⟨[.agg ⟨[.int .i64 0, .string ⟨#[]⟩]⟩, .int .i64 0, .iface 119 (.agg ⟨[.string ⟨#[97, 49, 49]⟩]⟩)]⟩)) := by kernel_rfl
theorem pk99 : PureOK Tryz.prog 99 (memo m99) := pure_memo ok_A36 hmix fn99 lokf_none (by kernel_rfl) ⟨by rw [DoesQ, v99_0], by rw [DoesQ, v99_1], by rw [DoesQ, v99_2], by rw [DoesQ, v99_3], by rw [DoesQ, v99_4], by rw [DoesQ, v99_5]; exact ⟨rfl, rfl, rfl⟩, trivial⟩
def A37 : Env := A36.add 99 (memo m99)
theorem ok_A37 : EnvOK Tryz.prog A37 := env_add ok_A36 pk99
theorem fn101 : Fn1 Tryz.prog 101 Tryz.f101 := ⟨Tryz.func101, by kernel_rfl, by kernel_rfl, by kernel_rfl⟩
def m101 : List (List Value × Value) := [([.agg ⟨[.int .i64 1, .int .i64 3, .int .i64 0, .bool false, .string ⟨#[]⟩]⟩], .agg ⟨[.int .i64 0, .string ⟨#[]⟩]⟩), ([.agg ⟨[.int .i64 5, .int .i64 0, .int .i64 0, .bool false, .string ⟨#[65, 65, 57]⟩]⟩], .agg ⟨[.int .i64 0, .string ⟨#[32, 32, 32]⟩]⟩)]
theorem v101_0 (R : Value → Prop) : bodyQ Tryz.prog A37 noL Tryz.f101 [.agg ⟨[.int .i64 1, .int .i64 3, .int .i64 0, .bool false, .string ⟨#[]⟩]⟩] (fun _ => none) 0 (fun v _ _ => R v) = (R (.agg ⟨[.int .i64 0, .string ⟨#[]⟩]⟩)) := by kernel_rfl
theorem v101_1 (R : Value → Prop) : bodyQ Tryz.prog A37 noL Tryz.f101 [.agg ⟨[.int .i64 5, .int .i64 0, .int .i64 0, .bool false, .string ⟨#[65, 65, 57]⟩]⟩] (fun _ => none) 0 (fun v _ _ => R v) = (R (.agg ⟨[.int .i64 0, .string ⟨#[32, 32, 32]⟩]⟩)) := by kernel_rfl
theorem pk101 : PureOK Tryz.prog 101 (memo m101) := pure_memo ok_A37 hmix fn101 lokf_none (by kernel_rfl) ⟨by rw [DoesQ, v101_0], by rw [DoesQ, v101_1], trivial⟩
def A38 : Env := A37.add 101 (memo m101)
theorem ok_A38 : EnvOK Tryz.prog A38 := env_add ok_A37 pk101
theorem fn34 : Fn1 Tryz.prog 34 Tryz.f34 := ⟨Tryz.func34, by kernel_rfl, by kernel_rfl, by kernel_rfl⟩
def m34 : List (List Value × Value) := [([.agg ⟨[.int .i64 0, .string ⟨#[49, 50, 120]⟩]⟩, .agg ⟨[.int .i64 3, .int .i64 3, .int .i64 0, .bool false, .string ⟨#[]⟩]⟩, .agg ⟨[.int .i64 1, .int .i64 3, .int .i64 0, .bool false, .string ⟨#[]⟩]⟩], .tuple ⟨[.agg ⟨[.int .i64 0, .string ⟨#[]⟩]⟩, .int .i64 4, .int .i64 0]⟩), ([.agg ⟨[.int .i64 1, .string ⟨#[]⟩]⟩, .agg ⟨[.int .i64 2, .int .i64 15, .int .i64 0, .bool false, .string ⟨#[]⟩]⟩, .agg ⟨[.int .i64 4, .int .i64 1, .int .i64 0, .bool false, .string ⟨#[]⟩]⟩], .tuple ⟨[.agg ⟨[.int .i64 0, .string ⟨#[48]⟩]⟩, .int .i64 0, .int .i64 0]⟩), ([.agg ⟨[.int .i64 0, .string ⟨#[49, 48, 49]⟩]⟩, .agg ⟨[.int .i64 4, .int .i64 3, .int .i64 0, .bool false, .string ⟨#[]⟩]⟩, .agg ⟨[.int .i64 3, .int .i64 5, .int .i64 0, .bool false, .string ⟨#[]⟩]⟩], .tuple ⟨[.agg ⟨[.int .i64 0, .string ⟨#[49, 48, 49, 32, 32]⟩]⟩, .int .i64 0, .int .i64 0]⟩), ([.agg ⟨[.int .i64 123, .string ⟨#[]⟩]⟩, .agg ⟨[.int .i64 1, .int .i64 3, .int .i64 1, .bool false, .string ⟨#[]⟩]⟩, .agg ⟨[.int .i64 5, .int .i64 0, .int .i64 0, .bool false, .string ⟨#[90, 90, 57, 86, 46, 57, 57]⟩]⟩], .tuple ⟨[.agg ⟨[.int .i64 0, .string ⟨#[32, 49, 50, 46, 51, 48]⟩]⟩, .int .i64 0, .int .i64 0]⟩), ([.agg ⟨[.int .i64 1234, .string ⟨#[]⟩]⟩, .agg ⟨[.int .i64 1, .int .i64 4, .int .i64 0, .bool false, .string ⟨#[]⟩]⟩, .agg ⟨[.int .i64 5, .int .i64 0, .int .i64 0, .bool false, .string ⟨#[57, 57, 57]⟩]⟩], .tuple ⟨[.agg ⟨[.int .i64 0, .string ⟨#[50, 51, 52]⟩]⟩, .int .i64 1, .int .i64 0]⟩), ([.agg ⟨[.int .i64 0, .string ⟨#[97, 49, 49]⟩]⟩, .agg ⟨[.int .i64 3, .int .i64 3, .int .i64 0, .bool false, .string ⟨#[]⟩]⟩, .agg ⟨[.int .i64 5, .int .i64 0, .int .i64 0, .bool false, .string ⟨#[65, 65, 57]⟩]⟩], .tuple ⟨[.agg ⟨[.int .i64 0, .string ⟨#[32, 32, 32]⟩]⟩, .int .i64 4, .int .i64 0]⟩)]
theorem v34_0 (R : Value → Prop) : bodyQ Tryz.prog A38 noL Tryz.f34 [.agg ⟨[.int .i64 0, .string ⟨#[49, 50, 120]⟩]⟩, .agg ⟨[.int .i64 3, .int .i64 3, .int .i64 0, .bool false, .string ⟨#[]⟩]⟩, .agg ⟨[.int .i64 1, .int .i64 3, .int .i64 0, .bool false, .string ⟨#[]⟩]⟩] (fun _ => none) 0 (fun v _ _ => R v) = (R (.tuple ⟨[.agg ⟨[.int .i64 0, .string ⟨#[]⟩]⟩, .int .i64 4, .int .i64 0]⟩)) := by kernel_rfl
theorem v34_1 (R : Value → Prop) : bodyQ Tryz.prog A38 noL Tryz.f34 [.agg ⟨[.int .i64 1, .string ⟨#[]⟩]⟩, .agg ⟨[.int .i64 2, .int .i64 15, .int .i64 0, .bool false, .string ⟨#[]⟩]⟩, .agg ⟨[.int .i64 4, .int .i64 1, .int .i64 0, .bool false, .string ⟨#[]⟩]⟩] (fun _ => none) 0 (fun v _ _ => R v) = (R (.tuple ⟨[.agg ⟨[.int .i64 0, .string ⟨#[48]⟩]⟩, .int .i64 0, .int .i64 0]⟩)) := by kernel_rfl
theorem v34_2 (R : Value → Prop) : bodyQ Tryz.prog A38 noL Tryz.f34 [.agg ⟨[.int .i64 0, .string ⟨#[49, 48, 49]⟩]⟩, .agg ⟨[.int .i64 4, .int .i64 3, .int .i64 0, .bool false, .string ⟨#[]⟩]⟩, .agg ⟨[.int .i64 3, .int .i64 5, .int .i64 0, .bool false, .string ⟨#[]⟩]⟩] (fun _ => none) 0 (fun v _ _ => R v) = (R (.tuple ⟨[.agg ⟨[.int .i64 0, .string ⟨#[49, 48, 49, 32, 32]⟩]⟩, .int .i64 0, .int .i64 0]⟩)) := by kernel_rfl
theorem v34_3 (R : Value → Prop) : bodyQ Tryz.prog A38 noL Tryz.f34 [.agg ⟨[.int .i64 123, .string ⟨#[]⟩]⟩, .agg ⟨[.int .i64 1, .int .i64 3, .int .i64 1, .bool false, .string ⟨#[]⟩]⟩, .agg ⟨[.int .i64 5, .int .i64 0, .int .i64 0, .bool false, .string ⟨#[90, 90, 57, 86, 46, 57, 57]⟩]⟩] (fun _ => none) 0 (fun v _ _ => R v) = (R (.tuple ⟨[.agg ⟨[.int .i64 0, .string ⟨#[32, 49, 50, 46, 51, 48]⟩]⟩, .int .i64 0, .int .i64 0]⟩)) := by kernel_rfl
theorem v34_4 (R : Value → Prop) : bodyQ Tryz.prog A38 noL Tryz.f34 [.agg ⟨[.int .i64 1234, .string ⟨#[]⟩]⟩, .agg ⟨[.int .i64 1, .int .i64 4, .int .i64 0, .bool false, .string ⟨#[]⟩]⟩, .agg ⟨[.int .i64 5, .int .i64 0, .int .i64 0, .bool false, .string ⟨#[57, 57, 57]⟩]⟩] (fun _ => none) 0 (fun v _ _ => R v) = (R (.tuple ⟨[.agg ⟨[.int .i64 0, .string ⟨#[50, 51, 52]⟩]⟩, .int .i64 1, .int .i64 0]⟩)) := by kernel_rfl
theorem v34_5 (R : Value → Prop) : bodyQ Tryz.prog A38 noL Tryz.f34 [.agg ⟨[.int .i64 0, .string ⟨#[97, 49, 49]⟩]⟩, .agg ⟨[.int .i64 3, .int .i64 3, .int .i64 0, .bool false, .string ⟨#[]⟩]⟩, .agg ⟨[.int .i64 5, .int .i64 0, .int .i64 0, .bool false, .string ⟨#[65, 65, 57]⟩]⟩] (fun _ => none) 0 (fun v _ _ => R v) = (R (.tuple ⟨[.agg ⟨[.int .i64 0, .string ⟨#[32, 32, 32]⟩]⟩, .int .i64 4, .int .i64 0]⟩)) := by kernel_rfl
theorem pk34 : PureOK Tryz.prog 34 (memo m34) := pure_memo ok_A38 hmix fn34 lokf_none (by kernel_rfl) ⟨by rw [DoesQ, v34_0], by rw [DoesQ, v34_1], by rw [DoesQ, v34_2], by rw [DoesQ, v34_3], by rw [DoesQ, v34_4], by rw [DoesQ, v34_5], trivial⟩
def A39 : Env := A38.add 34 (memo m34)
theorem ok_A39 : EnvOK Tryz.prog A39 := env_add ok_A38 pk34
theorem fn48 : Fn1 Tryz.prog 48 Tryz.f48 := ⟨Tryz.func48, by kernel_rfl, by kernel_rfl, by kernel_rfl⟩
def m48 : List (List Value × Value) := [([.agg ⟨[.int .i64 0, .string ⟨#[49, 50, 120]⟩]⟩, .agg ⟨[.int .i64 3, .int .i64 3, .int .i64 0, .bool false, .string ⟨#[]⟩]⟩, .agg ⟨[.int .i64 1, .int .i64 3, .int .i64 0, .bool false, .string ⟨#[]⟩]⟩, .agg ⟨[.int .i64 0, .string ⟨#[]⟩]⟩, .int .i64 4], .bool true), ([.agg ⟨[.int .i64 1, .string ⟨#[]⟩]⟩, .agg ⟨[.int .i64 2, .int .i64 15, .int .i64 0, .bool false, .string ⟨#[]⟩]⟩, .agg ⟨[.int .i64 4, .int .i64 1, .int .i64 0, .bool false, .string ⟨#[]⟩]⟩, .agg ⟨[.int .i64 0, .string ⟨#[48]⟩]⟩, .int .i64 0], .bool true), ([.agg ⟨[.int .i64 0, .string ⟨#[49, 48, 49]⟩]⟩, .agg ⟨[.int .i64 4, .int .i64 3, .int .i64 0, .bool false, .string ⟨#[]⟩]⟩, .agg ⟨[.int .i64 3, .int .i64 5, .int .i64 0, .bool false, .string ⟨#[]⟩]⟩, .agg ⟨[.int .i64 0, .string ⟨#[49, 48, 49, 32, 32]⟩]⟩, .int .i64 0], .bool true), ([.agg ⟨[.int .i64 123, .string ⟨#[]⟩]⟩, .agg ⟨[.int .i64 1, .int .i64 3, .int .i64 1, .bool false, .string ⟨#[]⟩]⟩, .agg ⟨[.int .i64 5, .int .i64 0, .int .i64 0, .bool false, .string ⟨#[90, 90, 57, 86, 46, 57, 57]⟩]⟩, .agg ⟨[.int .i64 0, .string ⟨#[32, 49, 50, 46, 51, 48]⟩]⟩, .int .i64 0], .bool true), ([.agg ⟨[.int .i64 1234, .string ⟨#[]⟩]⟩, .agg ⟨[.int .i64 1, .int .i64 4, .int .i64 0, .bool false, .string ⟨#[]⟩]⟩, .agg ⟨[.int .i64 5, .int .i64 0, .int .i64 0, .bool false, .string ⟨#[57, 57, 57]⟩]⟩, .agg ⟨[.int .i64 0, .string ⟨#[50, 51, 52]⟩]⟩, .int .i64 1], .bool true), ([.agg ⟨[.int .i64 0, .string ⟨#[97, 49, 49]⟩]⟩, .agg ⟨[.int .i64 3, .int .i64 3, .int .i64 0, .bool false, .string ⟨#[]⟩]⟩, .agg ⟨[.int .i64 5, .int .i64 0, .int .i64 0, .bool false, .string ⟨#[65, 65, 57]⟩]⟩, .agg ⟨[.int .i64 0, .string ⟨#[32, 32, 32]⟩]⟩, .int .i64 4], .bool true)]
theorem v48_0 (R : Value → Prop) : bodyQ Tryz.prog A39 noL Tryz.f48 [.agg ⟨[.int .i64 0, .string ⟨#[49, 50, 120]⟩]⟩, .agg ⟨[.int .i64 3, .int .i64 3, .int .i64 0, .bool false, .string ⟨#[]⟩]⟩, .agg ⟨[.int .i64 1, .int .i64 3, .int .i64 0, .bool false, .string ⟨#[]⟩]⟩, .agg ⟨[.int .i64 0, .string ⟨#[]⟩]⟩, .int .i64 4] (fun _ => none) 0 (fun v _ _ => R v) = (R (.bool true)) := by kernel_rfl
theorem v48_1 (R : Value → Prop) : bodyQ Tryz.prog A39 noL Tryz.f48 [.agg ⟨[.int .i64 1, .string ⟨#[]⟩]⟩, .agg ⟨[.int .i64 2, .int .i64 15, .int .i64 0, .bool false, .string ⟨#[]⟩]⟩, .agg ⟨[.int .i64 4, .int .i64 1, .int .i64 0, .bool false, .string ⟨#[]⟩]⟩, .agg ⟨[.int .i64 0, .string ⟨#[48]⟩]⟩, .int .i64 0] (fun _ => none) 0 (fun v _ _ => R v) = (R (.bool true)) := by kernel_rfl
theorem v48_2 (R : Value → Prop) : bodyQ Tryz.prog A39 noL Tryz.f48 [.agg ⟨[.int .i64 0, .string ⟨#[49, 48, 49]⟩]⟩, .agg ⟨[.int .i64 4, .int .i64 3, .int .i64 0, .bool false, .string ⟨#[]⟩]⟩, .agg ⟨[.int .i64 3, .int .i64 5, .int .i64 0, .bool false, .string ⟨#[]⟩]⟩, .agg ⟨[.int .i64 0, .string ⟨#[49, 48, 49, 32, 32]⟩]⟩, .int .i64 0] (fun _ => none) 0 (fun v _ _ => R v) = (R (.bool true)) := by kernel_rfl
theorem v48_3 (R : Value → Prop) : bodyQ Tryz.prog A39 noL Tryz.f48 [.agg ⟨[.int .i64 123, .string ⟨#[]⟩]⟩, .agg ⟨[.int .i64 1, .int .i64 3, .int .i64 1, .bool false, .string ⟨#[]⟩]⟩, .agg ⟨[.int .i64 5, .int .i64 0, .int .i64 0, .bool false, .string ⟨#[90, 90, 57, 86, 46, 57, 57]⟩]⟩, .agg ⟨[.int .i64 0, .string ⟨#[32, 49, 50, 46, 51, 48]⟩]⟩, .int .i64 0] (fun _ => none) 0 (fun v _ _ => R v) = (R (.bool true)) := by kernel_rfl
theorem v48_4 (R : Value → Prop) : bodyQ Tryz.prog A39 noL Tryz.f48 [.agg ⟨[.int .i64 1234, .string ⟨#[]⟩]⟩, .agg ⟨[.int .i64 1, .int .i64 4, .int .i64 0, .bool false, .string ⟨#[]⟩]⟩, .agg ⟨[.int .i64 5, .int .i64 0, .int .i64 0, .bool false, .string ⟨#[57, 57, 57]⟩]⟩, .agg ⟨[.int .i64 0, .string ⟨#[50, 51, 52]⟩]⟩, .int .i64 1] (fun _ => none) 0 (fun v _ _ => R v) = (R (.bool true)) := by kernel_rfl
theorem v48_5 (R : Value → Prop) : bodyQ Tryz.prog A39 noL Tryz.f48 [.agg ⟨[.int .i64 0, .string ⟨#[97, 49, 49]⟩]⟩, .agg ⟨[.int .i64 3, .int .i64 3, .int .i64 0, .bool false, .string ⟨#[]⟩]⟩, .agg ⟨[.int .i64 5, .int .i64 0, .int .i64 0, .bool false, .string ⟨#[65, 65, 57]⟩]⟩, .agg ⟨[.int .i64 0, .string ⟨#[32, 32, 32]⟩]⟩, .int .i64 4] (fun _ => none) 0 (fun v _ _ => R v) = (R (.bool true)) := by kernel_rfl
theorem pk48 : PureOK Tryz.prog 48 (memo m48) := pure_memo ok_A39 hmix fn48 lokf_none (by kernel_rfl) ⟨by rw [DoesQ, v48_0], by rw [DoesQ, v48_1], by rw [DoesQ, v48_2], by rw [DoesQ, v48_3], by rw [DoesQ, v48_4], by rw [DoesQ, v48_5], trivial⟩
def A40 : Env := A39.add 48 (memo m48)
theorem ok_A40 : EnvOK Tryz.prog A40 := env_add ok_A39 pk48
theorem fn108 : Fn1 Tryz.prog 108 Tryz.f108 := ⟨Tryz.func108, by kernel_rfl, by kernel_rfl, by kernel_rfl⟩
def m108 : List (List Value × Value) := [([.agg ⟨[.int .i64 4, .int .i64 3, .int .i64 0, .bool false, .string ⟨#[]⟩]⟩], .int .i64 0), ([.agg ⟨[.int .i64 1, .int .i64 3, .int .i64 1, .bool false, .string ⟨#[]⟩]⟩], .int .i64 0), ([.agg ⟨[.int .i64 1, .int .i64 3, .int .i64 0, .bool false, .string ⟨#[]⟩]⟩], .int .i64 0), ([.agg ⟨[.int .i64 2, .int .i64 15, .int .i64 0, .bool false, .string ⟨#[]⟩]⟩], .int .i64 0)]
theorem v108_0 (R : Value → Prop) : bodyQ Tryz.prog A40 noL Tryz.f108 [.agg ⟨[.int .i64 4, .int .i64 3, .int .i64 0, .bool false, .string ⟨#[]⟩]⟩] (fun _ => none) 0 (fun v _ _ => R v) = (R (.int .i64 0)) := by kernel_rfl
theorem v108_1 (R : Value → Prop) : bodyQ Tryz.prog A40 noL Tryz.f108 [.agg ⟨[.int .i64 1, .int .i64 3, .int .i64 1, .bool false, .string ⟨#[]⟩]⟩] (fun _ => none) 0 (fun v _ _ => R v) = (R (.int .i64 0)) := by kernel_rfl
theorem v108_2 (R : Value → Prop) : bodyQ Tryz.prog A40 noL Tryz.f108 [.agg ⟨[.int .i64 1, .int .i64 3, .int .i64 0, .bool false, .string ⟨#[]⟩]⟩] (fun _ => none) 0 (fun v _ _ => R v) = (R (.int .i64 0)) := by kernel_rfl
theorem v108_3 (R : Value → Prop) : bodyQ Tryz.prog A40 noL Tryz.f108 [.agg ⟨[.int .i64 2, .int .i64 15, .int .i64 0, .bool false, .string ⟨#[]⟩]⟩] (fun _ => none) 0 (fun v _ _ => R v) = (R (.int .i64 0)) := by kernel_rfl
theorem pk108 : PureOK Tryz.prog 108 (memo m108) := pure_memo ok_A40 hmix fn108 lokf_none (by kernel_rfl) ⟨by rw [DoesQ, v108_0], by rw [DoesQ, v108_1], by rw [DoesQ, v108_2], by rw [DoesQ, v108_3], trivial⟩
def A41 : Env := A40.add 108 (memo m108)
theorem ok_A41 : EnvOK Tryz.prog A41 := env_add ok_A40 pk108
theorem fn38 : Fn1 Tryz.prog 38 Tryz.f38 := ⟨Tryz.func38, by kernel_rfl, by kernel_rfl, by kernel_rfl⟩
def m38 : List (List Value × Value) := [([.agg ⟨[.int .i64 4, .int .i64 3, .int .i64 0, .bool false, .string ⟨#[]⟩]⟩], .tuple ⟨[.agg ⟨[.int .i64 2, .int .i64 31, .int .i64 0, .bool false, .string ⟨#[]⟩]⟩, .int .i64 0]⟩), ([.agg ⟨[.int .i64 1, .int .i64 3, .int .i64 1, .bool false, .string ⟨#[]⟩]⟩], .tuple ⟨[.agg ⟨[.int .i64 1, .int .i64 3, .int .i64 1, .bool false, .string ⟨#[]⟩]⟩, .int .i64 0]⟩), ([.agg ⟨[.int .i64 2, .int .i64 15, .int .i64 0, .bool false, .string ⟨#[]⟩]⟩], .tuple ⟨[.agg ⟨[.int .i64 2, .int .i64 15, .int .i64 0, .bool false, .string ⟨#[]⟩]⟩, .int .i64 0]⟩)]
theorem v38_0 (R : Value → Prop) : bodyQ Tryz.prog A41 noL Tryz.f38 [.agg ⟨[.int .i64 4, .int .i64 3, .int .i64 0, .bool false, .string ⟨#[]⟩]⟩] (fun _ => none) 0 (fun v _ _ => R v) = (R (.tuple ⟨[.agg ⟨[.int .i64 2, .int .i64 31, .int .i64 0, .bool false, .string ⟨#[]⟩]⟩, .int .i64 0]⟩)) := by kernel_rfl
theorem v38_1 (R : Value → Prop) : bodyQ Tryz.prog A41 noL Tryz.f38 [.agg ⟨[.int .i64 1, .int .i64 3, .int .i64 1, .bool false, .string ⟨#[]⟩]⟩] (fun _ => none) 0 (fun v _ _ => R v) = (R (.tuple ⟨[.agg ⟨[.int .i64 1, .int .i64 3, .int .i64 1, .bool false, .string ⟨#[]⟩]⟩, .int .i64 0]⟩)) := by kernel_rfl
theorem v38_2 (R : Value → Prop) : bodyQ Tryz.prog A41 noL Tryz.f38 [.agg ⟨[.int .i64 2, .int .i64 15, .int .i64 0, .bool false, .string ⟨#[]⟩]⟩] (fun _ => none) 0 (fun v _ _ => R v) = (R (.tuple ⟨[.agg ⟨[.int .i64 2, .int .i64 15, .int .i64 0, .bool false, .string ⟨#[]⟩]⟩, .int .i64 0]⟩)) := by kernel_rfl
theorem pk38 : PureOK Tryz.prog 38 (memo m38) := pure_memo ok_A41 hmix fn38 lokf_none (by kernel_rfl) ⟨by rw [DoesQ, v38_0], by rw [DoesQ, v38_1], by rw [DoesQ, v38_2], trivial⟩
def A42 : Env := A41.add 38 (memo m38)
theorem ok_A42 : EnvOK Tryz.prog A42 := env_add ok_A41 pk38
theorem fn40 : Fn1 Tryz.prog 40 Tryz.f40 := ⟨Tryz.func40, by kernel_rfl, by kernel_rfl, by kernel_rfl⟩
def m40 : List (List Value × Value) := [([.agg ⟨[.int .i64 1, .int .i64 3, .int .i64 1, .bool false, .string ⟨#[]⟩]⟩], .tuple ⟨[.agg ⟨[.int .i64 3, .int .i64 6, .int .i64 0, .bool false, .string ⟨#[]⟩]⟩, .int .i64 0]⟩)]
theorem v40_0 (R : Value → Prop) : bodyQ Tryz.prog A42 noL Tryz.f40 [.agg ⟨[.int .i64 1, .int .i64 3, .int .i64 1, .bool false, .string ⟨#[]⟩]⟩] (fun _ => none) 0 (fun v _ _ => R v) = (R (.tuple ⟨[.agg ⟨[.int .i64 3, .int .i64 6, .int .i64 0, .bool false, .string ⟨#[]⟩]⟩, .int .i64 0]⟩)) := by kernel_rfl
theorem pk40 : PureOK Tryz.prog 40 (memo m40) := pure_memo ok_A42 hmix fn40 lokf_none (by kernel_rfl) ⟨by rw [DoesQ, v40_0], trivial⟩
def A43 : Env := A42.add 40 (memo m40)
theorem ok_A43 : EnvOK Tryz.prog A43 := env_add ok_A42 pk40
theorem fn42 : Fn1 Tryz.prog 42 Tryz.f42 := ⟨Tryz.func42, by kernel_rfl, by kernel_rfl, by kernel_rfl⟩
def m42 : List (List Value × Value) := [([.agg ⟨[.int .i64 1, .int .i64 3, .int .i64 0, .bool false, .string ⟨#[]⟩]⟩], .tuple ⟨[.agg ⟨[.int .i64 4, .int .i64 10, .int .i64 0, .bool false, .string ⟨#[]⟩]⟩, .int .i64 0]⟩)]
theorem v42_0 (R : Value → Prop) : bodyQ Tryz.prog A43 noL Tryz.f42 [.agg ⟨[.int .i64 1, .int .i64 3, .int .i64 0, .bool false, .string ⟨#[]⟩]⟩] (fun _ => none) 0 (fun v _ _ => R v) = (R (.tuple ⟨[.agg ⟨[.int .i64 4, .int .i64 10, .int .i64 0, .bool false, .string ⟨#[]⟩]⟩, .int .i64 0]⟩)) := by kernel_rfl
theorem pk42 : PureOK Tryz.prog 42 (memo m42) := pure_memo ok_A43 hmix fn42 lokf_none (by kernel_rfl) ⟨by rw [DoesQ, v42_0], trivial⟩
def A44 : Env := A43.add 42 (memo m42)
theorem ok_A44 : EnvOK Tryz.prog A44 := env_add ok_A43 pk42
theorem fn117 : Fn1 Tryz.prog 117 Tryz.f117 := ⟨Tryz.func117, by kernel_rfl, by kernel_rfl, by kernel_rfl⟩
def m117 : List (List Value × Value) := [([.agg ⟨[.int .i64 1, .int .i64 3, .int .i64 1, .bool false, .string ⟨#[]⟩]⟩], .tuple ⟨[.agg ⟨[.int .i64 2, .int .i64 11, .int .i64 0, .bool false, .string ⟨#[]⟩]⟩, .int .i64 0]⟩)]
theorem v117_0 (R : Value → Prop) : bodyQ Tryz.prog A44 noL Tryz.f117 [.agg ⟨[.int .i64 1, .int .i64 3, .int .i64 1, .bool false, .string ⟨#[]⟩]⟩] (fun _ => none) 0 (fun v _ _ => R v) = (R (.tuple ⟨[.agg ⟨[.int .i64 2, .int .i64 11, .int .i64 0, .bool false, .string ⟨#[]⟩]⟩, .int .i64 0]⟩)) := by kernel_rfl
theorem pk117 : PureOK Tryz.prog 117 (memo m117) := pure_memo ok_A44 hmix fn117 lokf_none (by kernel_rfl) ⟨by rw [DoesQ, v117_0], trivial⟩
def A45 : Env := A44.add 117 (memo m117)
theorem ok_A45 : EnvOK Tryz.prog A45 := env_add ok_A44 pk117
theorem fn53 : Fn1 Tryz.prog 53 Tryz.f53 := ⟨Tryz.func53, by kernel_rfl, by kernel_rfl, by kernel_rfl⟩
def m53 : List (List Value × Value) := [([.int .i64 (-150)], .agg ⟨[.int .i64 (-150), .string ⟨#[]⟩]⟩), ([.int .i64 0], .agg ⟨[.int .i64 0, .string ⟨#[]⟩]⟩), ([.int .i64 1], .agg ⟨[.int .i64 1, .string ⟨#[]⟩]⟩), ([.int .i64 123], .agg ⟨[.int .i64 123, .string ⟨#[]⟩]⟩), ([.int .i64 1234], .agg ⟨[.int .i64 1234, .string ⟨#[]⟩]⟩), ([.int .i64 234], .agg ⟨[.int .i64 234, .string ⟨#[]⟩]⟩)]
theorem v53_0 (R : Value → Prop) : bodyQ Tryz.prog A45 noL Tryz.f53 [.int .i64 (-150)] (fun _ => none) 0 (fun v _ _ => R v) = (R (.agg ⟨[.int .i64 (-150), .string ⟨#[]⟩]⟩)) := by kernel_rfl
theorem v53_1 (R : Value → Prop) : bodyQ Tryz.prog A45 noL Tryz.f53 [.int .i64 0] (fun _ => none) 0 (fun v _ _ => R v) = (R (.agg ⟨[.int .i64 0, .string ⟨#[]⟩]⟩)) := by kernel_rfl
theorem v53_2 (R : Value → Prop) : bodyQ Tryz.prog A45 noL Tryz.f53 [.int .i64 1] (fun _ => none) 0 (fun v _ _ => R v) = (R (.agg ⟨[.int .i64 1, .string ⟨#[]⟩]⟩)) := by kernel_rfl
theorem v53_3 (R : Value → Prop) : bodyQ Tryz.prog A45 noL Tryz.f53 [.int .i64 123] (fun _ => none) 0 (fun v _ _ => R v) = (R (.agg ⟨[.int .i64 123, .string ⟨#[]⟩]⟩)) := by kernel_rfl
theorem v53_4 (R : Value → Prop) : bodyQ Tryz.prog A45 noL Tryz.f53 [.int .i64 1234] (fun _ => none) 0 (fun v _ _ => R v) = (R (.agg ⟨[.int .i64 1234, .string ⟨#[]⟩]⟩)) := by kernel_rfl
theorem v53_5 (R : Value → Prop) : bodyQ Tryz.prog A45 noL Tryz.f53 [.int .i64 234] (fun _ => none) 0 (fun v _ _ => R v) = (R (.agg ⟨[.int .i64 234, .string ⟨#[]⟩]⟩)) := by kernel_rfl
theorem pk53 : PureOK Tryz.prog 53 (memo m53) := pure_memo ok_A45 hmix fn53 lokf_none (by kernel_rfl) ⟨by rw [DoesQ, v53_0], by rw [DoesQ, v53_1], by rw [DoesQ, v53_2], by rw [DoesQ, v53_3], by rw [DoesQ, v53_4], by rw [DoesQ, v53_5], trivial⟩
def A46 : Env := A45.add 53 (memo m53)
theorem ok_A46 : EnvOK Tryz.prog A46 := env_add ok_A45 pk53
theorem fn65 : Fn1 Tryz.prog 65 Tryz.f65 := ⟨Tryz.func65, by kernel_rfl, by kernel_rfl, by kernel_rfl⟩
def m65 : List (List Value × Value) := [([.int .i64 3, .int .i64 1], .agg ⟨[.int .i64 1, .int .i64 3, .int .i64 1, .bool false, .string ⟨#[]⟩]⟩), ([.int .i64 4, .int .i64 2], .agg ⟨[.int .i64 1, .int .i64 4, .int .i64 2, .bool false, .string ⟨#[]⟩]⟩), ([.int .i64 3, .int .i64 0], .agg ⟨[.int .i64 1, .int .i64 3, .int .i64 0, .bool false, .string ⟨#[]⟩]⟩), ([.int .i64 4, .int .i64 0], .agg ⟨[.int .i64 1, .int .i64 4, .int .i64 0, .bool false, .string ⟨#[]⟩]⟩)]
theorem v65_0 (R : Value → Prop) : bodyQ Tryz.prog A46 noL Tryz.f65 [.int .i64 3, .int .i64 1] (fun _ => none) 0 (fun v _ _ => R v) = (R (.agg ⟨[.int .i64 1, .int .i64 3, .int .i64 1, .bool false, .string ⟨#[]⟩]⟩)) := by kernel_rfl
theorem v65_1 (R : Value → Prop) : bodyQ Tryz.prog A46 noL Tryz.f65 [.int .i64 4, .int .i64 2] (fun _ => none) 0 (fun v _ _ => R v) = (R (.agg ⟨[.int .i64 1, .int .i64 4, .int .i64 2, .bool false, .string ⟨#[]⟩]⟩)) := by kernel_rfl
theorem v65_2 (R : Value → Prop) : bodyQ Tryz.prog A46 noL Tryz.f65 [.int .i64 3, .int .i64 0] (fun _ => none) 0 (fun v _ _ => R v) = (R (.agg ⟨[.int .i64 1, .int .i64 3, .int .i64 0, .bool false, .string ⟨#[]⟩]⟩)) := by kernel_rfl
theorem v65_3 (R : Value → Prop) : bodyQ Tryz.prog A46 noL Tryz.f65 [.int .i64 4, .int .i64 0] (fun _ => none) 0 (fun v _ _ => R v) = (R (.agg ⟨[.int .i64 1, .int .i64 4, .int .i64 0, .bool false, .string ⟨#[]⟩]⟩)) := by kernel_rfl
theorem pk65 : PureOK Tryz.prog 65 (memo m65) := pure_memo ok_A46 hmix fn65 lokf_none (by kernel_rfl) ⟨by rw [DoesQ, v65_0], by rw [DoesQ, v65_1], by rw [DoesQ, v65_2], by rw [DoesQ, v65_3], trivial⟩
def A47 : Env := A46.add 65 (memo m65)
theorem ok_A47 : EnvOK Tryz.prog A47 := env_add ok_A46 pk65
theorem fn50 : Fn1 Tryz.prog 50 Tryz.f50 := ⟨Tryz.func50, by kernel_rfl, by kernel_rfl, by kernel_rfl⟩
def m50 : List (List Value × Value) := [([.int .i64 15], .agg ⟨[.int .i64 2, .int .i64 15, .int .i64 0, .bool false, .string ⟨#[]⟩]⟩), ([.int .i64 11], .agg ⟨[.int .i64 2, .int .i64 11, .int .i64 0, .bool false, .string ⟨#[]⟩]⟩), ([.int .i64 31], .agg ⟨[.int .i64 2, .int .i64 31, .int .i64 0, .bool false, .string ⟨#[]⟩]⟩)]
theorem v50_0 (R : Value → Prop) : bodyQ Tryz.prog A47 noL Tryz.f50 [.int .i64 15] (fun _ => none) 0 (fun v _ _ => R v) = (R (.agg ⟨[.int .i64 2, .int .i64 15, .int .i64 0, .bool false, .string ⟨#[]⟩]⟩)) := by kernel_rfl
theorem v50_1 (R : Value → Prop) : bodyQ Tryz.prog A47 noL Tryz.f50 [.int .i64 11] (fun _ => none) 0 (fun v _ _ => R v) = (R (.agg ⟨[.int .i64 2, .int .i64 11, .int .i64 0, .bool false, .string ⟨#[]⟩]⟩)) := by kernel_rfl
theorem v50_2 (R : Value → Prop) : bodyQ Tryz.prog A47 noL Tryz.f50 [.int .i64 31] (fun _ => none) 0 (fun v _ _ => R v) = (R (.agg ⟨[.int .i64 2, .int .i64 31, .int .i64 0, .bool false, .string ⟨#[]⟩]⟩)) := by kernel_rfl
theorem pk50 : PureOK Tryz.prog 50 (memo m50) := pure_memo ok_A47 hmix fn50 lokf_none (by kernel_rfl) ⟨by rw [DoesQ, v50_0], by rw [DoesQ, v50_1], by rw [DoesQ, v50_2], trivial⟩
def A48 : Env := A47.add 50 (memo m50)
theorem ok_A48 : EnvOK Tryz.prog A48 := env_add ok_A47 pk50
theorem fn51 : Fn1 Tryz.prog 51 Tryz.f51 := ⟨Tryz.func51, by kernel_rfl, by kernel_rfl, by kernel_rfl⟩
def m51 : List (List Value × Value) := [([.int .i64 1], .agg ⟨[.int .i64 4, .int .i64 1, .int .i64 0, .bool false, .string ⟨#[]⟩]⟩), ([.int .i64 3], .agg ⟨[.int .i64 4, .int .i64 3, .int .i64 0, .bool false, .string ⟨#[]⟩]⟩), ([.int .i64 10], .agg ⟨[.int .i64 4, .int .i64 10, .int .i64 0, .bool false, .string ⟨#[]⟩]⟩), ([.int .i64 64], .agg ⟨[.int .i64 4, .int .i64 64, .int .i64 0, .bool false, .string ⟨#[]⟩]⟩)]
theorem v51_0 (R : Value → Prop) : bodyQ Tryz.prog A48 noL Tryz.f51 [.int .i64 1] (fun _ => none) 0 (fun v _ _ => R v) = (R (.agg ⟨[.int .i64 4, .int .i64 1, .int .i64 0, .bool false, .string ⟨#[]⟩]⟩)) := by kernel_rfl
theorem v51_1 (R : Value → Prop) : bodyQ Tryz.prog A48 noL Tryz.f51 [.int .i64 3] (fun _ => none) 0 (fun v _ _ => R v) = (R (.agg ⟨[.int .i64 4, .int .i64 3, .int .i64 0, .bool false, .string ⟨#[]⟩]⟩)) := by kernel_rfl
theorem v51_2 (R : Value → Prop) : bodyQ Tryz.prog A48 noL Tryz.f51 [.int .i64 10] (fun _ => none) 0 (fun v _ _ => R v) = (R (.agg ⟨[.int .i64 4, .int .i64 10, .int .i64 0, .bool false, .string ⟨#[]⟩]⟩)) := by kernel_rfl
theorem v51_3 (R : Value → Prop) : bodyQ Tryz.prog A48 noL Tryz.f51 [.int .i64 64] (fun _ => none) 0 (fun v _ _ => R v) = (R (.agg ⟨[.int .i64 4, .int .i64 64, .int .i64 0, .bool false, .string ⟨#[]⟩]⟩)) := by kernel_rfl
theorem pk51 : PureOK Tryz.prog 51 (memo m51) := pure_memo ok_A48 hmix fn51 lokf_none (by kernel_rfl) ⟨by rw [DoesQ, v51_0], by rw [DoesQ, v51_1], by rw [DoesQ, v51_2], by rw [DoesQ, v51_3], trivial⟩
def A49 : Env := A48.add 51 (memo m51)
theorem ok_A49 : EnvOK Tryz.prog A49 := env_add ok_A48 pk51
theorem fn54 : Fn1 Tryz.prog 54 Tryz.f54 := ⟨Tryz.func54, by kernel_rfl, by kernel_rfl, by kernel_rfl⟩
def m54 : List (List Value × Value) := [([.int .i64 3], .agg ⟨[.int .i64 3, .int .i64 3, .int .i64 0, .bool false, .string ⟨#[]⟩]⟩), ([.int .i64 5], .agg ⟨[.int .i64 3, .int .i64 5, .int .i64 0, .bool false, .string ⟨#[]⟩]⟩), ([.int .i64 6], .agg ⟨[.int .i64 3, .int .i64 6, .int .i64 0, .bool false, .string ⟨#[]⟩]⟩), ([.int .i64 256], .agg ⟨[.int .i64 3, .int .i64 256, .int .i64 0, .bool false, .string ⟨#[]⟩]⟩)]
theorem v54_0 (R : Value → Prop) : bodyQ Tryz.prog A49 noL Tryz.f54 [.int .i64 3] (fun _ => none) 0 (fun v _ _ => R v) = (R (.agg ⟨[.int .i64 3, .int .i64 3, .int .i64 0, .bool false, .string ⟨#[]⟩]⟩)) := by kernel_rfl
theorem v54_1 (R : Value → Prop) : bodyQ Tryz.prog A49 noL Tryz.f54 [.int .i64 5] (fun _ => none) 0 (fun v _ _ => R v) = (R (.agg ⟨[.int .i64 3, .int .i64 5, .int .i64 0, .bool false, .string ⟨#[]⟩]⟩)) := by kernel_rfl
theorem v54_2 (R : Value → Prop) : bodyQ Tryz.prog A49 noL Tryz.f54 [.int .i64 6] (fun _ => none) 0 (fun v _ _ => R v) = (R (.agg ⟨[.int .i64 3, .int .i64 6, .int .i64 0, .bool false, .string ⟨#[]⟩]⟩)) := by kernel_rfl
theorem v54_3 (R : Value → Prop) : bodyQ Tryz.prog A49 noL Tryz.f54 [.int .i64 256] (fun _ => none) 0 (fun v _ _ => R v) = (R (.agg ⟨[.int .i64 3, .int .i64 256, .int .i64 0, .bool false, .string ⟨#[]⟩]⟩)) := by kernel_rfl
theorem pk54 : PureOK Tryz.prog 54 (memo m54) := pure_memo ok_A49 hmix fn54 lokf_none (by kernel_rfl) ⟨by rw [DoesQ, v54_0], by rw [DoesQ, v54_1], by rw [DoesQ, v54_2], by rw [DoesQ, v54_3], trivial⟩
def A50 : Env := A49.add 54 (memo m54)
theorem ok_A50 : EnvOK Tryz.prog A50 := env_add ok_A49 pk54
theorem fn60 : Fn1 Tryz.prog 60 Tryz.f60 := ⟨Tryz.func60, by kernel_rfl, by kernel_rfl, by kernel_rfl⟩
def m60 : List (List Value × Value) := [([.string ⟨#[90, 90, 57, 86, 46, 57, 57]⟩], .agg ⟨[.int .i64 5, .int .i64 0, .int .i64 0, .bool false, .string ⟨#[90, 90, 57, 86, 46, 57, 57]⟩]⟩), ([.string ⟨#[57, 57, 57]⟩], .agg ⟨[.int .i64 5, .int .i64 0, .int .i64 0, .bool false, .string ⟨#[57, 57, 57]⟩]⟩), ([.string ⟨#[65, 65, 57]⟩], .agg ⟨[.int .i64 5, .int .i64 0, .int .i64 0, .bool false, .string ⟨#[65, 65, 57]⟩]⟩)]
theorem v60_0 (R : Value → Prop) : bodyQ Tryz.prog A50 noL Tryz.f60 [.string ⟨#[90, 90, 57, 86, 46, 57, 57]⟩] (fun _ => none) 0 (fun v _ _ => R v) = (R (.agg ⟨[.int .i64 5, .int .i64 0, .int .i64 0, .bool false, .string ⟨#[90, 90, 57, 86, 46, 57, 57]⟩]⟩)) := by kernel_rfl
theorem v60_1 (R : Value → Prop) : bodyQ Tryz.prog A50 noL Tryz.f60 [.string ⟨#[57, 57, 57]⟩] (fun _ => none) 0 (fun v _ _ => R v) = (R (.agg ⟨[.int .i64 5, .int .i64 0, .int .i64 0, .bool false, .string ⟨#[57, 57, 57]⟩]⟩)) := by kernel_rfl
theorem v60_2 (R : Value → Prop) : bodyQ Tryz.prog A50 noL Tryz.f60 [.string ⟨#[65, 65, 57]⟩] (fun _ => none) 0 (fun v _ _ => R v) = (R (.agg ⟨[.int .i64 5, .int .i64 0, .int .i64 0, .bool false, .string ⟨#[65, 65, 57]⟩]⟩)) := by kernel_rfl
theorem pk60 : PureOK Tryz.prog 60 (memo m60) := pure_memo ok_A50 hmix fn60 lokf_none (by kernel_rfl) ⟨by rw [DoesQ, v60_0], by rw [DoesQ, v60_1], by rw [DoesQ, v60_2], trivial⟩
def A51 : Env := A50.add 60 (memo m60)
theorem ok_A51 : EnvOK Tryz.prog A51 := env_add ok_A50 pk60
theorem fn52 : Fn1 Tryz.prog 52 Tryz.f52 := ⟨Tryz.func52, by kernel_rfl, by kernel_rfl, by kernel_rfl⟩
def m52 : List (List Value × Value) := [([.string ⟨#[49, 50, 120]⟩], .agg ⟨[.int .i64 0, .string ⟨#[49, 50, 120]⟩]⟩), ([.string ⟨#[48]⟩], .agg ⟨[.int .i64 0, .string ⟨#[48]⟩]⟩), ([.string ⟨#[49, 48, 49]⟩], .agg ⟨[.int .i64 0, .string ⟨#[49, 48, 49]⟩]⟩), ([.string ⟨#[49, 48, 49, 32, 32]⟩], .agg ⟨[.int .i64 0, .string ⟨#[49, 48, 49, 32, 32]⟩]⟩), ([.string ⟨#[32, 49, 50, 46, 51, 48]⟩], .agg ⟨[.int .i64 0, .string ⟨#[32, 49, 50, 46, 51, 48]⟩]⟩), ([.string ⟨#[50, 51, 52]⟩], .agg ⟨[.int .i64 0, .string ⟨#[50, 51, 52]⟩]⟩), ([.string ⟨#[97, 49, 49]⟩], .agg ⟨[.int .i64 0, .string ⟨#[97, 49, 49]⟩]⟩), ([.string ⟨#[32, 32, 32]⟩], .agg ⟨[.int .i64 0, .string ⟨#[32, 32, 32]⟩]⟩), ([.string ⟨#[50]⟩], .agg ⟨[.int .i64 0, .string ⟨#[50]⟩]⟩)]
theorem v52_0 (R : Value → Prop) : bodyQ Tryz.prog A51 noL Tryz.f52 [.string ⟨#[49, 50, 120]⟩] (fun _ => none) 0 (fun v _ _ => R v) = (R (.agg ⟨[.int .i64 0, .string ⟨#[49, 50, 120]⟩]⟩)) := by kernel_rfl
theorem v52_1 (R : Value → Prop) : bodyQ Tryz.prog A51 noL Tryz.f52 [.string ⟨#[48]⟩] (fun _ => none) 0 (fun v _ _ => R v) = (R (.agg ⟨[.int .i64 0, .string ⟨#[48]⟩]⟩)) := by kernel_rfl
theorem v52_2 (R : Value → Prop) : bodyQ Tryz.prog A51 noL Tryz.f52 [.string ⟨#[49, 48, 49]⟩] (fun _ => none) 0 (fun v _ _ => R v) = (R (.agg ⟨[.int .i64 0, .string ⟨#[49, 48, 49]⟩]⟩)) := by kernel_rfl
theorem v52_3 (R : Value → Prop) : bodyQ Tryz.prog A51 noL Tryz.f52 [.string ⟨#[49, 48, 49, 32, 32]⟩] (fun _ => none) 0 (fun v _ _ => R v) = (R (.agg ⟨[.int .i64 0, .string ⟨#[49, 48, 49, 32, 32]⟩]⟩)) := by kernel_rfl
theorem v52_4 (R : Value → Prop) : bodyQ Tryz.prog A51 noL Tryz.f52 [.string ⟨#[32, 49, 50, 46, 51, 48]⟩] (fun _ => none) 0 (fun v _ _ => R v) = (R (.agg ⟨[.int .i64 0, .string ⟨#[32, 49, 50, 46, 51, 48]⟩]⟩)) := by kernel_rfl
theorem v52_5 (R : Value → Prop) : bodyQ Tryz.prog A51 noL Tryz.f52 [.string ⟨#[50, 51, 52]⟩] (fun _ => none) 0 (fun v _ _ => R v) = (R (.agg ⟨[.int .i64 0, .string ⟨#[50, 51, 52]⟩]⟩)) := by kernel_rfl
theorem v52_6 (R : Value → Prop) : bodyQ Tryz.prog A51 noL Tryz.f52 [.string ⟨#[97, 49, 49]⟩] (fun _ => none) 0 (fun v _ _ => R v) = (R (.agg ⟨[.int .i64 0, .string ⟨#[97, 49, 49]⟩]⟩)) := by kernel_rfl
theorem v52_7 (R : Value → Prop) : bodyQ Tryz.prog A51 noL Tryz.f52 [.string ⟨#[32, 32, 32]⟩] (fun _ => none) 0 (fun v _ _ => R v) = (R (.agg ⟨[.int .i64 0, .string ⟨#[32, 32, 32]⟩]⟩)) := by kernel_rfl
theorem v52_8 (R : Value → Prop) : bodyQ Tryz.prog A51 noL Tryz.f52 [.string ⟨#[50]⟩] (fun _ => none) 0 (fun v _ _ => R v) = (R (.agg ⟨[.int .i64 0, .string ⟨#[50]⟩]⟩)) := by kernel_rfl
theorem pk52 : PureOK Tryz.prog 52 (memo m52) := pure_memo ok_A51 hmix fn52 lokf_none (by kernel_rfl) ⟨by rw [DoesQ, v52_0], by rw [DoesQ, v52_1], by rw [DoesQ, v52_2], by rw [DoesQ, v52_3], by rw [DoesQ, v52_4], by rw [DoesQ, v52_5], by rw [DoesQ, v52_6], by rw [DoesQ, v52_7], by rw [DoesQ, v52_8], trivial⟩
def A52 : Env := A51.add 52 (memo m52)
theorem ok_A52 : EnvOK Tryz.prog A52 := env_add ok_A51 pk52
theorem fn44 : Fn1 Tryz.prog 44 Tryz.f44 := ⟨Tryz.func44, by kernel_rfl, by kernel_rfl, by kernel_rfl⟩
def A53 : Env := A52.addG 44 (inlQ Tryz.prog A52 noL Tryz.f44)
theorem ok_A53 : EnvOK Tryz.prog A53 := env_addG ok_A52 (gen_inlQ ok_A52 hmix fn44 lokf_none)
theorem fn46 : Fn1 Tryz.prog 46 Tryz.f46 := ⟨Tryz.func46, by kernel_rfl, by kernel_rfl, by kernel_rfl⟩
def L46 : List Value := [.int .i64 2, .int .i64 11, .int .i64 0, .bool false, .string ⟨#[]⟩, .int .i64 2, .int .i64 15, .int .i64 0, .bool false, .string ⟨#[]⟩]
def s46c : Ab.Spec := fun args bs => match args, bs with
 | [.slice (some ⟨_, 0, some 1⟩) 2 _, .slice (some ⟨_, 0, some 1⟩) 2 _], [some ⟨l1, _, _⟩, some ⟨l2, _, _⟩] => match eqVL (l1.take 10) L46 && eqVL (l2.take 10) L46 with
  | true => some (plainL l1 && plainL l2, .bool true)
  | false => none
 | _, _ => none
def vwT (c d : List Value) (t u : TypeId) : Lk := fun k => match k with | 0 => some ⟨c, t, false⟩ | 1 => some ⟨d, u, false⟩ | _ => none
theorem v46 (r1 r2 : List Value) (t u : TypeId) (c1 c2 : Nat) (R : Value → Prop) : bodyQ Tryz.prog A53 noL Tryz.f46 [.slice (some ⟨0, 0, some 1⟩) 2 c1, .slice (some ⟨1, 0, some 1⟩) 2 c2] (vwT (L46 ++ r1) (L46 ++ r2) t u) 2 (fun v _ _ => R v) = R (.bool true) := by kernel_rfl
theorem pk46 : PureOK Tryz.prog 46 s46c := by
 refine pure_viewQ ok_A53 hmix fn46 lokf_none fun args bs v hs => ?_
 unfold s46c at hs
 split at hs
 case h_2 => cases hs
 rename_i k1 c1 k2 c2 l1 t1 o1 l2 t2 o2
 split at hs
 case h_2 => cases hs
 rename_i hq
 simp only [Option.some.injEq, Prod.mk.injEq, Bool.and_eq_true] at hs hq
 obtain ⟨⟨p1, p2⟩, rfl⟩ := hs
 obtain ⟨q1, q2⟩ := hq
 have e1 : l1 = L46 ++ l1.drop 10 := by rw [← eqVL_spec q1, List.take_append_drop]
 have e2 : l2 = L46 ++ l2.drop 10 := by rw [← eqVL_spec q2, List.take_append_drop]
 refine ⟨[.slice (some ⟨0, 0, some 1⟩) 2 c1, .slice (some ⟨1, 0, some 1⟩) 2 c2], 2, rfl, rfl, Nat.le_of_ble_eq_true (by kernel_rfl), ?_⟩
 have e : viewL [some ⟨l1, t1, o1⟩, some ⟨l2, t2, o2⟩] = vwT (L46 ++ l1.drop 10) (L46 ++ l2.drop 10) t1 t2 := by
  funext k
  rw [← e1, ← e2]
  match k with
  | 0 => simp only [viewL, view1, p1, vwT]
  | 1 => simp only [viewL, view1, p2, vwT]
  | k + 2 => rfl
 rw [DoesVQ, e, v46]
def A54 : Env := A53.add 46 (s46c)
theorem ok_A54 : EnvOK Tryz.prog A54 := env_add ok_A53 pk46
end Go.Cs
end
noncomputable section
set_option maxRecDepth 100000
namespace Go.Cs
open Go Go.Ab Go.Proofs Go.Px Go.Cx
def T31 : List Value := [.int .i64 1, .int .i64 3, .int .i64 1, .bool false, .string ⟨#[]⟩]
theorem fn18 : Fn1 Tryz.prog 18 Tryz.f18 := ⟨Tryz.func18, by kernel_rfl, by kernel_rfl, by kernel_rfl⟩
theorem v18 (R : Value → Prop) : bodyQ Tryz.prog A54 noL Tryz.f18 [] (fun _ => none) 0 (fun v _ _ => R v) = ( ∀ (cap : Nat) (tail : List Value), tailOK tail cap 1 5 = true → bif Nat.beq (List.length (T31 ++ tail)) (cap * 5) && Nat.ble 1 cap && Nat.ble cap 9223372036854775807 && true && true then ∀ (cap : Nat) (tail : List Value), tailOK tail cap (1 + 1) 5 = true → bif plainL (L46 ++ tail) && plainL L46 then R (.bool true) else False else False) := by kernel_rfl
def s18 : Bool × Value := (true, .bool true)
theorem okC18 : PureOK Tryz.prog 18 (sp0 s18) := by
 refine qure0 ok_A54 hmix fn18 lokf_none fun _ => ?_
 rw [DoesQ, v18]
 intro cap tail h
 simp only [tailOK, Bool.and_eq_true] at h
 obtain ⟨⟨⟨_, h2⟩, h3⟩, h4⟩ := h
 have e : (T31 ++ tail).length = tail.length + 1 * 5 := by rw [List.length_append]; show 5 + _ = _; omega
 refine c_t (by rw [e, h2, h3, h4]; rfl) fun cap2 tail2 h => ?_
 simp only [tailOK, Bool.and_eq_true] at h
 obtain ⟨⟨⟨h1, _⟩, _⟩, _⟩ := h
 refine c_t ?_ rfl
 have : plainL (L46 ++ tail2) = true := by rw [plainL_iff] at h1 ⊢; intro v hv; rcases List.mem_append.1 hv with hv | hv; exact plainL_iff.1 (show plainL L46 = true from rfl) v hv; exact h1 v hv
 rw [this]
 rfl
theorem ok18 : @PureOK tabs Tryz.prog 18 (sp0 s18) := pureT okC18
end Go.Cs
end
noncomputable section
set_option maxHeartbeats 3200000
namespace Go.Cx
open Go Go.Ab Go.Proofs Go.Shelf Go.Px Go.Cv
open Go.Fx (Ty Vl check Valid most base pw bnd Fit fits tv vv tup V0 T0 pw_zero pw_succ wrap_mul pw_w64 str0)
instance tabsL : Tabs := tabs
def hidS (sp : Ab.Spec) : List Value → Lk → Nat → (Value → Lk → Nat → Prop) → Prop := fun args m n K => match sp args (args.map (blkOf m)) with
 | some (c, .string e) => match cnd c with
  | true => ∀ s' : ByteArray, e = s' → K (.string s') m n
  | false => False
 | _ => False
theorem gen_hidS {P : Program} {f : FuncId} {sp : Ab.Spec} (h : PureOK P f sp) : GenOK P f (hidS sp) := by
 obtain ⟨hc, hp⟩ := h
 refine ⟨hc, fun args m n K hh N w0 ι w hrel hwf hargs => ?_⟩
 unfold hidS at hh
 split at hh
 case h_2 => exact hh.elim
 rename_i c e hs
 split at hh
 case h_2 => exact hh.elim
 rename_i hcc
 have hcc : c = true := hcc
 subst hcc
 refine (hp args (.string e) N w0 m ι w hrel hs rfl).mono fun e' w' ⟨h1, h2⟩ => ?_
 exact ⟨.string e, m, n, ι, by rw [h1]; rfl, hh e rfl, Nat.le_refl _, fun _ _ => rfl, hrel.grow h2, hwf, by simp [ids]⟩
def RdN (s : ByteArray) (b g : Bool) (d : ByteArray) (c : Int) : Prop := rdN (bz s) = none ∧ b = false ∧ g = false ∧ d = ⟨#[]⟩ ∧ c = 0 ∨ ∃ l, rdN (bz s) = some (g, l, c) ∧ d = szO l ∧ b = true
def hidN : List Value → Lk → Nat → (Value → Lk → Nat → Prop) → Prop := fun args m n K => match args with
 | [.string s] => match cnd (decide (s.size ≤ 9223372036854775807)) with
  | true => ∀ (b g : Bool) (d : ByteArray) (c : Int), RdN s b g d c → K (.tuple ⟨[.agg ⟨[.bool g, .string d, .int .i64 c]⟩, .bool b]⟩) m n
  | false => False
 | _ => False
theorem gen_hidN : GenOK Tryz.prog 24 hidN := by
 obtain ⟨hc, hp⟩ := ok24
 refine ⟨hc, fun args m n K hh N w0 ι w hrel hwf hargs => ?_⟩
 unfold hidN at hh
 split at hh
 case h_2 => exact hh.elim
 rename_i s
 split at hh
 case h_2 => exact hh.elim
 rename_i hcc
 have hs : (sp1 s24) [.string s] ([Value.string s].map (blkOf m)) = some (true, onV (rdN (bz s))) := congrArg some (Prod.ext (show (s24 s).1 = true from hcc) rfl)
 refine (hp [.string s] _ N w0 m ι w hrel hs rfl).mono fun e' w' ⟨h1, h2⟩ => ?_
 refine ⟨onV (rdN (bz s)), m, n, ι, by rw [h1]; rfl, ?_, Nat.le_refl _, fun _ _ => rfl, hrel.grow h2, hwf, by simp [ids, idsL, onV]⟩
 cases hr : rdN (bz s) with
 | none =>
  have := hh false false ⟨#[]⟩ 0 (.inl ⟨hr, rfl, rfl, rfl, rfl⟩)
  rw [← szO_nil] at this
  exact this
 | some x => exact hh true x.1 (szO x.2.1) x.2.2 (.inr ⟨x.2.1, by rw [hr], rfl, rfl⟩)
def G12 : Env := ((((H2.addG 28 (hidS (sp1 s28))).addG 29 (hidS (sp1 s29))).addG 30 (hidS (sp2 s30))).addG 24 hidN).add 18 (sp0 Cs.s18)
theorem ok_G12 : EnvOK Tryz.prog G12 := env_add (env_addG (env_addG (env_addG (env_addG ok_H2 (gen_hidS ok28)) (gen_hidS ok29)) (gen_hidS ok30)) gen_hidN) Cs.ok18
def s5 (neg : Bool) (a : ByteArray) (b : ByteArray) (ex : Int) (n : Int) : Bool × Value := (decide (a.size ≤ 9223372036854775807 ∧ b.size ≤ 9223372036854775807 ∧ (-9223372036854775808 ≤ ex ∧ ex ≤ 9223372036854775807) ∧ (-9223372036854775808 ≤ n ∧ n ≤ 9223372036854775807)), B true)
theorem fn5 : Fn1 Tryz.prog 5 Tryz.f5 := ⟨Tryz.func5, by kernel_rfl, by kernel_rfl, by kernel_rfl⟩
def k5 (sg pl s' s'_1 : ByteArray) (neg : Bool) (ex n : Int) (R : Value → Prop) : Prop :=
 bif decide (-9223372036854775808 ≤ imax (-40) (imin ex 40) ∧ imax (-40) (imin ex 40) ≤ 9223372036854775807) then ∀ (s'_2 : ByteArray), szO (itoZ (imax (-40) (imin ex 40))) = s'_2 → bif strFit (ByteArray.size (ByteArray.mk #[69]) + ByteArray.size s'_2) then bif strFit (ByteArray.size sg + ByteArray.size (ByteArray.mk #[55] ++ s')) then bif strFit (ByteArray.size (sg ++ (ByteArray.mk #[55] ++ s')) + ByteArray.size (ByteArray.mk #[46])) then bif strFit (ByteArray.size (sg ++ (ByteArray.mk #[55] ++ s') ++ ByteArray.mk #[46]) + ByteArray.size s'_1) then bif strFit (ByteArray.size (sg ++ (ByteArray.mk #[55] ++ s') ++ ByteArray.mk #[46] ++ s'_1) + ByteArray.size (ByteArray.mk #[69] ++ s'_2)) then bif decide (ByteArray.size (sg ++ (ByteArray.mk #[55] ++ s') ++ ByteArray.mk #[46] ++ s'_1 ++ (ByteArray.mk #[69] ++ s'_2)) ≤ 9223372036854775807) then ∀ (b g : Bool) (d : ByteArray) (c : Int), RdN (sg ++ (ByteArray.mk #[55] ++ s') ++ ByteArray.mk #[46] ++ s'_1 ++ (ByteArray.mk #[69] ++ s'_2)) b g d c → bif !b || true then bif !b || !g == neg then R (Value.bool false) else bif decide (0 ≤ imax 0 (imin n 20) ∧ imax 0 (imin n 20) ≤ 1000 ∧ ByteArray.size (ByteArray.mk #[32]) ≤ 1000) then ∀ (s'_3 : ByteArray), szO (repZ (bz (ByteArray.mk #[32])) (Int.toNat (imax 0 (imin n 20)))) = s'_3 → bif decide (0 ≤ imax 0 (imin n 20) ∧ imax 0 (imin n 20) ≤ 1000 ∧ ByteArray.size (ByteArray.mk #[48]) ≤ 1000) then ∀ (s'_4 : ByteArray), szO (repZ (bz (ByteArray.mk #[48])) (Int.toNat (imax 0 (imin n 20)))) = s'_4 → bif strFit (ByteArray.size s'_3 + ByteArray.size sg) then bif strFit (ByteArray.size (s'_3 ++ sg) + ByteArray.size (ByteArray.mk #[55] ++ s')) then bif strFit (ByteArray.size (s'_3 ++ sg ++ (ByteArray.mk #[55] ++ s')) + ByteArray.size (ByteArray.mk #[46])) then bif strFit (ByteArray.size (s'_3 ++ sg ++ (ByteArray.mk #[55] ++ s') ++ ByteArray.mk #[46]) + ByteArray.size s'_1) then bif strFit (ByteArray.size (s'_3 ++ sg ++ (ByteArray.mk #[55] ++ s') ++ ByteArray.mk #[46] ++ s'_1) + ByteArray.size (ByteArray.mk #[69] ++ s'_2)) then bif strFit (ByteArray.size (s'_3 ++ sg ++ (ByteArray.mk #[55] ++ s') ++ ByteArray.mk #[46] ++ s'_1 ++ (ByteArray.mk #[69] ++ s'_2)) + ByteArray.size s'_3) then bif strFit (ByteArray.size pl + ByteArray.size s'_4) then bif strFit (ByteArray.size (pl ++ s'_4) + ByteArray.size (ByteArray.mk #[55] ++ s')) then bif strFit (ByteArray.size (pl ++ s'_4 ++ (ByteArray.mk #[55] ++ s')) + ByteArray.size (ByteArray.mk #[46])) then bif strFit (ByteArray.size (pl ++ s'_4 ++ (ByteArray.mk #[55] ++ s') ++ ByteArray.mk #[46]) + ByteArray.size s'_1) then bif strFit (ByteArray.size (pl ++ s'_4 ++ (ByteArray.mk #[55] ++ s') ++ ByteArray.mk #[46] ++ s'_1) + ByteArray.size (ByteArray.mk #[69] ++ s'_2)) then bif strFit (ByteArray.size sg + ByteArray.size (ByteArray.mk #[55] ++ s')) then bif strFit (ByteArray.size (sg ++ (ByteArray.mk #[55] ++ s')) + ByteArray.size (ByteArray.mk #[46])) then bif strFit (ByteArray.size (sg ++ (ByteArray.mk #[55] ++ s') ++ ByteArray.mk #[46]) + ByteArray.size s'_1) then bif strFit (ByteArray.size (sg ++ (ByteArray.mk #[55] ++ s') ++ ByteArray.mk #[46] ++ s'_1) + ByteArray.size s'_4) then bif strFit (ByteArray.size (sg ++ (ByteArray.mk #[55] ++ s') ++ ByteArray.mk #[46] ++ s'_1 ++ s'_4) + ByteArray.size (ByteArray.mk #[69] ++ s'_2)) then bif strFit (ByteArray.size sg + ByteArray.size (ByteArray.mk #[55] ++ s')) then bif strFit (ByteArray.size (sg ++ (ByteArray.mk #[55] ++ s')) + ByteArray.size s'_1) then bif strFit (ByteArray.size (sg ++ (ByteArray.mk #[55] ++ s') ++ s'_1) + ByteArray.size (ByteArray.mk #[69])) then bif decide (-9223372036854775808 ≤ IntKind.wrap IntKind.i64 (imax (-40) (imin ex 40) - (↑(ByteArray.size s'_1) : Int)) ∧ IntKind.wrap IntKind.i64 (imax (-40) (imin ex 40) - (↑(ByteArray.size s'_1) : Int)) ≤ 9223372036854775807) then ∀ (s'_5 : ByteArray), szO (itoZ (IntKind.wrap IntKind.i64 (imax (-40) (imin ex 40) - (↑(ByteArray.size s'_1) : Int)))) = s'_5 → bif strFit (ByteArray.size (sg ++ (ByteArray.mk #[55] ++ s') ++ s'_1 ++ ByteArray.mk #[69]) + ByteArray.size s'_5) then bif strFit (ByteArray.size sg + ByteArray.size (ByteArray.mk #[55] ++ s')) then bif strFit (ByteArray.size (sg ++ (ByteArray.mk #[55] ++ s')) + ByteArray.size s'_1) then bif strFit (ByteArray.size (sg ++ (ByteArray.mk #[55] ++ s') ++ s'_1) + ByteArray.size (ByteArray.mk #[46, 69])) then bif decide (-9223372036854775808 ≤ IntKind.wrap IntKind.i64 (imax (-40) (imin ex 40) - (↑(ByteArray.size s'_1) : Int)) ∧ IntKind.wrap IntKind.i64 (imax (-40) (imin ex 40) - (↑(ByteArray.size s'_1) : Int)) ≤ 9223372036854775807) then ∀ (s'_6 : ByteArray), szO (itoZ (IntKind.wrap IntKind.i64 (imax (-40) (imin ex 40) - (↑(ByteArray.size s'_1) : Int)))) = s'_6 → bif strFit (ByteArray.size (sg ++ (ByteArray.mk #[55] ++ s') ++ s'_1 ++ ByteArray.mk #[46, 69]) + ByteArray.size s'_6) then bif strFit (ByteArray.size (sg ++ ByteArray.mk #[46]) + ByteArray.size (ByteArray.mk #[55] ++ s')) then bif strFit (ByteArray.size (sg ++ ByteArray.mk #[46] ++ (ByteArray.mk #[55] ++ s')) + ByteArray.size s'_1) then bif strFit (ByteArray.size (sg ++ ByteArray.mk #[46] ++ (ByteArray.mk #[55] ++ s') ++ s'_1) + ByteArray.size (ByteArray.mk #[69])) then bif decide (-9223372036854775808 ≤ IntKind.wrap IntKind.i64 (imax (-40) (imin ex 40) + (↑(ByteArray.size (ByteArray.mk #[55] ++ s')) : Int)) ∧ IntKind.wrap IntKind.i64 (imax (-40) (imin ex 40) + (↑(ByteArray.size (ByteArray.mk #[55] ++ s')) : Int)) ≤ 9223372036854775807) then ∀ (s'_7 : ByteArray), szO (itoZ (IntKind.wrap IntKind.i64 (imax (-40) (imin ex 40) + (↑(ByteArray.size (ByteArray.mk #[55] ++ s')) : Int)))) = s'_7 → bif strFit (ByteArray.size (sg ++ ByteArray.mk #[46] ++ (ByteArray.mk #[55] ++ s') ++ s'_1 ++ ByteArray.mk #[69]) + ByteArray.size s'_7) then bif decide (0 < natO 6) then bif decide (ByteArray.size (s'_3 ++ sg ++ (ByteArray.mk #[55] ++ s') ++ ByteArray.mk #[46] ++ s'_1 ++ (ByteArray.mk #[69] ++ s'_2) ++ s'_3) ≤ 9223372036854775807) then ∀ (b g_1 : Bool) (d_1 : ByteArray) (c_1 : Int), RdN (s'_3 ++ sg ++ (ByteArray.mk #[55] ++ s') ++ ByteArray.mk #[46] ++ s'_1 ++ (ByteArray.mk #[69] ++ s'_2) ++ s'_3) b g_1 d_1 c_1 → bif !b || true then bif !b || !(g_1 == g && (ByteArray.toList d_1 == ByteArray.toList d && (c_1 == c && true))) then R (Value.bool false) else bif decide (1 < natO 6) then bif decide (ByteArray.size (pl ++ s'_4 ++ (ByteArray.mk #[55] ++ s') ++ ByteArray.mk #[46] ++ s'_1 ++ (ByteArray.mk #[69] ++ s'_2)) ≤ 9223372036854775807) then ∀ (b g_2 : Bool) (d_2 : ByteArray) (c_2 : Int), RdN (pl ++ s'_4 ++ (ByteArray.mk #[55] ++ s') ++ ByteArray.mk #[46] ++ s'_1 ++ (ByteArray.mk #[69] ++ s'_2)) b g_2 d_2 c_2 → bif !b || true then bif !b || !(g_2 == g && (ByteArray.toList d_2 == ByteArray.toList d && (c_2 == c && true))) then R (Value.bool false) else bif decide (2 < natO 6) then bif decide (ByteArray.size (sg ++ (ByteArray.mk #[55] ++ s') ++ ByteArray.mk #[46] ++ s'_1 ++ s'_4 ++ (ByteArray.mk #[69] ++ s'_2)) ≤ 9223372036854775807) then ∀ (b g_3 : Bool) (d_3 : ByteArray) (c_3 : Int), RdN (sg ++ (ByteArray.mk #[55] ++ s') ++ ByteArray.mk #[46] ++ s'_1 ++ s'_4 ++ (ByteArray.mk #[69] ++ s'_2)) b g_3 d_3 c_3 → bif !b || true then bif !b || !(g_3 == g && (ByteArray.toList d_3 == ByteArray.toList d && (c_3 == c && true))) then R (Value.bool false) else bif decide (3 < natO 6) then bif decide (ByteArray.size (sg ++ (ByteArray.mk #[55] ++ s') ++ s'_1 ++ ByteArray.mk #[69] ++ s'_5) ≤ 9223372036854775807) then ∀ (b g_4 : Bool) (d_4 : ByteArray) (c_4 : Int), RdN (sg ++ (ByteArray.mk #[55] ++ s') ++ s'_1 ++ ByteArray.mk #[69] ++ s'_5) b g_4 d_4 c_4 → bif !b || true then bif !b || !(g_4 == g && (ByteArray.toList d_4 == ByteArray.toList d && (c_4 == c && true))) then R (Value.bool false) else bif decide (4 < natO 6) then bif decide (ByteArray.size (sg ++ (ByteArray.mk #[55] ++ s') ++ s'_1 ++ ByteArray.mk #[46, 69] ++ s'_6) ≤ 9223372036854775807) then ∀ (b g_5 : Bool) (d_5 : ByteArray) (c_5 : Int), RdN (sg ++ (ByteArray.mk #[55] ++ s') ++ s'_1 ++ ByteArray.mk #[46, 69] ++ s'_6) b g_5 d_5 c_5 → bif !b || true then bif !b || !(g_5 == g && (ByteArray.toList d_5 == ByteArray.toList d && (c_5 == c && true))) then R (Value.bool false) else bif decide (5 < natO 6) then bif decide (ByteArray.size (sg ++ ByteArray.mk #[46] ++ (ByteArray.mk #[55] ++ s') ++ s'_1 ++ ByteArray.mk #[69] ++ s'_7) ≤ 9223372036854775807) then ∀ (b g_6 : Bool) (d_6 : ByteArray) (c_6 : Int), RdN (sg ++ ByteArray.mk #[46] ++ (ByteArray.mk #[55] ++ s') ++ s'_1 ++ ByteArray.mk #[69] ++ s'_7) b g_6 d_6 c_6 → bif !b || true then bif !b || !(g_6 == g && (ByteArray.toList d_6 == ByteArray.toList d && (c_6 == c && true))) then R (Value.bool false) else bif decide (6 < natO 6) then False else R (Value.bool true) else False else False else R (Value.bool true) else False else False else R (Value.bool true) else False else False else R (Value.bool true) else False else False else R (Value.bool true) else False else False else R (Value.bool true) else False else False else R (Value.bool true) else False else False else False else False else False else False else False else False else False else False else False else False else False else False else False else False else False else False else False else False else False else False else False else False else False else False else False else False else False else False else False else False else False else False else False else False else False else False else False else False else False
theorem fit_of {n : Nat} (h : n ≤ 1000) : strFit n = true := by simp only [strFit, Nat.ble_eq]; omega
theorem n45 : ByteArray.size (ByteArray.mk #[45]) = 1 := rfl
theorem n46 : ByteArray.size (ByteArray.mk #[46]) = 1 := rfl
theorem n55 : ByteArray.size (ByteArray.mk #[55]) = 1 := rfl
theorem n69 : ByteArray.size (ByteArray.mk #[69]) = 1 := rfl
theorem n46' : ByteArray.size (ByteArray.mk #[46, 69]) = 2 := rfl
theorem l46 : bz (ByteArray.mk #[46]) = [46] := rfl
theorem l55 : bz (ByteArray.mk #[55]) = [55] := rfl
theorem l69 : bz (ByteArray.mk #[69]) = [69] := rfl
theorem l46' : bz (ByteArray.mk #[46, 69]) = [46, 69] := rfl
theorem ito_isB (n : Int) : IsB (itoZ n) := zl_isB _
theorem digs_isB {l : List Int} (h : digsZ l = true) : IsB l := fun c hc => by
 have := List.all_eq_true.1 h c hc
 unfold dig at this
 have := of_decide_eq_true this
 omega
theorem rep_at (c : Int) : ∀ n, repZ [c] n = List.replicate n c
 | 0 => rfl
 | n + 1 => by rw [repZ, rep_at c n]; rfl
theorem rd_at {S : ByteArray} {bl sg w pt p br : List Int} {E : Int} {g b g' : Bool} {d : ByteArray} {c : Int} {N : Num} (es : bz S = bl ++ (sg ++ (w ++ (pt ++ p) ++ 69 :: itoZ E)) ++ br) (hE : -100 < E ∧ E < 100)
  (hbl : bl.all (· == 32) = true) (hbr : br.all (· == 32) = true)
  (hsg : (sg = [45] ∧ g = true) ∨ (sg = [43] ∧ g = false) ∨ (sg = [] ∧ g = false))
  (hw : digsZ w = true) (hp : digsZ p = true) (hne : w ++ p ≠ []) (hpt : pt = [46] ∨ (pt = [] ∧ p = []))
  (hlen : S.size ≤ 255) (hN : normZ g (w ++ p) (p.length - E) = N) (hR : RdN S b g' d c) : b = true ∧ g' = N.1 ∧ d = szO N.2.1 ∧ c = N.2.2 := by
 obtain ⟨x1, ⟨c1, x2, x3⟩, x4, x5⟩ := exp_itoa hE
 have h := rd_form hbl hbr hsg hw hp hne hpt x1 x2 x3 x4 (by rw [← es, bz_length]; exact hlen)
 rw [← es, hN] at h
 rcases hR with ⟨q, _⟩ | ⟨l, q, q2, q3⟩
 ·rw [h] at q; cases q
 ·rw [h] at q
  have q := Option.some.inj q
  subst q
  exact ⟨q3, rfl, q2, rfl⟩
theorem same_num {g g' : Bool} {d d' : ByteArray} {c c' : Int} {b : Bool} (hb : b = true) (hg : g' = g) (hd : d' = d) (hc : c' = c) : (!b || !(g' == g && (ByteArray.toList d' == ByteArray.toList d && (c' == c && true)))) = false := by
 subst hb hg hd hc
 simp
theorem k5_ok (sg pl s1 s2 : ByteArray) (neg : Bool) (ex n : Int) (D P : List Int) (h1 : szO D = s1) (h2 : szO P = s2) (hD : digsZ D = true ∧ D.length ≤ 40) (hP : digsZ P = true ∧ P.length ≤ 40)
  (hs : (bz sg = [45] ∧ bz pl = [45] ∧ neg = true) ∨ (bz sg = [] ∧ bz pl = [43] ∧ neg = false)) : k5 sg pl s1 s2 neg ex n (fun v => v = .bool true) := by
 unfold k5
 have b1 : bz s1 = D := by rw [← h1, bz_szO (digs_isB hD.1)]
 have b2 : bz s2 = P := by rw [← h2, bz_szO (digs_isB hP.1)]
 have y1 : (s1.size : Int) = D.length := by rw [← bz_length, b1]
 have y2 : (s2.size : Int) = P.length := by rw [← bz_length, b2]
 have z1 : s1.size ≤ 40 := by omega
 have z2 : s2.size ≤ 40 := by omega
 have hA : (bz sg = [45] ∧ neg = true) ∨ (bz sg = [43] ∧ neg = false) ∨ (bz sg = [] ∧ neg = false) := by
  rcases hs with h | h
  ·exact .inl ⟨h.1, h.2.2⟩
  ·exact .inr (.inr ⟨h.1, h.2.2⟩)
 have hB : (bz pl = [45] ∧ neg = true) ∨ (bz pl = [43] ∧ neg = false) ∨ (bz pl = [] ∧ neg = false) := by
  rcases hs with h | h
  ·exact .inl ⟨h.2.1, h.2.2⟩
  ·exact .inr (.inl ⟨h.2.1, h.2.2⟩)
 have zs : sg.size ≤ 1 := by rw [← bz_length]; rcases hs with h | h <;> rw [h.1] <;> simp
 have zp : pl.size ≤ 1 := by rw [← bz_length]; rcases hs with h | h <;> rw [h.2.1] <;> simp
 have rE : -40 ≤ imax (-40) (imin ex 40) ∧ imax (-40) (imin ex 40) ≤ 40 := by unfold imax imin; split <;> split <;> omega
 have rN : 0 ≤ imax 0 (imin n 20) ∧ imax 0 (imin n 20) ≤ 20 := by unfold imax imin; split <;> split <;> omega
 generalize imax (-40) (imin ex 40) = E at *
 generalize imax 0 (imin n 20) = k at *
 have hW : digsZ (55 :: D) = true := by rw [digsZ, List.all_cons]; exact (Bool.and_eq_true _ _).mpr ⟨rfl, hD.1⟩
 have hWP : digsZ (55 :: D ++ P) = true := by rw [digs_app, hW, hP.1]; rfl
 have hf0 : ∀ (q : Int), (normZ neg (55 :: D ++ P) q).1 = neg := fun q => by
  rw [normZ, if_neg (show ¬ nz (55 :: D ++ P) = [] from nz_ne (by decide))]
 refine c_t (decide_eq_true ⟨by omega, by omega⟩) fun s3 e3 => ?_
 have b3 : bz s3 = itoZ E := by rw [← e3, bz_szO (ito_isB _)]
 have z3 : s3.size ≤ 3 := by rw [← bz_length, b3]; exact (exp_itoa (n := E) (by omega)).2.2.2
 repeat refine c_t (fit_of (by first | omega | (simp only [ByteArray.size_append, n45, n46, n46', n55, n69]; omega))) ?_
 refine c_t (decide_eq_true (by simp only [ByteArray.size_append, n45, n46, n46', n55, n69]; omega)) fun b g d c hR => ?_
 obtain ⟨rfl, rfl, rfl, rfl⟩ := rd_at (N := normZ neg (55 :: D ++ P) (P.length - E)) (bl := []) (br := []) (sg := bz sg) (w := 55 :: D) (pt := [46]) (p := P) (E := E) (by simp only [bz_append, b1, b2, b3, l46, l55, l69]; simp) (by omega) rfl rfl hA hW hP.1 (by simp) (.inl rfl) (by simp only [ByteArray.size_append, n45, n46, n46', n55, n69]; omega) rfl hR
 rw [hf0]
 refine c_t rfl (c_f (by simp) ?_)
 refine c_t (decide_eq_true ⟨by omega, by omega, by decide⟩) fun s4 e4 => c_t (decide_eq_true ⟨by omega, by omega, by decide⟩) fun s5 e5 => ?_
 have b4 : bz s4 = List.replicate k.toNat 32 := by
  rw [← e4, show bz ⟨#[32]⟩ = [32] from rfl, rep_at, bz_szO]
  intro c hc
  rw [List.eq_of_mem_replicate hc]; omega
 have b5 : bz s5 = List.replicate k.toNat 48 := by
  rw [← e5, show bz ⟨#[48]⟩ = [48] from rfl, rep_at, bz_szO]
  intro c hc
  rw [List.eq_of_mem_replicate hc]; omega
 have z4 : s4.size ≤ 20 := by rw [← bz_length, b4, List.length_replicate]; omega
 have z5 : s5.size ≤ 20 := by rw [← bz_length, b5, List.length_replicate]; omega
 have a4 : (List.replicate k.toNat (32 : Int)).all (· == 32) = true := by simp
 have a5 : (List.replicate k.toNat (48 : Int)).all (· == 48) = true := by simp
 have d5 : digsZ (List.replicate k.toNat (48 : Int)) = true := List.all_eq_true.2 fun c hc => by rw [List.eq_of_mem_replicate hc]; rfl
 repeat refine c_t (fit_of (by first | omega | (simp only [ByteArray.size_append, n45, n46, n46', n55, n69]; omega))) ?_
 rw [w64 (n := E - (s2.size : Int)) (by omega)]
 refine c_t (decide_eq_true ⟨by omega, by omega⟩) fun s6 e6 => ?_
 have b6 : bz s6 = itoZ (E - s2.size) := by rw [← e6, bz_szO (ito_isB _)]
 have z6 : s6.size ≤ 3 := by rw [← bz_length, b6]; exact (exp_itoa (by omega)).2.2.2
 repeat refine c_t (fit_of (by first | omega | (simp only [ByteArray.size_append, n45, n46, n46', n55, n69]; omega))) ?_
 refine c_t (decide_eq_true ⟨by omega, by omega⟩) fun s7 e7 => ?_
 have b7 : bz s7 = itoZ (E - s2.size) := by rw [← e7, bz_szO (ito_isB _)]
 have z7 : s7.size ≤ 3 := by rw [← bz_length, b7]; exact (exp_itoa (by omega)).2.2.2
 repeat refine c_t (fit_of (by first | omega | (simp only [ByteArray.size_append, n45, n46, n46', n55, n69]; omega))) ?_
 have hz : ((ByteArray.mk #[55] ++ s1).size : Int) = 1 + D.length := by rw [ByteArray.size_append, n55]; omega
 rw [hz, w64 (n := E + (1 + (D.length : Int))) (by omega)]
 refine c_t (decide_eq_true ⟨by omega, by omega⟩) fun s8 e8 => ?_
 have b8 : bz s8 = itoZ (E + (1 + (D.length : Int))) := by rw [← e8, bz_szO (ito_isB _)]
 have z8 : s8.size ≤ 3 := by rw [← bz_length, b8]; exact (exp_itoa (by omega)).2.2.2
 repeat refine c_t (fit_of (by first | omega | (simp only [ByteArray.size_append, n45, n46, n46', n55, n69]; omega))) ?_
 refine c_t (by rw [natO_eq]; decide) ?_
 refine c_t (decide_eq_true (by simp only [ByteArray.size_append, n45, n46, n46', n55, n69]; omega)) fun b g d c hR => ?_
 obtain ⟨q1, q2, q3, q4⟩ := rd_at (N := normZ neg (55 :: D ++ P) (P.length - E)) (bl := bz s4) (br := bz s4) (sg := bz sg) (w := 55 :: D) (pt := [46]) (p := P) (E := E) (by simp only [bz_append, b1, b2, b3, l46, l55, l69]; simp) (by omega) (by rw [b4]; exact a4) (by rw [b4]; exact a4) hA hW hP.1 (by simp) (.inl rfl) (by simp only [ByteArray.size_append, n45, n46, n46', n55, n69]; omega) rfl hR
 refine c_t (by rw [q1]; rfl) (c_f (same_num q1 (q2.trans (hf0 _)) q3 q4) ?_)
 refine c_t (by rw [natO_eq]; decide) ?_
 refine c_t (decide_eq_true (by simp only [ByteArray.size_append, n45, n46, n46', n55, n69]; omega)) fun b g d c hR => ?_
 obtain ⟨q1, q2, q3, q4⟩ := rd_at (N := normZ neg (55 :: D ++ P) (P.length - E)) (bl := []) (br := []) (sg := bz pl) (w := bz s5 ++ 55 :: D) (pt := [46]) (p := P) (E := E) (by simp only [bz_append, b1, b2, b3, l46, l55, l69]; simp) (by omega) rfl rfl hB (by rw [digs_app, b5, d5, hW]; rfl) hP.1 (by simp) (.inl rfl) (by simp only [ByteArray.size_append, n45, n46, n46', n55, n69]; omega)
  (by rw [List.append_assoc, b5, norm_ahead a5]) hR
 refine c_t (by rw [q1]; rfl) (c_f (same_num q1 (q2.trans (hf0 _)) q3 q4) ?_)
 refine c_t (by rw [natO_eq]; decide) ?_
 refine c_t (decide_eq_true (by simp only [ByteArray.size_append, n45, n46, n46', n55, n69]; omega)) fun b g d c hR => ?_
 obtain ⟨q1, q2, q3, q4⟩ := rd_at (N := normZ neg (55 :: D ++ P) (P.length - E)) (bl := []) (br := []) (sg := bz sg) (w := 55 :: D) (pt := [46]) (p := P ++ bz s5) (E := E) (by simp only [bz_append, b1, b2, b3, l46, l55, l69]; simp) (by omega) rfl rfl hA hW (by rw [digs_app, b5, d5, hP.1]; rfl) (by simp) (.inl rfl) (by simp only [ByteArray.size_append, n45, n46, n46', n55, n69]; omega)
  (by
   have e := norm_behind (z := bz s5) (r := D ++ P) (a := 55) (by rw [b5]; exact a5) (by decide) neg (P.length - E)
   rw [← List.append_assoc, show ((P ++ bz s5).length : Int) - E = (P.length : Int) - E + (bz s5).length by rw [List.length_append]; omega]
   exact e) hR
 refine c_t (by rw [q1]; rfl) (c_f (same_num q1 (q2.trans (hf0 _)) q3 q4) ?_)
 refine c_t (by rw [natO_eq]; decide) ?_
 refine c_t (decide_eq_true (by simp only [ByteArray.size_append, n45, n46, n46', n55, n69]; omega)) fun b g d c hR => ?_
 obtain ⟨q1, q2, q3, q4⟩ := rd_at (N := normZ neg (55 :: D ++ P) (P.length - E)) (bl := []) (br := []) (sg := bz sg) (w := 55 :: D ++ P) (pt := []) (p := []) (E := E - s2.size) (by simp only [bz_append, b1, b2, b6, l46, l55, l69]; simp) (by omega) rfl rfl hA hWP rfl (by simp) (.inr ⟨rfl, rfl⟩) (by simp only [ByteArray.size_append, n45, n46, n46', n55, n69]; omega)
  (by rw [List.append_nil, y2, show ((([] : List Int).length : Nat) : Int) - (E - P.length) = (P.length : Int) - E by simp; omega]) hR
 refine c_t (by rw [q1]; rfl) (c_f (same_num q1 (q2.trans (hf0 _)) q3 q4) ?_)
 refine c_t (by rw [natO_eq]; decide) ?_
 refine c_t (decide_eq_true (by simp only [ByteArray.size_append, n45, n46, n46', n55, n69]; omega)) fun b g d c hR => ?_
 obtain ⟨q1, q2, q3, q4⟩ := rd_at (N := normZ neg (55 :: D ++ P) (P.length - E)) (bl := []) (br := []) (sg := bz sg) (w := 55 :: D ++ P) (pt := [46]) (p := []) (E := E - s2.size) (by simp only [bz_append, b1, b2, b7, l46, l46', l55, l69]; simp) (by omega) rfl rfl hA hWP rfl (by simp) (.inl rfl) (by simp only [ByteArray.size_append, n45, n46, n46', n55, n69]; omega)
  (by rw [List.append_nil, y2, show ((([] : List Int).length : Nat) : Int) - (E - P.length) = (P.length : Int) - E by simp; omega]) hR
 refine c_t (by rw [q1]; rfl) (c_f (same_num q1 (q2.trans (hf0 _)) q3 q4) ?_)
 refine c_t (by rw [natO_eq]; decide) ?_
 refine c_t (decide_eq_true (by simp only [ByteArray.size_append, n45, n46, n46', n55, n69]; omega)) fun b g d c hR => ?_
 obtain ⟨q1, q2, q3, q4⟩ := rd_at (N := normZ neg (55 :: D ++ P) (P.length - E)) (bl := []) (br := []) (sg := bz sg) (w := []) (pt := [46]) (p := 55 :: D ++ P) (E := E + (1 + (D.length : Int))) (by simp only [bz_append, b1, b2, b8, l46, l46', l55, l69]; simp) (by omega) rfl rfl hA rfl hWP (by simp) (.inl rfl) (by simp only [ByteArray.size_append, n45, n46, n46', n55, n69]; omega)
  (by rw [List.nil_append, show ((55 :: D ++ P).length : Int) - (E + (1 + D.length)) = (P.length : Int) - E by simp; omega]) hR
 refine c_t (by rw [q1]; rfl) (c_f (same_num q1 (q2.trans (hf0 _)) q3 q4) ?_)
 exact c_f (by rw [natO_eq]; decide) rfl
theorem v5 (neg : Bool) (a : ByteArray) (b : ByteArray) (ex : Int) (n : Int) (R : Value → Prop) : bodyQ Tryz.prog G12 noL Tryz.f5 [Enc.enc neg, Enc.enc a, Enc.enc b, Enc.enc ex, Enc.enc n] (fun _ => none) 0 (fun v _ _ => R v) = ( bif decide (ByteArray.size a ≤ 9223372036854775807) then ∀ (s' : ByteArray), szO (dgT (bz a) []) = s' → bif strFit (ByteArray.size (ByteArray.mk #[55]) + ByteArray.size s') then bif decide (ByteArray.size b ≤ 9223372036854775807) then ∀ (s'_1 : ByteArray), szO (dgT (bz b) []) = s'_1 → bif neg then k5 ⟨#[45]⟩ ⟨#[45]⟩ s' s'_1 neg ex n R else k5 ⟨#[]⟩ ⟨#[43]⟩ s' s'_1 neg ex n R else False else False else False) := by kernel_rfl
theorem ok5 : PureOK Tryz.prog 5 (sp5 s5) := by
 refine qure5 ok_G12 hmix fn5 lokf_none (Nat.le_of_ble_eq_true (by kernel_rfl)) fun neg a b ex n hc => ?_
 rw [DoesQ, v5]
 have hc : (a.size ≤ 9223372036854775807 ∧ b.size ≤ 9223372036854775807 ∧ (-9223372036854775808 ≤ ex ∧ ex ≤ 9223372036854775807) ∧ (-9223372036854775808 ≤ n ∧ n ≤ 9223372036854775807)) := of_decide_eq_true hc
 try dsimp only [s5]
 obtain ⟨h1, h2, -, -⟩ := hc
 have hA := dgT_spec (bz a) [] rfl (by simp)
 have hB := dgT_spec (bz b) [] rfl (by simp)
 refine c_t (decide_eq_true h1) fun s1 e1 => c_t (fit_of ?_) (c_t (decide_eq_true h2) fun s2 e2 => ?_)
 ·have : s1.size ≤ 40 := by rw [← e1, szO_size]; exact hA.2
  rw [n55]; omega
 ·cases neg
  ·exact k5_ok ⟨#[]⟩ ⟨#[43]⟩ s1 s2 false ex n _ _ e1 e2 hA hB (.inr ⟨rfl, rfl, rfl⟩)
  ·exact k5_ok ⟨#[45]⟩ ⟨#[45]⟩ s1 s2 true ex n _ _ e1 e2 hA hB (.inl ⟨rfl, rfl, rfl⟩)
end Go.Cx
end
noncomputable section
namespace Go.Px
open Go Go.Proofs
open Go.Proofs.YtpflidodnhbeoaaGreatDoor
theorem q_laid : laidOutB Tryz.prog = true := by kernel_rfl
theorem q_maps : mapsRowed Tryz.prog = true := by kernel_rfl
theorem q_stop : (Tryz.prog.stops == []) = true := by kernel_rfl
theorem q_knob : (Tryz.prog.stopKnobs == []) = true := by kernel_rfl
theorem q_keys : (Rows.convertTypesRow.plainKeys == Tryz.prog.plainKeys) = true := by kernel_rfl
theorem q_heard : Tryz.prog.stopsHeard = true := by kernel_rfl
theorem q_enter : Tryz.prog.mayEnter = true := by kernel_rfl
theorem q_lifts : (Rows.convertTypesRow.lifted == Tryz.prog.liftsFinal) = true := by kernel_rfl
theorem q_make : (Tryz.prog.make == some Rows.convertTypesRow.make) = true := by kernel_rfl
theorem main_is : Tryz.pinned.checked.prog.mainIs = some (true, ("2cb47cbf95087f7cc8d5ede91c198a947601d35cfd546d8bdc61f47b13d7b636" : String).toList) := by kernel_rfl
theorem looks_is : true = Tryz.pinned.checked.prog.looks [] := by kernel_rfl
end Go.Px
end
noncomputable section
namespace Go.Px
open Go Go.Ab Go.Proofs Go.Shelf Go.ChangeMaps Go.ChangeShapes Go.WideShapes Go.ChangeAt Go.RowKit Go.Joins
open Go.Proofs.YtpflidodnhbeoaaGreatDoor
theorem own : ownKnob Tryz.prog.godebug = none := by kernel_rfl
def laidL : List (String × DataW Unit) := Rows.convertTypesRow.laid
theorem tab_is {P : Program} {W : World} {name : String} {k : IntKind} {zs : List Int} {g : Nat} {t e : TypeId} {n : Nat} (hr : Lib.VarReads P W name (Lib.tabData k zs))
  (hg : P.globalNamed name = some g) (hty : (P.globals[g]?).map (·.type) = some t) (ht : P.underlying t = some (.array n e)) (he : P.underlying e = some (.int k)) (hce : P.cellsOf e = 1) (hct : P.cellsOf t = n) :
  g < W.heap.size ∧ ∃ ty fr, W.heap[g]? = some (.cells ⟨zs.map fun z => Value.int k z⟩ ty fr) := by
 obtain ⟨g', t', cs, fuel, p, h1, h2, h3, h4⟩ := hr
 obtain rfl := Option.some.inj (hg.symm.trans h1)
 obtain rfl := Option.some.inj (hty.symm.trans h2)
 have hc := Lib.cells_of_tab ht he hce hct h4
 unfold World.var? at h3
 rw [hg, Option.bind_some] at h3
 split at h3
 case h_2 => cases h3
 rename_i cs' ty fr hh
 have h3 := Option.some.inj h3
 refine ⟨(Array.getElem?_eq_some_iff.1 hh).1, ty, fr, ?_⟩
 rw [hh, h3]
 congr 2
 rw [← hc]
theorem rt : (Tryz.prog.cutTypes.find? (·.1 == "internal/reflectlite.rtype")).map (·.2) = some 229 := by kernel_rfl
theorem tsz : Tryz.prog.types.size = 321 := by kernel_rfl
theorem oneRow : ((List.range 321).filter fun t => Tryz.prog.rowNamed t [101, 114, 114, 111, 114]) = [105] := by kernel_rfl
theorem hdl : typeHandle Tryz.prog 105 = .pointer (some ⟨10, 105, none⟩) := by kernel_rfl
theorem gE : Tryz.prog.globalNamed "errors.errorType" = some 0 := by kernel_rfl
theorem laid_h : laidL.filter (fun x => x.2.handleName?.isSome) = [("errors.errorType", Rows.laid_errors_errorType)] := by kernel_rfl
theorem laid_d : laidL.filter (fun x => x.2.handleName?.isNone) = [("math/bits.deBruijn32tab", Rows.laid_math_bits_deBruijn32tab), ("math/bits.deBruijn64tab", Rows.laid_math_bits_deBruijn64tab), ("internal/strconv.uint64pow10", Rows.laid_internal_strconv_uint64pow10), ("unicode/utf8.acceptRanges", Rows.laid_unicode_utf8_acceptRanges), ("strconv.ErrRange", Rows.laid_strconv_ErrRange), ("strconv.ErrSyntax", Rows.laid_strconv_ErrSyntax), ("pliant/picture.punched", Rows.laid_pliant_picture_punched), ("unicode/utf8.first", Rows.laid_unicode_utf8_first)] := by kernel_rfl
theorem handle_of_laid {W : World} (h : handlesMet Tryz.prog [("errors.errorType", Rows.laid_errors_errorType)] W) : 0 < W.heap.size ∧ ∃ ty fr, W.heap[0]? = some (.cells #[.iface 229 (.agg #[.pointer (some ⟨10, 105, none⟩)])] ty fr) := by
 obtain ⟨name, u, ty, e1, e2, e3, e4, e5⟩ := h _ (List.mem_singleton.2 rfl)
 have en : name = [101, 114, 114, 111, 114] := (Option.some.inj e1).symm
 subst en
 obtain rfl := Option.some.inj (rt.symm.trans e2)
 have hm : ty ∈ (List.range 321).filter fun t => Tryz.prog.rowNamed t [101, 114, 114, 111, 114] := List.mem_filter.2 ⟨List.mem_range.2 (by rw [← tsz]; exact e3), e4⟩
 rw [oneRow] at hm
 obtain rfl := List.mem_singleton.1 hm
 rw [hdl] at e5
 unfold World.var? at e5
 rw [gE, Option.bind_some] at e5
 split at e5
 case h_2 => cases e5
 rename_i cs' ty fr hh
 have e5 := Option.some.inj e5
 exact ⟨(Array.getElem?_eq_some_iff.1 hh).1, ty, fr, by rw [hh, e5]⟩
set_option maxRecDepth 100000 in
theorem tabs_of_laid {W : World} (h : laidMetH Tryz.prog laidL W) : TabsIn W.heap.size W := by
 obtain ⟨hd, hh⟩ := laidMetH_iff.1 h
 rw [laid_h] at hh
 rw [laid_d] at hd
 intro b r hb
 have key : ∀ b : Nat, rowsT b = some r → b = 5 ∧ r = punchedZ.map (fun n => Value.int .u8 n) ∨ b = 1 ∧ r = pow10Z.map (fun n => Value.int .u64 n) ∨ b = 0 ∧ r = [.iface 229 (.agg ⟨[.pointer (some ⟨10, 105, none⟩)]⟩)] := by
  intro b hb
  unfold rowsT at hb
  split at hb
  ·cases hb; exact .inl ⟨rfl, rfl⟩
  ·cases hb; exact .inr (.inl ⟨rfl, rfl⟩)
  ·cases hb; exact .inr (.inr ⟨rfl, rfl⟩)
  ·cases hb
 have t5 : Tryz.prog.cellsOf 5 = 1 := by kernel_rfl
 rcases key b hb with ⟨rfl, rfl⟩ | ⟨rfl, rfl⟩ | ⟨rfl, rfl⟩
 ·have hr : Lib.VarReads Tryz.prog W "pliant/picture.punched" (Lib.tabData .u8 punchedZ) := Lib.laidMet.reads hd (.tail _ (.tail _ (.tail _ (.tail _ (.tail _ (.tail _ (.head _)))))))
  exact tab_is hr (g := 5) (t := 273) (n := 20) (e := 5) (by kernel_rfl) (by kernel_rfl) (by kernel_rfl) (by kernel_rfl) t5 (by kernel_rfl)
 ·have hr : Lib.VarReads Tryz.prog W "internal/strconv.uint64pow10" (Lib.tabData .u64 pow10Z) := Lib.laidMet.reads hd (.tail _ (.tail _ (.head _)))
  exact tab_is hr (g := 1) (t := 262) (n := 20) (e := 90) (by kernel_rfl) (by kernel_rfl) (by kernel_rfl) (by kernel_rfl) (by kernel_rfl) (by kernel_rfl)
 ·exact handle_of_laid hh
noncomputable def handleWorld (os : Os) : World :=
 let w0 := World.holding Tryz.prog os ⟨#[], #[], []⟩
 { w0 with heap := w0.heap.modify 0 fun
   | .cells _ t frozen => .cells #[.iface 229 (.agg #[.pointer (some ⟨10, 105, none⟩)])] t frozen
   | o => o }
def laidD : List (String × DataW Unit) := laidL.filter fun x => x.2.handleName?.isNone
noncomputable def laidWorld (os : Os) : World := (handleWorld os).layVars Tryz.prog laidD
theorem laidWorld_os (os : Os) : (laidWorld os).os = os := World.layVars_os _ _ _
theorem laidWorld_met (os : Os) (args : Array Value) : laidMetH Tryz.prog laidL ((laidWorld os).forCall (fun _ _ => 0) ⟨#[], args, []⟩).memory := by
 refine laidMetH_of_parts ?_ (by kernel_rfl)
 have e1 : (laidD.filter fun x => (laidD.map (·.1)).contains x.1) = laidD := List.filter_eq_self.2 fun x hx => List.contains_iff_mem.2 (List.mem_map.2 ⟨x, hx, rfl⟩)
 have e2 : (laidD.filter fun x => !(laidD.map (·.1)).contains x.1) = [] := List.filter_eq_nil_iff.2 fun x hx => by rw [List.contains_iff_mem.2 (List.mem_map.2 ⟨x, hx, rfl⟩)]; simp
 have h : laidMet Tryz.prog laidD (laidWorld os) := laidMet_layVars (w0 := handleWorld os) (laidD.map (·.1)) [] (by rw [e1]; rfl) (by rw [e1]; kernel_rfl) (by rw [e1]; kernel_rfl) (by rw [e2]; exact LaidIn.none)
 exact h.of_heap (by simp [World.memory, World.forCall, Input.heap])
def OpensP (P : Program) (t : TypeId) (α : Type) [Enc α] (Q : α → Prop) : Prop :=
 ∀ {H : Type} {enc : TypeId × Value → H} {w : World} {base : Nat} {spare : Nat → Bool} {held : Bool} {r : Reach} {b0 : Nat} {v : Value} {d : DataW H} {p : List MemPlace}, Value.okWide P w r b0 t v → DataW.Trod enc P w base spare held t v d p →
  ∃ a : α, v = Enc.enc a ∧ Q a ∧ p = [] ∧ ∀ (w' : World) (b' : Nat) (sp' : Nat → Bool) (hd' : Bool), DataW.Trod enc P w' b' sp' hd' t v d []
theorem opensP_string {P : Program} {t : TypeId} (ht : P.underlying t = some .string) : OpensP P t ByteArray fun s => s.size ≤ 9223372036854775807 := by
 intro H enc w base spare held r b0 v d p hv h
 obtain ⟨n, rfl, rfl, rfl, hw⟩ := open_string ht hv h
 exact ⟨n, rfl, Nat.le_trans hw (by decide), rfl, fun w' b' sp' hd' => shut_string ht hw⟩
theorem oS : OpensP Tryz.prog 9 ByteArray fun s => s.size ≤ 9223372036854775807 := opensP_string Tryz.underlying9
theorem opensP_int {P : Program} {t : TypeId} (ht : P.underlying t = some (.int .i64)) : OpensP P t Int fun n => -9223372036854775808 ≤ n ∧ n ≤ 9223372036854775807 := by
 intro H enc w base spare held r b0 v d p hv h
 obtain ⟨n, rfl, rfl, rfl, hw⟩ := open_int ht hv h
 exact ⟨n, rfl, by simpa [Lit.wf, IntKind.min, IntKind.max, IntKind.signed, IntKind.bits] using hw, rfl, fun w' b' sp' hd' => shut_int ht hw⟩
theorem oI : OpensP Tryz.prog 3 Int fun n => -9223372036854775808 ≤ n ∧ n ≤ 9223372036854775807 := opensP_int Tryz.underlying3
theorem opensP_bool {P : Program} {t : TypeId} (ht : P.underlying t = some .bool) : OpensP P t Bool fun _ => True := by
 intro H enc w base spare held r b0 v d p hv h
 obtain ⟨n, rfl, rfl, rfl⟩ := open_bool ht hv h
 exact ⟨n, rfl, trivial, rfl, fun w' b' sp' hd' => shut_bool ht n⟩
theorem oB : OpensP Tryz.prog 4 Bool fun _ => True := opensP_bool Tryz.underlying4
theorem opensP_leaves {P : Program} {α : Type} [Enc α] {t : TypeId} {fs : Array Field} {Q : α → Prop} (hs : P.underlying t = some (.struct fs)) (hl : fs.toList.all (fun f => leafT P f.type) = true)
  (hc : ∀ cs : Array Value, cs.size = P.cellsOf t → (∀ (i : Nat) (f : Field), fs[i]? = some f → ∃ (H : Type) (enc : TypeId × Value → H) (w : World) (base : Nat) (spare : Nat → Bool) (held : Bool) (n : Nat) (y : DataW H × List MemPlace),
   DataW.trod enc P w base spare held n f.type ((cs.toList.drop f.offset).take (P.cellsOf f.type)) = some y) → ∃ a : α, Value.agg cs = Enc.enc a ∧ Q a) : OpensP P t α Q := by
 intro H enc w base spare held r b0 v d p hv h
 obtain ⟨cs, rfl, hsz⟩ := okWide_struct hs hv
 obtain ⟨fuel, hf⟩ := h
 simp only [Value.cells] at hf
 obtain ⟨hp, hany⟩ := leaves_any hs hl hf
 obtain ⟨xs, n, _, _, hlen, hxs, hg⟩ := DataW.trod_struct hs hf
 obtain ⟨a, ha, hq⟩ := hc cs hsz fun i f hi => by
  have hlt : i < xs.length := by
   have := (Array.getElem?_eq_some_iff.1 hi).1
   omega
  exact ⟨H, enc, w, base, spare, held, n, xs[i], by rw [hg i f hi, List.getElem?_eq_getElem hlt]⟩
 simp only at hp
 subst hp
 exact ⟨a, ha, hq, rfl, fun w' b' sp' hd' => ⟨2, by simpa [Value.cells] using hany w' b' sp' hd'⟩⟩
def r64 (n : Int) : Prop := -9223372036854775808 ≤ n ∧ n ≤ 9223372036854775807
def rS (s : ByteArray) : Prop := s.size ≤ 9223372036854775807
theorem r64_wf {n : Int} (h : (Lit.int .i64 n).wf = true) : r64 n := by simpa [Lit.wf, IntKind.min, IntKind.max, IntKind.signed, IntKind.bits, r64] using h
theorem array5 {α : Type} {cs : Array α} (h : cs.size = 5) : ∃ c0 c1 c2 c3 c4, cs = #[c0, c1, c2, c3, c4] := by
 obtain ⟨l⟩ := cs
 match l, h with
 | [c0, c1, c2, c3, c4], _ => exact ⟨c0, c1, c2, c3, c4, rfl⟩
theorem array3 {α : Type} {cs : Array α} (h : cs.size = 3) : ∃ c0 c1 c2, cs = #[c0, c1, c2] := by
 obtain ⟨l⟩ := cs
 match l, h with
 | [c0, c1, c2], _ => exact ⟨c0, c1, c2, rfl⟩
theorem oT : OpensP Tryz.prog 23 Fx.Ty fun t => r64 t.k ∧ r64 t.p ∧ r64 t.q ∧ rS t.s := by
 refine opensP_leaves Tryz.underlying23 (by kernel_rfl) fun cs hsz hf => ?_
 have hc : Tryz.prog.cellsOf 23 = 5 := by kernel_rfl
 have h3 : Tryz.prog.cellsOf 3 = 1 := by kernel_rfl
 have h4 : Tryz.prog.cellsOf 4 = 1 := by kernel_rfl
 have h9 : Tryz.prog.cellsOf 9 = 1 := by kernel_rfl
 rw [hc] at hsz
 obtain ⟨c0, c1, c2, c3, c4, rfl⟩ := array5 hsz
 ·obtain ⟨H, enc, w, base, spare, held, n, y, h0⟩ := hf 0 { name := "Kind", type := 3, offset := 0, embedded := false, tag := "", pkgPath := "", byteOffset := 0 } rfl
  obtain ⟨H, enc, w, base, spare, held, n, y, h1⟩ := hf 1 { name := "P", type := 3, offset := 1, embedded := false, tag := "", pkgPath := "", byteOffset := 8 } rfl
  obtain ⟨H, enc, w, base, spare, held, n, y, h2⟩ := hf 2 { name := "Q", type := 3, offset := 2, embedded := false, tag := "", pkgPath := "", byteOffset := 16 } rfl
  obtain ⟨H, enc, w, base, spare, held, n, y, hv⟩ := hf 3 { name := "Vary", type := 4, offset := 3, embedded := false, tag := "", pkgPath := "", byteOffset := 24 } rfl
  obtain ⟨H, enc, w, base, spare, held, n, y, hs⟩ := hf 4 { name := "Pic", type := 9, offset := 4, embedded := false, tag := "", pkgPath := "", byteOffset := 32 } rfl
  obtain ⟨k, e0, _, w0⟩ := DataW.trod_int Tryz.underlying3 h0
  obtain ⟨p, e1, _, w1⟩ := DataW.trod_int Tryz.underlying3 h1
  obtain ⟨q, e2, _, w2⟩ := DataW.trod_int Tryz.underlying3 h2
  obtain ⟨v, e3, _⟩ := DataW.trod_bool Tryz.underlying4 hv
  obtain ⟨s, e4, _, w4⟩ := DataW.trod_string Tryz.underlying9 hs
  simp only [h3, h4, h9, List.drop_zero, List.drop_succ_cons, List.take_succ_cons, List.take_zero, List.cons.injEq, and_true] at e0 e1 e2 e3 e4
  exact ⟨⟨k, p, q, v, s⟩, by rw [e0, e1, e2, e3, e4]; rfl, r64_wf w0, r64_wf w1, r64_wf w2, Nat.le_trans w4 (by decide)⟩
theorem oV : OpensP Tryz.prog 25 Fx.Vl fun v => r64 v.n ∧ rS v.s := by
 refine opensP_leaves Tryz.underlying25 (by kernel_rfl) fun cs hsz hf => ?_
 have hc : Tryz.prog.cellsOf 25 = 2 := by kernel_rfl
 have h3 : Tryz.prog.cellsOf 3 = 1 := by kernel_rfl
 have h9 : Tryz.prog.cellsOf 9 = 1 := by kernel_rfl
 rw [hc] at hsz
 obtain ⟨c0, c1, rfl⟩ := array2 hsz
 ·obtain ⟨H, enc, w, base, spare, held, n, y, h0⟩ := hf 0 { name := "N", type := 3, offset := 0, embedded := false, tag := "", pkgPath := "", byteOffset := 0 } rfl
  obtain ⟨H, enc, w, base, spare, held, n, y, h1⟩ := hf 1 { name := "S", type := 9, offset := 1, embedded := false, tag := "", pkgPath := "", byteOffset := 8 } rfl
  obtain ⟨k, e0, _, w0⟩ := DataW.trod_int Tryz.underlying3 h0
  obtain ⟨s, e4, _, w4⟩ := DataW.trod_string Tryz.underlying9 h1
  simp only [h3, h9, List.drop_zero, List.drop_succ_cons, List.take_succ_cons, List.take_zero, List.cons.injEq, and_true] at e0 e4
  exact ⟨⟨k, s⟩, by rw [e0, e4]; rfl, r64_wf w0, Nat.le_trans w4 (by decide)⟩
theorem oN : OpensP Tryz.prog 33 Cx.Nu fun v => rS v.d ∧ r64 v.c := by
 refine opensP_leaves Tryz.underlying33 (by kernel_rfl) fun cs hsz hf => ?_
 have hc : Tryz.prog.cellsOf 33 = 3 := by kernel_rfl
 have h3 : Tryz.prog.cellsOf 3 = 1 := by kernel_rfl
 have h4 : Tryz.prog.cellsOf 4 = 1 := by kernel_rfl
 have h9 : Tryz.prog.cellsOf 9 = 1 := by kernel_rfl
 rw [hc] at hsz
 obtain ⟨c0, c1, c2, rfl⟩ := array3 hsz
 ·obtain ⟨H, enc, w, base, spare, held, n, y, hv⟩ := hf 0 { name := "Neg", type := 4, offset := 0, embedded := false, tag := "", pkgPath := "", byteOffset := 0 } rfl
  obtain ⟨H, enc, w, base, spare, held, n, y, hs⟩ := hf 1 { name := "Digits", type := 9, offset := 1, embedded := false, tag := "", pkgPath := "", byteOffset := 8 } rfl
  obtain ⟨H, enc, w, base, spare, held, n, y, h0⟩ := hf 2 { name := "Scale", type := 3, offset := 2, embedded := false, tag := "", pkgPath := "", byteOffset := 24 } rfl
  obtain ⟨v, e3, _⟩ := DataW.trod_bool Tryz.underlying4 hv
  obtain ⟨s, e4, _, w4⟩ := DataW.trod_string Tryz.underlying9 hs
  obtain ⟨k, e0, _, w0⟩ := DataW.trod_int Tryz.underlying3 h0
  simp only [h3, h4, h9, List.drop_zero, List.drop_succ_cons, List.take_succ_cons, List.take_zero, List.cons.injEq, and_true] at e0 e3 e4
  exact ⟨⟨v, s, k⟩, by rw [e0, e3, e4]; rfl, Nat.le_trans w4 (by decide), r64_wf w0⟩
noncomputable def hAB (fn : Func) (s : ChangeSpec) (c : OpenClaim) : Bool := c.wf (OpenSpec.ofChange s) && fn.params.all (Tryz.prog.readableRec ·) && namedTie Tryz.prog c.named s.vars && (c.stops == []) && (c.knobs == [])
noncomputable def hRB (fn : Func) (s : ChangeSpec) (c : OpenClaim) : Bool := (c.maps == (fn.params.toList ++ s.plain.varTypes Tryz.prog).any (Tryz.prog.mapsRec ·)) && (c.ifaces == (fn.params.toList ++ s.plain.varTypes Tryz.prog).any (Tryz.prog.ifacesRec ·)) && (c.mapsOut == Tryz.prog.mapsAmong fn.resultTypes.toList) && (c.loops == (fn.params.toList ++ s.plain.varTypes Tryz.prog).any (Tryz.prog.loopsFrom ·))
noncomputable def hSB (fn : Func) (s : ChangeSpec) (c : OpenClaim) : Bool := (c.wideKeys == (fn.params.toList ++ s.plain.varTypes Tryz.prog ++ fn.resultTypes.toList).any (Tryz.prog.wideKeysFrom ·)) && s.vars.all (Tryz.prog.varReadable ·) && fn.resultTypes.all (fun t => Tryz.prog.readableRec t && decide (t < Tryz.prog.types.size)) && (c.ifacesOut == fn.resultTypes.toList.any (Tryz.prog.ifacesRec ·)) && (c.loopsOut == fn.resultTypes.toList.any (Tryz.prog.loopsFrom ·)) && c.shortTexts.isNone
noncomputable def hTB (fn : Func) (s : ChangeSpec) (c : OpenClaim) : Bool := (c.kinds == (if c.domain.isEmpty then [] else fn.params.toList.map fun t => match Tryz.prog.underlying t with | some (.int k) => some k | _ => none)) && (c.pinned == c.pinnedBy) && (c.veiled == (fn.params.toList ++ s.plain.varTypes Tryz.prog ++ fn.resultTypes.toList).any (Tryz.prog.veiledRec ·)) && c.veiledFits Tryz.prog fn.params.toList (fn.params.toList ++ s.plain.varTypes Tryz.prog ++ fn.resultTypes.toList)
set_option maxRecDepth 100000 in
theorem jf_mk {f : FuncId} {fn : Func} {s : ChangeSpec} {c : OpenClaim} (hA : hAB fn s c = true) (h1 : (c.inPlace == Tryz.prog.inPlace f) = true) (h2 : (c.unfollowed == Tryz.prog.unfollowed f) = true) (h3 : (c.recurses == Tryz.prog.recurses f) = true) (h4 : (c.named == Tryz.prog.varsNamed f) = true)
  (hR : hRB fn s c = true) (hS : hSB fn s c = true)
  (hk : (c.plainKeys == Tryz.prog.plainKeys) = true) (hl : (c.lifted == Tryz.prog.liftsFinal) = true) (hm : (Tryz.prog.make == some c.make) = true)
  (hT : hTB fn s c = true) : joinedFacts Tryz.prog f fn s c = true := by
 unfold joinedFacts
 simp only [hAB, hRB, hSB, hTB, Bool.and_eq_true] at hA hR hS hT
 obtain ⟨⟨⟨⟨a1, a2⟩, a3⟩, a4⟩, a5⟩ := hA
 obtain ⟨⟨⟨r1, r2⟩, r3⟩, r4⟩ := hR
 obtain ⟨⟨⟨⟨⟨s1, s2⟩, s3⟩, s4⟩, s5⟩, s6⟩ := hS
 obtain ⟨⟨⟨t1, t2⟩, t3⟩, t4⟩ := hT
 rw [a1, a2, a3, a4, a5, h1, h2, h3, h4, r1, r2, r3, r4, s1, s2, s3, s4, s5, s6, t2, t3, t4, q_laid, q_maps, q_stop, q_knob, q_heard, q_enter, hk, hl, hm]
 simp only [Bool.true_and, Bool.and_true]
 exact t1
end Go.Px
end
section

end
