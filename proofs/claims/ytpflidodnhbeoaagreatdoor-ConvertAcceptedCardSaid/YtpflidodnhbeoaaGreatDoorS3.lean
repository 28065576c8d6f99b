/-
  The run and the laws that serve these rows (part 3)
-/
import Derived.Test.YtpflidodnhbeoaaGreatDoorS2
set_option linter.unusedVariables false
set_option linter.unusedSimpArgs false
noncomputable section
set_option maxRecDepth 100000
set_option maxHeartbeats 3200000
namespace Go.Cs
open Go Go.Ab Go.Proofs Go.Px Go.Cx
theorem capOK {row tail : List Value} {cap n : Nat} (h : tailOK tail cap n 1 = true) (hr : Nat.beq row.length n = true) :
  (Nat.beq (List.length (row ++ tail)) (cap * 1) && Nat.ble n cap && Nat.ble cap 9223372036854775807 && true && true) = true := by
 simp only [tailOK, Bool.and_eq_true] at h
 obtain ⟨⟨⟨_, h2⟩, h3⟩, h4⟩ := h
 have hr := Nat.eq_of_beq_eq_true hr
 have h2 := Nat.eq_of_beq_eq_true h2
 have e : Nat.beq (List.length (row ++ tail)) (cap * 1) = true := by
  rw [List.length_append, hr, ← h2, Nat.mul_one, Nat.add_comm]; exact Nat.beq_refl _
 rw [e, h3, h4]; rfl
theorem fn234 : Fn1 Tryz.prog 234 Tryz.f234 := ⟨Tryz.func234, by kernel_rfl, by kernel_rfl, by kernel_rfl⟩
def B1 : Env := Env.nil.add 272 (sp2 Px.s141)
theorem ok_B1 : EnvOK Tryz.prog B1 := env_add env_nil (pureC Px.ok141)
theorem fn235 : Fn1 Tryz.prog 235 Tryz.f235 := ⟨Tryz.func235, by kernel_rfl, by kernel_rfl, by kernel_rfl⟩
def B2 : Env := (Env.nil.addG 234 (inlQ Tryz.prog S0 noL Tryz.f234)).addG 235 (inlQ Tryz.prog B1 noL Tryz.f235)
theorem ok_B2 : EnvOK Tryz.prog B2 := env_addG (env_addG env_nil (gen_inlQ ok_S0 hmix fn234 lokf_none)) (gen_inlQ ok_B1 hmix fn235 lokf_none)
theorem fn188 : Fn1 Tryz.prog 188 Tryz.f188 := ⟨Tryz.func188, by kernel_rfl, by kernel_rfl, by kernel_rfl⟩
def m188 : List (List Value × Value) := [([.string ⟨#[90, 90, 57, 86, 46, 57, 57]⟩], .tuple ⟨[.string ⟨#[90, 90, 57, 86, 46, 57, 57]⟩, .bool true]⟩), ([.string ⟨#[57, 57, 57]⟩], .tuple ⟨[.string ⟨#[57, 57, 57]⟩, .bool true]⟩), ([.string ⟨#[65, 65, 57]⟩], .tuple ⟨[.string ⟨#[65, 65, 57]⟩, .bool true]⟩)]
theorem v188_0 (R : Value → Prop) : bodyQ Tryz.prog B2 noL Tryz.f188 [S ⟨#[90, 90, 57, 86, 46, 57, 57]⟩] (fun _ => none) 0 (fun v _ _ => R v) = (∀ (c1 : Nat) (t1 : List Value), tailOK t1 c1 1 1 = true → bif Nat.beq (List.length ([.int .u8 90] ++ t1)) (c1 * 1) && Nat.ble 1 c1 && Nat.ble c1 9223372036854775807 && true && true then ∀ (c2 : Nat) (t2 : List Value), tailOK t2 c2 2 1 = true → bif Nat.beq (List.length ([.int .u8 90, .int .u8 90] ++ t2)) (c2 * 1) && Nat.ble 2 c2 && Nat.ble c2 9223372036854775807 && true && true then ∀ (c3 : Nat) (t3 : List Value), tailOK t3 c3 3 1 = true → bif Nat.beq (List.length ([.int .u8 90, .int .u8 90, .int .u8 57] ++ t3)) (c3 * 1) && Nat.ble 3 c3 && Nat.ble c3 9223372036854775807 && true && true then ∀ (c4 : Nat) (t4 : List Value), tailOK t4 c4 4 1 = true → bif Nat.beq (List.length ([.int .u8 90, .int .u8 90, .int .u8 57, .int .u8 86] ++ t4)) (c4 * 1) && Nat.ble 4 c4 && Nat.ble c4 9223372036854775807 && true && true then ∀ (c5 : Nat) (t5 : List Value), tailOK t5 c5 5 1 = true → bif Nat.beq (List.length ([.int .u8 90, .int .u8 90, .int .u8 57, .int .u8 86, .int .u8 46] ++ t5)) (c5 * 1) && Nat.ble 5 c5 && Nat.ble c5 9223372036854775807 && true && true then ∀ (c6 : Nat) (t6 : List Value), tailOK t6 c6 6 1 = true → bif Nat.beq (List.length ([.int .u8 90, .int .u8 90, .int .u8 57, .int .u8 86, .int .u8 46, .int .u8 57] ++ t6)) (c6 * 1) && Nat.ble 6 c6 && Nat.ble c6 9223372036854775807 && true && true then ∀ (c7 : Nat) (t7 : List Value), tailOK t7 c7 7 1 = true → R (.tuple ⟨[S ⟨#[90, 90, 57, 86, 46, 57, 57]⟩, B true]⟩) else False else False else False else False else False else False) := by kernel_rfl
theorem k188_0 : DoesQ Tryz.prog B2 noL Tryz.f188 [.string ⟨#[90, 90, 57, 86, 46, 57, 57]⟩] (.tuple ⟨[.string ⟨#[90, 90, 57, 86, 46, 57, 57]⟩, .bool true]⟩) := by
 rw [DoesQ, v188_0]
 intro c1 t1 h1
 refine c_t (capOK (row := [.int .u8 90]) h1 rfl) ?_
 intro c2 t2 h2
 refine c_t (capOK (row := [.int .u8 90, .int .u8 90]) h2 rfl) ?_
 intro c3 t3 h3
 refine c_t (capOK (row := [.int .u8 90, .int .u8 90, .int .u8 57]) h3 rfl) ?_
 intro c4 t4 h4
 refine c_t (capOK (row := [.int .u8 90, .int .u8 90, .int .u8 57, .int .u8 86]) h4 rfl) ?_
 intro c5 t5 h5
 refine c_t (capOK (row := [.int .u8 90, .int .u8 90, .int .u8 57, .int .u8 86, .int .u8 46]) h5 rfl) ?_
 intro c6 t6 h6
 refine c_t (capOK (row := [.int .u8 90, .int .u8 90, .int .u8 57, .int .u8 86, .int .u8 46, .int .u8 57]) h6 rfl) ?_
 intro c7 t7 h7
 rfl
theorem v188_1 (R : Value → Prop) : bodyQ Tryz.prog B2 noL Tryz.f188 [S ⟨#[57, 57, 57]⟩] (fun _ => none) 0 (fun v _ _ => R v) = (∀ (c1 : Nat) (t1 : List Value), tailOK t1 c1 1 1 = true → bif Nat.beq (List.length ([.int .u8 57] ++ t1)) (c1 * 1) && Nat.ble 1 c1 && Nat.ble c1 9223372036854775807 && true && true then ∀ (c2 : Nat) (t2 : List Value), tailOK t2 c2 2 1 = true → bif Nat.beq (List.length ([.int .u8 57, .int .u8 57] ++ t2)) (c2 * 1) && Nat.ble 2 c2 && Nat.ble c2 9223372036854775807 && true && true then ∀ (c3 : Nat) (t3 : List Value), tailOK t3 c3 3 1 = true → R (.tuple ⟨[S ⟨#[57, 57, 57]⟩, B true]⟩) else False else False) := by kernel_rfl
theorem k188_1 : DoesQ Tryz.prog B2 noL Tryz.f188 [.string ⟨#[57, 57, 57]⟩] (.tuple ⟨[.string ⟨#[57, 57, 57]⟩, .bool true]⟩) := by
 rw [DoesQ, v188_1]
 intro c1 t1 h1
 refine c_t (capOK (row := [.int .u8 57]) h1 rfl) ?_
 intro c2 t2 h2
 refine c_t (capOK (row := [.int .u8 57, .int .u8 57]) h2 rfl) ?_
 intro c3 t3 h3
 rfl
theorem v188_2 (R : Value → Prop) : bodyQ Tryz.prog B2 noL Tryz.f188 [S ⟨#[65, 65, 57]⟩] (fun _ => none) 0 (fun v _ _ => R v) = (∀ (c1 : Nat) (t1 : List Value), tailOK t1 c1 1 1 = true → bif Nat.beq (List.length ([.int .u8 65] ++ t1)) (c1 * 1) && Nat.ble 1 c1 && Nat.ble c1 9223372036854775807 && true && true then ∀ (c2 : Nat) (t2 : List Value), tailOK t2 c2 2 1 = true → bif Nat.beq (List.length ([.int .u8 65, .int .u8 65] ++ t2)) (c2 * 1) && Nat.ble 2 c2 && Nat.ble c2 9223372036854775807 && true && true then ∀ (c3 : Nat) (t3 : List Value), tailOK t3 c3 3 1 = true → R (.tuple ⟨[S ⟨#[65, 65, 57]⟩, B true]⟩) else False else False) := by kernel_rfl
theorem k188_2 : DoesQ Tryz.prog B2 noL Tryz.f188 [.string ⟨#[65, 65, 57]⟩] (.tuple ⟨[.string ⟨#[65, 65, 57]⟩, .bool true]⟩) := by
 rw [DoesQ, v188_2]
 intro c1 t1 h1
 refine c_t (capOK (row := [.int .u8 65]) h1 rfl) ?_
 intro c2 t2 h2
 refine c_t (capOK (row := [.int .u8 65, .int .u8 65]) h2 rfl) ?_
 intro c3 t3 h3
 rfl
theorem pk188 : PureOK Tryz.prog 188 (memo m188) := pure_memo ok_B2 hmix fn188 lokf_none (by kernel_rfl) ⟨k188_0, k188_1, k188_2, trivial⟩
def B3 : Env := Env.nil.add 272 (sp2 Px.s141)
theorem ok_B3 : EnvOK Tryz.prog B3 := env_add env_nil (pureC Px.ok141)
theorem fn281 : Fn1 Tryz.prog 281 Tryz.f281 := ⟨Tryz.func281, by kernel_rfl, by kernel_rfl, by kernel_rfl⟩
def B4 : Env := (((Env.nil.add 272 (sp2 Px.s141)).add 279 (sp2 Px.s157)).add 129 (sp2 s132)).add 280 (sp2 s280)
theorem ok_B4 : EnvOK Tryz.prog B4 := env_add (env_add (env_add (env_add env_nil (pureC Px.ok141)) (pureC Px.ok157)) (pureC ok132)) (pureC ok280)
theorem fn244 : Fn1 Tryz.prog 244 Tryz.f244 := ⟨Tryz.func244, by kernel_rfl, by kernel_rfl, by kernel_rfl⟩
def B5 : Env := Env.nil.addG 281 (inlQ Tryz.prog B3 noL Tryz.f281)
theorem ok_B5 : EnvOK Tryz.prog B5 := env_addG env_nil (gen_inlQ ok_B3 hmix fn281 lokf_none)
theorem fn245 : Fn1 Tryz.prog 245 Tryz.f245 := ⟨Tryz.func245, by kernel_rfl, by kernel_rfl, by kernel_rfl⟩
def B6 : Env := Env.nil
theorem ok_B6 : EnvOK Tryz.prog B6 := env_nil
theorem fn246 : Fn1 Tryz.prog 246 Tryz.f246 := ⟨Tryz.func246, by kernel_rfl, by kernel_rfl, by kernel_rfl⟩
def B7 : Env := Env.nil.add 272 (sp2 Px.s141)
theorem ok_B7 : EnvOK Tryz.prog B7 := env_add env_nil (pureC Px.ok141)
theorem fn247 : Fn1 Tryz.prog 247 Tryz.f247 := ⟨Tryz.func247, by kernel_rfl, by kernel_rfl, by kernel_rfl⟩
def B8 : Env := ((((((Env.nil.add 129 (sp2 s132)).add 130 (sp2 s130)).add 203 (sp2 s102)).addG 244 (inlQ Tryz.prog B4 noL Tryz.f244)).addG 245 (inlQ Tryz.prog B5 noL Tryz.f245)).addG 246 (inlQ Tryz.prog B6 noL Tryz.f246)).addG 247 (inlQ Tryz.prog B7 noL Tryz.f247)
theorem ok_B8 : EnvOK Tryz.prog B8 := env_addG (env_addG (env_addG (env_addG (env_add (env_add (env_add env_nil (pureC ok132)) (pureC ok130)) (pureC ok102)) (gen_inlQ ok_B4 hmix fn244 lokf_none)) (gen_inlQ ok_B5 hmix fn245 lokf_none)) (gen_inlQ ok_B6 hmix fn246 lokf_none)) (gen_inlQ ok_B7 hmix fn247 lokf_none)
theorem fn204 : Fn1 Tryz.prog 204 Tryz.f204 := ⟨Tryz.func204, by kernel_rfl, by kernel_rfl, by kernel_rfl⟩
def B9 : Env := (((Env.nil.add 55 (sp2 s55)).add 203 (sp2 s102)).add 188 (memo m188)).addG 204 (inlQ Tryz.prog B8 noL Tryz.f204)
theorem ok_B9 : EnvOK Tryz.prog B9 := env_addG (env_add (env_add (env_add env_nil ok55) (pureC ok102)) pk188) (gen_inlQ ok_B8 hmix fn204 lokf_none)
theorem fn145 : Fn1 Tryz.prog 145 Tryz.f145 := ⟨Tryz.func145, by kernel_rfl, by kernel_rfl, by kernel_rfl⟩
def B10 : Env := Env.nil.addG 145 (inlQ Tryz.prog B9 noL Tryz.f145)
theorem ok_B10 : EnvOK Tryz.prog B10 := env_addG env_nil (gen_inlQ ok_B9 hmix fn145 lokf_none)
theorem fn113 : Fn1 Tryz.prog 113 Tryz.f113 := ⟨Tryz.func113, by kernel_rfl, by kernel_rfl, by kernel_rfl⟩
def m113 : List (List Value × Value) := [([.string ⟨#[90, 90, 57, 86, 46, 57, 57]⟩], .tuple ⟨[.agg ⟨[.string ⟨#[90, 90, 57, 86, 46, 57, 57]⟩, .bool true, .int .i64 6, .int .i64 5, .int .i64 2, .bool false]⟩, .int .i64 0]⟩), ([.string ⟨#[57, 57, 57]⟩], .tuple ⟨[.agg ⟨[.string ⟨#[57, 57, 57]⟩, .bool true, .int .i64 3, .int .i64 3, .int .i64 0, .bool false]⟩, .int .i64 0]⟩), ([.string ⟨#[65, 65, 57]⟩], .tuple ⟨[.agg ⟨[.string ⟨#[65, 65, 57]⟩, .bool false, .int .i64 3, .int .i64 0, .int .i64 0, .bool false]⟩, .int .i64 0]⟩)]
theorem v113_0 (R : Value → Prop) : bodyQ Tryz.prog B10 noL Tryz.f113 [S ⟨#[90, 90, 57, 86, 46, 57, 57]⟩] (fun _ => none) 0 (fun v _ _ => R v) = (∀ c1 : Nat, Nat.ble 7 c1 = true → ∀ (c2 : Nat) (t2 : List Value), tailOK t2 c2 1 1 = true → bif Nat.beq (List.length ([I 1] ++ t2)) (c2 * 1) && Nat.ble 1 c2 && Nat.ble c2 9223372036854775807 && true && true then ∀ (c3 : Nat) (t3 : List Value), tailOK t3 c3 2 1 = true → bif Nat.beq (List.length ([I 1, I 1] ++ t3)) (c3 * 1) && Nat.ble 2 c3 && Nat.ble c3 9223372036854775807 && true && true then ∀ (c4 : Nat) (t4 : List Value), tailOK t4 c4 3 1 = true → bif Nat.beq (List.length ([I 1, I 1, I 0] ++ t4)) (c4 * 1) && Nat.ble 3 c4 && Nat.ble c4 9223372036854775807 && true && true then ∀ (c5 : Nat) (t5 : List Value), tailOK t5 c5 4 1 = true → bif Nat.beq (List.length ([I 1, I 1, I 0, I 2] ++ t5)) (c5 * 1) && Nat.ble 4 c5 && Nat.ble c5 9223372036854775807 && true && true then ∀ (c6 : Nat) (t6 : List Value), tailOK t6 c6 5 1 = true → bif Nat.beq (List.length ([I 1, I 1, I 0, I 2, I 3] ++ t6)) (c6 * 1) && Nat.ble 5 c6 && Nat.ble c6 9223372036854775807 && true && true then ∀ (c7 : Nat) (t7 : List Value), tailOK t7 c7 6 1 = true → bif Nat.beq (List.length ([I 1, I 1, I 0, I 2, I 3, I 0] ++ t7)) (c7 * 1) && Nat.ble 6 c7 && Nat.ble c7 9223372036854775807 && true && true then ∀ (c8 : Nat) (t8 : List Value), tailOK t8 c8 7 1 = true → ∀ c9 : Nat, Nat.ble 7 c9 = true → R (.tuple ⟨[.agg ⟨[S ⟨#[90, 90, 57, 86, 46, 57, 57]⟩, B true, I 6, I 5, I 2, B false]⟩, I 0]⟩) else False else False else False else False else False else False) := by kernel_rfl
theorem k113_0 : DoesQ Tryz.prog B10 noL Tryz.f113 [.string ⟨#[90, 90, 57, 86, 46, 57, 57]⟩] (.tuple ⟨[.agg ⟨[.string ⟨#[90, 90, 57, 86, 46, 57, 57]⟩, .bool true, .int .i64 6, .int .i64 5, .int .i64 2, .bool false]⟩, .int .i64 0]⟩) := by
 rw [DoesQ, v113_0]
 intro c1 h1
 intro c2 t2 h2
 refine c_t (capOK (row := [.int .i64 1]) h2 rfl) ?_
 intro c3 t3 h3
 refine c_t (capOK (row := [.int .i64 1, .int .i64 1]) h3 rfl) ?_
 intro c4 t4 h4
 refine c_t (capOK (row := [.int .i64 1, .int .i64 1, .int .i64 0]) h4 rfl) ?_
 intro c5 t5 h5
 refine c_t (capOK (row := [.int .i64 1, .int .i64 1, .int .i64 0, .int .i64 2]) h5 rfl) ?_
 intro c6 t6 h6
 refine c_t (capOK (row := [.int .i64 1, .int .i64 1, .int .i64 0, .int .i64 2, .int .i64 3]) h6 rfl) ?_
 intro c7 t7 h7
 refine c_t (capOK (row := [.int .i64 1, .int .i64 1, .int .i64 0, .int .i64 2, .int .i64 3, .int .i64 0]) h7 rfl) ?_
 intro c8 t8 h8
 intro c9 h9
 rfl
theorem v113_1 (R : Value → Prop) : bodyQ Tryz.prog B10 noL Tryz.f113 [S ⟨#[57, 57, 57]⟩] (fun _ => none) 0 (fun v _ _ => R v) = (∀ c1 : Nat, Nat.ble 3 c1 = true → ∀ (c2 : Nat) (t2 : List Value), tailOK t2 c2 1 1 = true → bif Nat.beq (List.length ([I 0] ++ t2)) (c2 * 1) && Nat.ble 1 c2 && Nat.ble c2 9223372036854775807 && true && true then ∀ (c3 : Nat) (t3 : List Value), tailOK t3 c3 2 1 = true → bif Nat.beq (List.length ([I 0, I 0] ++ t3)) (c3 * 1) && Nat.ble 2 c3 && Nat.ble c3 9223372036854775807 && true && true then ∀ (c4 : Nat) (t4 : List Value), tailOK t4 c4 3 1 = true → ∀ c5 : Nat, Nat.ble 3 c5 = true → R (.tuple ⟨[.agg ⟨[S ⟨#[57, 57, 57]⟩, B true, I 3, I 3, I 0, B false]⟩, I 0]⟩) else False else False) := by kernel_rfl
theorem k113_1 : DoesQ Tryz.prog B10 noL Tryz.f113 [.string ⟨#[57, 57, 57]⟩] (.tuple ⟨[.agg ⟨[.string ⟨#[57, 57, 57]⟩, .bool true, .int .i64 3, .int .i64 3, .int .i64 0, .bool false]⟩, .int .i64 0]⟩) := by
 rw [DoesQ, v113_1]
 intro c1 h1
 intro c2 t2 h2
 refine c_t (capOK (row := [.int .i64 0]) h2 rfl) ?_
 intro c3 t3 h3
 refine c_t (capOK (row := [.int .i64 0, .int .i64 0]) h3 rfl) ?_
 intro c4 t4 h4
 intro c5 h5
 rfl
theorem v113_2 (R : Value → Prop) : bodyQ Tryz.prog B10 noL Tryz.f113 [S ⟨#[65, 65, 57]⟩] (fun _ => none) 0 (fun v _ _ => R v) = (R (.tuple ⟨[.agg ⟨[S ⟨#[65, 65, 57]⟩, B false, I 3, I 0, I 0, B false]⟩, I 0]⟩)) := by kernel_rfl
theorem pk113 : PureOK Tryz.prog 113 (memo m113) := pure_memo ok_B10 hmix fn113 lokf_none (by kernel_rfl) ⟨k113_0, k113_1, by rw [DoesQ, v113_2], trivial⟩
def B11 : Env := Env.nil.add 113 (memo m113)
theorem ok_B11 : EnvOK Tryz.prog B11 := env_add env_nil pk113
theorem fn67 : Fn1 Tryz.prog 67 Tryz.f67 := ⟨Tryz.func67, by kernel_rfl, by kernel_rfl, by kernel_rfl⟩
def m67 : List (List Value × Value) := [([.string ⟨#[90, 90, 57, 86, 46, 57, 57]⟩], .int .i64 0), ([.string ⟨#[57, 57, 57]⟩], .int .i64 0), ([.string ⟨#[65, 65, 57]⟩], .int .i64 0)]
theorem pk67 : PureOK Tryz.prog 67 (memo m67) := pure_memoR [] ok_B11 hmix fn67 lokf_none (by kernel_rfl) (by kernel_rfl)
def B12 : Env := Env.nil.add 113 (memo m113)
theorem ok_B12 : EnvOK Tryz.prog B12 := env_add env_nil pk113
theorem fn61 : Fn1 Tryz.prog 61 Tryz.f61 := ⟨Tryz.func61, by kernel_rfl, by kernel_rfl, by kernel_rfl⟩
def m61 : List (List Value × Value) := [([.string ⟨#[90, 90, 57, 86, 46, 57, 57]⟩], .tuple ⟨[.agg ⟨[.int .i64 1, .int .i64 5, .int .i64 2, .bool false, .string ⟨#[]⟩]⟩, .int .i64 0]⟩), ([.string ⟨#[57, 57, 57]⟩], .tuple ⟨[.agg ⟨[.int .i64 1, .int .i64 3, .int .i64 0, .bool false, .string ⟨#[]⟩]⟩, .int .i64 0]⟩), ([.string ⟨#[65, 65, 57]⟩], .tuple ⟨[.agg ⟨[.int .i64 3, .int .i64 3, .int .i64 0, .bool false, .string ⟨#[]⟩]⟩, .int .i64 0]⟩)]
theorem pk61 : PureOK Tryz.prog 61 (memo m61) := pure_memoR [] ok_B12 hmix fn61 lokf_none (by kernel_rfl) (by kernel_rfl)
def B13 : Env := Env.nil.addG 145 (inlQ Tryz.prog B9 noL Tryz.f145)
theorem ok_B13 : EnvOK Tryz.prog B13 := env_addG env_nil (gen_inlQ ok_B9 hmix fn145 lokf_none)
theorem fn136 : Fn1 Tryz.prog 136 Tryz.f136 := ⟨Tryz.func136, by kernel_rfl, by kernel_rfl, by kernel_rfl⟩
def B14 : Env := Env.nil.addG 136 (inlQ Tryz.prog B13 noL Tryz.f136)
theorem ok_B14 : EnvOK Tryz.prog B14 := env_addG env_nil (gen_inlQ ok_B13 hmix fn136 lokf_none)
theorem fn59 : Fn1 Tryz.prog 59 Tryz.f59 := ⟨Tryz.func59, by kernel_rfl, by kernel_rfl, by kernel_rfl⟩
def m59 : List (List Value × Value) := [([.string ⟨#[90, 90, 57, 86, 46, 57, 57]⟩], .bool true), ([.string ⟨#[57, 57, 57]⟩], .bool true), ([.string ⟨#[65, 65, 57]⟩], .bool false)]
theorem v59_0 (R : Value → Prop) : bodyQ Tryz.prog B14 noL Tryz.f59 [S ⟨#[90, 90, 57, 86, 46, 57, 57]⟩] (fun _ => none) 0 (fun v _ _ => R v) = (∀ c1 : Nat, Nat.ble 7 c1 = true → ∀ (c2 : Nat) (t2 : List Value), tailOK t2 c2 1 1 = true → bif Nat.beq (List.length ([I 1] ++ t2)) (c2 * 1) && Nat.ble 1 c2 && Nat.ble c2 9223372036854775807 && true && true then ∀ (c3 : Nat) (t3 : List Value), tailOK t3 c3 2 1 = true → bif Nat.beq (List.length ([I 1, I 1] ++ t3)) (c3 * 1) && Nat.ble 2 c3 && Nat.ble c3 9223372036854775807 && true && true then ∀ (c4 : Nat) (t4 : List Value), tailOK t4 c4 3 1 = true → bif Nat.beq (List.length ([I 1, I 1, I 0] ++ t4)) (c4 * 1) && Nat.ble 3 c4 && Nat.ble c4 9223372036854775807 && true && true then ∀ (c5 : Nat) (t5 : List Value), tailOK t5 c5 4 1 = true → bif Nat.beq (List.length ([I 1, I 1, I 0, I 2] ++ t5)) (c5 * 1) && Nat.ble 4 c5 && Nat.ble c5 9223372036854775807 && true && true then ∀ (c6 : Nat) (t6 : List Value), tailOK t6 c6 5 1 = true → bif Nat.beq (List.length ([I 1, I 1, I 0, I 2, I 3] ++ t6)) (c6 * 1) && Nat.ble 5 c6 && Nat.ble c6 9223372036854775807 && true && true then ∀ (c7 : Nat) (t7 : List Value), tailOK t7 c7 6 1 = true → bif Nat.beq (List.length ([I 1, I 1, I 0, I 2, I 3, I 0] ++ t7)) (c7 * 1) && Nat.ble 6 c7 && Nat.ble c7 9223372036854775807 && true && true then ∀ (c8 : Nat) (t8 : List Value), tailOK t8 c8 7 1 = true → ∀ c9 : Nat, Nat.ble 7 c9 = true → R (B true) else False else False else False else False else False else False) := by kernel_rfl
theorem k59_0 : DoesQ Tryz.prog B14 noL Tryz.f59 [.string ⟨#[90, 90, 57, 86, 46, 57, 57]⟩] (.bool true) := by
 rw [DoesQ, v59_0]
 intro c1 h1
 intro c2 t2 h2
 refine c_t (capOK (row := [.int .i64 1]) h2 rfl) ?_
 intro c3 t3 h3
 refine c_t (capOK (row := [.int .i64 1, .int .i64 1]) h3 rfl) ?_
 intro c4 t4 h4
 refine c_t (capOK (row := [.int .i64 1, .int .i64 1, .int .i64 0]) h4 rfl) ?_
 intro c5 t5 h5
 refine c_t (capOK (row := [.int .i64 1, .int .i64 1, .int .i64 0, .int .i64 2]) h5 rfl) ?_
 intro c6 t6 h6
 refine c_t (capOK (row := [.int .i64 1, .int .i64 1, .int .i64 0, .int .i64 2, .int .i64 3]) h6 rfl) ?_
 intro c7 t7 h7
 refine c_t (capOK (row := [.int .i64 1, .int .i64 1, .int .i64 0, .int .i64 2, .int .i64 3, .int .i64 0]) h7 rfl) ?_
 intro c8 t8 h8
 intro c9 h9
 rfl
theorem v59_1 (R : Value → Prop) : bodyQ Tryz.prog B14 noL Tryz.f59 [S ⟨#[57, 57, 57]⟩] (fun _ => none) 0 (fun v _ _ => R v) = (∀ c1 : Nat, Nat.ble 3 c1 = true → ∀ (c2 : Nat) (t2 : List Value), tailOK t2 c2 1 1 = true → bif Nat.beq (List.length ([I 0] ++ t2)) (c2 * 1) && Nat.ble 1 c2 && Nat.ble c2 9223372036854775807 && true && true then ∀ (c3 : Nat) (t3 : List Value), tailOK t3 c3 2 1 = true → bif Nat.beq (List.length ([I 0, I 0] ++ t3)) (c3 * 1) && Nat.ble 2 c3 && Nat.ble c3 9223372036854775807 && true && true then ∀ (c4 : Nat) (t4 : List Value), tailOK t4 c4 3 1 = true → ∀ c5 : Nat, Nat.ble 3 c5 = true → R (B true) else False else False) := by kernel_rfl
theorem k59_1 : DoesQ Tryz.prog B14 noL Tryz.f59 [.string ⟨#[57, 57, 57]⟩] (.bool true) := by
 rw [DoesQ, v59_1]
 intro c1 h1
 intro c2 t2 h2
 refine c_t (capOK (row := [.int .i64 0]) h2 rfl) ?_
 intro c3 t3 h3
 refine c_t (capOK (row := [.int .i64 0, .int .i64 0]) h3 rfl) ?_
 intro c4 t4 h4
 intro c5 h5
 rfl
theorem v59_2 (R : Value → Prop) : bodyQ Tryz.prog B14 noL Tryz.f59 [S ⟨#[65, 65, 57]⟩] (fun _ => none) 0 (fun v _ _ => R v) = (R (B false)) := by kernel_rfl
theorem pk59 : PureOK Tryz.prog 59 (memo m59) := pure_memo ok_B14 hmix fn59 lokf_none (by kernel_rfl) ⟨k59_0, k59_1, by rw [DoesQ, v59_2], trivial⟩
def B15 : Env := Env.nil
theorem ok_B15 : EnvOK Tryz.prog B15 := env_nil
theorem fn147 : Fn1 Tryz.prog 147 Tryz.f147 := ⟨Tryz.func147, by kernel_rfl, by kernel_rfl, by kernel_rfl⟩
def B16 : Env := (((Env.nil.add 154 (sp2 s154)).add 55 (sp2 s55)).add 30 (sp2 s30)).add 81 (memo m81)
theorem ok_B16 : EnvOK Tryz.prog B16 := env_add (env_add (env_add (env_add env_nil ok154) ok55) ok30) pk81
theorem fn225 : Fn1 Tryz.prog 225 Tryz.f225 := ⟨Tryz.func225, by kernel_rfl, by kernel_rfl, by kernel_rfl⟩
def B17 : Env := Env.nil
theorem ok_B17 : EnvOK Tryz.prog B17 := env_nil
theorem fn287 : Fn1 Tryz.prog 287 Tryz.f287 := ⟨Tryz.func287, by kernel_rfl, by kernel_rfl, by kernel_rfl⟩
def B18 : Env := Env.nil
theorem ok_B18 : EnvOK Tryz.prog B18 := env_nil
theorem fn288 : Fn1 Tryz.prog 288 Tryz.f288 := ⟨Tryz.func288, by kernel_rfl, by kernel_rfl, by kernel_rfl⟩
def B19 : Env := Env.nil.add 55 (sp2 s55)
theorem ok_B19 : EnvOK Tryz.prog B19 := env_add env_nil ok55
theorem fn251 : Fn1 Tryz.prog 251 Tryz.f251 := ⟨Tryz.func251, by kernel_rfl, by kernel_rfl, by kernel_rfl⟩
def B20 : Env := (Env.nil.addG 287 (inlQ Tryz.prog B17 noL Tryz.f287)).addG 288 (inlQ Tryz.prog B18 noL Tryz.f288)
theorem ok_B20 : EnvOK Tryz.prog B20 := env_addG (env_addG env_nil (gen_inlQ ok_B17 hmix fn287 lokf_none)) (gen_inlQ ok_B18 hmix fn288 lokf_none)
theorem fn252 : Fn1 Tryz.prog 252 Tryz.f252 := ⟨Tryz.func252, by kernel_rfl, by kernel_rfl, by kernel_rfl⟩
def B21 : Env := Env.nil.addG 287 (inlQ Tryz.prog B17 noL Tryz.f287)
theorem ok_B21 : EnvOK Tryz.prog B21 := env_addG env_nil (gen_inlQ ok_B17 hmix fn287 lokf_none)
theorem fn253 : Fn1 Tryz.prog 253 Tryz.f253 := ⟨Tryz.func253, by kernel_rfl, by kernel_rfl, by kernel_rfl⟩
def B22 : Env := Env.nil
theorem ok_B22 : EnvOK Tryz.prog B22 := env_nil
theorem fn254 : Fn1 Tryz.prog 254 Tryz.f254 := ⟨Tryz.func254, by kernel_rfl, by kernel_rfl, by kernel_rfl⟩
def B23 : Env := Env.nil
theorem ok_B23 : EnvOK Tryz.prog B23 := env_nil
theorem fn255 : Fn1 Tryz.prog 255 Tryz.f255 := ⟨Tryz.func255, by kernel_rfl, by kernel_rfl, by kernel_rfl⟩
def B24 : Env := Env.nil
theorem ok_B24 : EnvOK Tryz.prog B24 := env_nil
theorem fn256 : Fn1 Tryz.prog 256 Tryz.f256 := ⟨Tryz.func256, by kernel_rfl, by kernel_rfl, by kernel_rfl⟩
def B25 : Env := ((((((Env.nil.add 30 (sp2 s30)).addG 251 (inlQ Tryz.prog B19 noL Tryz.f251)).addG 252 (inlQ Tryz.prog B20 noL Tryz.f252)).addG 253 (inlQ Tryz.prog B21 noL Tryz.f253)).addG 254 (inlQ Tryz.prog B22 noL Tryz.f254)).addG 255 (inlQ Tryz.prog B23 noL Tryz.f255)).addG 256 (inlQ Tryz.prog B24 noL Tryz.f256)
theorem ok_B25 : EnvOK Tryz.prog B25 := env_addG (env_addG (env_addG (env_addG (env_addG (env_addG (env_add env_nil ok30) (gen_inlQ ok_B19 hmix fn251 lokf_none)) (gen_inlQ ok_B20 hmix fn252 lokf_none)) (gen_inlQ ok_B21 hmix fn253 lokf_none)) (gen_inlQ ok_B22 hmix fn254 lokf_none)) (gen_inlQ ok_B23 hmix fn255 lokf_none)) (gen_inlQ ok_B24 hmix fn256 lokf_none)
theorem fn207 : Fn1 Tryz.prog 207 Tryz.f207 := ⟨Tryz.func207, by kernel_rfl, by kernel_rfl, by kernel_rfl⟩
def B26 : Env := ((Env.nil.addG 136 (inlQ Tryz.prog B13 noL Tryz.f136)).addG 225 (inlQ Tryz.prog B16 noL Tryz.f225)).addG 207 (inlQ Tryz.prog B25 noL Tryz.f207)
theorem ok_B26 : EnvOK Tryz.prog B26 := env_addG (env_addG (env_addG env_nil (gen_inlQ ok_B13 hmix fn136 lokf_none)) (gen_inlQ ok_B16 hmix fn225 lokf_none)) (gen_inlQ ok_B25 hmix fn207 lokf_none)
theorem fn171 : Fn1 Tryz.prog 171 Tryz.f171 := ⟨Tryz.func171, by kernel_rfl, by kernel_rfl, by kernel_rfl⟩
def m171 : List (List Value × Value) := [([.int .i64 1230, .int .i64 2, .string ⟨#[90, 90, 57, 86, 46, 57, 57]⟩], .tuple ⟨[.string ⟨#[32, 49, 50, 46, 51, 48]⟩, .bool true, .int .i64 0]⟩), ([.int .i64 234, .int .i64 0, .string ⟨#[57, 57, 57]⟩], .tuple ⟨[.string ⟨#[50, 51, 52]⟩, .bool true, .int .i64 0]⟩)]
theorem v171_0 (R : Value → Prop) : bodyQ Tryz.prog B26 noL Tryz.f171 [I 1230, I 2, S ⟨#[90, 90, 57, 86, 46, 57, 57]⟩] (fun _ => none) 0 (fun v _ _ => R v) = (∀ c1 : Nat, Nat.ble 7 c1 = true → ∀ (c2 : Nat) (t2 : List Value), tailOK t2 c2 1 1 = true → bif Nat.beq (List.length ([I 1] ++ t2)) (c2 * 1) && Nat.ble 1 c2 && Nat.ble c2 9223372036854775807 && true && true then ∀ (c3 : Nat) (t3 : List Value), tailOK t3 c3 2 1 = true → bif Nat.beq (List.length ([I 1, I 1] ++ t3)) (c3 * 1) && Nat.ble 2 c3 && Nat.ble c3 9223372036854775807 && true && true then ∀ (c4 : Nat) (t4 : List Value), tailOK t4 c4 3 1 = true → bif Nat.beq (List.length ([I 1, I 1, I 0] ++ t4)) (c4 * 1) && Nat.ble 3 c4 && Nat.ble c4 9223372036854775807 && true && true then ∀ (c5 : Nat) (t5 : List Value), tailOK t5 c5 4 1 = true → bif Nat.beq (List.length ([I 1, I 1, I 0, I 2] ++ t5)) (c5 * 1) && Nat.ble 4 c5 && Nat.ble c5 9223372036854775807 && true && true then ∀ (c6 : Nat) (t6 : List Value), tailOK t6 c6 5 1 = true → bif Nat.beq (List.length ([I 1, I 1, I 0, I 2, I 3] ++ t6)) (c6 * 1) && Nat.ble 5 c6 && Nat.ble c6 9223372036854775807 && true && true then ∀ (c7 : Nat) (t7 : List Value), tailOK t7 c7 6 1 = true → bif Nat.beq (List.length ([I 1, I 1, I 0, I 2, I 3, I 0] ++ t7)) (c7 * 1) && Nat.ble 6 c7 && Nat.ble c7 9223372036854775807 && true && true then ∀ (c8 : Nat) (t8 : List Value), tailOK t8 c8 7 1 = true → ∀ c9 : Nat, Nat.ble 7 c9 = true → ∀ (c10 : Nat) (t10 : List Value), tailOK t10 c10 1 1 = true → bif Nat.beq (List.length ([.int .u8 32] ++ t10)) (c10 * 1) && Nat.ble 1 c10 && Nat.ble c10 9223372036854775807 && true && true then ∀ (c11 : Nat) (t11 : List Value), tailOK t11 c11 2 1 = true → bif Nat.beq (List.length ([.int .u8 32, .int .u8 49] ++ t11)) (c11 * 1) && Nat.ble 2 c11 && Nat.ble c11 9223372036854775807 && true && true then ∀ (c12 : Nat) (t12 : List Value), tailOK t12 c12 3 1 = true → bif Nat.beq (List.length ([.int .u8 32, .int .u8 49, .int .u8 50] ++ t12)) (c12 * 1) && Nat.ble 3 c12 && Nat.ble c12 9223372036854775807 && true && true then ∀ (c13 : Nat) (t13 : List Value), tailOK t13 c13 4 1 = true → bif Nat.beq (List.length ([.int .u8 32, .int .u8 49, .int .u8 50, .int .u8 46] ++ t13)) (c13 * 1) && Nat.ble 4 c13 && Nat.ble c13 9223372036854775807 && true && true then ∀ (c14 : Nat) (t14 : List Value), tailOK t14 c14 5 1 = true → bif Nat.beq (List.length ([.int .u8 32, .int .u8 49, .int .u8 50, .int .u8 46, .int .u8 51] ++ t14)) (c14 * 1) && Nat.ble 5 c14 && Nat.ble c14 9223372036854775807 && true && true then ∀ (c15 : Nat) (t15 : List Value), tailOK t15 c15 6 1 = true → R (.tuple ⟨[S ⟨#[32, 49, 50, 46, 51, 48]⟩, B true, I 0]⟩) else False else False else False else False else False else False else False else False else False else False else False) := by kernel_rfl
theorem k171_0 : DoesQ Tryz.prog B26 noL Tryz.f171 [.int .i64 1230, .int .i64 2, .string ⟨#[90, 90, 57, 86, 46, 57, 57]⟩] (.tuple ⟨[.string ⟨#[32, 49, 50, 46, 51, 48]⟩, .bool true, .int .i64 0]⟩) := by
 rw [DoesQ, v171_0]
 intro c1 h1
 intro c2 t2 h2
 refine c_t (capOK (row := [.int .i64 1]) h2 rfl) ?_
 intro c3 t3 h3
 refine c_t (capOK (row := [.int .i64 1, .int .i64 1]) h3 rfl) ?_
 intro c4 t4 h4
 refine c_t (capOK (row := [.int .i64 1, .int .i64 1, .int .i64 0]) h4 rfl) ?_
 intro c5 t5 h5
 refine c_t (capOK (row := [.int .i64 1, .int .i64 1, .int .i64 0, .int .i64 2]) h5 rfl) ?_
 intro c6 t6 h6
 refine c_t (capOK (row := [.int .i64 1, .int .i64 1, .int .i64 0, .int .i64 2, .int .i64 3]) h6 rfl) ?_
 intro c7 t7 h7
 refine c_t (capOK (row := [.int .i64 1, .int .i64 1, .int .i64 0, .int .i64 2, .int .i64 3, .int .i64 0]) h7 rfl) ?_
 intro c8 t8 h8
 intro c9 h9
 intro c10 t10 h10
 refine c_t (capOK (row := [.int .u8 32]) h10 rfl) ?_
 intro c11 t11 h11
 refine c_t (capOK (row := [.int .u8 32, .int .u8 49]) h11 rfl) ?_
 intro c12 t12 h12
 refine c_t (capOK (row := [.int .u8 32, .int .u8 49, .int .u8 50]) h12 rfl) ?_
 intro c13 t13 h13
 refine c_t (capOK (row := [.int .u8 32, .int .u8 49, .int .u8 50, .int .u8 46]) h13 rfl) ?_
 intro c14 t14 h14
 refine c_t (capOK (row := [.int .u8 32, .int .u8 49, .int .u8 50, .int .u8 46, .int .u8 51]) h14 rfl) ?_
 intro c15 t15 h15
 rfl
theorem v171_1 (R : Value → Prop) : bodyQ Tryz.prog B26 noL Tryz.f171 [I 234, I 0, S ⟨#[57, 57, 57]⟩] (fun _ => none) 0 (fun v _ _ => R v) = (∀ c1 : Nat, Nat.ble 3 c1 = true → ∀ (c2 : Nat) (t2 : List Value), tailOK t2 c2 1 1 = true → bif Nat.beq (List.length ([I 0] ++ t2)) (c2 * 1) && Nat.ble 1 c2 && Nat.ble c2 9223372036854775807 && true && true then ∀ (c3 : Nat) (t3 : List Value), tailOK t3 c3 2 1 = true → bif Nat.beq (List.length ([I 0, I 0] ++ t3)) (c3 * 1) && Nat.ble 2 c3 && Nat.ble c3 9223372036854775807 && true && true then ∀ (c4 : Nat) (t4 : List Value), tailOK t4 c4 3 1 = true → ∀ c5 : Nat, Nat.ble 3 c5 = true → ∀ (c6 : Nat) (t6 : List Value), tailOK t6 c6 1 1 = true → bif Nat.beq (List.length ([.int .u8 50] ++ t6)) (c6 * 1) && Nat.ble 1 c6 && Nat.ble c6 9223372036854775807 && true && true then ∀ (c7 : Nat) (t7 : List Value), tailOK t7 c7 2 1 = true → bif Nat.beq (List.length ([.int .u8 50, .int .u8 51] ++ t7)) (c7 * 1) && Nat.ble 2 c7 && Nat.ble c7 9223372036854775807 && true && true then ∀ (c8 : Nat) (t8 : List Value), tailOK t8 c8 3 1 = true → R (.tuple ⟨[S ⟨#[50, 51, 52]⟩, B true, I 0]⟩) else False else False else False else False) := by kernel_rfl
theorem k171_1 : DoesQ Tryz.prog B26 noL Tryz.f171 [.int .i64 234, .int .i64 0, .string ⟨#[57, 57, 57]⟩] (.tuple ⟨[.string ⟨#[50, 51, 52]⟩, .bool true, .int .i64 0]⟩) := by
 rw [DoesQ, v171_1]
 intro c1 h1
 intro c2 t2 h2
 refine c_t (capOK (row := [.int .i64 0]) h2 rfl) ?_
 intro c3 t3 h3
 refine c_t (capOK (row := [.int .i64 0, .int .i64 0]) h3 rfl) ?_
 intro c4 t4 h4
 intro c5 h5
 intro c6 t6 h6
 refine c_t (capOK (row := [.int .u8 50]) h6 rfl) ?_
 intro c7 t7 h7
 refine c_t (capOK (row := [.int .u8 50, .int .u8 51]) h7 rfl) ?_
 intro c8 t8 h8
 rfl
theorem pk171 : PureOK Tryz.prog 171 (memo m171) := pure_memo ok_B26 hmix fn171 lokf_none (by kernel_rfl) ⟨k171_0, k171_1, trivial⟩
def B27 : Env := (Env.nil.addG 145 (inlQ Tryz.prog B9 noL Tryz.f145)).addG 147 (inlQ Tryz.prog B15 noL Tryz.f147)
theorem ok_B27 : EnvOK Tryz.prog B27 := env_addG (env_addG env_nil (gen_inlQ ok_B9 hmix fn145 lokf_none)) (gen_inlQ ok_B15 hmix fn147 lokf_none)
theorem fn72 : Fn1 Tryz.prog 72 Tryz.f72 := ⟨Tryz.func72, by kernel_rfl, by kernel_rfl, by kernel_rfl⟩
def m72 : List (List Value × Value) := [([.string ⟨#[65, 65, 57]⟩, .string ⟨#[97, 49, 49]⟩], .bool false)]
theorem v72_0 (R : Value → Prop) : bodyQ Tryz.prog B27 noL Tryz.f72 [S ⟨#[65, 65, 57]⟩, S ⟨#[97, 49, 49]⟩] (fun _ => none) 0 (fun v _ _ => R v) = (∀ c1 : Nat, Nat.ble 3 c1 = true → R (B false)) := by kernel_rfl
theorem k72_0 : DoesQ Tryz.prog B27 noL Tryz.f72 [.string ⟨#[65, 65, 57]⟩, .string ⟨#[97, 49, 49]⟩] (.bool false) := by
 rw [DoesQ, v72_0]
 intro c1 h1
 rfl
theorem pk72 : PureOK Tryz.prog 72 (memo m72) := pure_memo ok_B27 hmix fn72 lokf_none (by kernel_rfl) ⟨k72_0, trivial⟩
def B28 : Env := ((Env.nil.add 30 (sp2 s30)).addG 145 (inlQ Tryz.prog B9 noL Tryz.f145)).addG 207 (inlQ Tryz.prog B25 noL Tryz.f207)
theorem ok_B28 : EnvOK Tryz.prog B28 := env_addG (env_addG (env_add env_nil ok30) (gen_inlQ ok_B9 hmix fn145 lokf_none)) (gen_inlQ ok_B25 hmix fn207 lokf_none)
theorem fn176 : Fn1 Tryz.prog 176 Tryz.f176 := ⟨Tryz.func176, by kernel_rfl, by kernel_rfl, by kernel_rfl⟩
def m176 : List (List Value × Value) := [([.string ⟨#[65, 65, 57]⟩], .tuple ⟨[.string ⟨#[32, 32, 32]⟩, .int .i64 0]⟩)]
theorem pk176 : PureOK Tryz.prog 176 (memo m176) := pure_memoR [] ok_B28 hmix fn176 lokf_none (by kernel_rfl) (by kernel_rfl)
def B29 : Env := B28.add 176 (memo m176)
end Go.Cs
end
noncomputable section
set_option maxRecDepth 100000
set_option maxHeartbeats 3200000
namespace Go.Cs
open Go Go.Ab Go.Proofs Go.Px Go.Cx
def A1 : Env := B29.add 152 (sp1 Cx.s152)
def A2 : Env := A1.add 213 (sp1 Cx.s213)
def A5 : Env := (Env.nil.add 67 (memo m67)).add 66 (sp1 Cx.s66)
theorem ok_A5 : EnvOK Tryz.prog A5 := env_add (env_add env_nil pk67) (pureC Cx.ok66)
theorem fn20 : Fn1 Tryz.prog 20 Tryz.f20 := ⟨Tryz.func20, by kernel_rfl, by kernel_rfl, by kernel_rfl⟩
def m20 : List (List Value × Value) := [([.agg ⟨[.int .i64 1, .int .i64 4, .int .i64 2, .bool false, .string ⟨#[]⟩]⟩], .int .i64 0), ([.agg ⟨[.int .i64 3, .int .i64 3, .int .i64 0, .bool false, .string ⟨#[]⟩]⟩], .int .i64 0), ([.agg ⟨[.int .i64 1, .int .i64 3, .int .i64 0, .bool false, .string ⟨#[]⟩]⟩], .int .i64 0), ([.agg ⟨[.int .i64 2, .int .i64 15, .int .i64 0, .bool false, .string ⟨#[]⟩]⟩], .int .i64 0), ([.agg ⟨[.int .i64 4, .int .i64 1, .int .i64 0, .bool false, .string ⟨#[]⟩]⟩], .int .i64 0), ([.agg ⟨[.int .i64 4, .int .i64 3, .int .i64 0, .bool false, .string ⟨#[]⟩]⟩], .int .i64 0), ([.agg ⟨[.int .i64 3, .int .i64 5, .int .i64 0, .bool false, .string ⟨#[]⟩]⟩], .int .i64 0), ([.agg ⟨[.int .i64 1, .int .i64 3, .int .i64 1, .bool false, .string ⟨#[]⟩]⟩], .int .i64 0), ([.agg ⟨[.int .i64 5, .int .i64 0, .int .i64 0, .bool false, .string ⟨#[90, 90, 57, 86, 46, 57, 57]⟩]⟩], .int .i64 0), ([.agg ⟨[.int .i64 1, .int .i64 4, .int .i64 0, .bool false, .string ⟨#[]⟩]⟩], .int .i64 0), ([.agg ⟨[.int .i64 5, .int .i64 0, .int .i64 0, .bool false, .string ⟨#[57, 57, 57]⟩]⟩], .int .i64 0), ([.agg ⟨[.int .i64 5, .int .i64 0, .int .i64 0, .bool false, .string ⟨#[65, 65, 57]⟩]⟩], .int .i64 0), ([.agg ⟨[.int .i64 3, .int .i64 256, .int .i64 0, .bool false, .string ⟨#[]⟩]⟩], .int .i64 5), ([.agg ⟨[.int .i64 4, .int .i64 64, .int .i64 0, .bool false, .string ⟨#[]⟩]⟩], .int .i64 0)]
theorem pk20 : PureOK Tryz.prog 20 (memo m20) := pure_memoR [0, 1, 0, 0, 0, 0, 1, 0, 0, 0, 0, 0, 1] ok_A5 hmix fn20 lokf_none (by kernel_rfl) (by kernel_rfl)
def A6 : Env := Env.nil
theorem ok_A6 : EnvOK Tryz.prog A6 := env_nil
theorem fn191 : Fn1 Tryz.prog 191 Tryz.f191 := ⟨Tryz.func191, by kernel_rfl, by kernel_rfl, by kernel_rfl⟩
def m191 : List (List Value × Value) := [([], .agg ⟨[.int .i64 1, .int .i64 10, .int .i64 100, .int .i64 1000, .int .i64 10000, .int .i64 100000, .int .i64 1000000, .int .i64 10000000, .int .i64 100000000, .int .i64 1000000000, .int .i64 10000000000, .int .i64 100000000000, .int .i64 1000000000000, .int .i64 10000000000000, .int .i64 100000000000000, .int .i64 1000000000000000, .int .i64 10000000000000000, .int .i64 100000000000000000, .int .i64 1000000000000000000]⟩)]
theorem pk191 : PureOK Tryz.prog 191 (memo m191) := pure_memoR [] ok_A6 hmix fn191 lokf_none (by kernel_rfl) (by kernel_rfl)
def A7 : Env := Env.nil.add 191 (memo m191)
theorem ok_A7 : EnvOK Tryz.prog A7 := env_add env_nil pk191
theorem fn144 : Fn1 Tryz.prog 144 Tryz.f144 := ⟨Tryz.func144, by kernel_rfl, by kernel_rfl, by kernel_rfl⟩
def m144 : List (List Value × Value) := [([.agg ⟨[.int .i64 1, .int .i64 4, .int .i64 2, .bool false, .string ⟨#[]⟩]⟩], .int .i64 10000), ([.agg ⟨[.int .i64 2, .int .i64 15, .int .i64 0, .bool false, .string ⟨#[]⟩]⟩], .int .i64 32768), ([.agg ⟨[.int .i64 1, .int .i64 3, .int .i64 1, .bool false, .string ⟨#[]⟩]⟩], .int .i64 1000), ([.agg ⟨[.int .i64 1, .int .i64 4, .int .i64 0, .bool false, .string ⟨#[]⟩]⟩], .int .i64 10000)]
theorem pk144 : PureOK Tryz.prog 144 (memo m144) := pure_memoR [] ok_A7 hmix fn144 lokf_none (by kernel_rfl) (by kernel_rfl)
def A8 : Env := (Env.nil.add 66 (sp1 Cx.s66)).add 144 (memo m144)
theorem ok_A8 : EnvOK Tryz.prog A8 := env_add (env_add env_nil (pureC Cx.ok66)) pk144
theorem fn70 : Fn1 Tryz.prog 70 Tryz.f70 := ⟨Tryz.func70, by kernel_rfl, by kernel_rfl, by kernel_rfl⟩
def m70 : List (List Value × Value) := [([.agg ⟨[.int .i64 (-150), .string ⟨#[]⟩]⟩, .agg ⟨[.int .i64 1, .int .i64 4, .int .i64 2, .bool false, .string ⟨#[]⟩]⟩], .int .i64 0), ([.agg ⟨[.int .i64 1, .string ⟨#[]⟩]⟩, .agg ⟨[.int .i64 2, .int .i64 15, .int .i64 0, .bool false, .string ⟨#[]⟩]⟩], .int .i64 0), ([.agg ⟨[.int .i64 123, .string ⟨#[]⟩]⟩, .agg ⟨[.int .i64 1, .int .i64 3, .int .i64 1, .bool false, .string ⟨#[]⟩]⟩], .int .i64 0), ([.agg ⟨[.int .i64 1234, .string ⟨#[]⟩]⟩, .agg ⟨[.int .i64 1, .int .i64 4, .int .i64 0, .bool false, .string ⟨#[]⟩]⟩], .int .i64 0)]
theorem pk70 : PureOK Tryz.prog 70 (memo m70) := pure_memoR [] ok_A8 hmix fn70 lokf_none (by kernel_rfl) (by kernel_rfl)
def A9 : Env := Env.nil.add 55 (sp2 s55)
theorem ok_A9 : EnvOK Tryz.prog A9 := env_add env_nil ok55
theorem fn71 : Fn1 Tryz.prog 71 Tryz.f71 := ⟨Tryz.func71, by kernel_rfl, by kernel_rfl, by kernel_rfl⟩
def m71 : List (List Value × Value) := [([.string ⟨#[49, 48, 49]⟩], .bool true), ([.string ⟨#[50]⟩], .bool false)]
theorem pk71 : PureOK Tryz.prog 71 (memo m71) := pure_memoR [] ok_A9 hmix fn71 lokf_none (by kernel_rfl) (by kernel_rfl)
def A10 : Env := (((Env.nil.add 72 (memo m72)).add 20 (memo m20)).add 70 (memo m70)).add 71 (memo m71)
theorem ok_A10 : EnvOK Tryz.prog A10 := env_add (env_add (env_add (env_add env_nil pk72) pk20) pk70) pk71
theorem fn22 : Fn1 Tryz.prog 22 Tryz.f22 := ⟨Tryz.func22, by kernel_rfl, by kernel_rfl, by kernel_rfl⟩
def m22 : List (List Value × Value) := [([.agg ⟨[.int .i64 (-150), .string ⟨#[]⟩]⟩, .agg ⟨[.int .i64 1, .int .i64 4, .int .i64 2, .bool false, .string ⟨#[]⟩]⟩], .int .i64 0), ([.agg ⟨[.int .i64 0, .string ⟨#[49, 50, 120]⟩]⟩, .agg ⟨[.int .i64 3, .int .i64 3, .int .i64 0, .bool false, .string ⟨#[]⟩]⟩], .int .i64 0), ([.agg ⟨[.int .i64 1, .string ⟨#[]⟩]⟩, .agg ⟨[.int .i64 2, .int .i64 15, .int .i64 0, .bool false, .string ⟨#[]⟩]⟩], .int .i64 0), ([.agg ⟨[.int .i64 0, .string ⟨#[49, 48, 49]⟩]⟩, .agg ⟨[.int .i64 4, .int .i64 3, .int .i64 0, .bool false, .string ⟨#[]⟩]⟩], .int .i64 0), ([.agg ⟨[.int .i64 123, .string ⟨#[]⟩]⟩, .agg ⟨[.int .i64 1, .int .i64 3, .int .i64 1, .bool false, .string ⟨#[]⟩]⟩], .int .i64 0), ([.agg ⟨[.int .i64 1234, .string ⟨#[]⟩]⟩, .agg ⟨[.int .i64 1, .int .i64 4, .int .i64 0, .bool false, .string ⟨#[]⟩]⟩], .int .i64 0), ([.agg ⟨[.int .i64 0, .string ⟨#[97, 49, 49]⟩]⟩, .agg ⟨[.int .i64 3, .int .i64 3, .int .i64 0, .bool false, .string ⟨#[]⟩]⟩], .int .i64 0), ([.agg ⟨[.int .i64 0, .string ⟨#[50]⟩]⟩, .agg ⟨[.int .i64 4, .int .i64 1, .int .i64 0, .bool false, .string ⟨#[]⟩]⟩], .int .i64 6)]
theorem pk22 : PureOK Tryz.prog 22 (memo m22) := pure_memoR [] ok_A10 hmix fn22 lokf_none (by kernel_rfl) (by kernel_rfl)
def A11 : Env := (Env.nil.add 154 (sp2 s154)).add 131 (sp2 s131)
theorem ok_A11 : EnvOK Tryz.prog A11 := env_add (env_add env_nil ok154) ok131
theorem fn77 : Fn1 Tryz.prog 77 Tryz.f77 := ⟨Tryz.func77, by kernel_rfl, by kernel_rfl, by kernel_rfl⟩
def m77 : List (List Value × Value) := [([.bool true, .string ⟨#[48, 48, 49, 50, 53, 48]⟩, .int .i64 2], .agg ⟨[.bool true, .string ⟨#[49, 50, 53]⟩, .int .i64 1]⟩), ([.bool false, .string ⟨#[49, 50, 48, 48]⟩, .int .i64 0], .agg ⟨[.bool false, .string ⟨#[49, 50]⟩, .int .i64 (-2)]⟩), ([.bool false, .string ⟨#[49, 50, 51]⟩, .int .i64 1], .agg ⟨[.bool false, .string ⟨#[49, 50, 51]⟩, .int .i64 1]⟩), ([.bool false, .string ⟨#[49, 50, 51, 52]⟩, .int .i64 0], .agg ⟨[.bool false, .string ⟨#[49, 50, 51, 52]⟩, .int .i64 0]⟩)]
theorem pk77 : PureOK Tryz.prog 77 (memo m77) := pure_memoR [] ok_A11 hmix fn77 lokf_none (by kernel_rfl) (by kernel_rfl)
def A12 : Env := Env.nil.add 55 (sp2 s55)
theorem ok_A12 : EnvOK Tryz.prog A12 := env_add env_nil ok55
theorem fn84 : Fn1 Tryz.prog 84 Tryz.f84 := ⟨Tryz.func84, by kernel_rfl, by kernel_rfl, by kernel_rfl⟩
def m84 : List (List Value × Value) := [([.agg ⟨[.bool false, .string ⟨#[49, 50, 51, 52, 53]⟩, .int .i64 2]⟩], .bool true), ([.agg ⟨[.bool false, .string ⟨#[49, 50, 51]⟩, .int .i64 1]⟩], .bool true), ([.agg ⟨[.bool false, .string ⟨#[49, 50, 51, 52]⟩, .int .i64 0]⟩], .bool true)]
theorem pk84 : PureOK Tryz.prog 84 (memo m84) := pure_memoR [] ok_A12 hmix fn84 lokf_none (by kernel_rfl) (by kernel_rfl)
def A13 : Env := (Env.nil.add 154 (sp2 s154)).add 30 (sp2 s30)
theorem ok_A13 : EnvOK Tryz.prog A13 := env_add (env_add env_nil ok154) ok30
theorem fn86 : Fn1 Tryz.prog 86 Tryz.f86 := ⟨Tryz.func86, by kernel_rfl, by kernel_rfl, by kernel_rfl⟩
def m86 : List (List Value × Value) := [([.agg ⟨[.bool false, .string ⟨#[49, 50, 51, 52, 53]⟩, .int .i64 2]⟩, .int .i64 1], .string ⟨#[49, 50, 51, 52]⟩), ([.agg ⟨[.bool false, .string ⟨#[49, 50, 51]⟩, .int .i64 1]⟩, .int .i64 2], .string ⟨#[49, 50, 51, 48]⟩), ([.agg ⟨[.bool false, .string ⟨#[49, 50, 51, 52]⟩, .int .i64 0]⟩, .int .i64 0], .string ⟨#[49, 50, 51, 52]⟩)]
theorem pk86 : PureOK Tryz.prog 86 (memo m86) := pure_memoR [] ok_A13 hmix fn86 lokf_none (by kernel_rfl) (by kernel_rfl)
def A14 : Env := ((Env.nil.add 85 (sp1 Cx.s85)).add 84 (memo m84)).add 86 (memo m86)
theorem ok_A14 : EnvOK Tryz.prog A14 := env_add (env_add (env_add env_nil (pureC Cx.ok85)) pk84) pk86
theorem fn26 : Fn1 Tryz.prog 26 Tryz.f26 := ⟨Tryz.func26, by kernel_rfl, by kernel_rfl, by kernel_rfl⟩
def m26 : List (List Value × Value) := [([.agg ⟨[.bool false, .string ⟨#[49, 50, 51, 52, 53]⟩, .int .i64 2]⟩, .agg ⟨[.int .i64 1, .int .i64 3, .int .i64 1, .bool false, .string ⟨#[]⟩]⟩], .tuple ⟨[.agg ⟨[.int .i64 234, .string ⟨#[]⟩]⟩, .int .i64 1, .int .i64 0]⟩), ([.agg ⟨[.bool false, .string ⟨#[49, 50, 51]⟩, .int .i64 1]⟩, .agg ⟨[.int .i64 1, .int .i64 5, .int .i64 2, .bool false, .string ⟨#[]⟩]⟩], .tuple ⟨[.agg ⟨[.int .i64 1230, .string ⟨#[]⟩]⟩, .int .i64 0, .int .i64 0]⟩), ([.agg ⟨[.bool false, .string ⟨#[49, 50, 51, 52]⟩, .int .i64 0]⟩, .agg ⟨[.int .i64 1, .int .i64 3, .int .i64 0, .bool false, .string ⟨#[]⟩]⟩], .tuple ⟨[.agg ⟨[.int .i64 234, .string ⟨#[]⟩]⟩, .int .i64 1, .int .i64 0]⟩)]
theorem pk26 : PureOK Tryz.prog 26 (memo m26) := pure_memoR [] ok_A14 hmix fn26 lokf_none (by kernel_rfl) (by kernel_rfl)
def A15 : Env := Env.nil.add 59 (memo m59)
theorem ok_A15 : EnvOK Tryz.prog A15 := env_add env_nil pk59
theorem fn97 : Fn1 Tryz.prog 97 Tryz.f97 := ⟨Tryz.func97, by kernel_rfl, by kernel_rfl, by kernel_rfl⟩
def m97 : List (List Value × Value) := [([.agg ⟨[.int .i64 (-150), .string ⟨#[]⟩]⟩, .agg ⟨[.int .i64 1, .int .i64 4, .int .i64 2, .bool false, .string ⟨#[]⟩]⟩], .iface 174 (.agg ⟨[.int .i64 (-150), .int .i64 1, .int .i64 4, .int .i64 2, .bool false, .string ⟨#[]⟩]⟩)), ([.agg ⟨[.int .i64 0, .string ⟨#[49, 50, 120]⟩]⟩, .agg ⟨[.int .i64 3, .int .i64 3, .int .i64 0, .bool false, .string ⟨#[]⟩]⟩], .iface 178 (.string ⟨#[49, 50, 120]⟩)), ([.agg ⟨[.int .i64 1, .string ⟨#[]⟩]⟩, .agg ⟨[.int .i64 2, .int .i64 15, .int .i64 0, .bool false, .string ⟨#[]⟩]⟩], .iface 174 (.agg ⟨[.int .i64 1, .int .i64 2, .int .i64 15, .int .i64 0, .bool false, .string ⟨#[]⟩]⟩)), ([.agg ⟨[.int .i64 0, .string ⟨#[49, 48, 49]⟩]⟩, .agg ⟨[.int .i64 4, .int .i64 3, .int .i64 0, .bool false, .string ⟨#[]⟩]⟩], .iface 175 (.string ⟨#[49, 48, 49]⟩)), ([.agg ⟨[.int .i64 123, .string ⟨#[]⟩]⟩, .agg ⟨[.int .i64 1, .int .i64 3, .int .i64 1, .bool false, .string ⟨#[]⟩]⟩], .iface 174 (.agg ⟨[.int .i64 123, .int .i64 1, .int .i64 3, .int .i64 1, .bool false, .string ⟨#[]⟩]⟩)), ([.agg ⟨[.int .i64 1234, .string ⟨#[]⟩]⟩, .agg ⟨[.int .i64 1, .int .i64 4, .int .i64 0, .bool false, .string ⟨#[]⟩]⟩], .iface 174 (.agg ⟨[.int .i64 1234, .int .i64 1, .int .i64 4, .int .i64 0, .bool false, .string ⟨#[]⟩]⟩)), ([.agg ⟨[.int .i64 0, .string ⟨#[97, 49, 49]⟩]⟩, .agg ⟨[.int .i64 3, .int .i64 3, .int .i64 0, .bool false, .string ⟨#[]⟩]⟩], .iface 178 (.string ⟨#[97, 49, 49]⟩))]
theorem pk97 : PureOK Tryz.prog 97 (memo m97) := pure_memoR [] ok_A15 hmix fn97 lokf_none (by kernel_rfl) (by kernel_rfl)
def A16 : Env := Env.nil
theorem ok_A16 : EnvOK Tryz.prog A16 := env_nil
theorem fn112 : Fn1 Tryz.prog 112 Tryz.f112 := ⟨Tryz.func112, by kernel_rfl, by kernel_rfl, by kernel_rfl⟩
def m112 : List (List Value × Value) := [([.agg ⟨[.int .i64 1, .int .i64 4, .int .i64 2, .bool false, .string ⟨#[]⟩]⟩], .int .i64 7), ([.agg ⟨[.int .i64 1, .int .i64 3, .int .i64 1, .bool false, .string ⟨#[]⟩]⟩], .int .i64 6)]
theorem pk112 : PureOK Tryz.prog 112 (memo m112) := pure_memoR [] ok_A16 hmix fn112 lokf_none (by kernel_rfl) (by kernel_rfl)
def A17 : Env := ((Env.nil.add 30 (sp2 s30)).add 29 (memo m29)).add 112 (memo m112)
theorem ok_A17 : EnvOK Tryz.prog A17 := env_add (env_add (env_add env_nil ok30) pk29) pk112
theorem fn321 : Fn1 Tryz.prog 321 Tryz.f321 := ⟨Tryz.func321, by kernel_rfl, by kernel_rfl, by kernel_rfl⟩
def m321 : List (List Value × Value) := [([.agg ⟨[.int .i64 (-150), .int .i64 1, .int .i64 4, .int .i64 2, .bool false, .string ⟨#[]⟩]⟩], .string ⟨#[32, 32, 45, 49, 46, 53, 48]⟩)]
theorem pk321 : PureOK Tryz.prog 321 (memo m321) := pure_memoR [] ok_A17 hmix fn321 lokf_none (by kernel_rfl) (by kernel_rfl)
def A18 : Env := Env.nil
theorem ok_A18 : EnvOK Tryz.prog A18 := env_nil
theorem fn322 : Fn1 Tryz.prog 322 Tryz.f322 := ⟨Tryz.func322, by kernel_rfl, by kernel_rfl, by kernel_rfl⟩
def m322 : List (List Value × Value) := [([.string ⟨#[49, 48, 49]⟩], .string ⟨#[49, 48, 49]⟩)]
theorem pk322 : PureOK Tryz.prog 322 (memo m322) := pure_memoR [] ok_A18 hmix fn322 lokf_none (by kernel_rfl) (by kernel_rfl)
def A19 : Env := Env.nil
theorem ok_A19 : EnvOK Tryz.prog A19 := env_nil
theorem fn324 : Fn1 Tryz.prog 324 Tryz.f324 := ⟨Tryz.func324, by kernel_rfl, by kernel_rfl, by kernel_rfl⟩
def m324 : List (List Value × Value) := [([.string ⟨#[49, 50, 120]⟩], .string ⟨#[49, 50, 120]⟩), ([.string ⟨#[97, 49, 49]⟩], .string ⟨#[97, 49, 49]⟩)]
theorem pk324 : PureOK Tryz.prog 324 (memo m324) := pure_memoR [] ok_A19 hmix fn324 lokf_none (by kernel_rfl) (by kernel_rfl)
def A20 : Env := ((((Env.nil.add 22 (memo m22)).add 97 (memo m97)).add 321 (memo m321)).add 322 (memo m322)).add 324 (memo m324)
theorem ok_A20 : EnvOK Tryz.prog A20 := env_add (env_add (env_add (env_add (env_add env_nil pk22) pk97) pk321) pk322) pk324
theorem fn32 : Fn1 Tryz.prog 32 Tryz.f32 := ⟨Tryz.func32, by kernel_rfl, by kernel_rfl, by kernel_rfl⟩
def m32 : List (List Value × Value) := [([.agg ⟨[.int .i64 (-150), .string ⟨#[]⟩]⟩, .agg ⟨[.int .i64 1, .int .i64 4, .int .i64 2, .bool false, .string ⟨#[]⟩]⟩], .tuple ⟨[.string ⟨#[32, 32, 45, 49, 46, 53, 48]⟩, .int .i64 0]⟩)]
theorem pk32 : PureOK Tryz.prog 32 (memo m32) := pure_memoR [] ok_A20 hmix fn32 lokf_none (by kernel_rfl) (by kernel_rfl)
def A21 : Env := Env.nil
theorem ok_A21 : EnvOK Tryz.prog A21 := env_nil
theorem fn153 : Fn1 Tryz.prog 153 Tryz.f153 := ⟨Tryz.func153, by kernel_rfl, by kernel_rfl, by kernel_rfl⟩
def A22 : Env := Env.nil
theorem ok_A22 : EnvOK Tryz.prog A22 := env_nil
theorem fn214 : Fn1 Tryz.prog 214 Tryz.f214 := ⟨Tryz.func214, by kernel_rfl, by kernel_rfl, by kernel_rfl⟩
def A23 : Env := Env.nil
theorem ok_A23 : EnvOK Tryz.prog A23 := env_nil
theorem fn215 : Fn1 Tryz.prog 215 Tryz.f215 := ⟨Tryz.func215, by kernel_rfl, by kernel_rfl, by kernel_rfl⟩
def A24 : Env := Env.nil
theorem ok_A24 : EnvOK Tryz.prog A24 := env_nil
theorem fn76 : Fn1 Tryz.prog 76 Tryz.f76 := ⟨Tryz.func76, by kernel_rfl, by kernel_rfl, by kernel_rfl⟩
def A25 : Env := ((((Env.nil.add 152 (sp1 Cx.s152)).add 213 (sp1 Cx.s213)).addG 153 (inlQ Tryz.prog A21 noL Tryz.f153)).addG 214 (inlQ Tryz.prog A22 noL Tryz.f214)).addG 215 (inlQ Tryz.prog A23 noL Tryz.f215)
theorem ok_A25 : EnvOK Tryz.prog A25 := env_addG (env_addG (env_addG (env_add (env_add env_nil (pureC Cx.ok152)) (pureC Cx.ok213)) (gen_inlQ ok_A21 hmix fn153 lokf_none)) (gen_inlQ ok_A22 hmix fn214 lokf_none)) (gen_inlQ ok_A23 hmix fn215 lokf_none)
theorem fn212 : Fn1 Tryz.prog 212 Tryz.f212 := ⟨Tryz.func212, by kernel_rfl, by kernel_rfl, by kernel_rfl⟩
def A26 : Env := (((Env.nil.add 152 (sp1 Cx.s152)).add 213 (sp1 Cx.s213)).addG 214 (inlQ Tryz.prog A22 noL Tryz.f214)).addG 215 (inlQ Tryz.prog A23 noL Tryz.f215)
theorem ok_A26 : EnvOK Tryz.prog A26 := env_addG (env_addG (env_add (env_add env_nil (pureC Cx.ok152)) (pureC Cx.ok213)) (gen_inlQ ok_A22 hmix fn214 lokf_none)) (gen_inlQ ok_A23 hmix fn215 lokf_none)
theorem fn263 : Fn1 Tryz.prog 263 Tryz.f263 := ⟨Tryz.func263, by kernel_rfl, by kernel_rfl, by kernel_rfl⟩
def A27 : Env := (Env.nil.add 152 (sp1 Cx.s152)).addG 215 (inlQ Tryz.prog A23 noL Tryz.f215)
theorem ok_A27 : EnvOK Tryz.prog A27 := env_addG (env_add env_nil (pureC Cx.ok152)) (gen_inlQ ok_A23 hmix fn215 lokf_none)
theorem fn264 : Fn1 Tryz.prog 264 Tryz.f264 := ⟨Tryz.func264, by kernel_rfl, by kernel_rfl, by kernel_rfl⟩
def A28 : Env := ((((((((Env.nil.add 152 (sp1 Cx.s152)).add 321 (memo m321)).add 322 (memo m322)).add 324 (memo m324)).addG 153 (inlQ Tryz.prog A21 noL Tryz.f153)).addG 76 (inlQ Tryz.prog A24 noL Tryz.f76)).addG 212 (inlQ Tryz.prog A25 noL Tryz.f212)).addG 263 (inlQ Tryz.prog A26 noL Tryz.f263)).addG 264 (inlQ Tryz.prog A27 noL Tryz.f264)
theorem ok_A28 : EnvOK Tryz.prog A28 := env_addG (env_addG (env_addG (env_addG (env_addG (env_add (env_add (env_add (env_add env_nil (pureC Cx.ok152)) pk321) pk322) pk324) (gen_inlQ ok_A21 hmix fn153 lokf_none)) (gen_inlQ ok_A24 hmix fn76 lokf_none)) (gen_inlQ ok_A25 hmix fn212 lokf_none)) (gen_inlQ ok_A26 hmix fn263 lokf_none)) (gen_inlQ ok_A27 hmix fn264 lokf_none)
theorem fn151 : Fn1 Tryz.prog 151 Tryz.f151 := ⟨Tryz.func151, by kernel_rfl, by kernel_rfl, by kernel_rfl⟩
def A29 : Env := (((((((((Env.nil.add 55 (sp2 s55)).add 77 (memo m77)).add 321 (memo m321)).add 322 (memo m322)).add 324 (memo m324)).addG 76 (inlQ Tryz.prog A24 noL Tryz.f76)).addG 212 (inlQ Tryz.prog A25 noL Tryz.f212)).addG 263 (inlQ Tryz.prog A26 noL Tryz.f263)).addG 264 (inlQ Tryz.prog A27 noL Tryz.f264)).addG 151 (inlQ Tryz.prog A28 noL Tryz.f151)
theorem ok_A29 : EnvOK Tryz.prog A29 := env_addG (env_addG (env_addG (env_addG (env_addG (env_add (env_add (env_add (env_add (env_add env_nil ok55) pk77) pk321) pk322) pk324) (gen_inlQ ok_A24 hmix fn76 lokf_none)) (gen_inlQ ok_A25 hmix fn212 lokf_none)) (gen_inlQ ok_A26 hmix fn263 lokf_none)) (gen_inlQ ok_A27 hmix fn264 lokf_none)) (gen_inlQ ok_A28 hmix fn151 lokf_none)
theorem fn24 : Fn1 Tryz.prog 24 Tryz.f24 := ⟨Tryz.func24, by kernel_rfl, by kernel_rfl, by kernel_rfl⟩
def m24 : List (List Value × Value) := [([.string ⟨#[32, 32, 45, 48, 48, 49, 50, 46, 53, 48, 32]⟩], .tuple ⟨[.agg ⟨[.bool true, .string ⟨#[49, 50, 53]⟩, .int .i64 1]⟩, .bool true]⟩), ([.string ⟨#[49, 50, 48, 48]⟩], .tuple ⟨[.agg ⟨[.bool false, .string ⟨#[49, 50]⟩, .int .i64 (-2)]⟩, .bool true]⟩), ([.string ⟨#[49, 69, 49, 50, 51]⟩], .tuple ⟨[.agg ⟨[.bool false, .string ⟨#[]⟩, .int .i64 0]⟩, .bool false]⟩), ([.string ⟨#[49, 50, 120]⟩], .tuple ⟨[.agg ⟨[.bool false, .string ⟨#[]⟩, .int .i64 0]⟩, .bool false]⟩)]
theorem pk24 : PureOK Tryz.prog 24 (memo m24) := pure_memoR [] ok_A29 hmix fn24 lokf_none (by kernel_rfl) (by kernel_rfl)
def A30 : Env := (((((((((Env.nil.add 29 (memo m29)).add 77 (memo m77)).add 321 (memo m321)).add 322 (memo m322)).add 324 (memo m324)).addG 212 (inlQ Tryz.prog A25 noL Tryz.f212)).addG 263 (inlQ Tryz.prog A26 noL Tryz.f263)).addG 264 (inlQ Tryz.prog A27 noL Tryz.f264)).addG 151 (inlQ Tryz.prog A28 noL Tryz.f151)).add 24 (memo m24)
theorem ok_A30 : EnvOK Tryz.prog A30 := env_add (env_addG (env_addG (env_addG (env_addG (env_add (env_add (env_add (env_add (env_add env_nil pk29) pk77) pk321) pk322) pk324) (gen_inlQ ok_A25 hmix fn212 lokf_none)) (gen_inlQ ok_A26 hmix fn263 lokf_none)) (gen_inlQ ok_A27 hmix fn264 lokf_none)) (gen_inlQ ok_A28 hmix fn151 lokf_none)) pk24
theorem fn222 : Fn1 Tryz.prog 222 Tryz.f222 := ⟨Tryz.func222, by kernel_rfl, by kernel_rfl, by kernel_rfl⟩
def m222 : List (List Value × Value) := [([.iface 178 (.string ⟨#[49, 50, 120]⟩)], .tuple ⟨[.agg ⟨[.bool false, .string ⟨#[]⟩, .int .i64 0]⟩, .iface 119 (.agg ⟨[.string ⟨#[49, 50, 120]⟩]⟩)]⟩), ([.iface 174 (.agg ⟨[.int .i64 123, .int .i64 1, .int .i64 3, .int .i64 1, .bool false, .string ⟨#[]⟩]⟩)], .tuple ⟨[.agg ⟨[.bool false, .string ⟨#[49, 50, 51]⟩, .int .i64 1]⟩, .nilIface]⟩), ([.iface 174 (.agg ⟨[.int .i64 1234, .int .i64 1, .int .i64 4, .int .i64 0, .bool false, .string ⟨#[]⟩]⟩)], .tuple ⟨[.agg ⟨[.bool false, .string ⟨#[49, 50, 51, 52]⟩, .int .i64 0]⟩, .nilIface]⟩)]
theorem pk222 : PureOK Tryz.prog 222 (memo m222) := pure_memoR [] ok_A30 hmix fn222 lokf_none (by kernel_rfl) (by kernel_rfl)
def A31 : Env := (Env.nil.add 26 (memo m26)).add 222 (memo m222)
theorem ok_A31 : EnvOK Tryz.prog A31 := env_add (env_add env_nil pk26) pk222
theorem fn168 : Fn1 Tryz.prog 168 Tryz.f168 := ⟨Tryz.func168, by kernel_rfl, by kernel_rfl, by kernel_rfl⟩
def m168 : List (List Value × Value) := [([.iface 178 (.string ⟨#[49, 50, 120]⟩), .agg ⟨[.int .i64 1, .int .i64 3, .int .i64 0, .bool false, .string ⟨#[]⟩]⟩], .tuple ⟨[.agg ⟨[.int .i64 0, .string ⟨#[]⟩]⟩, .int .i64 0, .iface 119 (.agg ⟨[.string ⟨#[49, 50, 120]⟩]⟩)]⟩), ([.iface 174 (.agg ⟨[.int .i64 123, .int .i64 1, .int .i64 3, .int .i64 1, .bool false, .string ⟨#[]⟩]⟩), .agg ⟨[.int .i64 1, .int .i64 5, .int .i64 2, .bool false, .string ⟨#[]⟩]⟩], .tuple ⟨[.agg ⟨[.int .i64 1230, .string ⟨#[]⟩]⟩, .int .i64 0, .nilIface]⟩), ([.iface 174 (.agg ⟨[.int .i64 1234, .int .i64 1, .int .i64 4, .int .i64 0, .bool false, .string ⟨#[]⟩]⟩), .agg ⟨[.int .i64 1, .int .i64 3, .int .i64 0, .bool false, .string ⟨#[]⟩]⟩], .tuple ⟨[.agg ⟨[.int .i64 234, .string ⟨#[]⟩]⟩, .int .i64 1, .nilIface]⟩)]
theorem pk168 : PureOK Tryz.prog 168 (memo m168) := pure_memoR [] ok_A31 hmix fn168 lokf_none (by kernel_rfl) (by kernel_rfl)
def A32 : Env := Env.nil
theorem ok_A32 : EnvOK Tryz.prog A32 := env_nil
theorem fn115 : Fn1 Tryz.prog 115 Tryz.f115 := ⟨Tryz.func115, by kernel_rfl, by kernel_rfl, by kernel_rfl⟩
def m115 : List (List Value × Value) := [([.agg ⟨[.int .i64 2, .int .i64 15, .int .i64 0, .bool false, .string ⟨#[]⟩]⟩], .int .i64 15), ([.agg ⟨[.int .i64 1, .int .i64 3, .int .i64 0, .bool false, .string ⟨#[]⟩]⟩], .int .i64 10)]
theorem pk115 : PureOK Tryz.prog 115 (memo m115) := pure_memoR [] ok_A32 hmix fn115 lokf_none (by kernel_rfl) (by kernel_rfl)
def A33 : Env := Env.nil
theorem ok_A33 : EnvOK Tryz.prog A33 := env_nil
theorem fn223 : Fn1 Tryz.prog 223 Tryz.f223 := ⟨Tryz.func223, by kernel_rfl, by kernel_rfl, by kernel_rfl⟩
def m223 : List (List Value × Value) := [([.int .i64 1, .int .i64 15], .string ⟨#[48, 48, 48, 48, 48, 48, 48, 48, 48, 48, 48, 48, 48, 48, 49]⟩)]
theorem pk223 : PureOK Tryz.prog 223 (memo m223) := pure_memoR [] ok_A33 hmix fn223 lokf_none (by kernel_rfl) (by kernel_rfl)
def A34 : Env := Env.nil.add 30 (sp2 s30)
theorem ok_A34 : EnvOK Tryz.prog A34 := env_add env_nil ok30
theorem fn169 : Fn1 Tryz.prog 169 Tryz.f169 := ⟨Tryz.func169, by kernel_rfl, by kernel_rfl, by kernel_rfl⟩
def m169 : List (List Value × Value) := [([.string ⟨#[48, 48, 48, 48, 48, 48, 48, 48, 48, 48, 48, 48, 48, 48, 49]⟩, .int .i64 1, .string ⟨#[48]⟩], .string ⟨#[48]⟩), ([.string ⟨#[49, 48, 49]⟩, .int .i64 5, .string ⟨#[32]⟩], .string ⟨#[49, 48, 49, 32, 32]⟩), ([.string ⟨#[97, 49, 49]⟩, .int .i64 3, .string ⟨#[32]⟩], .string ⟨#[97, 49, 49]⟩)]
theorem pk169 : PureOK Tryz.prog 169 (memo m169) := pure_memoR [] ok_A34 hmix fn169 lokf_none (by kernel_rfl) (by kernel_rfl)
def A35 : Env := (((((((((Env.nil.add 71 (memo m71)).add 321 (memo m321)).add 322 (memo m322)).add 324 (memo m324)).addG 212 (inlQ Tryz.prog A25 noL Tryz.f212)).addG 263 (inlQ Tryz.prog A26 noL Tryz.f263)).addG 264 (inlQ Tryz.prog A27 noL Tryz.f264)).addG 151 (inlQ Tryz.prog A28 noL Tryz.f151)).add 115 (memo m115)).add 223 (memo m223)
theorem ok_A35 : EnvOK Tryz.prog A35 := env_add (env_add (env_addG (env_addG (env_addG (env_addG (env_add (env_add (env_add (env_add env_nil pk71) pk321) pk322) pk324) (gen_inlQ ok_A25 hmix fn212 lokf_none)) (gen_inlQ ok_A26 hmix fn263 lokf_none)) (gen_inlQ ok_A27 hmix fn264 lokf_none)) (gen_inlQ ok_A28 hmix fn151 lokf_none)) pk115) pk223
theorem fn170 : Fn1 Tryz.prog 170 Tryz.f170 := ⟨Tryz.func170, by kernel_rfl, by kernel_rfl, by kernel_rfl⟩
def m170 : List (List Value × Value) := [([.iface 174 (.agg ⟨[.int .i64 1, .int .i64 2, .int .i64 15, .int .i64 0, .bool false, .string ⟨#[]⟩]⟩)], .tuple ⟨[.string ⟨#[48, 48, 48, 48, 48, 48, 48, 48, 48, 48, 48, 48, 48, 48, 49]⟩, .nilIface]⟩)]
theorem pk170 : PureOK Tryz.prog 170 (memo m170) := pure_memoR [] ok_A35 hmix fn170 lokf_none (by kernel_rfl) (by kernel_rfl)
def A36 : Env := (((((((((((((Env.nil.add 61 (memo m61)).add 59 (memo m59)).add 171 (memo m171)).add 72 (memo m72)).add 321 (memo m321)).add 322 (memo m322)).add 324 (memo m324)).addG 212 (inlQ Tryz.prog A25 noL Tryz.f212)).addG 263 (inlQ Tryz.prog A26 noL Tryz.f263)).addG 264 (inlQ Tryz.prog A27 noL Tryz.f264)).addG 151 (inlQ Tryz.prog A28 noL Tryz.f151)).add 168 (memo m168)).add 169 (memo m169)).add 170 (memo m170)
theorem ok_A36 : EnvOK Tryz.prog A36 := env_add (env_add (env_add (env_addG (env_addG (env_addG (env_addG (env_add (env_add (env_add (env_add (env_add (env_add (env_add env_nil pk61) pk59) pk171) pk72) pk321) pk322) pk324) (gen_inlQ ok_A25 hmix fn212 lokf_none)) (gen_inlQ ok_A26 hmix fn263 lokf_none)) (gen_inlQ ok_A27 hmix fn264 lokf_none)) (gen_inlQ ok_A28 hmix fn151 lokf_none)) pk168) pk169) pk170
theorem fn99 : Fn1 Tryz.prog 99 Tryz.f99 := ⟨Tryz.func99, by kernel_rfl, by kernel_rfl, by kernel_rfl⟩
def m99 : List (List Value × Value) := [([.iface 178 (.string ⟨#[49, 50, 120]⟩), .agg ⟨[.int .i64 1, .int .i64 3, .int .i64 0, .bool false, .string ⟨#[]⟩]⟩], .tuple ⟨[.agg ⟨[.int .i64 0, .string ⟨#[]⟩]⟩, .int .i64 0, .iface 119 (.agg ⟨[.string ⟨#[49, 50, 120]⟩]⟩)]⟩), ([.iface 174 (.agg ⟨[.int .i64 1, .int .i64 2, .int .i64 15, .int .i64 0, .bool false, .string ⟨#[]⟩]⟩), .agg ⟨[.int .i64 4, .int .i64 1, .int .i64 0, .bool false, .string ⟨#[]⟩]⟩], .tuple ⟨[.agg ⟨[.int .i64 0, .string ⟨#[48]⟩]⟩, .int .i64 0, .nilIface]⟩), ([.iface 175 (.string ⟨#[49, 48, 49]⟩), .agg ⟨[.int .i64 3, .int .i64 5, .int .i64 0, .bool false, .string ⟨#[]⟩]⟩], .tuple ⟨[.agg ⟨[.int .i64 0, .string ⟨#[49, 48, 49, 32, 32]⟩]⟩, .int .i64 0, .nilIface]⟩), ([.iface 174 (.agg ⟨[.int .i64 123, .int .i64 1, .int .i64 3, .int .i64 1, .bool false, .string ⟨#[]⟩]⟩), .agg ⟨[.int .i64 5, .int .i64 0, .int .i64 0, .bool false, .string ⟨#[90, 90, 57, 86, 46, 57, 57]⟩]⟩], .tuple ⟨[.agg ⟨[.int .i64 0, .string ⟨#[32, 49, 50, 46, 51, 48]⟩]⟩, .int .i64 0, .nilIface]⟩), ([.iface 174 (.agg ⟨[.int .i64 1234, .int .i64 1, .int .i64 4, .int .i64 0, .bool false, .string ⟨#[]⟩]⟩), .agg ⟨[.int .i64 5, .int .i64 0, .int .i64 0, .bool false, .string ⟨#[57, 57, 57]⟩]⟩], .tuple ⟨[.agg ⟨[.int .i64 0, .string ⟨#[50, 51, 52]⟩]⟩, .int .i64 1, .nilIface]⟩), ([.iface 178 (.string ⟨#[97, 49, 49]⟩), .agg ⟨[.int .i64 5, .int .i64 0, .int .i64 0, .bool false, .string ⟨#[65, 65, 57]⟩]⟩], .tuple ⟨[.agg ⟨[.int .i64 0, .string ⟨#[]⟩]⟩, .int .i64 0, .iface 119 (.agg ⟨[.string ⟨#[97, 49, 49]⟩]⟩)]⟩)]
theorem pk99 : PureOK Tryz.prog 99 (memo m99) := pure_memoR [0, 0, 0, 0, 0, 2] ok_A36 hmix fn99 lokf_none (by kernel_rfl) (by kernel_rfl)
def A37 : Env := (Env.nil.add 30 (sp2 s30)).add 176 (memo m176)
theorem ok_A37 : EnvOK Tryz.prog A37 := env_add (env_add env_nil ok30) pk176
theorem fn101 : Fn1 Tryz.prog 101 Tryz.f101 := ⟨Tryz.func101, by kernel_rfl, by kernel_rfl, by kernel_rfl⟩
def m101 : List (List Value × Value) := [([.agg ⟨[.int .i64 1, .int .i64 3, .int .i64 0, .bool false, .string ⟨#[]⟩]⟩], .agg ⟨[.int .i64 0, .string ⟨#[]⟩]⟩), ([.agg ⟨[.int .i64 5, .int .i64 0, .int .i64 0, .bool false, .string ⟨#[65, 65, 57]⟩]⟩], .agg ⟨[.int .i64 0, .string ⟨#[32, 32, 32]⟩]⟩)]
theorem pk101 : PureOK Tryz.prog 101 (memo m101) := pure_memoR [] ok_A37 hmix fn101 lokf_none (by kernel_rfl) (by kernel_rfl)
def A38 : Env := (((((Env.nil.addG 100 h100).add 20 (memo m20)).add 22 (memo m22)).add 97 (memo m97)).add 99 (memo m99)).add 101 (memo m101)
theorem ok_A38 : EnvOK Tryz.prog A38 := env_add (env_add (env_add (env_add (env_add (env_addG env_nil genC) pk20) pk22) pk97) pk99) pk101
theorem fn34 : Fn1 Tryz.prog 34 Tryz.f34 := ⟨Tryz.func34, by kernel_rfl, by kernel_rfl, by kernel_rfl⟩
def m34 : List (List Value × Value) := [([.agg ⟨[.int .i64 0, .string ⟨#[49, 50, 120]⟩]⟩, .agg ⟨[.int .i64 3, .int .i64 3, .int .i64 0, .bool false, .string ⟨#[]⟩]⟩, .agg ⟨[.int .i64 1, .int .i64 3, .int .i64 0, .bool false, .string ⟨#[]⟩]⟩], .tuple ⟨[.agg ⟨[.int .i64 0, .string ⟨#[]⟩]⟩, .int .i64 4, .int .i64 0]⟩), ([.agg ⟨[.int .i64 1, .string ⟨#[]⟩]⟩, .agg ⟨[.int .i64 2, .int .i64 15, .int .i64 0, .bool false, .string ⟨#[]⟩]⟩, .agg ⟨[.int .i64 4, .int .i64 1, .int .i64 0, .bool false, .string ⟨#[]⟩]⟩], .tuple ⟨[.agg ⟨[.int .i64 0, .string ⟨#[48]⟩]⟩, .int .i64 0, .int .i64 0]⟩), ([.agg ⟨[.int .i64 0, .string ⟨#[49, 48, 49]⟩]⟩, .agg ⟨[.int .i64 4, .int .i64 3, .int .i64 0, .bool false, .string ⟨#[]⟩]⟩, .agg ⟨[.int .i64 3, .int .i64 5, .int .i64 0, .bool false, .string ⟨#[]⟩]⟩], .tuple ⟨[.agg ⟨[.int .i64 0, .string ⟨#[49, 48, 49, 32, 32]⟩]⟩, .int .i64 0, .int .i64 0]⟩), ([.agg ⟨[.int .i64 123, .string ⟨#[]⟩]⟩, .agg ⟨[.int .i64 1, .int .i64 3, .int .i64 1, .bool false, .string ⟨#[]⟩]⟩, .agg ⟨[.int .i64 5, .int .i64 0, .int .i64 0, .bool false, .string ⟨#[90, 90, 57, 86, 46, 57, 57]⟩]⟩], .tuple ⟨[.agg ⟨[.int .i64 0, .string ⟨#[32, 49, 50, 46, 51, 48]⟩]⟩, .int .i64 0, .int .i64 0]⟩), ([.agg ⟨[.int .i64 1234, .string ⟨#[]⟩]⟩, .agg ⟨[.int .i64 1, .int .i64 4, .int .i64 0, .bool false, .string ⟨#[]⟩]⟩, .agg ⟨[.int .i64 5, .int .i64 0, .int .i64 0, .bool false, .string ⟨#[57, 57, 57]⟩]⟩], .tuple ⟨[.agg ⟨[.int .i64 0, .string ⟨#[50, 51, 52]⟩]⟩, .int .i64 1, .int .i64 0]⟩), ([.agg ⟨[.int .i64 0, .string ⟨#[97, 49, 49]⟩]⟩, .agg ⟨[.int .i64 3, .int .i64 3, .int .i64 0, .bool false, .string ⟨#[]⟩]⟩, .agg ⟨[.int .i64 5, .int .i64 0, .int .i64 0, .bool false, .string ⟨#[65, 65, 57]⟩]⟩], .tuple ⟨[.agg ⟨[.int .i64 0, .string ⟨#[32, 32, 32]⟩]⟩, .int .i64 4, .int .i64 0]⟩)]
theorem pk34 : PureOK Tryz.prog 34 (memo m34) := pure_memoR [] ok_A38 hmix fn34 lokf_none (by kernel_rfl) (by kernel_rfl)
def A39 : Env := Env.nil.add 34 (memo m34)
theorem ok_A39 : EnvOK Tryz.prog A39 := env_add env_nil pk34
theorem fn48 : Fn1 Tryz.prog 48 Tryz.f48 := ⟨Tryz.func48, by kernel_rfl, by kernel_rfl, by kernel_rfl⟩
def m48 : List (List Value × Value) := [([.agg ⟨[.int .i64 0, .string ⟨#[49, 50, 120]⟩]⟩, .agg ⟨[.int .i64 3, .int .i64 3, .int .i64 0, .bool false, .string ⟨#[]⟩]⟩, .agg ⟨[.int .i64 1, .int .i64 3, .int .i64 0, .bool false, .string ⟨#[]⟩]⟩, .agg ⟨[.int .i64 0, .string ⟨#[]⟩]⟩, .int .i64 4], .bool true), ([.agg ⟨[.int .i64 1, .string ⟨#[]⟩]⟩, .agg ⟨[.int .i64 2, .int .i64 15, .int .i64 0, .bool false, .string ⟨#[]⟩]⟩, .agg ⟨[.int .i64 4, .int .i64 1, .int .i64 0, .bool false, .string ⟨#[]⟩]⟩, .agg ⟨[.int .i64 0, .string ⟨#[48]⟩]⟩, .int .i64 0], .bool true), ([.agg ⟨[.int .i64 0, .string ⟨#[49, 48, 49]⟩]⟩, .agg ⟨[.int .i64 4, .int .i64 3, .int .i64 0, .bool false, .string ⟨#[]⟩]⟩, .agg ⟨[.int .i64 3, .int .i64 5, .int .i64 0, .bool false, .string ⟨#[]⟩]⟩, .agg ⟨[.int .i64 0, .string ⟨#[49, 48, 49, 32, 32]⟩]⟩, .int .i64 0], .bool true), ([.agg ⟨[.int .i64 123, .string ⟨#[]⟩]⟩, .agg ⟨[.int .i64 1, .int .i64 3, .int .i64 1, .bool false, .string ⟨#[]⟩]⟩, .agg ⟨[.int .i64 5, .int .i64 0, .int .i64 0, .bool false, .string ⟨#[90, 90, 57, 86, 46, 57, 57]⟩]⟩, .agg ⟨[.int .i64 0, .string ⟨#[32, 49, 50, 46, 51, 48]⟩]⟩, .int .i64 0], .bool true), ([.agg ⟨[.int .i64 1234, .string ⟨#[]⟩]⟩, .agg ⟨[.int .i64 1, .int .i64 4, .int .i64 0, .bool false, .string ⟨#[]⟩]⟩, .agg ⟨[.int .i64 5, .int .i64 0, .int .i64 0, .bool false, .string ⟨#[57, 57, 57]⟩]⟩, .agg ⟨[.int .i64 0, .string ⟨#[50, 51, 52]⟩]⟩, .int .i64 1], .bool true), ([.agg ⟨[.int .i64 0, .string ⟨#[97, 49, 49]⟩]⟩, .agg ⟨[.int .i64 3, .int .i64 3, .int .i64 0, .bool false, .string ⟨#[]⟩]⟩, .agg ⟨[.int .i64 5, .int .i64 0, .int .i64 0, .bool false, .string ⟨#[65, 65, 57]⟩]⟩, .agg ⟨[.int .i64 0, .string ⟨#[32, 32, 32]⟩]⟩, .int .i64 4], .bool true)]
theorem pk48 : PureOK Tryz.prog 48 (memo m48) := pure_memoR [] ok_A39 hmix fn48 lokf_none (by kernel_rfl) (by kernel_rfl)
def A40 : Env := Env.nil.add 20 (memo m20)
theorem ok_A40 : EnvOK Tryz.prog A40 := env_add env_nil pk20
theorem fn108 : Fn1 Tryz.prog 108 Tryz.f108 := ⟨Tryz.func108, by kernel_rfl, by kernel_rfl, by kernel_rfl⟩
def m108 : List (List Value × Value) := [([.agg ⟨[.int .i64 4, .int .i64 3, .int .i64 0, .bool false, .string ⟨#[]⟩]⟩], .int .i64 0), ([.agg ⟨[.int .i64 1, .int .i64 3, .int .i64 1, .bool false, .string ⟨#[]⟩]⟩], .int .i64 0), ([.agg ⟨[.int .i64 1, .int .i64 3, .int .i64 0, .bool false, .string ⟨#[]⟩]⟩], .int .i64 0), ([.agg ⟨[.int .i64 2, .int .i64 15, .int .i64 0, .bool false, .string ⟨#[]⟩]⟩], .int .i64 0)]
theorem pk108 : PureOK Tryz.prog 108 (memo m108) := pure_memoR [] ok_A40 hmix fn108 lokf_none (by kernel_rfl) (by kernel_rfl)
def A41 : Env := (((Env.nil.add 61 (memo m61)).add 59 (memo m59)).add 85 (sp1 Cx.s85)).add 108 (memo m108)
theorem ok_A41 : EnvOK Tryz.prog A41 := env_add (env_add (env_add (env_add env_nil pk61) pk59) (pureC Cx.ok85)) pk108
theorem fn38 : Fn1 Tryz.prog 38 Tryz.f38 := ⟨Tryz.func38, by kernel_rfl, by kernel_rfl, by kernel_rfl⟩
def m38 : List (List Value × Value) := [([.agg ⟨[.int .i64 4, .int .i64 3, .int .i64 0, .bool false, .string ⟨#[]⟩]⟩], .tuple ⟨[.agg ⟨[.int .i64 2, .int .i64 31, .int .i64 0, .bool false, .string ⟨#[]⟩]⟩, .int .i64 0]⟩), ([.agg ⟨[.int .i64 1, .int .i64 3, .int .i64 1, .bool false, .string ⟨#[]⟩]⟩], .tuple ⟨[.agg ⟨[.int .i64 1, .int .i64 3, .int .i64 1, .bool false, .string ⟨#[]⟩]⟩, .int .i64 0]⟩), ([.agg ⟨[.int .i64 2, .int .i64 15, .int .i64 0, .bool false, .string ⟨#[]⟩]⟩], .tuple ⟨[.agg ⟨[.int .i64 2, .int .i64 15, .int .i64 0, .bool false, .string ⟨#[]⟩]⟩, .int .i64 0]⟩)]
theorem pk38 : PureOK Tryz.prog 38 (memo m38) := pure_memoR [] ok_A41 hmix fn38 lokf_none (by kernel_rfl) (by kernel_rfl)
def A42 : Env := ((Env.nil.add 113 (memo m113)).add 112 (memo m112)).add 108 (memo m108)
theorem ok_A42 : EnvOK Tryz.prog A42 := env_add (env_add (env_add env_nil pk113) pk112) pk108
theorem fn40 : Fn1 Tryz.prog 40 Tryz.f40 := ⟨Tryz.func40, by kernel_rfl, by kernel_rfl, by kernel_rfl⟩
def m40 : List (List Value × Value) := [([.agg ⟨[.int .i64 1, .int .i64 3, .int .i64 1, .bool false, .string ⟨#[]⟩]⟩], .tuple ⟨[.agg ⟨[.int .i64 3, .int .i64 6, .int .i64 0, .bool false, .string ⟨#[]⟩]⟩, .int .i64 0]⟩)]
theorem pk40 : PureOK Tryz.prog 40 (memo m40) := pure_memoR [] ok_A42 hmix fn40 lokf_none (by kernel_rfl) (by kernel_rfl)
def A43 : Env := (((Env.nil.add 61 (memo m61)).add 85 (sp1 Cx.s85)).add 115 (memo m115)).add 108 (memo m108)
theorem ok_A43 : EnvOK Tryz.prog A43 := env_add (env_add (env_add (env_add env_nil pk61) (pureC Cx.ok85)) pk115) pk108
theorem fn42 : Fn1 Tryz.prog 42 Tryz.f42 := ⟨Tryz.func42, by kernel_rfl, by kernel_rfl, by kernel_rfl⟩
def m42 : List (List Value × Value) := [([.agg ⟨[.int .i64 1, .int .i64 3, .int .i64 0, .bool false, .string ⟨#[]⟩]⟩], .tuple ⟨[.agg ⟨[.int .i64 4, .int .i64 10, .int .i64 0, .bool false, .string ⟨#[]⟩]⟩, .int .i64 0]⟩)]
theorem pk42 : PureOK Tryz.prog 42 (memo m42) := pure_memoR [] ok_A43 hmix fn42 lokf_none (by kernel_rfl) (by kernel_rfl)
def A44 : Env := Env.nil.add 66 (sp1 Cx.s66)
theorem ok_A44 : EnvOK Tryz.prog A44 := env_add env_nil (pureC Cx.ok66)
theorem fn117 : Fn1 Tryz.prog 117 Tryz.f117 := ⟨Tryz.func117, by kernel_rfl, by kernel_rfl, by kernel_rfl⟩
def m117 : List (List Value × Value) := [([.agg ⟨[.int .i64 1, .int .i64 3, .int .i64 1, .bool false, .string ⟨#[]⟩]⟩], .tuple ⟨[.agg ⟨[.int .i64 2, .int .i64 11, .int .i64 0, .bool false, .string ⟨#[]⟩]⟩, .int .i64 0]⟩)]
theorem pk117 : PureOK Tryz.prog 117 (memo m117) := pure_memoR [] ok_A44 hmix fn117 lokf_none (by kernel_rfl) (by kernel_rfl)
def A45 : Env := Env.nil
theorem ok_A45 : EnvOK Tryz.prog A45 := env_nil
theorem fn53 : Fn1 Tryz.prog 53 Tryz.f53 := ⟨Tryz.func53, by kernel_rfl, by kernel_rfl, by kernel_rfl⟩
def m53 : List (List Value × Value) := [([.int .i64 (-150)], .agg ⟨[.int .i64 (-150), .string ⟨#[]⟩]⟩), ([.int .i64 0], .agg ⟨[.int .i64 0, .string ⟨#[]⟩]⟩), ([.int .i64 1], .agg ⟨[.int .i64 1, .string ⟨#[]⟩]⟩), ([.int .i64 123], .agg ⟨[.int .i64 123, .string ⟨#[]⟩]⟩), ([.int .i64 1234], .agg ⟨[.int .i64 1234, .string ⟨#[]⟩]⟩), ([.int .i64 234], .agg ⟨[.int .i64 234, .string ⟨#[]⟩]⟩)]
theorem pk53 : PureOK Tryz.prog 53 (memo m53) := pure_memoR [] ok_A45 hmix fn53 lokf_none (by kernel_rfl) (by kernel_rfl)
def A46 : Env := Env.nil
theorem ok_A46 : EnvOK Tryz.prog A46 := env_nil
theorem fn65 : Fn1 Tryz.prog 65 Tryz.f65 := ⟨Tryz.func65, by kernel_rfl, by kernel_rfl, by kernel_rfl⟩
def m65 : List (List Value × Value) := [([.int .i64 3, .int .i64 1], .agg ⟨[.int .i64 1, .int .i64 3, .int .i64 1, .bool false, .string ⟨#[]⟩]⟩), ([.int .i64 4, .int .i64 2], .agg ⟨[.int .i64 1, .int .i64 4, .int .i64 2, .bool false, .string ⟨#[]⟩]⟩), ([.int .i64 3, .int .i64 0], .agg ⟨[.int .i64 1, .int .i64 3, .int .i64 0, .bool false, .string ⟨#[]⟩]⟩), ([.int .i64 4, .int .i64 0], .agg ⟨[.int .i64 1, .int .i64 4, .int .i64 0, .bool false, .string ⟨#[]⟩]⟩)]
theorem pk65 : PureOK Tryz.prog 65 (memo m65) := pure_memoR [] ok_A46 hmix fn65 lokf_none (by kernel_rfl) (by kernel_rfl)
def A47 : Env := Env.nil
theorem ok_A47 : EnvOK Tryz.prog A47 := env_nil
theorem fn50 : Fn1 Tryz.prog 50 Tryz.f50 := ⟨Tryz.func50, by kernel_rfl, by kernel_rfl, by kernel_rfl⟩
def m50 : List (List Value × Value) := [([.int .i64 15], .agg ⟨[.int .i64 2, .int .i64 15, .int .i64 0, .bool false, .string ⟨#[]⟩]⟩), ([.int .i64 11], .agg ⟨[.int .i64 2, .int .i64 11, .int .i64 0, .bool false, .string ⟨#[]⟩]⟩), ([.int .i64 31], .agg ⟨[.int .i64 2, .int .i64 31, .int .i64 0, .bool false, .string ⟨#[]⟩]⟩)]
theorem pk50 : PureOK Tryz.prog 50 (memo m50) := pure_memoR [] ok_A47 hmix fn50 lokf_none (by kernel_rfl) (by kernel_rfl)
def A48 : Env := Env.nil
theorem ok_A48 : EnvOK Tryz.prog A48 := env_nil
theorem fn51 : Fn1 Tryz.prog 51 Tryz.f51 := ⟨Tryz.func51, by kernel_rfl, by kernel_rfl, by kernel_rfl⟩
def m51 : List (List Value × Value) := [([.int .i64 1], .agg ⟨[.int .i64 4, .int .i64 1, .int .i64 0, .bool false, .string ⟨#[]⟩]⟩), ([.int .i64 3], .agg ⟨[.int .i64 4, .int .i64 3, .int .i64 0, .bool false, .string ⟨#[]⟩]⟩), ([.int .i64 10], .agg ⟨[.int .i64 4, .int .i64 10, .int .i64 0, .bool false, .string ⟨#[]⟩]⟩), ([.int .i64 64], .agg ⟨[.int .i64 4, .int .i64 64, .int .i64 0, .bool false, .string ⟨#[]⟩]⟩)]
theorem pk51 : PureOK Tryz.prog 51 (memo m51) := pure_memoR [] ok_A48 hmix fn51 lokf_none (by kernel_rfl) (by kernel_rfl)
def A49 : Env := Env.nil
theorem ok_A49 : EnvOK Tryz.prog A49 := env_nil
theorem fn54 : Fn1 Tryz.prog 54 Tryz.f54 := ⟨Tryz.func54, by kernel_rfl, by kernel_rfl, by kernel_rfl⟩
def m54 : List (List Value × Value) := [([.int .i64 3], .agg ⟨[.int .i64 3, .int .i64 3, .int .i64 0, .bool false, .string ⟨#[]⟩]⟩), ([.int .i64 5], .agg ⟨[.int .i64 3, .int .i64 5, .int .i64 0, .bool false, .string ⟨#[]⟩]⟩), ([.int .i64 6], .agg ⟨[.int .i64 3, .int .i64 6, .int .i64 0, .bool false, .string ⟨#[]⟩]⟩), ([.int .i64 256], .agg ⟨[.int .i64 3, .int .i64 256, .int .i64 0, .bool false, .string ⟨#[]⟩]⟩)]
theorem pk54 : PureOK Tryz.prog 54 (memo m54) := pure_memoR [] ok_A49 hmix fn54 lokf_none (by kernel_rfl) (by kernel_rfl)
def A50 : Env := Env.nil
theorem ok_A50 : EnvOK Tryz.prog A50 := env_nil
theorem fn60 : Fn1 Tryz.prog 60 Tryz.f60 := ⟨Tryz.func60, by kernel_rfl, by kernel_rfl, by kernel_rfl⟩
def m60 : List (List Value × Value) := [([.string ⟨#[90, 90, 57, 86, 46, 57, 57]⟩], .agg ⟨[.int .i64 5, .int .i64 0, .int .i64 0, .bool false, .string ⟨#[90, 90, 57, 86, 46, 57, 57]⟩]⟩), ([.string ⟨#[57, 57, 57]⟩], .agg ⟨[.int .i64 5, .int .i64 0, .int .i64 0, .bool false, .string ⟨#[57, 57, 57]⟩]⟩), ([.string ⟨#[65, 65, 57]⟩], .agg ⟨[.int .i64 5, .int .i64 0, .int .i64 0, .bool false, .string ⟨#[65, 65, 57]⟩]⟩)]
theorem pk60 : PureOK Tryz.prog 60 (memo m60) := pure_memoR [] ok_A50 hmix fn60 lokf_none (by kernel_rfl) (by kernel_rfl)
def A51 : Env := Env.nil
theorem ok_A51 : EnvOK Tryz.prog A51 := env_nil
theorem fn52 : Fn1 Tryz.prog 52 Tryz.f52 := ⟨Tryz.func52, by kernel_rfl, by kernel_rfl, by kernel_rfl⟩
def m52 : List (List Value × Value) := [([.string ⟨#[49, 50, 120]⟩], .agg ⟨[.int .i64 0, .string ⟨#[49, 50, 120]⟩]⟩), ([.string ⟨#[48]⟩], .agg ⟨[.int .i64 0, .string ⟨#[48]⟩]⟩), ([.string ⟨#[49, 48, 49]⟩], .agg ⟨[.int .i64 0, .string ⟨#[49, 48, 49]⟩]⟩), ([.string ⟨#[49, 48, 49, 32, 32]⟩], .agg ⟨[.int .i64 0, .string ⟨#[49, 48, 49, 32, 32]⟩]⟩), ([.string ⟨#[32, 49, 50, 46, 51, 48]⟩], .agg ⟨[.int .i64 0, .string ⟨#[32, 49, 50, 46, 51, 48]⟩]⟩), ([.string ⟨#[50, 51, 52]⟩], .agg ⟨[.int .i64 0, .string ⟨#[50, 51, 52]⟩]⟩), ([.string ⟨#[97, 49, 49]⟩], .agg ⟨[.int .i64 0, .string ⟨#[97, 49, 49]⟩]⟩), ([.string ⟨#[32, 32, 32]⟩], .agg ⟨[.int .i64 0, .string ⟨#[32, 32, 32]⟩]⟩), ([.string ⟨#[50]⟩], .agg ⟨[.int .i64 0, .string ⟨#[50]⟩]⟩)]
theorem pk52 : PureOK Tryz.prog 52 (memo m52) := pure_memoR [] ok_A51 hmix fn52 lokf_none (by kernel_rfl) (by kernel_rfl)
def A52 : Env := (((((((((((((Env.nil.add 59 (memo m59)).add 85 (sp1 Cx.s85)).add 20 (memo m20)).add 321 (memo m321)).add 322 (memo m322)).add 324 (memo m324)).addG 212 (inlQ Tryz.prog A25 noL Tryz.f212)).addG 263 (inlQ Tryz.prog A26 noL Tryz.f263)).addG 264 (inlQ Tryz.prog A27 noL Tryz.f264)).addG 151 (inlQ Tryz.prog A28 noL Tryz.f151)).add 38 (memo m38)).add 40 (memo m40)).add 42 (memo m42)).add 117 (memo m117)
theorem ok_A52 : EnvOK Tryz.prog A52 := env_add (env_add (env_add (env_add (env_addG (env_addG (env_addG (env_addG (env_add (env_add (env_add (env_add (env_add (env_add env_nil pk59) (pureC Cx.ok85)) pk20) pk321) pk322) pk324) (gen_inlQ ok_A25 hmix fn212 lokf_none)) (gen_inlQ ok_A26 hmix fn263 lokf_none)) (gen_inlQ ok_A27 hmix fn264 lokf_none)) (gen_inlQ ok_A28 hmix fn151 lokf_none)) pk38) pk40) pk42) pk117
theorem fn44 : Fn1 Tryz.prog 44 Tryz.f44 := ⟨Tryz.func44, by kernel_rfl, by kernel_rfl, by kernel_rfl⟩
def A53 : Env := Env.nil
theorem ok_A53 : EnvOK Tryz.prog A53 := env_nil
theorem fn46 : Fn1 Tryz.prog 46 Tryz.f46 := ⟨Tryz.func46, by kernel_rfl, by kernel_rfl, by kernel_rfl⟩
def L46 : List Value := [.int .i64 2, .int .i64 11, .int .i64 0, .bool false, .string ⟨#[]⟩, .int .i64 2, .int .i64 15, .int .i64 0, .bool false, .string ⟨#[]⟩]
def s46c : Ab.Spec := fun args bs => match args, bs with
 | [.slice (some ⟨_, 0, some 1⟩) 2 _, .slice (some ⟨_, 0, some 1⟩) 2 _], [some ⟨l1, _, _⟩, some ⟨l2, _, _⟩] => match eqVL (l1.take 10) L46 && eqVL (l2.take 10) L46 with
  | true => some (plainL l1 && plainL l2, .bool true)
  | false => none
 | _, _ => none
def vwT (c d : List Value) (t u : TypeId) : Lk := fun k => match k with | 0 => some ⟨c, t, false⟩ | 1 => some ⟨d, u, false⟩ | _ => none
theorem v46 (r1 r2 : List Value) (t u : TypeId) (c1 c2 : Nat) (R : Value → Prop) : bodyQ Tryz.prog A53 noL Tryz.f46 [.slice (some ⟨0, 0, some 1⟩) 2 c1, .slice (some ⟨1, 0, some 1⟩) 2 c2] (vwT (L46 ++ r1) (L46 ++ r2) t u) 2 (fun v _ _ => R v) = R (B true) := by kernel_rfl
theorem pk46 : PureOK Tryz.prog 46 s46c := by
 refine pure_viewQ ok_A53 hmix fn46 lokf_none fun args bs v hs => ?_
 unfold s46c at hs
 split at hs
 case h_2 => cases hs
 rename_i k1 c1 k2 c2 l1 t1 o1 l2 t2 o2
 split at hs
 case h_2 => cases hs
 rename_i hq
 simp only [Option.some.injEq, Prod.mk.injEq, Bool.and_eq_true] at hs hq
 obtain ⟨⟨p1, p2⟩, rfl⟩ := hs
 obtain ⟨q1, q2⟩ := hq
 have e1 : l1 = L46 ++ l1.drop 10 := by rw [← eqVL_spec q1, List.take_append_drop]
 have e2 : l2 = L46 ++ l2.drop 10 := by rw [← eqVL_spec q2, List.take_append_drop]
 refine ⟨[.slice (some ⟨0, 0, some 1⟩) 2 c1, .slice (some ⟨1, 0, some 1⟩) 2 c2], 2, rfl, rfl, Nat.le_of_ble_eq_true (by kernel_rfl), ?_⟩
 have e : viewL [some ⟨l1, t1, o1⟩, some ⟨l2, t2, o2⟩] = vwT (L46 ++ l1.drop 10) (L46 ++ l2.drop 10) t1 t2 := by
  funext k
  rw [← e1, ← e2]
  match k with
  | 0 => simp only [viewL, view1, p1, vwT]
  | 1 => simp only [viewL, view1, p2, vwT]
  | k + 2 => rfl
 rw [DoesVQ, e, v46]
def A54 : Env := (((((((((((((((((Env.nil.add 20 (memo m20)).add 22 (memo m22)).add 26 (memo m26)).add 32 (memo m32)).add 24 (memo m24)).add 48 (memo m48)).add 38 (memo m38)).add 40 (memo m40)).add 42 (memo m42)).add 53 (memo m53)).add 65 (memo m65)).add 50 (memo m50)).add 51 (memo m51)).add 54 (memo m54)).add 60 (memo m60)).add 52 (memo m52)).addG 44 (inlQ Tryz.prog A52 noL Tryz.f44)).add 46 (s46c)
theorem ok_A54 : EnvOK Tryz.prog A54 := env_add (env_addG (env_add (env_add (env_add (env_add (env_add (env_add (env_add (env_add (env_add (env_add (env_add (env_add (env_add (env_add (env_add (env_add env_nil pk20) pk22) pk26) pk32) pk24) pk48) pk38) pk40) pk42) pk53) pk65) pk50) pk51) pk54) pk60) pk52) (gen_inlQ ok_A52 hmix fn44 lokf_none)) pk46
end Go.Cs
end
noncomputable section
set_option maxRecDepth 100000
namespace Go.Cs
open Go Go.Ab Go.Proofs Go.Px Go.Cx
def T31 : List Value := [.int .i64 1, .int .i64 3, .int .i64 1, .bool false, .string ⟨#[]⟩]
theorem fn18 : Fn1 Tryz.prog 18 Tryz.f18 := ⟨Tryz.func18, by kernel_rfl, by kernel_rfl, by kernel_rfl⟩
theorem v18 (R : Value → Prop) : bodyQ Tryz.prog A54 noL Tryz.f18 [] (fun _ => none) 0 (fun v _ _ => R v) = ( ∀ (cap : Nat) (tail : List Value), tailOK tail cap 1 5 = true → bif Nat.beq (List.length (T31 ++ tail)) (cap * 5) && Nat.ble 1 cap && Nat.ble cap 9223372036854775807 && true && true then ∀ (cap : Nat) (tail : List Value), tailOK tail cap (1 + 1) 5 = true → bif plainL (L46 ++ tail) && plainL L46 then R (B true) else False else False) := by kernel_rfl
def s18 : Bool × Value := (true, .bool true)
theorem okC18 : PureOK Tryz.prog 18 (sp0 s18) := by
 refine qure0 ok_A54 hmix fn18 lokf_none fun _ => ?_
 rw [DoesQ, v18]
 intro cap tail h
 simp only [tailOK, Bool.and_eq_true] at h
 obtain ⟨⟨⟨_, h2⟩, h3⟩, h4⟩ := h
 have e : (T31 ++ tail).length = tail.length + 1 * 5 := by rw [List.length_append]; show 5 + _ = _; omega
 refine c_t (by rw [e, h2, h3, h4]; rfl) fun cap2 tail2 h => ?_
 simp only [tailOK, Bool.and_eq_true] at h
 obtain ⟨⟨⟨h1, _⟩, _⟩, _⟩ := h
 refine c_t ?_ rfl
 have : plainL (L46 ++ tail2) = true := by rw [plainL_iff] at h1 ⊢; intro v hv; rcases List.mem_append.1 hv with hv | hv; exact plainL_iff.1 (show plainL L46 = true from rfl) v hv; exact h1 v hv
 rw [this]
 rfl
end Go.Cs
end
noncomputable section
set_option maxHeartbeats 3200000
namespace Go.Cx
open Go Go.Ab Go.Proofs Go.Shelf Go.Px Go.Cv
open Go.Fx (Ty Vl check Valid most base pw bnd Fit fits tv vv tup V0 T0 pw_zero pw_succ wrap_mul pw_w64 str0)
instance tabsT : Tabs := tabs
def bitW0 (t : Ty) : Int := if t.k = 2 then t.p else (332 * (t.p - t.q) + 99) / 100
def scal (t : Ty) : Int := if t.k = 6 then 5 else chk4 t
def numT (t : Ty) : Bool := t.k == 5 && pN (bz t.s)
def piT (t : Ty) : Ty := ⟨tyK (bz t.s), tyP (bz t.s), pQ (bz t.s), false, ⟨#[]⟩⟩
def ariT (t : Ty) : Ty := if scal t ≠ 0 then T0 else if Valid t then t else if numT t = true then piT t else if t.k = 4 then ⟨2, 31, 0, false, ⟨#[]⟩⟩ else ⟨1, 9, 0, false, ⟨#[]⟩⟩
def chaW (t : Ty) : Int := if t.k = 1 ∨ t.k = 2 then wid t else if t.k = 5 then pW (bz t.s) else t.p
def chaT (t : Ty) : Ty := if scal t ≠ 0 then T0 else if t.k = 3 then t else ⟨3, chaW t, 0, false, ⟨#[]⟩⟩
def bwT (t : Ty) : Int := if t.k = 1 ∨ t.k = 2 then bitW0 t else if numT t = true then bitW0 (piT t) else if t.k = 5 then pW (bz t.s) else t.p
def bitT (t : Ty) : Ty := if scal t ≠ 0 then T0 else ⟨4, min 64 (bwT t), 0, false, ⟨#[]⟩⟩
def cntO (op : Int) : Int := if op = 5 ∨ op = 11 ∨ op = 17 then 1 else if (6 ≤ op ∧ op ≤ 10) ∨ (12 ≤ op ∧ op ≤ 16) ∨ op = 18 then 2 else 0
def sz63 (t : Ty) : Prop := t.s.size ≤ 9223372036854775807
instance (t : Ty) : Decidable (sz63 t) := by unfold sz63; infer_instance
theorem chk4_05 (t : Ty) : chk4 t = 0 ∨ chk4 t = 5 := by
 unfold chk4
 repeat' split
 all_goals simp
theorem kinds {t : Ty} (h : scal t = 0) : (t.k = 1 ∧ Valid t) ∨ (t.k = 2 ∧ Valid t) ∨ (t.k = 3 ∧ ¬ Valid t ∧ 0 ≤ t.p ∧ t.p ≤ 255) ∨ (t.k = 4 ∧ ¬ Valid t ∧ 0 ≤ t.p ∧ t.p ≤ 64) ∨ (t.k = 5 ∧ ¬ Valid t ∧ vOK (bz t.s) = true) := by
 unfold scal at h
 split at h
 ·cases h
 ·unfold chk4 at h
  split at h
  ·rename_i hv
   rcases hv.1 with q | q
   ·exact .inl ⟨q, hv⟩
   ·exact .inr (.inl ⟨q, hv⟩)
  ·rename_i nv
   split at h
   ·rename_i q; exact .inr (.inr (.inl ⟨q.1, nv, q.2.2.2.1, q.2.2.2.2⟩))
   ·split at h
    ·rename_i q; exact .inr (.inr (.inr (.inl ⟨q.1, nv, q.2.2.2.2.1, q.2.2.2.2.2⟩)))
    ·split at h
     ·rename_i q
      refine .inr (.inr (.inr (.inr ⟨q.1, nv, ?_⟩)))
      have := q.2.2.2.2
      unfold pE at this
      split at this
      ·assumption
      ·cases this
     ·split at h
      ·rename_i n6 _ _ _ q; exact absurd q.1 n6
      ·cases h
theorem pi_valid {l : List Int} (h : pN l = true) : Valid ⟨tyK l, tyP l, pQ l, false, ⟨#[]⟩⟩ := by
 obtain ⟨h1, h2, h3, h4⟩ := pD_rng h
 have hv := pN_vOK h
 have e1 : tyK l = 1 := by unfold tyK; rw [if_pos hv, if_pos h]
 have e2 : tyP l = pD l := by unfold tyP; rw [if_pos hv, if_pos h]
 refine ⟨.inl e1, ?_, ?_, h3, ?_, fun h => ?_, rfl, (by show (ByteArray.mk #[]).toList = []; rw [ByteArray.toList_eq])⟩
 ·show 1 ≤ tyP l; omega
 ·show tyP l ≤ most (tyK l); rw [e1, e2]; exact h2
 ·show pQ l ≤ tyP l; omega
 ·have h : tyK l = 2 := h; omega
theorem pi_notv {l : List Int} (h : pN l = false) : ¬ Valid ⟨tyK l, tyP l, pQ l, false, ⟨#[]⟩⟩ := by
 rintro ⟨hk, -⟩
 have hk : tyK l = 1 ∨ tyK l = 2 := hk
 unfold tyK at hk
 rw [h] at hk
 simp only [Bool.false_eq_true, if_false] at hk
 split at hk <;> omega
theorem ty_nn {l : List Int} (hv : vOK l = true) (h : pN l = false) : tyP l = pW l ∧ tyK l = 3 := by
 unfold tyP tyK
 rw [if_pos hv, if_pos hv, h]
 simp
theorem pE_ok {l : List Int} (hv : vOK l = true) : pE l = 0 := if_pos hv
theorem binT_eq {t : Ty} (hv : Valid t) (hk : t.k = 1) : Fx.binT t = ⟨2, 1 + (t.p * 332 + 99) / 100, 0, false, Fx.e0⟩ := by
 unfold Fx.binT
 rw [if_pos hv, if_neg (by omega)]
theorem dec_p {t : Ty} (hv : Valid t) (hk : t.k = 1) : t.p ≤ 9 := by
 have := hv.2.2.1
 unfold most at this
 rw [if_pos hk] at this
 exact this
theorem ty_num {l : List Int} (h : pN l = true) : tyK l = 1 ∧ tyP l = pD l := by
 have hv := pN_vOK h
 unfold tyK tyP
 rw [if_pos hv, if_pos hv, if_pos h, if_pos h]
 exact ⟨rfl, rfl⟩
theorem p_rng {t : Ty} (h : scal t = 0) : 0 ≤ t.p ∧ t.p ≤ 1000000 := by
 rcases kinds h with ⟨hk, hv⟩ | ⟨hk, hv⟩ | ⟨hk, nv, r1, r2⟩ | ⟨hk, nv, r1, r2⟩ | ⟨hk, nv, hp⟩
 ·have := Fx.valid_r hv; omega
 ·have := Fx.valid_r hv; omega
 ·omega
 ·omega
 ·unfold scal at h
  rw [if_neg (by omega)] at h
  unfold chk4 at h
  rw [if_neg nv, if_neg (fun q => by have := q.1; omega), if_neg (fun q => by have := q.1; omega)] at h
  split at h
  ·rename_i q; have := q.2.1; omega
  ·rw [if_neg (fun q => by have := q.1; omega)] at h; cases h
def M0 : Env := (Env.nil.add 66 (sp1 s66)).add 67 (sp1 Px.s33)
theorem ok_M0 : EnvOK Tryz.prog M0 := env_add (env_add env_nil ok66) Px.ok33
def s20f (t : Ty) : Bool × Value := (decide (sz63 t), I (chk4 t))
theorem v20f (t : Ty) (R : Value → Prop) : bodyQ Tryz.prog M0 noL Tryz.f20 [Enc.enc t] (fun _ => none) 0 (fun v _ _ => R v) = ( bif Ty.k t == 1 then R (I (check t)) else bif Ty.k t == 2 then R (I (check t)) else bif Ty.k t == 3 then (bif decide (Ty.p t ≥ 0) || true then bif !(decide (Ty.p t ≥ 0) && decide (Ty.p t ≤ 255)) || true then bif !(decide (Ty.p t ≥ 0) && decide (Ty.p t ≤ 255)) || !(Ty.k t == Ty.k t && (Ty.p t == Ty.p t && (Ty.q t == 0 && (Ty.v t == Ty.v t && (ByteArray.toList (Ty.s t) == ByteArray.toList (ByteArray.mk #[]) && true))))) then R (I 5) else R (I 0) else False else False) ∧ bif decide (Ty.p t ≥ 0) || true then bif !(decide (Ty.p t ≥ 0) && decide (Ty.p t ≤ 255)) || true then bif !(decide (Ty.p t ≥ 0) && decide (Ty.p t ≤ 255)) || !(Ty.k t == Ty.k t && (Ty.p t == Ty.p t && (Ty.q t == 0 && (Ty.v t == Ty.v t && (ByteArray.toList (Ty.s t) == ByteArray.toList (ByteArray.mk #[]) && true))))) then R (I 5) else R (I 0) else False else False else bif Ty.k t == 4 then bif decide (Ty.p t ≥ 0) || true then bif !(decide (Ty.p t ≥ 0) && decide (Ty.p t ≤ 64)) || true then bif !(decide (Ty.p t ≥ 0) && decide (Ty.p t ≤ 64)) || !(Ty.k t == Ty.k t && (Ty.p t == Ty.p t && (Ty.q t == 0 && (Ty.v t == false && (ByteArray.toList (Ty.s t) == ByteArray.toList (ByteArray.mk #[]) && true))))) then R (I 5) else R (I 0) else False else False else bif Ty.k t == 5 then bif decide (ByteArray.size (Ty.s t) ≤ 9223372036854775807) then bif !pE (bz (Ty.s t)) == 0 || true then bif !pE (bz (Ty.s t)) == 0 || !(Ty.k t == Ty.k t && (Ty.p t == 0 && (Ty.q t == 0 && (Ty.v t == false && (ByteArray.toList (Ty.s t) == ByteArray.toList (Ty.s t) && true))))) then R (I 5) else R (I 0) else False else False else bif Ty.k t == 6 then bif !true || !(Ty.k t == Ty.k t && (Ty.p t == 0 && (Ty.q t == 0 && (Ty.v t == false && (ByteArray.toList (Ty.s t) == ByteArray.toList (ByteArray.mk #[]) && true))))) then R (I 5) else R (I 0) else R (I 5)) := by kernel_rfl
theorem ok20f : PureOK Tryz.prog 20 (sp1 s20f) := by
 refine qure1 ok_M0 hmix fn20 lokf_none (Nat.le_of_ble_eq_true (by kernel_rfl)) fun t hc => ?_
 rw [DoesQ, v20f]
 have hc : (sz63 t) := of_decide_eq_true hc
 try dsimp only [s20f]
 have hs : t.s.size ≤ 9223372036854775807 := hc
 have nvk : ∀ k : Int, t.k = k → k ≠ 1 → k ≠ 2 → ¬ Valid t := fun k hk h1 h2 hv => by have := hv.1; omega
 have ck : t.k = 1 ∨ t.k = 2 → check t = chk4 t := fun hk => by
  unfold Fx.check chk4
  by_cases hv : Valid t
  ·rw [if_pos hv, if_pos hv]
  ·rw [if_neg hv, if_neg hv, if_neg (by omega), if_neg (by omega), if_neg (by omega), if_neg (by omega)]
 refine cond_intro (fun hk => ?_) (fun h1 => ?_)
 ·rw [ck (.inl (by simpa using hk))]
 refine cond_intro (fun hk => ?_) (fun h2 => ?_)
 ·rw [ck (.inr (by simpa using hk))]
 have h1 : t.k ≠ 1 := by simpa using h1
 have h2 : t.k ≠ 2 := by simpa using h2
 have nv : ¬ Valid t := nvk _ rfl h1 h2
 refine cond_intro (fun h3 => ?_) (fun h3 => ?_)
 ·have h3 : t.k = 3 := by simpa using h3
  have key : ∀ X : Prop, (bif !(decide (t.p ≥ 0) && decide (t.p ≤ 255)) || !(t.k == t.k && (t.p == t.p && (t.q == 0 && (t.v == t.v && (t.s.toList == (ByteArray.mk #[]).toList && true))))) then Value.int IntKind.i64 5 = I (chk4 t) else Value.int IntKind.i64 0 = I (chk4 t)) := fun _ => by
   rw [empty_iff]
   unfold chk4
   rw [if_neg nv]
   refine cond_intro (fun h => ?_) (fun h => ?_)
   ·rw [if_neg, if_neg (by omega), if_neg (by omega), if_neg (by omega)]
    rintro ⟨-, q1, q2, q3, q4⟩
    simp [q1, q2, q3, q4] at h
   ·rw [if_pos]
    simp at h
    exact ⟨h3, h.2.1, h.2.2, h.1.1, h.1.2⟩
  exact ⟨c_t (Bool.or_true _) (c_t (Bool.or_true _) (key True)), c_t (Bool.or_true _) (c_t (Bool.or_true _) (key True))⟩
 have h3 : t.k ≠ 3 := by simpa using h3
 refine cond_intro (fun h4 => ?_) (fun h4 => ?_)
 ·have h4 : t.k = 4 := by simpa using h4
  refine c_t (Bool.or_true _) (c_t (Bool.or_true _) ?_)
  rw [empty_iff]
  unfold chk4
  rw [if_neg nv, if_neg (by omega)]
  refine cond_intro (fun h => ?_) (fun h => ?_)
  ·rw [if_neg, if_neg (by omega), if_neg (by omega)]
   rintro ⟨-, q1, q2, q3, q4, q5⟩
   simp [q1, q2, q3, q4, q5] at h
  ·rw [if_pos]
   simp at h
   exact ⟨h4, h.2.1, h.2.2.2, h.2.2.1, h.1.1, h.1.2⟩
 have h4 : t.k ≠ 4 := by simpa using h4
 refine cond_intro (fun h5 => ?_) (fun h5 => ?_)
 ·have h5 : t.k = 5 := by simpa using h5
  refine c_t (decide_eq_true hs) (c_t (Bool.or_true _) ?_)
  unfold chk4
  rw [if_neg nv, if_neg (by omega), if_neg (by omega)]
  refine cond_intro (fun h => ?_) (fun h => ?_)
  ·rw [if_neg, if_neg (by omega)]
   rintro ⟨-, q1, q2, q3, q4⟩
   simp [q1, q2, q3, q4] at h
  ·rw [if_pos]
   simp at h
   exact ⟨h5, h.2.1, h.2.2.1, h.2.2.2, h.1⟩
 have h5 : t.k ≠ 5 := by simpa using h5
 refine cond_intro (fun h6 => ?_) (fun h6 => ?_)
 ·have h6 : t.k = 6 := by simpa using h6
  rw [empty_iff]
  unfold chk4
  rw [if_neg nv, if_neg (by omega), if_neg (by omega), if_neg (by omega)]
  refine cond_intro (fun h => ?_) (fun h => ?_)
  ·rw [if_neg]
   rintro ⟨-, q1, q2, q3, q4⟩
   simp [q1, q2, q3, q4] at h
  ·rw [if_pos]
   simp at h
   exact ⟨h6, h.2.1, h.2.2.2, h.1, h.2.2.1⟩
 have h6 : t.k ≠ 6 := by simpa using h6
 unfold chk4
 rw [if_neg nv, if_neg (by omega), if_neg (by omega), if_neg (by omega), if_neg (by omega)]
def M1 : Env := Env.nil.add 20 (sp1 s20f)
theorem ok_M1 : EnvOK Tryz.prog M1 := env_add env_nil ok20f
def s108 (t : Ty) : Bool × Value := (decide (sz63 t), I (scal t))
theorem fn108 : Fn1 Tryz.prog 108 Tryz.f108 := ⟨Tryz.func108, by kernel_rfl, by kernel_rfl, by kernel_rfl⟩
theorem v108 (t : Ty) (R : Value → Prop) : bodyQ Tryz.prog M1 noL Tryz.f108 [Enc.enc t] (fun _ => none) 0 (fun v _ _ => R v) = ( bif Ty.k t == 6 then R (I 5) else bif decide (sz63 t) then R (I (chk4 t)) else False) := by kernel_rfl
theorem ok108 : PureOK Tryz.prog 108 (sp1 s108) := by
 refine qure1 ok_M1 hmix fn108 lokf_none (Nat.le_of_ble_eq_true (by kernel_rfl)) fun t hc => ?_
 rw [DoesQ, v108]
 have hc : (sz63 t) := of_decide_eq_true hc
 try dsimp only [s108]
 unfold scal
 refine cond_intro (fun h => ?_) (fun h => ?_)
 ·rw [if_pos (by simpa using h)]
 ·rw [if_neg (by simpa using h)]
  exact c_t (decide_eq_true hc) rfl
def M2 : Env := (((((((Env.nil.add 66 (sp1 s66)).add 85 (sp1 s85)).add 59 (sp1 Px.s31)).add 61 (sp1 Px.s46)).add 113 (sp1 Px.s35)).add 115 (sp1 s115)).add 112 (sp1 s112)).add 108 (sp1 s108)
theorem ok_M2 : EnvOK Tryz.prog M2 := env_add (env_add (env_add (env_add (env_add (env_add (env_add (env_add env_nil ok66) ok85) Px.ok31) Px.ok46) Px.ok35) ok115) ok112) ok108
def s38 (t : Ty) : Bool × Value := (decide (sz63 t), .tuple ⟨[Fx.tv (ariT t), I (scal t)]⟩)
theorem fn38 : Fn1 Tryz.prog 38 Tryz.f38 := ⟨Tryz.func38, by kernel_rfl, by kernel_rfl, by kernel_rfl⟩
theorem v38 (t : Ty) (R : Value → Prop) : bodyQ Tryz.prog M2 noL Tryz.f38 [Enc.enc t] (fun _ => none) 0 (fun v _ _ => R v) = ( bif decide (sz63 t) then bif scal t != 0 then R (.tuple (.mk [.agg (.mk [I 0, I 0, I 0, B false, S (ByteArray.mk #[])]), I (scal t)])) else bif decide (Valid t) then R (.tuple (.mk [.agg (.mk [I (Ty.k t), I (Ty.p t), I (Ty.q t), B (Ty.v t), S (Ty.s t)]), I 0])) else bif bif Ty.k t == 5 then decide (ByteArray.size (Ty.s t) ≤ 9223372036854775807) && true else true then bif Ty.k t == 5 && pN (bz (Ty.s t)) then bif decide (ByteArray.size (Ty.s t) ≤ 9223372036854775807) then R (.tuple (.mk [.agg (.mk [I (tyK (bz (Ty.s t))), I (tyP (bz (Ty.s t))), I (pQ (bz (Ty.s t))), B false, S (ByteArray.mk #[])]), I (pE (bz (Ty.s t)))])) else False else bif Ty.k t == 4 then R (.tuple (.mk [.agg (.mk [I 2, I 31, I 0, B false, S (ByteArray.mk #[])]), I 0])) else R (.tuple (.mk [.agg (.mk [I 1, I 9, I 0, B false, S (ByteArray.mk #[])]), I 0])) else False else False) := by kernel_rfl
theorem ok38 : PureOK Tryz.prog 38 (sp1 s38) := by
 refine qure1 ok_M2 hmix fn38 lokf_none (Nat.le_of_ble_eq_true (by kernel_rfl)) fun t hc => ?_
 rw [DoesQ, v38]
 have hc : (sz63 t) := of_decide_eq_true hc
 try dsimp only [s38]
 have hs : t.s.size ≤ 9223372036854775807 := hc
 refine c_t (decide_eq_true hc) (cond_intro (fun h => ?_) (fun h => ?_))
 ·have h : scal t ≠ 0 := by simpa using h
  rw [show ariT t = T0 from if_pos h]
  rfl
 have h : scal t = 0 := by simpa using h
 rcases kinds h with ⟨hk, hv⟩ | ⟨hk, hv⟩ | ⟨hk, nv, r1, r2⟩ | ⟨hk, nv, r1, r2⟩ | ⟨hk, nv, hp⟩
 ·have e : ariT t = t := by unfold ariT numT; simp [h, hv]
  rw [e, h]
  exact c_t (decide_eq_true hv) rfl
 ·have e : ariT t = t := by unfold ariT numT; simp [h, hv]
  rw [e, h]
  exact c_t (decide_eq_true hv) rfl
 ·have e : ariT t = ⟨1, 9, 0, false, ⟨#[]⟩⟩ := by unfold ariT numT; simp [h, nv, hk]
  rw [e, h]
  exact c_f (decide_eq_false nv) (c_t (by simp [hk]) (c_f (by simp [hk]) (c_f (by simp [hk]) rfl)))
 ·have e : ariT t = ⟨2, 31, 0, false, ⟨#[]⟩⟩ := by unfold ariT numT; simp [h, nv, hk]
  rw [e, h]
  exact c_f (decide_eq_false nv) (c_t (by simp [hk]) (c_f (by simp [hk]) (c_t (by simp [hk]) rfl)))
 ·refine c_f (decide_eq_false nv) (c_t (by simp [hk, hs]) (cond_intro (fun hn => ?_) (fun hn => ?_)))
  ·have hn : pN (bz t.s) = true := by simpa [hk] using hn
   have e : ariT t = piT t := by unfold ariT numT; simp [h, nv, hk, hn]
   rw [e, h, pE_ok hp]
   exact c_t (decide_eq_true hs) rfl
  ·have hn : pN (bz t.s) = false := by simpa [hk] using hn
   have e : ariT t = ⟨1, 9, 0, false, ⟨#[]⟩⟩ := by unfold ariT numT; simp [h, nv, hk, hn]
   rw [e, h]
   exact c_f (by simp [hk]) rfl
def s40 (t : Ty) : Bool × Value := (decide (sz63 t), .tuple ⟨[Fx.tv (chaT t), I (scal t)]⟩)
theorem fn40 : Fn1 Tryz.prog 40 Tryz.f40 := ⟨Tryz.func40, by kernel_rfl, by kernel_rfl, by kernel_rfl⟩
theorem v40 (t : Ty) (R : Value → Prop) : bodyQ Tryz.prog M2 noL Tryz.f40 [Enc.enc t] (fun _ => none) 0 (fun v _ _ => R v) = ( bif decide (sz63 t) then bif scal t != 0 then R (.tuple (.mk [.agg (.mk [I 0, I 0, I 0, B false, S (ByteArray.mk #[])]), I (scal t)])) else bif Ty.k t == 3 then R (.tuple (.mk [.agg (.mk [I (Ty.k t), I (Ty.p t), I (Ty.q t), B (Ty.v t), S (Ty.s t)]), I 0])) else bif Ty.k t == 1 then bif decide (0 ≤ Ty.p t ∧ Ty.p t ≤ 1000) then R (.tuple (.mk [.agg (.mk [I 3, I (wid t), I 0, B false, S (ByteArray.mk #[])]), I 0])) else False else bif Ty.k t == 2 then bif decide (0 ≤ Ty.p t ∧ Ty.p t ≤ 1000) then R (.tuple (.mk [.agg (.mk [I 3, I (wid t), I 0, B false, S (ByteArray.mk #[])]), I 0])) else False else bif Ty.k t == 5 then bif decide (ByteArray.size (Ty.s t) ≤ 9223372036854775807) then R (.tuple (.mk [.agg (.mk [I 3, I (pW (bz (Ty.s t))), I 0, B false, S (ByteArray.mk #[])]), I 0])) else False else R (.tuple (.mk [.agg (.mk [I 3, I (Ty.p t), I 0, B false, S (ByteArray.mk #[])]), I 0])) else False) := by kernel_rfl
theorem ok40 : PureOK Tryz.prog 40 (sp1 s40) := by
 refine qure1 ok_M2 hmix fn40 lokf_none (Nat.le_of_ble_eq_true (by kernel_rfl)) fun t hc => ?_
 rw [DoesQ, v40]
 have hc : (sz63 t) := of_decide_eq_true hc
 try dsimp only [s40]
 have hs : t.s.size ≤ 9223372036854775807 := hc
 refine c_t (decide_eq_true hc) (cond_intro (fun h => ?_) (fun h => ?_))
 ·have h : scal t ≠ 0 := by simpa using h
  rw [show chaT t = T0 from if_pos h]
  rfl
 have h : scal t = 0 := by simpa using h
 rcases kinds h with ⟨hk, hv⟩ | ⟨hk, hv⟩ | ⟨hk, nv, r1, r2⟩ | ⟨hk, nv, r1, r2⟩ | ⟨hk, nv, hp⟩
 ·have e : chaT t = ⟨3, wid t, 0, false, ⟨#[]⟩⟩ := by unfold chaT chaW; simp [h, hk]
  rw [e, h]
  have hr := Fx.valid_r hv
  exact c_f (by simp [hk]) (c_t (by simp [hk]) (c_t (decide_eq_true (by omega)) rfl))
 ·have e : chaT t = ⟨3, wid t, 0, false, ⟨#[]⟩⟩ := by unfold chaT chaW; simp [h, hk]
  rw [e, h]
  have hr := Fx.valid_r hv
  exact c_f (by simp [hk]) (c_f (by simp [hk]) (c_t (by simp [hk]) (c_t (decide_eq_true (by omega)) rfl)))
 ·have e : chaT t = t := by unfold chaT; simp [h, hk]
  rw [e, h]
  exact c_t (by simp [hk]) rfl
 ·have e : chaT t = ⟨3, t.p, 0, false, ⟨#[]⟩⟩ := by unfold chaT chaW; simp [h, hk]
  rw [e, h]
  exact c_f (by simp [hk]) (c_f (by simp [hk]) (c_f (by simp [hk]) (c_f (by simp [hk]) rfl)))
 ·have e : chaT t = ⟨3, pW (bz t.s), 0, false, ⟨#[]⟩⟩ := by unfold chaT chaW; simp [h, hk]
  rw [e, h]
  exact c_f (by simp [hk]) (c_f (by simp [hk]) (c_f (by simp [hk]) (c_t (by simp [hk]) (c_t (decide_eq_true hs) rfl))))
def s42f (t : Ty) : Bool × Value := (decide (sz63 t), .tuple ⟨[Fx.tv (bitT t), I (scal t)]⟩)
theorem fn42 : Fn1 Tryz.prog 42 Tryz.f42 := ⟨Tryz.func42, by kernel_rfl, by kernel_rfl, by kernel_rfl⟩
theorem v42f (t : Ty) (R : Value → Prop) : bodyQ Tryz.prog M2 noL Tryz.f42 [Enc.enc t] (fun _ => none) 0 (fun v _ _ => R v) = ( bif decide (sz63 t) then bif scal t != 0 then R (.tuple (.mk [.agg (.mk [I 0, I 0, I 0, B false, S (ByteArray.mk #[])]), I (scal t)])) else bif Ty.k t == 1 then bif decide (Ty.q t ≤ Ty.p t ∧ Ty.p t ≤ 1000 ∧ 0 ≤ Ty.q t) then R (.tuple (.mk [.agg (.mk [I 4, I (if Ty.k t = 2 then Ty.p t else (332 * (Ty.p t - Ty.q t) + 99) / 100), I 0, B false, S (ByteArray.mk #[])]), I 0])) else False else bif Ty.k t == 2 then bif decide (Ty.q t ≤ Ty.p t ∧ Ty.p t ≤ 1000 ∧ 0 ≤ Ty.q t) then R (.tuple (.mk [.agg (.mk [I 4, I (if Ty.k t = 2 then Ty.p t else (332 * (Ty.p t - Ty.q t) + 99) / 100), I 0, B false, S (ByteArray.mk #[])]), I 0])) else False else bif Ty.k t == 3 then R (.tuple (.mk [.agg (.mk [I 4, I (imin (Ty.p t) 64), I 0, B false, S (ByteArray.mk #[])]), I 0])) else bif Ty.k t == 5 then bif decide (ByteArray.size (Ty.s t) ≤ 9223372036854775807) then bif decide (Valid (Ty.mk (tyK (bz (Ty.s t))) (tyP (bz (Ty.s t))) (pQ (bz (Ty.s t))) false (ByteArray.mk #[]))) then bif decide (pQ (bz (Ty.s t)) ≤ tyP (bz (Ty.s t)) ∧ tyP (bz (Ty.s t)) ≤ 1000 ∧ 0 ≤ pQ (bz (Ty.s t))) then R (.tuple (.mk [.agg (.mk [I 4, I (if tyK (bz (Ty.s t)) = 2 then tyP (bz (Ty.s t)) else (332 * (tyP (bz (Ty.s t)) - pQ (bz (Ty.s t))) + 99) / 100), I 0, B false, S (ByteArray.mk #[])]), I 0])) else False else R (.tuple (.mk [.agg (.mk [I 4, I (imin (tyP (bz (Ty.s t))) 64), I 0, B false, S (ByteArray.mk #[])]), I 0])) else False else R (.tuple (.mk [.agg (.mk [I 4, I (Ty.p t), I 0, B false, S (ByteArray.mk #[])]), I 0])) else False) := by kernel_rfl
theorem ok42f : PureOK Tryz.prog 42 (sp1 s42f) := by
 refine qure1 ok_M2 hmix fn42 lokf_none (Nat.le_of_ble_eq_true (by kernel_rfl)) fun t hc => ?_
 rw [DoesQ, v42f]
 have hc : (sz63 t) := of_decide_eq_true hc
 try dsimp only [s42f]
 have hs : t.s.size ≤ 9223372036854775807 := hc
 refine c_t (decide_eq_true hc) (cond_intro (fun h => ?_) (fun h => ?_))
 ·have h : scal t ≠ 0 := by simpa using h
  rw [show bitT t = T0 from if_pos h]
  rfl
 have h : scal t = 0 := by simpa using h
 rcases kinds h with ⟨hk, hv⟩ | ⟨hk, hv⟩ | ⟨hk, nv, r1, r2⟩ | ⟨hk, nv, r1, r2⟩ | ⟨hk, nv, hp⟩
 ·have hr := Fx.valid_r hv
  have e : bitT t = ⟨4, if t.k = 2 then t.p else (332 * (t.p - t.q) + 99) / 100, 0, false, ⟨#[]⟩⟩ := by
   have h9 := dec_p hv hk
   unfold bitT bwT numT bitW0
   simp [h, hk]
   omega
  rw [e, h]
  exact c_t (by simp [hk]) (c_t (decide_eq_true (by omega)) rfl)
 ·have hr := Fx.valid_r hv
  have e : bitT t = ⟨4, if t.k = 2 then t.p else (332 * (t.p - t.q) + 99) / 100, 0, false, ⟨#[]⟩⟩ := by
   unfold bitT bwT numT bitW0
   simp [h, hk]
   omega
  rw [e, h]
  exact c_f (by simp [hk]) (c_t (by simp [hk]) (c_t (decide_eq_true (by omega)) rfl))
 ·have e : bitT t = ⟨4, imin t.p 64, 0, false, ⟨#[]⟩⟩ := by
   unfold bitT bwT numT bitW0
   simp [h, hk]
   unfold imin
   split <;> omega
  rw [e, h]
  exact c_f (by simp [hk]) (c_f (by simp [hk]) (c_t (by simp [hk]) rfl))
 ·have e : bitT t = ⟨4, t.p, 0, false, ⟨#[]⟩⟩ := by
   unfold bitT bwT numT bitW0
   simp [h, hk]
   omega
  rw [e, h]
  exact c_f (by simp [hk]) (c_f (by simp [hk]) (c_f (by simp [hk]) (c_f (by simp [hk]) rfl)))
 ·refine c_f (by simp [hk]) (c_f (by simp [hk]) (c_f (by simp [hk]) (c_t (by simp [hk]) (c_t (decide_eq_true hs) ?_))))
  by_cases hn : pN (bz t.s) = true
  ·have hpv := pi_valid hn
   have hr := Fx.valid_r hpv
   have hr2 : tyP (bz t.s) ≤ 9 := by (have e1 := ty_num hn; have := pD_rng hn; omega)
   have ek : tyK (bz t.s) = 1 := (ty_num hn).1
   have e : bitT t = ⟨4, if tyK (bz t.s) = 2 then tyP (bz t.s) else (332 * (tyP (bz t.s) - pQ (bz t.s)) + 99) / 100, 0, false, ⟨#[]⟩⟩ := by
    unfold bitT bwT numT bitW0 piT
    simp [h, hk, hn]
    simp only at hr
    omega
   rw [e, h]
   exact c_t (decide_eq_true hpv) (c_t (decide_eq_true (by simp only at hr; omega)) rfl)
  ·have hn : pN (bz t.s) = false := by simpa using hn
   obtain ⟨t1, t2⟩ := ty_nn hp hn
   have e : bitT t = ⟨4, imin (tyP (bz t.s)) 64, 0, false, ⟨#[]⟩⟩ := by
    unfold bitT bwT numT
    simp [h, hk, hn, t1]
    unfold imin
    split <;> omega
   rw [e, h]
   exact c_f (decide_eq_false (pi_notv hn)) rfl
def s117 (t : Ty) : Bool × Value := (true, .tuple ⟨[Fx.tv (Fx.binT t), I (check t)]⟩)
theorem fn117 : Fn1 Tryz.prog 117 Tryz.f117 := ⟨Tryz.func117, by kernel_rfl, by kernel_rfl, by kernel_rfl⟩
theorem v117 (t : Ty) (R : Value → Prop) : bodyQ Tryz.prog M2 noL Tryz.f117 [Enc.enc t] (fun _ => none) 0 (fun v _ _ => R v) = ( bif check t != 0 then R (.tuple (.mk [.agg (.mk [I 0, I 0, I 0, B false, S (ByteArray.mk #[])]), I (check t)])) else bif Ty.k t == 2 then R (.tuple (.mk [.agg (.mk [I (Ty.k t), I (Ty.p t), I (Ty.q t), B (Ty.v t), S (Ty.s t)]), I 0])) else bif decide (0 ≤ IntKind.wrap .i64 (Ty.p t - 1) ∧ IntKind.wrap .i64 (Ty.p t - 1) < 9) then bif isIntAt IntKind.i64 [I 5, I 8, I 11, I 15, I 18, I 21, I 25, I 28, I 31] (0 + Int.toNat (IntKind.wrap .i64 (Ty.p t - 1)) * 1) then R (.tuple (.mk [.agg (.mk [I 2, I (intAt [I 5, I 8, I 11, I 15, I 18, I 21, I 25, I 28, I 31] (0 + Int.toNat (IntKind.wrap .i64 (Ty.p t - 1)) * 1)), I 0, B false, S (ByteArray.mk #[])]), I 0])) else False else False) := by kernel_rfl
theorem ok117 : PureOK Tryz.prog 117 (sp1 s117) := by
 refine qure1 ok_M2 hmix fn117 lokf_none (Nat.le_of_ble_eq_true (by kernel_rfl)) fun t hc => ?_
 rw [DoesQ, v117]
 try dsimp only [s117]
 unfold Fx.check Fx.binT
 by_cases hv : Valid t
 ·rw [if_pos hv, if_pos hv]
  refine c_f (by simp) (cond_intro (fun hk => ?_) (fun hk => ?_))
  ·rw [if_pos (by simpa using hk)]
  ·have hk : t.k ≠ 2 := by simpa using hk
   have hk1 : t.k = 1 := by rcases hv.1 with h | h; exact h; exact absurd h hk
   have h9 := dec_p hv hk1
   have hr := Fx.valid_r hv
   rw [if_neg hk, Fx.w64 (n := t.p - 1) (by omega), show 0 + (t.p - 1).toNat * 1 = (t.p - 1).toNat by omega]
   obtain ⟨b1, b2⟩ := Fx.bin_tab (t.p - 1).toNat (by omega)
   rw [b1, b2]
   refine c_t (decide_eq_true (by omega)) (c_t rfl ?_)
   rw [show ((t.p - 1).toNat : Int) = t.p - 1 by omega]
   rw [show t.p - 1 + 1 = t.p by omega]
   rfl
 ·rw [if_neg hv, if_neg hv]
  exact c_t (by simp) rfl
def N0 : Env := (((Env.nil.add 21 (sp1 s21)).add 180 (sp1 Px.s49)).add 111 (sp1 Px.s47)).add 143 (sp1 Px.s30)
theorem ok_N0 : EnvOK Tryz.prog N0 := env_add (env_add (env_add (env_add env_nil ok21) Px.ok49) Px.ok47) Px.ok30
def s109 (t : Ty) : Bool × Value := (decide (sz63 t), I (scal t))
theorem fn109 : Fn1 Tryz.prog 109 Tryz.f109 := ⟨Tryz.func109, by kernel_rfl, by kernel_rfl, by kernel_rfl⟩
theorem v109 (t : Ty) (R : Value → Prop) : bodyQ Tryz.prog N0 noL Tryz.f109 [Enc.enc t] (fun _ => none) 0 (fun v _ _ => R v) = ( bif decide (ByteArray.size (Ty.s t) ≤ 9223372036854775807) && (chk4 t != 0 || true) then bif chk4 t != 0 || Ty.k t == 6 then R (I 5) else R (I 0) else False) := by kernel_rfl
theorem ok109 : PureOK Tryz.prog 109 (sp1 s109) := by
 refine qure1 ok_N0 hmix fn109 lokf_none (Nat.le_of_ble_eq_true (by kernel_rfl)) fun t hc => ?_
 rw [DoesQ, v109]
 have hc : (sz63 t) := of_decide_eq_true hc
 try dsimp only [s109]
 have hs : t.s.size ≤ 9223372036854775807 := hc
 refine c_t (by rw [decide_eq_true hs]; simp) ?_
 unfold scal
 rcases chk4_05 t with h | h <;> rw [h]
 ·refine cond_intro (fun h6 => ?_) (fun h6 => ?_)
  ·rw [if_pos (by simpa using h6)]
  ·rw [if_neg (by simpa using h6)]
 ·refine c_t rfl ?_
  split <;> rfl
def s110 (t : Ty) : Bool × Value := (decide (sz63 t), B (numT t))
theorem fn110 : Fn1 Tryz.prog 110 Tryz.f110 := ⟨Tryz.func110, by kernel_rfl, by kernel_rfl, by kernel_rfl⟩
theorem v110 (t : Ty) (R : Value → Prop) : bodyQ Tryz.prog N0 noL Tryz.f110 [Enc.enc t] (fun _ => none) 0 (fun v _ _ => R v) = ( bif bif Ty.k t == 5 then decide (ByteArray.size (Ty.s t) ≤ 9223372036854775807) && true else true then R (B (Ty.k t == 5 && pN (bz (Ty.s t)))) else False) := by kernel_rfl
theorem ok110 : PureOK Tryz.prog 110 (sp1 s110) := by
 refine qure1 ok_N0 hmix fn110 lokf_none (Nat.le_of_ble_eq_true (by kernel_rfl)) fun t hc => ?_
 rw [DoesQ, v110]
 have hc : (sz63 t) := of_decide_eq_true hc
 try dsimp only [s110]
 have hs : t.s.size ≤ 9223372036854775807 := hc
 exact c_t (by rw [decide_eq_true hs]; cases (t.k == 5) <;> rfl) rfl
def s114 (t : Ty) : Bool × Value := (decide (sz63 t ∧ 0 ≤ t.p ∧ t.p ≤ 1000000), I (chaW t))
theorem fn114 : Fn1 Tryz.prog 114 Tryz.f114 := ⟨Tryz.func114, by kernel_rfl, by kernel_rfl, by kernel_rfl⟩
theorem v114 (t : Ty) (R : Value → Prop) : bodyQ Tryz.prog N0 noL Tryz.f114 [Enc.enc t] (fun _ => none) 0 (fun v _ _ => R v) = ( bif Ty.k t == 1 then R (I (IntKind.wrap .i64 (Ty.p t + 3))) else bif Ty.k t == 2 then R (I (IntKind.wrap .i64 (IntKind.wrap .i64 (1 + IntKind.wrap .i64 (Int.tdiv (IntKind.wrap .i64 (IntKind.wrap .i64 (100 * Ty.p t) + 331)) 332)) + 3))) else bif Ty.k t == 5 then bif decide (ByteArray.size (Ty.s t) ≤ 9223372036854775807) then R (I (pW (bz (Ty.s t)))) else False else R (I (Ty.p t))) := by kernel_rfl
theorem ok114 : PureOK Tryz.prog 114 (sp1 s114) := by
 refine qure1 ok_N0 hmix fn114 lokf_none (Nat.le_of_ble_eq_true (by kernel_rfl)) fun t hc => ?_
 rw [DoesQ, v114]
 have hc : (sz63 t ∧ 0 ≤ t.p ∧ t.p ≤ 1000000) := of_decide_eq_true hc
 try dsimp only [s114]
 obtain ⟨hs, h1, h2⟩ := hc
 unfold chaW wid
 refine cond_intro (fun hk => ?_) (fun hk => ?_)
 ·have hk : t.k = 1 := by simpa using hk
  rw [if_pos (.inl hk), if_neg (by omega), w64 (by omega)]
 have hk : t.k ≠ 1 := by simpa using hk
 refine cond_intro (fun hk2 => ?_) (fun hk2 => ?_)
 ·have hk2 : t.k = 2 := by simpa using hk2
  rw [if_pos (.inr hk2), if_pos hk2, w64 (n := 100 * t.p) (by omega), w64 (n := 100 * t.p + 331) (by omega), Int.tdiv_eq_ediv_of_nonneg (by omega), w64 (n := (100 * t.p + 331) / 332) (by omega), w64 (n := 1 + (100 * t.p + 331) / 332) (by omega), w64 (by omega)]
 have hk2 : t.k ≠ 2 := by simpa using hk2
 rw [if_neg (by omega)]
 refine cond_intro (fun hk5 => ?_) (fun hk5 => ?_)
 ·rw [if_pos (by simpa using hk5)]
  exact c_t (decide_eq_true hs) rfl
 ·rw [if_neg (by simpa using hk5)]
def s116a (t : Ty) : Bool × Value := (decide (t.k ≠ 5 ∧ 0 ≤ t.q ∧ t.q ≤ t.p ∧ t.p ≤ 1000000), I (bwT t))
theorem fn116 : Fn1 Tryz.prog 116 Tryz.f116 := ⟨Tryz.func116, by kernel_rfl, by kernel_rfl, by kernel_rfl⟩
theorem v116a (t : Ty) (R : Value → Prop) : bodyQ Tryz.prog N0 noL Tryz.f116 [Enc.enc t] (fun _ => none) 0 (fun v _ _ => R v) = ( bif Ty.k t == 1 then R (I (IntKind.wrap .i64 (Int.tdiv (IntKind.wrap .i64 (IntKind.wrap .i64 (332 * IntKind.wrap .i64 (Ty.p t - Ty.q t)) + 99)) 100))) else bif Ty.k t == 5 then bif decide (ByteArray.size (Ty.s t) ≤ 9223372036854775807) then bif pN (bz (Ty.s t)) then bif decide (ByteArray.size (Ty.s t) ≤ 9223372036854775807) then False else False else False else False else R (I (Ty.p t))) := by kernel_rfl
theorem ok116a : PureOK Tryz.prog 116 (sp1 s116a) := by
 refine qure1 ok_N0 hmix fn116 lokf_none (Nat.le_of_ble_eq_true (by kernel_rfl)) fun t hc => ?_
 rw [DoesQ, v116a]
 have hc : (t.k ≠ 5 ∧ 0 ≤ t.q ∧ t.q ≤ t.p ∧ t.p ≤ 1000000) := of_decide_eq_true hc
 try dsimp only [s116a]
 obtain ⟨h5, h1, h2, h3⟩ := hc
 unfold bwT bitW0 numT
 refine cond_intro (fun hk => ?_) (fun hk => ?_)
 ·have hk : t.k = 1 := by simpa using hk
  rw [if_pos (.inl hk), if_neg (by omega), w64 (n := t.p - t.q) (by omega), w64 (n := 332 * (t.p - t.q)) (by omega), w64 (n := 332 * (t.p - t.q) + 99) (by omega), Int.tdiv_eq_ediv_of_nonneg (by omega), w64 (by omega)]
 have hk : t.k ≠ 1 := by simpa using hk
 refine c_f (by simpa using h5) ?_
 by_cases hk2 : t.k = 2
 ·rw [if_pos (.inr hk2), if_pos hk2]
 ·simp [hk, hk2, h5]
def N1 : Env := (((Env.nil.add 180 (sp1 Px.s49)).add 111 (sp1 Px.s47)).add 114 (sp1 s114)).add 116 (sp1 s116a)
theorem ok_N1 : EnvOK Tryz.prog N1 := env_add (env_add (env_add (env_add env_nil Px.ok49) Px.ok47) ok114) ok116a
def s116 (t : Ty) : Bool × Value := (decide (sz63 t ∧ scal t = 0), I (bwT t))
theorem v116 (t : Ty) (R : Value → Prop) : bodyQ Tryz.prog N1 noL Tryz.f116 [Enc.enc t] (fun _ => none) 0 (fun v _ _ => R v) = ( bif Ty.k t == 1 then R (I (IntKind.wrap .i64 (Int.tdiv (IntKind.wrap .i64 (IntKind.wrap .i64 (332 * IntKind.wrap .i64 (Ty.p t - Ty.q t)) + 99)) 100))) else bif Ty.k t == 5 then bif decide (ByteArray.size (Ty.s t) ≤ 9223372036854775807) then bif pN (bz (Ty.s t)) then bif decide (ByteArray.size (Ty.s t) ≤ 9223372036854775807) then bif decide (tyK (bz (Ty.s t)) ≠ 5 ∧ 0 ≤ pQ (bz (Ty.s t)) ∧ pQ (bz (Ty.s t)) ≤ tyP (bz (Ty.s t)) ∧ tyP (bz (Ty.s t)) ≤ 1000000) then R (I (bwT (Ty.mk (tyK (bz (Ty.s t))) (tyP (bz (Ty.s t))) (pQ (bz (Ty.s t))) false (ByteArray.mk #[])))) else False else False else bif decide (sz63 t ∧ 0 ≤ Ty.p t ∧ Ty.p t ≤ 1000000) then R (I (chaW t)) else False else False else R (I (Ty.p t))) := by kernel_rfl
theorem ok116 : PureOK Tryz.prog 116 (sp1 s116) := by
 refine qure1 ok_N1 hmix fn116 lokf_none (Nat.le_of_ble_eq_true (by kernel_rfl)) fun t hc => ?_
 rw [DoesQ, v116]
 have hc : (sz63 t ∧ scal t = 0) := of_decide_eq_true hc
 try dsimp only [s116]
 obtain ⟨hs', h0⟩ := hc
 have hs : t.s.size ≤ 9223372036854775807 := hs'
 have hp := p_rng h0
 rcases kinds h0 with ⟨hk, hv⟩ | ⟨hk, hv⟩ | ⟨hk, nv, r1, r2⟩ | ⟨hk, nv, r1, r2⟩ | ⟨hk, nv, hp5⟩
 ·have hr := Fx.valid_r hv
  refine c_t (by simp [hk]) ?_
  unfold bwT bitW0
  rw [if_pos (.inl hk), if_neg (by omega), w64 (n := t.p - t.q) (by omega), w64 (n := 332 * (t.p - t.q)) (by omega), w64 (n := 332 * (t.p - t.q) + 99) (by omega), Int.tdiv_eq_ediv_of_nonneg (by omega), w64 (by omega)]
 ·refine c_f (by simp [hk]) (c_f (by simp [hk]) ?_)
  unfold bwT bitW0
  rw [if_pos (.inr hk), if_pos hk]
 ·refine c_f (by simp [hk]) (c_f (by simp [hk]) ?_)
  unfold bwT numT
  simp [hk]
 ·refine c_f (by simp [hk]) (c_f (by simp [hk]) ?_)
  unfold bwT numT
  simp [hk]
 ·refine c_f (by simp [hk]) (c_t (by simp [hk]) (c_t (decide_eq_true hs) (cond_intro (fun hn => ?_) (fun hn => ?_))))
  ·obtain ⟨e1, e2⟩ := ty_num hn
   have hd := pD_rng hn
   refine c_t (decide_eq_true hs) (c_t (decide_eq_true (by omega)) ?_)
   have e3 : bwT ⟨tyK (bz t.s), tyP (bz t.s), pQ (bz t.s), false, ⟨#[]⟩⟩ = bitW0 (piT t) := by
    unfold bwT
    rw [if_pos (.inl e1)]
    rfl
   have e4 : bwT t = bitW0 (piT t) := by unfold bwT numT; simp [hk, hn]
   rw [e3, e4]
  ·refine c_t (decide_eq_true ⟨hs', by omega, by omega⟩) ?_
   unfold bwT numT chaW
   simp [hk, hn]
def N2 : Env := (((((Env.nil.add 142 (sp1 s142)).add 111 (sp1 Px.s47)).add 109 (sp1 s109)).add 110 (sp1 s110)).add 114 (sp1 s114)).add 116 (sp1 s116)
theorem ok_N2 : EnvOK Tryz.prog N2 := env_add (env_add (env_add (env_add (env_add (env_add env_nil ok142) Px.ok47) ok109) ok110) ok114) ok116
def s39 (t : Ty) : Bool × Value := (decide (sz63 t), .tuple ⟨[Fx.tv (ariT t), I (scal t)]⟩)
theorem fn39 : Fn1 Tryz.prog 39 Tryz.f39 := ⟨Tryz.func39, by kernel_rfl, by kernel_rfl, by kernel_rfl⟩
theorem v39 (t : Ty) (R : Value → Prop) : bodyQ Tryz.prog N2 noL Tryz.f39 [Enc.enc t] (fun _ => none) 0 (fun v _ _ => R v) = ( bif decide (sz63 t) then bif scal t != 0 then R (.tuple (.mk [.agg (.mk [I 0, I 0, I 0, B false, S (ByteArray.mk #[])]), I (scal t)])) else bif decide (sz63 t) then bif numT t then bif decide (ByteArray.size (Ty.s t) ≤ 9223372036854775807) then R (.tuple (.mk [.agg (.mk [I (tyK (bz (Ty.s t))), I (tyP (bz (Ty.s t))), I (pQ (bz (Ty.s t))), B false, S (ByteArray.mk #[])]), I (pE (bz (Ty.s t)))])) else False else bif Ty.k t == 1 then R (.tuple (.mk [.agg (.mk [I (Ty.k t), I (Ty.p t), I (Ty.q t), B (Ty.v t), S (Ty.s t)]), I 0])) else bif Ty.k t == 2 then R (.tuple (.mk [.agg (.mk [I (Ty.k t), I (Ty.p t), I (Ty.q t), B (Ty.v t), S (Ty.s t)]), I 0])) else bif Ty.k t == 4 then R (.tuple (.mk [.agg (.mk [I 2, I 31, I 0, B false, S (ByteArray.mk #[])]), I 0])) else R (.tuple (.mk [.agg (.mk [I 1, I 9, I 0, B false, S (ByteArray.mk #[])]), I 0])) else False else False) := by kernel_rfl
theorem ok39 : PureOK Tryz.prog 39 (sp1 s39) := by
 refine qure1 ok_N2 hmix fn39 lokf_none (Nat.le_of_ble_eq_true (by kernel_rfl)) fun t hc => ?_
 rw [DoesQ, v39]
 have hc : (sz63 t) := of_decide_eq_true hc
 try dsimp only [s39]
 have hs : t.s.size ≤ 9223372036854775807 := hc
 refine c_t (decide_eq_true hc) (cond_intro (fun h => ?_) (fun h => ?_))
 ·have h : scal t ≠ 0 := by simpa using h
  rw [show ariT t = T0 from if_pos h]
  rfl
 have h : scal t = 0 := by simpa using h
 rcases kinds h with ⟨hk, hv⟩ | ⟨hk, hv⟩ | ⟨hk, nv, r1, r2⟩ | ⟨hk, nv, r1, r2⟩ | ⟨hk, nv, hp⟩
 ·have e : ariT t = t := by unfold ariT numT; simp [h, hv]
  rw [e, h]
  exact c_t (decide_eq_true hc) (c_f (by unfold numT; simp [hk]) (c_t (by simp [hk]) rfl))
 ·have e : ariT t = t := by unfold ariT numT; simp [h, hv]
  rw [e, h]
  exact c_t (decide_eq_true hc) (c_f (by unfold numT; simp [hk]) (c_f (by simp [hk]) (c_t (by simp [hk]) rfl)))
 ·have e : ariT t = ⟨1, 9, 0, false, ⟨#[]⟩⟩ := by unfold ariT numT; simp [h, nv, hk]
  rw [e, h]
  exact c_t (decide_eq_true hc) (c_f (by unfold numT; simp [hk]) (c_f (by simp [hk]) (c_f (by simp [hk]) (c_f (by simp [hk]) rfl))))
 ·have e : ariT t = ⟨2, 31, 0, false, ⟨#[]⟩⟩ := by unfold ariT numT; simp [h, nv, hk]
  rw [e, h]
  exact c_t (decide_eq_true hc) (c_f (by unfold numT; simp [hk]) (c_f (by simp [hk]) (c_f (by simp [hk]) (c_t (by simp [hk]) rfl))))
 ·refine c_t (decide_eq_true hc) (cond_intro (fun hn => ?_) (fun hn => ?_))
  ·have e : ariT t = piT t := by unfold ariT; simp [h, nv, hn]
   rw [e, h, pE_ok hp]
   exact c_t (decide_eq_true hs) rfl
  ·have e : ariT t = ⟨1, 9, 0, false, ⟨#[]⟩⟩ := by unfold ariT; simp [h, nv, hk, hn]
   rw [e, h]
   exact c_f (by simp [hk]) (c_f (by simp [hk]) (c_f (by simp [hk]) rfl))
def s41 (t : Ty) : Bool × Value := (decide (sz63 t), .tuple ⟨[Fx.tv (chaT t), I (scal t)]⟩)
theorem fn41 : Fn1 Tryz.prog 41 Tryz.f41 := ⟨Tryz.func41, by kernel_rfl, by kernel_rfl, by kernel_rfl⟩
theorem v41 (t : Ty) (R : Value → Prop) : bodyQ Tryz.prog N2 noL Tryz.f41 [Enc.enc t] (fun _ => none) 0 (fun v _ _ => R v) = ( bif decide (sz63 t) then bif scal t != 0 then R (.tuple (.mk [.agg (.mk [I 0, I 0, I 0, B false, S (ByteArray.mk #[])]), I (scal t)])) else bif Ty.k t == 3 then R (.tuple (.mk [.agg (.mk [I (Ty.k t), I (Ty.p t), I (Ty.q t), B (Ty.v t), S (Ty.s t)]), I 0])) else bif decide (sz63 t ∧ 0 ≤ Ty.p t ∧ Ty.p t ≤ 1000000) then R (.tuple (.mk [.agg (.mk [I 3, I (chaW t), I 0, B false, S (ByteArray.mk #[])]), I 0])) else False else False) := by kernel_rfl
theorem ok41 : PureOK Tryz.prog 41 (sp1 s41) := by
 refine qure1 ok_N2 hmix fn41 lokf_none (Nat.le_of_ble_eq_true (by kernel_rfl)) fun t hc => ?_
 rw [DoesQ, v41]
 have hc : (sz63 t) := of_decide_eq_true hc
 try dsimp only [s41]
 have hs : t.s.size ≤ 9223372036854775807 := hc
 refine c_t (decide_eq_true hc) (cond_intro (fun h => ?_) (fun h => ?_))
 ·have h : scal t ≠ 0 := by simpa using h
  rw [show chaT t = T0 from if_pos h]
  rfl
 have h : scal t = 0 := by simpa using h
 refine cond_intro (fun hk => ?_) (fun hk => ?_)
 ·have hk : t.k = 3 := by simpa using hk
  have e : chaT t = t := by unfold chaT; simp [h, hk]
  rw [e, h]
 ·have hk : t.k ≠ 3 := by simpa using hk
  have e : chaT t = ⟨3, chaW t, 0, false, ⟨#[]⟩⟩ := by unfold chaT; simp [h, hk]
  rw [e, h]
  refine c_t (decide_eq_true ⟨hc, ?_⟩) rfl
  exact p_rng h
def s43 (t : Ty) : Bool × Value := (decide (sz63 t), .tuple ⟨[Fx.tv (bitT t), I (scal t)]⟩)
theorem fn43 : Fn1 Tryz.prog 43 Tryz.f43 := ⟨Tryz.func43, by kernel_rfl, by kernel_rfl, by kernel_rfl⟩
theorem v43 (t : Ty) (R : Value → Prop) : bodyQ Tryz.prog N2 noL Tryz.f43 [Enc.enc t] (fun _ => none) 0 (fun v _ _ => R v) = ( bif decide (sz63 t) then bif scal t != 0 then R (.tuple (.mk [.agg (.mk [I 0, I 0, I 0, B false, S (ByteArray.mk #[])]), I (scal t)])) else bif decide (sz63 t ∧ scal t = 0) then R (.tuple (.mk [.agg (.mk [I 4, I (imin 64 (bwT t)), I 0, B false, S (ByteArray.mk #[])]), I 0])) else False else False) := by kernel_rfl
theorem ok43 : PureOK Tryz.prog 43 (sp1 s43) := by
 refine qure1 ok_N2 hmix fn43 lokf_none (Nat.le_of_ble_eq_true (by kernel_rfl)) fun t hc => ?_
 rw [DoesQ, v43]
 have hc : (sz63 t) := of_decide_eq_true hc
 try dsimp only [s43]
 have hs : t.s.size ≤ 9223372036854775807 := hc
 refine c_t (decide_eq_true hc) (cond_intro (fun h => ?_) (fun h => ?_))
 ·have h : scal t ≠ 0 := by simpa using h
  rw [show bitT t = T0 from if_pos h]
  rfl
 have h : scal t = 0 := by simpa using h
 have e : bitT t = ⟨4, imin 64 (bwT t), 0, false, ⟨#[]⟩⟩ := by
  unfold bitT imin
  simp [h]
  split <;> omega
 rw [e]
 refine c_t (decide_eq_true ⟨hc, h⟩) ?_
 rw [h]
def s183 (t : Ty) : Bool × Value := (true, .tuple ⟨[Fx.tv (Fx.binT t), I (check t)]⟩)
theorem fn183 : Fn1 Tryz.prog 183 Tryz.f183 := ⟨Tryz.func183, by kernel_rfl, by kernel_rfl, by kernel_rfl⟩
theorem v183 (t : Ty) (R : Value → Prop) : bodyQ Tryz.prog N2 noL Tryz.f183 [Enc.enc t] (fun _ => none) 0 (fun v _ _ => R v) = ( bif check t != 0 then R (.tuple (.mk [.agg (.mk [I 0, I 0, I 0, B false, S (ByteArray.mk #[])]), I (check t)])) else bif Ty.k t == 2 then R (.tuple (.mk [.agg (.mk [I (Ty.k t), I (Ty.p t), I (Ty.q t), B (Ty.v t), S (Ty.s t)]), I 0])) else R (.tuple (.mk [.agg (.mk [I 2, I (IntKind.wrap .i64 (1 + IntKind.wrap .i64 (Int.tdiv (IntKind.wrap .i64 (IntKind.wrap .i64 (Ty.p t * 332) + 99)) 100))), I 0, B false, S (ByteArray.mk #[])]), I 0]))) := by kernel_rfl
theorem ok183 : PureOK Tryz.prog 183 (sp1 s183) := by
 refine qure1 ok_N2 hmix fn183 lokf_none (Nat.le_of_ble_eq_true (by kernel_rfl)) fun t hc => ?_
 rw [DoesQ, v183]
 try dsimp only [s183]
 unfold Fx.check Fx.binT
 by_cases hv : Valid t
 ·rw [if_pos hv, if_pos hv]
  refine c_f (by simp) (cond_intro (fun hk => ?_) (fun hk => ?_))
  ·rw [if_pos (by simpa using hk)]
  ·have hr := Fx.valid_r hv
   rw [if_neg (by simpa using hk), w64 (n := t.p * 332) (by omega), w64 (n := t.p * 332 + 99) (by omega), Int.tdiv_eq_ediv_of_nonneg (by omega), w64 (n := (t.p * 332 + 99) / 100) (by omega), w64 (by omega)]
   rfl
 ·rw [if_neg hv, if_neg hv]
  exact c_t (by simp) rfl
def s118 (op : Int) : Bool × Value := (true, I (cntO op))
theorem fn118 : Fn1 Tryz.prog 118 Tryz.f118 := ⟨Tryz.func118, by kernel_rfl, by kernel_rfl, by kernel_rfl⟩
theorem v118 (op : Int) (R : Value → Prop) : bodyQ Tryz.prog N2 noL Tryz.f118 [Enc.enc op] (fun _ => none) 0 (fun v _ _ => R v) = ( bif op == 5 then R (I 1) else bif op == 11 then R (I 1) else bif op == 17 then R (I 1) else bif op == 6 then R (I 2) else bif op == 7 then R (I 2) else bif op == 8 then R (I 2) else bif op == 9 then R (I 2) else bif op == 10 then R (I 2) else bif op == 12 then R (I 2) else bif op == 13 then R (I 2) else bif op == 14 then R (I 2) else bif op == 15 then R (I 2) else bif op == 16 then R (I 2) else bif op == 18 then R (I 2) else R (I 0)) := by kernel_rfl
theorem ok118 : PureOK Tryz.prog 118 (sp1 s118) := by
 refine qure1 ok_N2 hmix fn118 lokf_none (Nat.le_of_ble_eq_true (by kernel_rfl)) fun op hc => ?_
 rw [DoesQ, v118]
 try dsimp only [s118]
 unfold cntO
 repeat' refine cond_intro (fun h => ?_) (fun h => ?_)
 all_goals grind
end Go.Cx
end
noncomputable section
set_option maxHeartbeats 3200000
namespace Go.Cx
open Go Go.Ab Go.Proofs Go.Shelf Go.Px Go.Cv
open Go.Fx (Ty Vl check Valid most base pw bnd Fit fits tv vv tup V0 T0 pw_zero pw_succ wrap_mul pw_w64 str0)
instance tabsU : Tabs := Cs.tabsC
def hidY (gg : Ty → Ty) (e : Ty → Int) : List Value → Lk → Nat → (Value → Lk → Nat → Prop) → Prop := fun args m n K => match args with
 | [.agg ⟨[.int .i64 k, .int .i64 p, .int .i64 q, .bool w, .string s]⟩] => match cnd (decide (sz63 ⟨k, p, q, w, s⟩)) with
  | true => ∀ u : Ty, gg ⟨k, p, q, w, s⟩ = u → K (.tuple ⟨[.agg ⟨[.int .i64 u.k, .int .i64 u.p, .int .i64 u.q, .bool u.v, .string u.s]⟩, .int .i64 (e ⟨k, p, q, w, s⟩)]⟩) m n
  | false => False
 | _ => False
theorem gen_hidY {f : FuncId} {gg : Ty → Ty} {e : Ty → Int} {c : Ty → Bool} (h : PureOK Tryz.prog f (sp1 fun t => (c t, .tuple ⟨[Fx.tv (gg t), I (e t)]⟩))) (hc : ∀ t, sz63 t → c t = true) : GenOK Tryz.prog f (hidY gg e) := by
 obtain ⟨h0, hp⟩ := h
 refine ⟨h0, fun args m n K hh N w0 ι w hrel hwf hargs => ?_⟩
 unfold hidY at hh
 split at hh
 case h_2 => exact hh.elim
 rename_i k p q w' s
 split at hh
 case h_2 => exact hh.elim
 rename_i hcc
 have hcc : sz63 ⟨k, p, q, w', s⟩ := of_decide_eq_true hcc
 have hs : (sp1 fun t : Ty => (c t, Value.tuple ⟨[Fx.tv (gg t), I (e t)]⟩)) [.agg ⟨[.int .i64 k, .int .i64 p, .int .i64 q, .bool w', .string s]⟩] ([.agg ⟨[.int .i64 k, .int .i64 p, .int .i64 q, .bool w', .string s]⟩].map (blkOf m)) = some (true, .tuple ⟨[Fx.tv (gg ⟨k, p, q, w', s⟩), I (e ⟨k, p, q, w', s⟩)]⟩) := by
  show some (c ⟨k, p, q, w', s⟩, _) = _
  rw [hc _ hcc]
 refine (hp _ _ N w0 m ι w hrel hs rfl).mono fun e' w'' ⟨h1, h2⟩ => ?_
 exact ⟨_, m, n, ι, by rw [h1]; rfl, hh _ rfl, Nat.le_refl _, fun _ _ => rfl, hrel.grow h2, hwf, by simp [ids, idsL]⟩
def lookT (m : Lk) : Value → List (Option Blk)
 | .tuple ⟨[.slice (some a) _ _, _]⟩ => [m a.block]
 | _ => []
def vwT (c : List Value) : Lk := fun k => match Nat.beq k 1 with | true => some ⟨c, 23, false⟩ | false => none
def E44 : Env := ((((((Env.nil.add 20 (sp1 s20f)).add 85 (sp1 s85)).add 59 (sp1 Px.s31)).addG 38 (hidY ariT scal)).addG 40 (hidY chaT scal)).addG 42 (hidY bitT scal)).addG 117 (hidY Fx.binT check)
theorem ok_E44 : EnvOK Tryz.prog E44 := env_addG (env_addG (env_addG (env_addG (env_add (env_add (env_add env_nil (Cs.pureC ok20f)) (Cs.pureC ok85)) (Cs.pureC Px.ok31)) (gen_hidY (Cs.pureC ok38) fun t h => decide_eq_true h)) (gen_hidY (Cs.pureC ok40) fun t h => decide_eq_true h)) (gen_hidY (Cs.pureC ok42f) fun t h => decide_eq_true h)) (gen_hidY (Cs.pureC ok117) fun _ _ => rfl)
def E45 : Env := Env.nil.addG 41 (hidY chaT scal)
theorem ok_E45 : EnvOK Tryz.prog E45 := env_addG env_nil (gen_hidY (Cs.pureC ok41) fun t h => decide_eq_true h)
theorem fn44 : Fn1 Tryz.prog 44 Tryz.f44 := ⟨Tryz.func44, by kernel_rfl, by kernel_rfl, by kernel_rfl⟩
theorem fn45 : Fn1 Tryz.prog 45 Tryz.f45 := ⟨Tryz.func45, by kernel_rfl, by kernel_rfl, by kernel_rfl⟩
theorem fn119 : Fn1 Tryz.prog 119 Tryz.f119 := ⟨Tryz.func119, by kernel_rfl, by kernel_rfl, by kernel_rfl⟩
theorem fn120 : Fn1 Tryz.prog 120 Tryz.f120 := ⟨Tryz.func120, by kernel_rfl, by kernel_rfl, by kernel_rfl⟩
noncomputable def E45_119 : Env := (Env.nil.addG 39 (hidY ariT scal)).addG 183 (hidY Fx.binT check)
theorem ok_E45_119 : EnvOK Tryz.prog E45_119 := env_addG (env_addG env_nil (gen_hidY (Cs.pureC ok39) fun t h => decide_eq_true h)) (gen_hidY (Cs.pureC ok183) fun _ _ => rfl)
noncomputable def E45_120 : Env := (((((((Env.nil.add 21 (sp1 s21)).add 68 (sp1 s68)).add 110 (sp1 s110)).addG 39 (hidY ariT scal)).addG 43 (hidY bitT scal)).add 118 (sp1 s118)).addG 119 (inlQ Tryz.prog E45 noL Tryz.f119)).addG 120 (inlQ Tryz.prog E45_119 noL Tryz.f120)
theorem ok_E45_120 : EnvOK Tryz.prog E45_120 := env_addG (env_addG (env_add (env_addG (env_addG (env_add (env_add (env_add env_nil (Cs.pureC ok21)) (Cs.pureC ok68)) (Cs.pureC ok110)) (gen_hidY (Cs.pureC ok39) fun t h => decide_eq_true h)) (gen_hidY (Cs.pureC ok43) fun t h => decide_eq_true h)) (Cs.pureC ok118)) (gen_inlQ ok_E45 hmix fn119 lokf_none)) (gen_inlQ ok_E45_119 hmix fn120 lokf_none)
def t44 (u u_1 : Ty) (k : Nat) (R : Value → List (Option Blk) → Prop) : Prop :=
 ∀ (cap : Nat) (tail : List Value), tailOK tail cap (1 + 1) 5 = true → bif bif (bif Ty.k u_1 == 2 then IntKind.wrap IntKind.i64 ((bif Ty.k u == 2 then (1 : Int) else 0) + 1) else bif Ty.k u == 2 then (1 : Int) else 0) == 1 then decide (Valid u) || true else true then bif (bif Ty.k u_1 == 2 then IntKind.wrap IntKind.i64 ((bif Ty.k u == 2 then (1 : Int) else 0) + 1) else bif Ty.k u == 2 then (1 : Int) else 0) == 1 && (decide (Valid u) && Ty.k u == 1) then bif decide (sz63 u) then ∀ (u_2 : Ty), Fx.binT (Ty.mk (Ty.k u) (Ty.p u) (Ty.q u) (Ty.v u) (Ty.s u)) = u_2 → bif bif (bif Ty.k u_1 == 2 then IntKind.wrap IntKind.i64 ((bif Ty.k u == 2 then (1 : Int) else 0) + 1) else bif Ty.k u == 2 then (1 : Int) else 0) == 1 then decide (Valid u_1) || true else true then bif (bif Ty.k u_1 == 2 then IntKind.wrap IntKind.i64 ((bif Ty.k u == 2 then (1 : Int) else 0) + 1) else bif Ty.k u == 2 then (1 : Int) else 0) == 1 && (decide (Valid u_1) && Ty.k u_1 == 1) then bif decide (sz63 u_1) then ∀ (u : Ty), Fx.binT (Ty.mk (Ty.k u_1) (Ty.p u_1) (Ty.q u_1) (Ty.v u_1) (Ty.s u_1)) = u → R (Value.tuple (Array.mk [Value.slice (some (Addr.mk k 0 (some 1))) 2 cap, Value.int IntKind.i64 0])) [some (Blk.mk (Value.int IntKind.i64 (Ty.k u_2) :: Value.int IntKind.i64 (Ty.p u_2) :: Value.int IntKind.i64 (Ty.q u_2) :: Value.bool (Ty.v u_2) :: Value.string (Ty.s u_2) :: Value.int IntKind.i64 (Ty.k u) :: Value.int IntKind.i64 (Ty.p u) :: Value.int IntKind.i64 (Ty.q u) :: Value.bool (Ty.v u) :: Value.string (Ty.s u) :: tail) 23 true)] else False else R (Value.tuple (Array.mk [Value.slice (some (Addr.mk k 0 (some 1))) 2 cap, Value.int IntKind.i64 0])) [some (Blk.mk (Value.int IntKind.i64 (Ty.k u_2) :: Value.int IntKind.i64 (Ty.p u_2) :: Value.int IntKind.i64 (Ty.q u_2) :: Value.bool (Ty.v u_2) :: Value.string (Ty.s u_2) :: Value.int IntKind.i64 (Ty.k u_1) :: Value.int IntKind.i64 (Ty.p u_1) :: Value.int IntKind.i64 (Ty.q u_1) :: Value.bool (Ty.v u_1) :: Value.string (Ty.s u_1) :: tail) 23 true)] else False else False else bif bif (bif Ty.k u_1 == 2 then IntKind.wrap IntKind.i64 ((bif Ty.k u == 2 then (1 : Int) else 0) + 1) else bif Ty.k u == 2 then (1 : Int) else 0) == 1 then decide (Valid u_1) || true else true then bif (bif Ty.k u_1 == 2 then IntKind.wrap IntKind.i64 ((bif Ty.k u == 2 then (1 : Int) else 0) + 1) else bif Ty.k u == 2 then (1 : Int) else 0) == 1 && (decide (Valid u_1) && Ty.k u_1 == 1) then bif decide (sz63 u_1) then ∀ (u_2 : Ty), Fx.binT (Ty.mk (Ty.k u_1) (Ty.p u_1) (Ty.q u_1) (Ty.v u_1) (Ty.s u_1)) = u_2 → R (Value.tuple (Array.mk [Value.slice (some (Addr.mk k 0 (some 1))) 2 cap, Value.int IntKind.i64 0])) [some (Blk.mk (Value.int IntKind.i64 (Ty.k u) :: Value.int IntKind.i64 (Ty.p u) :: Value.int IntKind.i64 (Ty.q u) :: Value.bool (Ty.v u) :: Value.string (Ty.s u) :: Value.int IntKind.i64 (Ty.k u_2) :: Value.int IntKind.i64 (Ty.p u_2) :: Value.int IntKind.i64 (Ty.q u_2) :: Value.bool (Ty.v u_2) :: Value.string (Ty.s u_2) :: tail) 23 true)] else False else R (Value.tuple (Array.mk [Value.slice (some (Addr.mk k 0 (some 1))) 2 cap, Value.int IntKind.i64 0])) [some (Blk.mk (Value.int IntKind.i64 (Ty.k u) :: Value.int IntKind.i64 (Ty.p u) :: Value.int IntKind.i64 (Ty.q u) :: Value.bool (Ty.v u) :: Value.string (Ty.s u) :: Value.int IntKind.i64 (Ty.k u_1) :: Value.int IntKind.i64 (Ty.p u_1) :: Value.int IntKind.i64 (Ty.q u_1) :: Value.bool (Ty.v u_1) :: Value.string (Ty.s u_1) :: tail) 23 true)] else False else False
theorem x44_6 {op : Int} (ho : op = 6 ∨ op = 7 ∨ op = 8 ∨ op = 9 ∨ op = 10 ∨ op = 12 ∨ op = 13) (a : Ty) (b : Ty) (rest : List Value) (cap : Nat) (R : Value → List (Option Blk) → Prop) : (bodyQ Tryz.prog E44 (jV [6, 7, 8, 9, 13, 15]) Tryz.f44 [I op, .slice (some ⟨1, 0, some 1⟩) 2 cap] (vwT ([I a.k, I a.p, I a.q, B a.v, S a.s, I b.k, I b.p, I b.q, B b.v, S b.s] ++ rest)) 2 (fun v m' _ => R v (lookT m' v))) = (
  bif decide (sz63 a) then bif chk4 a != 0 then R (Value.tuple (Array.mk [Value.slice none 0 0, Value.int IntKind.i64 (chk4 (Ty.mk (Ty.k a) (Ty.p a) (Ty.q a) (Ty.v a) (Ty.s a)))])) [] else bif Ty.k a == 6 || (decide (Valid a) || bif Ty.k a == 5 then decide (ByteArray.size (Ty.s a) ≤ 9223372036854775807) && true else true) && (decide (Valid a) || Ty.k a == 5 && pN (bz (Ty.s a)) || (Ty.k a == 4 || true)) then bif decide (sz63 b) then bif chk4 b != 0 then R (Value.tuple (Array.mk [Value.slice none 0 0, Value.int IntKind.i64 (chk4 (Ty.mk (Ty.k b) (Ty.p b) (Ty.q b) (Ty.v b) (Ty.s b)))])) [] else bif Ty.k b == 6 || (decide (Valid b) || bif Ty.k b == 5 then decide (ByteArray.size (Ty.s b) ≤ 9223372036854775807) && true else true) && (decide (Valid b) || Ty.k b == 5 && pN (bz (Ty.s b)) || (Ty.k b == 4 || true)) then bif decide ((bif Ty.k b == 6 then IntKind.wrap IntKind.i64 ((bif Ty.k a == 6 then (1 : Int) else 0) + 1) else bif Ty.k a == 6 then (1 : Int) else 0) > 0) then R (Value.tuple (Array.mk [Value.slice none 0 0, Value.int IntKind.i64 5])) [] else bif decide (sz63 a) then ∀ (u : Ty), ariT (Ty.mk (Ty.k a) (Ty.p a) (Ty.q a) (Ty.v a) (Ty.s a)) = u → bif Ty.k u == 2 || true then ∀ (cap : Nat) (tail : List Value), tailOK tail cap 1 5 = true → bif decide (sz63 b) then ∀ (u_1 : Ty), ariT (Ty.mk (Ty.k b) (Ty.p b) (Ty.q b) (Ty.v b) (Ty.s b)) = u_1 → bif Ty.k u_1 == 2 || true then bif Nat.beq (List.length (Value.int IntKind.i64 (Ty.k u) :: Value.int IntKind.i64 (Ty.p u) :: Value.int IntKind.i64 (Ty.q u) :: Value.bool (Ty.v u) :: Value.string (Ty.s u) :: tail)) (cap * 5) && Nat.ble 1 cap && Nat.ble cap 9223372036854775807 && true && true then t44 u u_1 211 R else False else False else False else False else False else False else False else False else False) := by
 rcases ho with rfl | rfl | rfl | rfl | rfl | rfl | rfl <;> kernel_rfl
theorem x45_6 {op : Int} (ho : op = 6 ∨ op = 7 ∨ op = 8 ∨ op = 9 ∨ op = 10 ∨ op = 12 ∨ op = 13) (a : Ty) (b : Ty) (rest : List Value) (cap : Nat) (R : Value → List (Option Blk) → Prop) : (bodyQ Tryz.prog E45_120 (jV [6]) Tryz.f45 [I op, .slice (some ⟨1, 0, some 1⟩) 2 cap] (vwT ([I a.k, I a.p, I a.q, B a.v, S a.s, I b.k, I b.p, I b.q, B b.v, S b.s] ++ rest)) 2 (fun v m' _ => R v (lookT m' v))) = (
  bif decide (ByteArray.size (Ty.s a) ≤ 9223372036854775807) then
   bif chk4 a != 0 then R (Value.tuple (Array.mk [Value.slice none 0 0, Value.int IntKind.i64 (chk4 (Ty.mk (Ty.k a) (Ty.p a) (Ty.q a) (Ty.v a) (Ty.s a)))])) []
   else
    bif Ty.k a == 6 || true then
     bif decide (ByteArray.size (Ty.s b) ≤ 9223372036854775807) then
      bif chk4 b != 0 then R (Value.tuple (Array.mk [Value.slice none 0 0, Value.int IntKind.i64 (chk4 (Ty.mk (Ty.k b) (Ty.p b) (Ty.q b) (Ty.v b) (Ty.s b)))])) []
      else
       bif Ty.k b == 6 || true then
        bif decide ((bif Ty.k b == 6 then IntKind.wrap IntKind.i64 ((bif Ty.k a == 6 then (1 : Int) else 0) + 1) else bif Ty.k a == 6 then (1 : Int) else 0) > 0) then
         R (Value.tuple (Array.mk [Value.slice none 0 0, Value.int IntKind.i64 5])) []
        else
         bif decide (sz63 a) then
          ∀ (u : Ty),
           ariT (Ty.mk (Ty.k a) (Ty.p a) (Ty.q a) (Ty.v a) (Ty.s a)) = u →
            bif decide (sz63 b) then
             ∀ (u_1 : Ty),
              ariT (Ty.mk (Ty.k b) (Ty.p b) (Ty.q b) (Ty.v b) (Ty.s b)) = u_1 →
               bif Ty.k u == Ty.k u_1 then
                R (Value.tuple (Array.mk [Value.slice (some (Addr.mk 118 0 (some 1))) 2 2, Value.int IntKind.i64 0]))
                 [some
                   (Blk.mk
                    [Value.int IntKind.i64 (Ty.k u), Value.int IntKind.i64 (Ty.p u), Value.int IntKind.i64 (Ty.q u), Value.bool (Ty.v u), Value.string (Ty.s u),
                     Value.int IntKind.i64 (Ty.k u_1), Value.int IntKind.i64 (Ty.p u_1), Value.int IntKind.i64 (Ty.q u_1), Value.bool (Ty.v u_1),
                     Value.string (Ty.s u_1)]
                    23 true)]
               else
                bif decide (sz63 u) then
                 ∀ (u_2 : Ty),
                  Fx.binT u = u_2 →
                   bif decide (sz63 u_1) then
                    ∀ (u : Ty),
                     Fx.binT u_1 = u →
                      R (Value.tuple (Array.mk [Value.slice (some (Addr.mk 130 0 (some 1))) 2 2, Value.int IntKind.i64 0]))
                       [some
                         (Blk.mk
                          [Value.int IntKind.i64 (Ty.k u_2), Value.int IntKind.i64 (Ty.p u_2), Value.int IntKind.i64 (Ty.q u_2), Value.bool (Ty.v u_2),
                           Value.string (Ty.s u_2), Value.int IntKind.i64 (Ty.k u), Value.int IntKind.i64 (Ty.p u), Value.int IntKind.i64 (Ty.q u),
                           Value.bool (Ty.v u), Value.string (Ty.s u)]
                          23 true)]
                   else False
                else False
            else False
         else False
       else False
     else False
    else False
  else False) := by
 rcases ho with rfl | rfl | rfl | rfl | rfl | rfl | rfl <;> kernel_rfl
theorem x44_14 (a : Ty) (b : Ty) (rest : List Value) (cap : Nat) (R : Value → List (Option Blk) → Prop) : (bodyQ Tryz.prog E44 (jV [6, 7, 8, 9, 13, 15]) Tryz.f44 [I 14, .slice (some ⟨1, 0, some 1⟩) 2 cap] (vwT ([I a.k, I a.p, I a.q, B a.v, S a.s, I b.k, I b.p, I b.q, B b.v, S b.s] ++ rest)) 2 (fun v m' _ => R v (lookT m' v))) = ( bif decide (sz63 a) then bif chk4 a != 0 then R (.tuple (.mk [.slice none 0 0, I (chk4 (Ty.mk (Ty.k a) (Ty.p a) (Ty.q a) (Ty.v a) (Ty.s a)))])) [] else bif Ty.k a == 6 || (decide (Valid a) || bif Ty.k a == 5 then decide (ByteArray.size (Ty.s a) ≤ 9223372036854775807) && true else true) && (decide (Valid a) || Ty.k a == 5 && pN (bz (Ty.s a)) || (Ty.k a == 4 || true)) then bif decide (sz63 b) then bif chk4 b != 0 then R (.tuple (.mk [.slice none 0 0, I (chk4 (Ty.mk (Ty.k b) (Ty.p b) (Ty.q b) (Ty.v b) (Ty.s b)))])) [] else bif Ty.k b == 6 || (decide (Valid b) || bif Ty.k b == 5 then decide (ByteArray.size (Ty.s b) ≤ 9223372036854775807) && true else true) && (decide (Valid b) || Ty.k b == 5 && pN (bz (Ty.s b)) || (Ty.k b == 4 || true)) then bif decide ((bif Ty.k b == 6 then IntKind.wrap .i64 ((bif Ty.k a == 6 then (1 : Int) else 0) + 1) else bif Ty.k a == 6 then (1 : Int) else 0) > 0) then R (.tuple (.mk [.slice none 0 0, I 5])) [] else bif (bif Ty.k b == 6 then bif Ty.k a == 6 then 0 else bif decide (Valid a) || Ty.k a == 5 && pN (bz (Ty.s a)) then 0 else bif Ty.k a == 4 then 1 else 0 else bif decide (Valid b) || Ty.k b == 5 && pN (bz (Ty.s b)) then bif Ty.k a == 6 then 0 else bif decide (Valid a) || Ty.k a == 5 && pN (bz (Ty.s a)) then 0 else bif Ty.k a == 4 then 1 else 0 else bif Ty.k b == 4 then IntKind.wrap .i64 ((bif Ty.k a == 6 then 0 else bif decide (Valid a) || Ty.k a == 5 && pN (bz (Ty.s a)) then 0 else bif Ty.k a == 4 then (1 : Int) else 0) + 1) else bif Ty.k a == 6 then 0 else bif decide (Valid a) || Ty.k a == 5 && pN (bz (Ty.s a)) then 0 else bif Ty.k a == 4 then (1 : Int) else 0) == 2 then bif decide (sz63 a) then ∀ (u : Ty), bitT (Ty.mk (Ty.k a) (Ty.p a) (Ty.q a) (Ty.v a) (Ty.s a)) = u → bif Ty.k u == 2 || true then ∀ (cap : Nat) (tail : List Value), tailOK tail cap 1 5 = true → bif decide (sz63 b) then ∀ (u_1 : Ty), bitT (Ty.mk (Ty.k b) (Ty.p b) (Ty.q b) (Ty.v b) (Ty.s b)) = u_1 → bif Ty.k u_1 == 2 || true then bif Nat.beq (List.length (I (Ty.k u) :: I (Ty.p u) :: I (Ty.q u) :: B (Ty.v u) :: S (Ty.s u) :: tail)) (cap * 5) && Nat.ble 1 cap && Nat.ble cap 9223372036854775807 && true && true then t44 u u_1 215 R else False else False else False else False else False else bif decide (sz63 a) then ∀ (u : Ty), chaT (Ty.mk (Ty.k a) (Ty.p a) (Ty.q a) (Ty.v a) (Ty.s a)) = u → bif Ty.k u == 2 || true then ∀ (cap : Nat) (tail : List Value), tailOK tail cap 1 5 = true → bif decide (sz63 b) then ∀ (u_1 : Ty), chaT (Ty.mk (Ty.k b) (Ty.p b) (Ty.q b) (Ty.v b) (Ty.s b)) = u_1 → bif Ty.k u_1 == 2 || true then bif Nat.beq (List.length (I (Ty.k u) :: I (Ty.p u) :: I (Ty.q u) :: B (Ty.v u) :: S (Ty.s u) :: tail)) (cap * 5) && Nat.ble 1 cap && Nat.ble cap 9223372036854775807 && true && true then t44 u u_1 214 R else False else False else False else False else False else False else False else False else False) := by kernel_rfl
theorem x45_14 (a : Ty) (b : Ty) (rest : List Value) (cap : Nat) (R : Value → List (Option Blk) → Prop) : (bodyQ Tryz.prog E45_120 (jV [6]) Tryz.f45 [I 14, .slice (some ⟨1, 0, some 1⟩) 2 cap] (vwT ([I a.k, I a.p, I a.q, B a.v, S a.s, I b.k, I b.p, I b.q, B b.v, S b.s] ++ rest)) 2 (fun v m' _ => R v (lookT m' v))) = ( bif decide (ByteArray.size (Ty.s a) ≤ 9223372036854775807) then bif chk4 a != 0 then R (.tuple (.mk [.slice none 0 0, I (chk4 (Ty.mk (Ty.k a) (Ty.p a) (Ty.q a) (Ty.v a) (Ty.s a)))])) [] else bif Ty.k a == 6 || true then bif decide (ByteArray.size (Ty.s b) ≤ 9223372036854775807) then bif chk4 b != 0 then R (.tuple (.mk [.slice none 0 0, I (chk4 (Ty.mk (Ty.k b) (Ty.p b) (Ty.q b) (Ty.v b) (Ty.s b)))])) [] else bif Ty.k b == 6 || true then bif decide ((bif Ty.k b == 6 then IntKind.wrap .i64 ((bif Ty.k a == 6 then (1 : Int) else 0) + 1) else bif Ty.k a == 6 then (1 : Int) else 0) > 0) then R (.tuple (.mk [.slice none 0 0, I 5])) [] else bif Ty.k a == 4 || true then bif Ty.k a == 4 && Ty.k b == 4 then R (.tuple (.mk [.slice (some (.mk 103 0 (some 1))) 2 2, I 0])) [some (.mk [I (Ty.k a), I (Ty.p a), I (Ty.q a), B (Ty.v a), S (Ty.s a), I (Ty.k b), I (Ty.p b), I (Ty.q b), B (Ty.v b), S (Ty.s b)] 23 true)] else bif decide (sz63 a) then ∀ (u : Ty), chaT (Ty.mk (Ty.k a) (Ty.p a) (Ty.q a) (Ty.v a) (Ty.s a)) = u → bif decide (sz63 b) then ∀ (u_1 : Ty), chaT (Ty.mk (Ty.k b) (Ty.p b) (Ty.q b) (Ty.v b) (Ty.s b)) = u_1 → R (.tuple (.mk [.slice (some (.mk 119 0 (some 1))) 2 2, I 0])) [some (.mk [I (Ty.k u), I (Ty.p u), I (Ty.q u), B (Ty.v u), S (Ty.s u), I (Ty.k u_1), I (Ty.p u_1), I (Ty.q u_1), B (Ty.v u_1), S (Ty.s u_1)] 23 true)] else False else False else False else False else False else False else False) := by kernel_rfl
theorem x44_15 {op : Int} (ho : op = 15 ∨ op = 16) (a : Ty) (b : Ty) (rest : List Value) (cap : Nat) (R : Value → List (Option Blk) → Prop) : (bodyQ Tryz.prog E44 (jV [6, 7, 8, 9, 13, 15]) Tryz.f44 [I op, .slice (some ⟨1, 0, some 1⟩) 2 cap] (vwT ([I a.k, I a.p, I a.q, B a.v, S a.s, I b.k, I b.p, I b.q, B b.v, S b.s] ++ rest)) 2 (fun v m' _ => R v (lookT m' v))) = (
  bif decide (sz63 a) then bif chk4 a != 0 then R (Value.tuple (Array.mk [Value.slice none 0 0, Value.int IntKind.i64 (chk4 (Ty.mk (Ty.k a) (Ty.p a) (Ty.q a) (Ty.v a) (Ty.s a)))])) [] else bif Ty.k a == 6 || (decide (Valid a) || bif Ty.k a == 5 then decide (ByteArray.size (Ty.s a) ≤ 9223372036854775807) && true else true) && (decide (Valid a) || Ty.k a == 5 && pN (bz (Ty.s a)) || (Ty.k a == 4 || true)) then bif decide (sz63 b) then bif chk4 b != 0 then R (Value.tuple (Array.mk [Value.slice none 0 0, Value.int IntKind.i64 (chk4 (Ty.mk (Ty.k b) (Ty.p b) (Ty.q b) (Ty.v b) (Ty.s b)))])) [] else bif Ty.k b == 6 || (decide (Valid b) || bif Ty.k b == 5 then decide (ByteArray.size (Ty.s b) ≤ 9223372036854775807) && true else true) && (decide (Valid b) || Ty.k b == 5 && pN (bz (Ty.s b)) || (Ty.k b == 4 || true)) then bif decide ((bif Ty.k b == 6 then IntKind.wrap IntKind.i64 ((bif Ty.k a == 6 then (1 : Int) else 0) + 1) else bif Ty.k a == 6 then (1 : Int) else 0) > 0) then R (Value.tuple (Array.mk [Value.slice none 0 0, Value.int IntKind.i64 5])) [] else bif decide (sz63 a) then ∀ (u : Ty), bitT (Ty.mk (Ty.k a) (Ty.p a) (Ty.q a) (Ty.v a) (Ty.s a)) = u → bif Ty.k u == 2 || true then ∀ (cap : Nat) (tail : List Value), tailOK tail cap 1 5 = true → bif decide (sz63 b) then ∀ (u_1 : Ty), bitT (Ty.mk (Ty.k b) (Ty.p b) (Ty.q b) (Ty.v b) (Ty.s b)) = u_1 → bif Ty.k u_1 == 2 || true then bif Nat.beq (List.length (Value.int IntKind.i64 (Ty.k u) :: Value.int IntKind.i64 (Ty.p u) :: Value.int IntKind.i64 (Ty.q u) :: Value.bool (Ty.v u) :: Value.string (Ty.s u) :: tail)) (cap * 5) && Nat.ble 1 cap && Nat.ble cap 9223372036854775807 && true && true then t44 u u_1 201 R else False else False else False else False else False else False else False else False else False) := by
 rcases ho with rfl | rfl <;> kernel_rfl
theorem x45_15 {op : Int} (ho : op = 15 ∨ op = 16) (a : Ty) (b : Ty) (rest : List Value) (cap : Nat) (R : Value → List (Option Blk) → Prop) : (bodyQ Tryz.prog E45_120 (jV [6]) Tryz.f45 [I op, .slice (some ⟨1, 0, some 1⟩) 2 cap] (vwT ([I a.k, I a.p, I a.q, B a.v, S a.s, I b.k, I b.p, I b.q, B b.v, S b.s] ++ rest)) 2 (fun v m' _ => R v (lookT m' v))) = (
  bif decide (ByteArray.size (Ty.s a) ≤ 9223372036854775807) then
   bif chk4 a != 0 then R (Value.tuple (Array.mk [Value.slice none 0 0, Value.int IntKind.i64 (chk4 (Ty.mk (Ty.k a) (Ty.p a) (Ty.q a) (Ty.v a) (Ty.s a)))])) []
   else
    bif Ty.k a == 6 || true then
     bif decide (ByteArray.size (Ty.s b) ≤ 9223372036854775807) then
      bif chk4 b != 0 then R (Value.tuple (Array.mk [Value.slice none 0 0, Value.int IntKind.i64 (chk4 (Ty.mk (Ty.k b) (Ty.p b) (Ty.q b) (Ty.v b) (Ty.s b)))])) []
      else
       bif Ty.k b == 6 || true then
        bif decide ((bif Ty.k b == 6 then IntKind.wrap IntKind.i64 ((bif Ty.k a == 6 then (1 : Int) else 0) + 1) else bif Ty.k a == 6 then (1 : Int) else 0) > 0) then
         R (Value.tuple (Array.mk [Value.slice none 0 0, Value.int IntKind.i64 5])) []
        else
         bif decide (sz63 a) then
          ∀ (u : Ty),
           bitT (Ty.mk (Ty.k a) (Ty.p a) (Ty.q a) (Ty.v a) (Ty.s a)) = u →
            bif decide (sz63 b) then
             ∀ (u_1 : Ty),
              bitT (Ty.mk (Ty.k b) (Ty.p b) (Ty.q b) (Ty.v b) (Ty.s b)) = u_1 →
               R (Value.tuple (Array.mk [Value.slice (some (Addr.mk 109 0 (some 1))) 2 2, Value.int IntKind.i64 0]))
                [some
                  (Blk.mk
                   [Value.int IntKind.i64 (Ty.k u), Value.int IntKind.i64 (Ty.p u), Value.int IntKind.i64 (Ty.q u), Value.bool (Ty.v u), Value.string (Ty.s u),
                    Value.int IntKind.i64 (Ty.k u_1), Value.int IntKind.i64 (Ty.p u_1), Value.int IntKind.i64 (Ty.q u_1), Value.bool (Ty.v u_1),
                    Value.string (Ty.s u_1)]
                   23 true)]
            else False
         else False
       else False
     else False
    else False
  else False) := by
 rcases ho with rfl | rfl <;> kernel_rfl
theorem x44_18 (a : Ty) (b : Ty) (rest : List Value) (cap : Nat) (R : Value → List (Option Blk) → Prop) : (bodyQ Tryz.prog E44 (jV [6, 7, 8, 9, 13, 15]) Tryz.f44 [I 18, .slice (some ⟨1, 0, some 1⟩) 2 cap] (vwT ([I a.k, I a.p, I a.q, B a.v, S a.s, I b.k, I b.p, I b.q, B b.v, S b.s] ++ rest)) 2 (fun v m' _ => R v (lookT m' v))) = ( bif decide (sz63 a) then bif chk4 a != 0 then R (.tuple (.mk [.slice none 0 0, I (chk4 (Ty.mk (Ty.k a) (Ty.p a) (Ty.q a) (Ty.v a) (Ty.s a)))])) [] else bif Ty.k a == 6 || (decide (Valid a) || bif Ty.k a == 5 then decide (ByteArray.size (Ty.s a) ≤ 9223372036854775807) && true else true) && (decide (Valid a) || Ty.k a == 5 && pN (bz (Ty.s a)) || (Ty.k a == 4 || true)) then bif decide (sz63 b) then bif chk4 b != 0 then R (.tuple (.mk [.slice none 0 0, I (chk4 (Ty.mk (Ty.k b) (Ty.p b) (Ty.q b) (Ty.v b) (Ty.s b)))])) [] else bif Ty.k b == 6 || (decide (Valid b) || bif Ty.k b == 5 then decide (ByteArray.size (Ty.s b) ≤ 9223372036854775807) && true else true) && (decide (Valid b) || Ty.k b == 5 && pN (bz (Ty.s b)) || (Ty.k b == 4 || true)) then bif 18 == 18 && (bif Ty.k b == 6 then IntKind.wrap .i64 ((bif Ty.k a == 6 then (1 : Int) else 0) + 1) else bif Ty.k a == 6 then (1 : Int) else 0) == 2 then ∀ (cap : Nat) (tail : List Value), tailOK tail cap 2 5 = true → R (.tuple (.mk [.slice (some (.mk 132 0 (some 1))) 2 cap, I 0])) [some (.mk (I (Ty.k a) :: I (Ty.p a) :: I (Ty.q a) :: B (Ty.v a) :: S (Ty.s a) :: I (Ty.k b) :: I (Ty.p b) :: I (Ty.q b) :: B (Ty.v b) :: S (Ty.s b) :: tail) 23 true)] else bif decide ((bif Ty.k b == 6 then IntKind.wrap .i64 ((bif Ty.k a == 6 then (1 : Int) else 0) + 1) else bif Ty.k a == 6 then (1 : Int) else 0) > 0) then R (.tuple (.mk [.slice none 0 0, I 5])) [] else bif 18 == 14 || 18 == 18 && !bif Ty.k b == 6 then bif Ty.k a == 6 then false else (decide (Valid a) || Ty.k a == 5 && pN (bz (Ty.s a))) && true else decide (Valid b) || Ty.k b == 5 && pN (bz (Ty.s b)) || bif Ty.k a == 6 then false else (decide (Valid a) || Ty.k a == 5 && pN (bz (Ty.s a))) && true then bif (bif Ty.k b == 6 then bif Ty.k a == 6 then 0 else bif decide (Valid a) || Ty.k a == 5 && pN (bz (Ty.s a)) then 0 else bif Ty.k a == 4 then 1 else 0 else bif decide (Valid b) || Ty.k b == 5 && pN (bz (Ty.s b)) then bif Ty.k a == 6 then 0 else bif decide (Valid a) || Ty.k a == 5 && pN (bz (Ty.s a)) then 0 else bif Ty.k a == 4 then 1 else 0 else bif Ty.k b == 4 then IntKind.wrap .i64 ((bif Ty.k a == 6 then 0 else bif decide (Valid a) || Ty.k a == 5 && pN (bz (Ty.s a)) then 0 else bif Ty.k a == 4 then (1 : Int) else 0) + 1) else bif Ty.k a == 6 then 0 else bif decide (Valid a) || Ty.k a == 5 && pN (bz (Ty.s a)) then 0 else bif Ty.k a == 4 then (1 : Int) else 0) == 2 then bif decide (sz63 a) then ∀ (u : Ty), bitT (Ty.mk (Ty.k a) (Ty.p a) (Ty.q a) (Ty.v a) (Ty.s a)) = u → bif Ty.k u == 2 || true then ∀ (cap : Nat) (tail : List Value), tailOK tail cap 1 5 = true → bif decide (sz63 b) then ∀ (u_1 : Ty), bitT (Ty.mk (Ty.k b) (Ty.p b) (Ty.q b) (Ty.v b) (Ty.s b)) = u_1 → bif Ty.k u_1 == 2 || true then bif Nat.beq (List.length (I (Ty.k u) :: I (Ty.p u) :: I (Ty.q u) :: B (Ty.v u) :: S (Ty.s u) :: tail)) (cap * 5) && Nat.ble 1 cap && Nat.ble cap 9223372036854775807 && true && true then t44 u u_1 215 R else False else False else False else False else False else bif decide (sz63 a) then ∀ (u : Ty), chaT (Ty.mk (Ty.k a) (Ty.p a) (Ty.q a) (Ty.v a) (Ty.s a)) = u → bif Ty.k u == 2 || true then ∀ (cap : Nat) (tail : List Value), tailOK tail cap 1 5 = true → bif decide (sz63 b) then ∀ (u_1 : Ty), chaT (Ty.mk (Ty.k b) (Ty.p b) (Ty.q b) (Ty.v b) (Ty.s b)) = u_1 → bif Ty.k u_1 == 2 || true then bif Nat.beq (List.length (I (Ty.k u) :: I (Ty.p u) :: I (Ty.q u) :: B (Ty.v u) :: S (Ty.s u) :: tail)) (cap * 5) && Nat.ble 1 cap && Nat.ble cap 9223372036854775807 && true && true then t44 u u_1 214 R else False else False else False else False else False else bif decide (sz63 a) then ∀ (u : Ty), ariT (Ty.mk (Ty.k a) (Ty.p a) (Ty.q a) (Ty.v a) (Ty.s a)) = u → bif Ty.k u == 2 || true then ∀ (cap : Nat) (tail : List Value), tailOK tail cap 1 5 = true → bif decide (sz63 b) then ∀ (u_1 : Ty), ariT (Ty.mk (Ty.k b) (Ty.p b) (Ty.q b) (Ty.v b) (Ty.s b)) = u_1 → bif Ty.k u_1 == 2 || true then bif Nat.beq (List.length (I (Ty.k u) :: I (Ty.p u) :: I (Ty.q u) :: B (Ty.v u) :: S (Ty.s u) :: tail)) (cap * 5) && Nat.ble 1 cap && Nat.ble cap 9223372036854775807 && true && true then t44 u u_1 211 R else False else False else False else False else False else False else False else False else False) := by kernel_rfl
theorem x45_18 (a : Ty) (b : Ty) (rest : List Value) (cap : Nat) (R : Value → List (Option Blk) → Prop) : (bodyQ Tryz.prog E45_120 (jV [6]) Tryz.f45 [I 18, .slice (some ⟨1, 0, some 1⟩) 2 cap] (vwT ([I a.k, I a.p, I a.q, B a.v, S a.s, I b.k, I b.p, I b.q, B b.v, S b.s] ++ rest)) 2 (fun v m' _ => R v (lookT m' v))) = ( bif decide (ByteArray.size (Ty.s a) ≤ 9223372036854775807) then bif chk4 a != 0 then R (.tuple (.mk [.slice none 0 0, I (chk4 (Ty.mk (Ty.k a) (Ty.p a) (Ty.q a) (Ty.v a) (Ty.s a)))])) [] else bif Ty.k a == 6 || true then bif decide (ByteArray.size (Ty.s b) ≤ 9223372036854775807) then bif chk4 b != 0 then R (.tuple (.mk [.slice none 0 0, I (chk4 (Ty.mk (Ty.k b) (Ty.p b) (Ty.q b) (Ty.v b) (Ty.s b)))])) [] else bif Ty.k b == 6 || true then bif 18 == 18 && (bif Ty.k b == 6 then IntKind.wrap .i64 ((bif Ty.k a == 6 then (1 : Int) else 0) + 1) else bif Ty.k a == 6 then (1 : Int) else 0) == 2 then R (.tuple (.mk [.slice (some (.mk 80 0 (some 1))) 2 2, I 0])) [some (.mk [I (Ty.k a), I (Ty.p a), I (Ty.q a), B (Ty.v a), S (Ty.s a), I (Ty.k b), I (Ty.p b), I (Ty.q b), B (Ty.v b), S (Ty.s b)] 23 true)] else bif decide ((bif Ty.k b == 6 then IntKind.wrap .i64 ((bif Ty.k a == 6 then (1 : Int) else 0) + 1) else bif Ty.k a == 6 then (1 : Int) else 0) > 0) then R (.tuple (.mk [.slice none 0 0, I 5])) [] else bif bif !decide (Valid a) then decide (sz63 a) && bif !numT a then bif !decide (Valid b) then decide (sz63 b) && true else true else true else true then bif !decide (Valid a) && (!numT a && (!decide (Valid b) && !numT b)) then bif Ty.k a == 4 || true then bif Ty.k a == 4 && Ty.k b == 4 then R (.tuple (.mk [.slice (some (.mk 131 0 (some 1))) 2 2, I 0])) [some (.mk [I (Ty.k a), I (Ty.p a), I (Ty.q a), B (Ty.v a), S (Ty.s a), I (Ty.k b), I (Ty.p b), I (Ty.q b), B (Ty.v b), S (Ty.s b)] 23 true)] else bif decide (sz63 a) then ∀ (u : Ty), chaT (Ty.mk (Ty.k a) (Ty.p a) (Ty.q a) (Ty.v a) (Ty.s a)) = u → bif decide (sz63 b) then ∀ (u_1 : Ty), chaT (Ty.mk (Ty.k b) (Ty.p b) (Ty.q b) (Ty.v b) (Ty.s b)) = u_1 → R (.tuple (.mk [.slice (some (.mk 147 0 (some 1))) 2 2, I 0])) [some (.mk [I (Ty.k u), I (Ty.p u), I (Ty.q u), B (Ty.v u), S (Ty.s u), I (Ty.k u_1), I (Ty.p u_1), I (Ty.q u_1), B (Ty.v u_1), S (Ty.s u_1)] 23 true)] else False else False else False else bif decide (sz63 a) then ∀ (u : Ty), ariT (Ty.mk (Ty.k a) (Ty.p a) (Ty.q a) (Ty.v a) (Ty.s a)) = u → bif decide (sz63 b) then ∀ (u_1 : Ty), ariT (Ty.mk (Ty.k b) (Ty.p b) (Ty.q b) (Ty.v b) (Ty.s b)) = u_1 → bif Ty.k u == Ty.k u_1 then R (.tuple (.mk [.slice (some (.mk 144 0 (some 1))) 2 2, I 0])) [some (.mk [I (Ty.k u), I (Ty.p u), I (Ty.q u), B (Ty.v u), S (Ty.s u), I (Ty.k u_1), I (Ty.p u_1), I (Ty.q u_1), B (Ty.v u_1), S (Ty.s u_1)] 23 true)] else bif decide (sz63 u) then ∀ (u_2 : Ty), Fx.binT u = u_2 → bif decide (sz63 u_1) then ∀ (u : Ty), Fx.binT u_1 = u → R (.tuple (.mk [.slice (some (.mk 156 0 (some 1))) 2 2, I 0])) [some (.mk [I (Ty.k u_2), I (Ty.p u_2), I (Ty.q u_2), B (Ty.v u_2), S (Ty.s u_2), I (Ty.k u), I (Ty.p u), I (Ty.q u), B (Ty.v u), S (Ty.s u)] 23 true)] else False else False else False else False else False else False else False else False else False) := by kernel_rfl
theorem x44_5 {op : Int} (ho : op = 5 ∨ op = 11) (a : Ty) (rest : List Value) (cap : Nat) (R : Value → List (Option Blk) → Prop) : (bodyQ Tryz.prog E44 (jV [6, 7, 8, 9, 13, 15]) Tryz.f44 [I op, .slice (some ⟨1, 0, some 1⟩) 1 cap] (vwT ([I a.k, I a.p, I a.q, B a.v, S a.s] ++ rest)) 2 (fun v m' _ => R v (lookT m' v))) = (
  bif decide (sz63 a) then bif chk4 a != 0 then R (Value.tuple (Array.mk [Value.slice none 0 0, Value.int IntKind.i64 (chk4 (Ty.mk (Ty.k a) (Ty.p a) (Ty.q a) (Ty.v a) (Ty.s a)))])) [] else bif Ty.k a == 6 || (decide (Valid a) || bif Ty.k a == 5 then decide (ByteArray.size (Ty.s a) ≤ 9223372036854775807) && true else true) && (decide (Valid a) || Ty.k a == 5 && pN (bz (Ty.s a)) || (Ty.k a == 4 || true)) then bif decide ((bif Ty.k a == 6 then (1 : Int) else 0) > 0) then R (Value.tuple (Array.mk [Value.slice none 0 0, Value.int IntKind.i64 5])) [] else bif decide (sz63 a) then ∀ (u : Ty), ariT (Ty.mk (Ty.k a) (Ty.p a) (Ty.q a) (Ty.v a) (Ty.s a)) = u → bif Ty.k u == 2 || true then ∀ (cap : Nat) (tail : List Value), tailOK tail cap 1 5 = true → bif (bif Ty.k u == 2 then (1 : Int) else 0) == 1 || true then bif (bif Ty.k u == 2 then (1 : Int) else 0) == 1 && false then bif decide (sz63 u) then ∀ (u_1 : Ty), Fx.binT (Ty.mk (Ty.k u) (Ty.p u) (Ty.q u) (Ty.v u) (Ty.s u)) = u_1 → R (Value.tuple (Array.mk [Value.slice (some (Addr.mk 123 0 (some 1))) 1 cap, Value.int IntKind.i64 0])) [some (Blk.mk (Value.int IntKind.i64 (Ty.k u_1) :: Value.int IntKind.i64 (Ty.p u_1) :: Value.int IntKind.i64 (Ty.q u_1) :: Value.bool (Ty.v u_1) :: Value.string (Ty.s u_1) :: tail) 23 true)] else False else R (Value.tuple (Array.mk [Value.slice (some (Addr.mk 123 0 (some 1))) 1 cap, Value.int IntKind.i64 0])) [some (Blk.mk (Value.int IntKind.i64 (Ty.k u) :: Value.int IntKind.i64 (Ty.p u) :: Value.int IntKind.i64 (Ty.q u) :: Value.bool (Ty.v u) :: Value.string (Ty.s u) :: tail) 23 true)] else False else False else False else False else False) := by
 rcases ho with rfl | rfl <;> kernel_rfl
theorem x45_5 {op : Int} (ho : op = 5 ∨ op = 11) (a : Ty) (rest : List Value) (cap : Nat) (R : Value → List (Option Blk) → Prop) : (bodyQ Tryz.prog E45_120 (jV [6]) Tryz.f45 [I op, .slice (some ⟨1, 0, some 1⟩) 1 cap] (vwT ([I a.k, I a.p, I a.q, B a.v, S a.s] ++ rest)) 2 (fun v m' _ => R v (lookT m' v))) = (
  bif decide (ByteArray.size (Ty.s a) ≤ 9223372036854775807) then
   bif chk4 a != 0 then R (Value.tuple (Array.mk [Value.slice none 0 0, Value.int IntKind.i64 (chk4 (Ty.mk (Ty.k a) (Ty.p a) (Ty.q a) (Ty.v a) (Ty.s a)))])) []
   else
    bif Ty.k a == 6 || true then
     bif decide ((bif Ty.k a == 6 then (1 : Int) else 0) > 0) then R (Value.tuple (Array.mk [Value.slice none 0 0, Value.int IntKind.i64 5])) []
     else
      bif decide (sz63 a) then
       ∀ (u : Ty),
        ariT (Ty.mk (Ty.k a) (Ty.p a) (Ty.q a) (Ty.v a) (Ty.s a)) = u →
         R (Value.tuple (Array.mk [Value.slice (some (Addr.mk 68 0 (some 1))) 1 1, Value.int IntKind.i64 0]))
          [some (Blk.mk [Value.int IntKind.i64 (Ty.k u), Value.int IntKind.i64 (Ty.p u), Value.int IntKind.i64 (Ty.q u), Value.bool (Ty.v u), Value.string (Ty.s u)] 23 true)]
      else False
    else False
  else False) := by
 rcases ho with rfl | rfl <;> kernel_rfl
theorem x44_17 (a : Ty) (rest : List Value) (cap : Nat) (R : Value → List (Option Blk) → Prop) : (bodyQ Tryz.prog E44 (jV [6, 7, 8, 9, 13, 15]) Tryz.f44 [I 17, .slice (some ⟨1, 0, some 1⟩) 1 cap] (vwT ([I a.k, I a.p, I a.q, B a.v, S a.s] ++ rest)) 2 (fun v m' _ => R v (lookT m' v))) = ( bif decide (sz63 a) then bif chk4 a != 0 then R (.tuple (.mk [.slice none 0 0, I (chk4 (Ty.mk (Ty.k a) (Ty.p a) (Ty.q a) (Ty.v a) (Ty.s a)))])) [] else bif Ty.k a == 6 || (decide (Valid a) || bif Ty.k a == 5 then decide (ByteArray.size (Ty.s a) ≤ 9223372036854775807) && true else true) && (decide (Valid a) || Ty.k a == 5 && pN (bz (Ty.s a)) || (Ty.k a == 4 || true)) then bif decide ((bif Ty.k a == 6 then (1 : Int) else 0) > 0) then R (.tuple (.mk [.slice none 0 0, I 5])) [] else bif decide (sz63 a) then ∀ (u : Ty), bitT (Ty.mk (Ty.k a) (Ty.p a) (Ty.q a) (Ty.v a) (Ty.s a)) = u → bif Ty.k u == 2 || true then ∀ (cap : Nat) (tail : List Value), tailOK tail cap 1 5 = true → bif (bif Ty.k u == 2 then (1 : Int) else 0) == 1 || true then bif (bif Ty.k u == 2 then (1 : Int) else 0) == 1 && false then bif decide (sz63 u) then ∀ (u_1 : Ty), Fx.binT (Ty.mk (Ty.k u) (Ty.p u) (Ty.q u) (Ty.v u) (Ty.s u)) = u_1 → R (.tuple (.mk [.slice (some (.mk 113 0 (some 1))) 1 cap, I 0])) [some (.mk (I (Ty.k u_1) :: I (Ty.p u_1) :: I (Ty.q u_1) :: B (Ty.v u_1) :: S (Ty.s u_1) :: tail) 23 true)] else False else R (.tuple (.mk [.slice (some (.mk 113 0 (some 1))) 1 cap, I 0])) [some (.mk (I (Ty.k u) :: I (Ty.p u) :: I (Ty.q u) :: B (Ty.v u) :: S (Ty.s u) :: tail) 23 true)] else False else False else False else False else False) := by kernel_rfl
theorem x45_17 (a : Ty) (rest : List Value) (cap : Nat) (R : Value → List (Option Blk) → Prop) : (bodyQ Tryz.prog E45_120 (jV [6]) Tryz.f45 [I 17, .slice (some ⟨1, 0, some 1⟩) 1 cap] (vwT ([I a.k, I a.p, I a.q, B a.v, S a.s] ++ rest)) 2 (fun v m' _ => R v (lookT m' v))) = ( bif decide (ByteArray.size (Ty.s a) ≤ 9223372036854775807) then bif chk4 a != 0 then R (.tuple (.mk [.slice none 0 0, I (chk4 (Ty.mk (Ty.k a) (Ty.p a) (Ty.q a) (Ty.v a) (Ty.s a)))])) [] else bif Ty.k a == 6 || true then bif decide ((bif Ty.k a == 6 then (1 : Int) else 0) > 0) then R (.tuple (.mk [.slice none 0 0, I 5])) [] else bif decide (sz63 a) then ∀ (u : Ty), bitT (Ty.mk (Ty.k a) (Ty.p a) (Ty.q a) (Ty.v a) (Ty.s a)) = u → R (.tuple (.mk [.slice (some (.mk 70 0 (some 1))) 1 1, I 0])) [some (.mk [I (Ty.k u), I (Ty.p u), I (Ty.q u), B (Ty.v u), S (Ty.s u)] 23 true)] else False else False else False) := by kernel_rfl
end Go.Cx
end
noncomputable section
namespace Go.Px
open Go Go.Ab Go.Proofs Go.Shelf Go.ChangeMaps Go.ChangeShapes Go.WideShapes Go.ChangeAt Go.RowKit Go.Joins
open Go.Proofs.YtpflidodnhbeoaaGreatDoor
theorem laid_ok : laidOutB Tryz.prog = true := by kernel_rfl
theorem rd50 : Tryz.prog.readableRec 50 = true ∧ 50 < Tryz.prog.types.size := ⟨by kernel_rfl, of_decide_eq_true (by kernel_rfl)⟩
theorem rd23 : Tryz.prog.readableRec 23 = true ∧ 23 < Tryz.prog.types.size := ⟨by kernel_rfl, of_decide_eq_true (by kernel_rfl)⟩
theorem rd3 : Tryz.prog.readableRec 3 = true ∧ 3 < Tryz.prog.types.size := ⟨by kernel_rfl, of_decide_eq_true (by kernel_rfl)⟩
theorem cel23 : Tryz.prog.cellsOf 23 = 5 := by kernel_rfl
theorem cel3 : Tryz.prog.cellsOf 3 = 1 := by kernel_rfl
theorem cel4 : Tryz.prog.cellsOf 4 = 1 := by kernel_rfl
theorem cel9 : Tryz.prog.cellsOf 9 = 1 := by kernel_rfl
def okT (t : Fx.Ty) : Prop := r64 t.k ∧ r64 t.p ∧ r64 t.q ∧ rS t.s
def tcN (T : Nat → Fx.Ty) : Nat → Nat → List Value
 | _, 0 => []
 | i, n + 1 => .int .i64 (T i).k :: .int .i64 (T i).p :: .int .i64 (T i).q :: .bool (T i).v :: .string (T i).s :: tcN T (i + 1) n
theorem tcN_plain (T : Nat → Fx.Ty) : ∀ n i, plainL (tcN T i n) = true
 | 0, _ => rfl
 | n + 1, i => by simp [tcN, plainL, plain, tcN_plain T n (i + 1)]
theorem tcN_at (T : Nat → Fx.Ty) : ∀ (n i k : Nat) (v : Value), (tcN T i n)[k]? = some v → ∃ j q, j < n ∧ k = j * 5 + q ∧ (Fx.tyc (T (i + j)))[q]? = some v
 | 0, i, k, v, h => by simp [tcN] at h
 | n + 1, i, 0, v, h => ⟨0, 0, by omega, rfl, by simpa [tcN, Fx.tyc] using h⟩
 | n + 1, i, 1, v, h => ⟨0, 1, by omega, rfl, by simpa [tcN, Fx.tyc] using h⟩
 | n + 1, i, 2, v, h => ⟨0, 2, by omega, rfl, by simpa [tcN, Fx.tyc] using h⟩
 | n + 1, i, 3, v, h => ⟨0, 3, by omega, rfl, by simpa [tcN, Fx.tyc] using h⟩
 | n + 1, i, 4, v, h => ⟨0, 4, by omega, rfl, by simpa [tcN, Fx.tyc] using h⟩
 | n + 1, i, k + 5, v, h => by
  simp only [tcN, List.getElem?_cons_succ] at h
  obtain ⟨j, q, hj, hk, h⟩ := tcN_at T n (i + 1) k v h
  exact ⟨j + 1, q, by omega, by omega, by rw [show i + (j + 1) = i + 1 + j by omega]; exact h⟩
theorem list5 {α : Type} {cs : List α} (h : cs.length = 5) : ∃ c0 c1 c2 c3 c4, cs = [c0, c1, c2, c3, c4] := by
 match cs, h with
 | [c0, c1, c2, c3, c4], _ => exact ⟨c0, c1, c2, c3, c4, rfl⟩
set_option maxRecDepth 100000 in
theorem ty_cells {cs : List Value} (hsz : cs.length = 5)
  (hf : ∀ (i : Nat) (f : Field), (#[{ name := "Kind", type := 3, offset := 0, embedded := false, tag := "", pkgPath := "", byteOffset := 0 }, { name := "P", type := 3, offset := 1, embedded := false, tag := "", pkgPath := "", byteOffset := 8 }, { name := "Q", type := 3, offset := 2, embedded := false, tag := "", pkgPath := "", byteOffset := 16 }, { name := "Vary", type := 4, offset := 3, embedded := false, tag := "", pkgPath := "", byteOffset := 24 }, { name := "Pic", type := 9, offset := 4, embedded := false, tag := "", pkgPath := "", byteOffset := 32 }] : Array Field)[i]? = some f → ∃ (H : Type) (enc : TypeId × Value → H) (w : World) (base : Nat) (spare : Nat → Bool) (held : Bool) (n : Nat) (y : DataW H × List MemPlace),
   DataW.trod enc Tryz.prog w base spare held n f.type ((cs.drop f.offset).take (Tryz.prog.cellsOf f.type)) = some y) : ∃ a : Fx.Ty, cs = Fx.tyc a ∧ okT a := by
 obtain ⟨c0, c1, c2, c3, c4, rfl⟩ := list5 hsz
 obtain ⟨H, enc, w, base, spare, held, n, y, h0⟩ := hf 0 { name := "Kind", type := 3, offset := 0, embedded := false, tag := "", pkgPath := "", byteOffset := 0 } rfl
 obtain ⟨H, enc, w, base, spare, held, n, y, h1⟩ := hf 1 { name := "P", type := 3, offset := 1, embedded := false, tag := "", pkgPath := "", byteOffset := 8 } rfl
 obtain ⟨H, enc, w, base, spare, held, n, y, h2⟩ := hf 2 { name := "Q", type := 3, offset := 2, embedded := false, tag := "", pkgPath := "", byteOffset := 16 } rfl
 obtain ⟨H, enc, w, base, spare, held, n, y, hv⟩ := hf 3 { name := "Vary", type := 4, offset := 3, embedded := false, tag := "", pkgPath := "", byteOffset := 24 } rfl
 obtain ⟨H, enc, w, base, spare, held, n, y, hs⟩ := hf 4 { name := "Pic", type := 9, offset := 4, embedded := false, tag := "", pkgPath := "", byteOffset := 32 } rfl
 obtain ⟨k, e0, _, w0⟩ := DataW.trod_int Tryz.underlying3 h0
 obtain ⟨p, e1, _, w1⟩ := DataW.trod_int Tryz.underlying3 h1
 obtain ⟨q, e2, _, w2⟩ := DataW.trod_int Tryz.underlying3 h2
 obtain ⟨v, e3, _⟩ := DataW.trod_bool Tryz.underlying4 hv
 obtain ⟨s, e4, _, w4⟩ := DataW.trod_string Tryz.underlying9 hs
 simp only [cel3, cel4, cel9, List.drop_zero, List.drop_succ_cons, List.take_succ_cons, List.take_zero, List.cons.injEq, and_true] at e0 e1 e2 e3 e4
 exact ⟨⟨k, p, q, v, s⟩, by rw [e0, e1, e2, e3, e4, Fx.tyc], r64_wf w0, r64_wf w1, r64_wf w2, Nat.le_trans w4 (by decide)⟩
theorem slice_has {P : Program} {w : World} {base : Nat} {t e : TypeId} {a : Addr} {len cap : Nat} (ht : P.underlying t = some (.slice e)) (h : Value.okWide P w .any base t (.slice (some a) len cap)) : a.spot = none ∧ a.block < w.heap.size := by
 unfold Value.okWide at h
 rw [ht] at h
 simp only [Cell.okWide, ht, Cell.ok] at h
 obtain ⟨_, _, _, hs, row, cells, hsh, _⟩ := h
 refine ⟨hs, ?_⟩
 unfold World.shape? at hsh
 split at hsh
 ·rename_i hq
  exact (Array.getElem?_eq_some_iff.1 hq).1
 ·cases hsh
set_option maxRecDepth 100000 in
theorem open_types {H : Type} {enc : TypeId × Value → H} {w : World} {base : Nat} {v : Value} {d : DataW H} {p : List MemPlace} (hv : Value.okWide Tryz.prog w .any base 50 v)
  (h : DataW.Trod enc Tryz.prog w 0 (fun _ => true) true 50 v d p) : v = .slice none 0 0 ∨
  ∃ (b off n cap : Nat) (T : Nat → Fx.Ty), v = .slice (some ⟨b, off, none⟩) n cap ∧ b < w.heap.size ∧ n ≤ 9223372036854775807 ∧ (∀ i, i < n → okT (T i)) ∧ ∀ i x, (tcN T 0 n)[i]? = some x → w.cell? ⟨b, off + i, none⟩ = some x ∧ plain x = true := by
 obtain ⟨fuel, h⟩ := h
 have hsl := okWide_slice (e := 23) Tryz.underlying50 hv
 obtain ⟨a, len, cap, rfl⟩ := hsl
 replace h : DataW.trod enc Tryz.prog w 0 (fun _ => true) true fuel 50 [.slice a len cap] = some (d, p) := h
 rcases Go.Deep.open_slice Tryz.underlying50 h with ⟨h1, _⟩ | ⟨a', len', cap', m, n, D, Pl, h1, hb, hl, hm, hmm, _, hx⟩
 ·left
  simp only [List.cons.injEq, and_true] at h1
  exact h1
 ·right
  simp only [List.cons.injEq, and_true, Value.slice.injEq] at h1
  obtain ⟨rfl, rfl, rfl⟩ := h1
  obtain ⟨hs, hlt⟩ := slice_has Tryz.underlying50 hv
  obtain ⟨b, off, sp⟩ := a'
  simp only at hs hlt
  subst hs
  have hlm : len ≤ m := by rw [hmm]; simp; omega
  have hT : ∀ i, i < len → ∃ t : Fx.Ty, okT t ∧ ∀ q x, (Fx.tyc t)[q]? = some x → w.cell? ⟨b, off + (i * 5 + q), none⟩ = some x := fun i hi => by
   obtain ⟨cs, h1, h2⟩ := hx i (by omega)
   rw [cel23] at h1
   obtain ⟨_, hlen, hcell⟩ := World.cells?_some h1
   obtain ⟨xs, k, _, _, _, hxl, hf⟩ := DataW.trod_struct Tryz.underlying23 h2
   obtain ⟨t, ht, hok⟩ := ty_cells hlen fun j f hj => by
    have hlt : j < xs.length := by
     have := (Array.getElem?_eq_some_iff.1 hj).1
     rw [hxl]; exact this
    exact ⟨H, enc, w, 0, _, true, k, xs[j], by rw [hf j f hj, List.getElem?_eq_getElem hlt]⟩
   refine ⟨t, hok, fun q x hq => ?_⟩
   have add : ∀ o q, (⟨b, o, none⟩ : Addr).add q = ⟨b, o + q, none⟩ := fun o q => by unfold Addr.add; split <;> simp_all
   have hq5 : q < 5 := (List.getElem?_eq_some_iff.1 hq).1
   have := hcell q hq5
   rw [add, add, ht, hq] at this
   rw [← Nat.add_assoc]
   exact this
  haveI : Inhabited Fx.Ty := ⟨Fx.T0⟩
  obtain ⟨T, hT⟩ := Go.Deep.choose_lt hT
  refine ⟨b, off, len, cap, T, rfl, hlt, Nat.le_trans hl (Nat.le_trans hm (by decide)), fun i hi => (hT i hi).1, fun i x hi => ⟨?_, plainL_iff.1 (tcN_plain T len 0) x (List.mem_of_getElem? hi)⟩⟩
  obtain ⟨j, q, hj, rfl, hq⟩ := tcN_at T len 0 i x hi
  rw [Nat.zero_add] at hq
  exact (hT j hj).2 q x hq
end Go.Px
end
noncomputable section
set_option maxHeartbeats 3200000
namespace Go.Cx
open Go Go.Ab Go.Proofs Go.Shelf Go.Px Go.Cv
open Go.Fx (Ty Vl check Valid most base pw bnd Fit fits tv vv tup V0 T0 pw_zero pw_succ wrap_mul pw_w64 str0)
instance tabsU2 : Tabs := Cs.tabsC
def E44e : Env := Env.nil
def E45e : Env := Env.nil.add 118 (sp1 s118)
theorem ok_E44e : EnvOK Tryz.prog E44e := env_nil
theorem ok_E45e : EnvOK Tryz.prog E45e := env_add env_nil (Cs.pureC ok118)
theorem z44_n (op : Int) (R : Value → Prop) : (bodyQ Tryz.prog E44e noL Tryz.f44 [I op, .slice none 0 0] (fun _ => none) 0 (fun v _ _ => R v)) = ( bif op == 5 then R (.tuple (.mk [.slice none 0 0, I 1])) else bif op == 11 then R (.tuple (.mk [.slice none 0 0, I 1])) else bif op == 17 then R (.tuple (.mk [.slice none 0 0, I 1])) else bif op == 6 then R (.tuple (.mk [.slice none 0 0, I 1])) else bif op == 7 then R (.tuple (.mk [.slice none 0 0, I 1])) else bif op == 8 then R (.tuple (.mk [.slice none 0 0, I 1])) else bif op == 9 then R (.tuple (.mk [.slice none 0 0, I 1])) else bif op == 10 then R (.tuple (.mk [.slice none 0 0, I 1])) else bif op == 12 then R (.tuple (.mk [.slice none 0 0, I 1])) else bif op == 13 then R (.tuple (.mk [.slice none 0 0, I 1])) else bif op == 14 then R (.tuple (.mk [.slice none 0 0, I 1])) else bif op == 15 then R (.tuple (.mk [.slice none 0 0, I 1])) else bif op == 16 then R (.tuple (.mk [.slice none 0 0, I 1])) else bif op == 18 then R (.tuple (.mk [.slice none 0 0, I 1])) else R (.tuple (.mk [.slice none 0 0, I 1]))) := by kernel_rfl
theorem z44_0 (op : Int) (c : List Value) (cap : Nat) (R : Value → Prop) : (bodyQ Tryz.prog E44e noL Tryz.f44 [I op, .slice (some ⟨1, 0, some 1⟩) 0 cap] (vwT c) 2 (fun v _ _ => R v)) = ( bif op == 5 then R (.tuple (.mk [.slice none 0 0, I 1])) else bif op == 11 then R (.tuple (.mk [.slice none 0 0, I 1])) else bif op == 17 then R (.tuple (.mk [.slice none 0 0, I 1])) else bif op == 6 then R (.tuple (.mk [.slice none 0 0, I 1])) else bif op == 7 then R (.tuple (.mk [.slice none 0 0, I 1])) else bif op == 8 then R (.tuple (.mk [.slice none 0 0, I 1])) else bif op == 9 then R (.tuple (.mk [.slice none 0 0, I 1])) else bif op == 10 then R (.tuple (.mk [.slice none 0 0, I 1])) else bif op == 12 then R (.tuple (.mk [.slice none 0 0, I 1])) else bif op == 13 then R (.tuple (.mk [.slice none 0 0, I 1])) else bif op == 14 then R (.tuple (.mk [.slice none 0 0, I 1])) else bif op == 15 then R (.tuple (.mk [.slice none 0 0, I 1])) else bif op == 16 then R (.tuple (.mk [.slice none 0 0, I 1])) else bif op == 18 then R (.tuple (.mk [.slice none 0 0, I 1])) else R (.tuple (.mk [.slice none 0 0, I 1]))) := by kernel_rfl
theorem z44_1 (op : Int) (c : List Value) (cap : Nat) (R : Value → Prop) : (bodyQ Tryz.prog E44e noL Tryz.f44 [I op, .slice (some ⟨1, 0, some 1⟩) 1 cap] (vwT c) 2 (fun v _ _ => R v)) = ( bif op == 5 then bif isIntAt IntKind.i64 c (0 + Int.toNat 0 * 5) && (isIntAt IntKind.i64 c (0 + Int.toNat 0 * 5 + 1) && (isIntAt IntKind.i64 c (0 + Int.toNat 0 * 5 + 1 + 1) && (isBoolAt c (0 + Int.toNat 0 * 5 + 1 + 1 + 1) && (isStrAt c (0 + Int.toNat 0 * 5 + 1 + 1 + 1 + 1) && true)))) then False else False else bif op == 11 then bif isIntAt IntKind.i64 c (0 + Int.toNat 0 * 5) && (isIntAt IntKind.i64 c (0 + Int.toNat 0 * 5 + 1) && (isIntAt IntKind.i64 c (0 + Int.toNat 0 * 5 + 1 + 1) && (isBoolAt c (0 + Int.toNat 0 * 5 + 1 + 1 + 1) && (isStrAt c (0 + Int.toNat 0 * 5 + 1 + 1 + 1 + 1) && true)))) then False else False else bif op == 17 then bif isIntAt IntKind.i64 c (0 + Int.toNat 0 * 5) && (isIntAt IntKind.i64 c (0 + Int.toNat 0 * 5 + 1) && (isIntAt IntKind.i64 c (0 + Int.toNat 0 * 5 + 1 + 1) && (isBoolAt c (0 + Int.toNat 0 * 5 + 1 + 1 + 1) && (isStrAt c (0 + Int.toNat 0 * 5 + 1 + 1 + 1 + 1) && true)))) then False else False else bif op == 6 then R (.tuple (.mk [.slice none 0 0, I 1])) else bif op == 7 then R (.tuple (.mk [.slice none 0 0, I 1])) else bif op == 8 then R (.tuple (.mk [.slice none 0 0, I 1])) else bif op == 9 then R (.tuple (.mk [.slice none 0 0, I 1])) else bif op == 10 then R (.tuple (.mk [.slice none 0 0, I 1])) else bif op == 12 then R (.tuple (.mk [.slice none 0 0, I 1])) else bif op == 13 then R (.tuple (.mk [.slice none 0 0, I 1])) else bif op == 14 then R (.tuple (.mk [.slice none 0 0, I 1])) else bif op == 15 then R (.tuple (.mk [.slice none 0 0, I 1])) else bif op == 16 then R (.tuple (.mk [.slice none 0 0, I 1])) else bif op == 18 then R (.tuple (.mk [.slice none 0 0, I 1])) else R (.tuple (.mk [.slice none 0 0, I 1]))) := by kernel_rfl
theorem z44_2 (op : Int) (c : List Value) (cap : Nat) (R : Value → Prop) : (bodyQ Tryz.prog E44e noL Tryz.f44 [I op, .slice (some ⟨1, 0, some 1⟩) 2 cap] (vwT c) 2 (fun v _ _ => R v)) = ( bif op == 5 then R (.tuple (.mk [.slice none 0 0, I 1])) else bif op == 11 then R (.tuple (.mk [.slice none 0 0, I 1])) else bif op == 17 then R (.tuple (.mk [.slice none 0 0, I 1])) else bif op == 6 then bif isIntAt IntKind.i64 c (0 + Int.toNat 0 * 5) && (isIntAt IntKind.i64 c (0 + Int.toNat 0 * 5 + 1) && (isIntAt IntKind.i64 c (0 + Int.toNat 0 * 5 + 1 + 1) && (isBoolAt c (0 + Int.toNat 0 * 5 + 1 + 1 + 1) && (isStrAt c (0 + Int.toNat 0 * 5 + 1 + 1 + 1 + 1) && true)))) then False else False else bif op == 7 then bif isIntAt IntKind.i64 c (0 + Int.toNat 0 * 5) && (isIntAt IntKind.i64 c (0 + Int.toNat 0 * 5 + 1) && (isIntAt IntKind.i64 c (0 + Int.toNat 0 * 5 + 1 + 1) && (isBoolAt c (0 + Int.toNat 0 * 5 + 1 + 1 + 1) && (isStrAt c (0 + Int.toNat 0 * 5 + 1 + 1 + 1 + 1) && true)))) then False else False else bif op == 8 then bif isIntAt IntKind.i64 c (0 + Int.toNat 0 * 5) && (isIntAt IntKind.i64 c (0 + Int.toNat 0 * 5 + 1) && (isIntAt IntKind.i64 c (0 + Int.toNat 0 * 5 + 1 + 1) && (isBoolAt c (0 + Int.toNat 0 * 5 + 1 + 1 + 1) && (isStrAt c (0 + Int.toNat 0 * 5 + 1 + 1 + 1 + 1) && true)))) then False else False else bif op == 9 then bif isIntAt IntKind.i64 c (0 + Int.toNat 0 * 5) && (isIntAt IntKind.i64 c (0 + Int.toNat 0 * 5 + 1) && (isIntAt IntKind.i64 c (0 + Int.toNat 0 * 5 + 1 + 1) && (isBoolAt c (0 + Int.toNat 0 * 5 + 1 + 1 + 1) && (isStrAt c (0 + Int.toNat 0 * 5 + 1 + 1 + 1 + 1) && true)))) then False else False else bif op == 10 then bif isIntAt IntKind.i64 c (0 + Int.toNat 0 * 5) && (isIntAt IntKind.i64 c (0 + Int.toNat 0 * 5 + 1) && (isIntAt IntKind.i64 c (0 + Int.toNat 0 * 5 + 1 + 1) && (isBoolAt c (0 + Int.toNat 0 * 5 + 1 + 1 + 1) && (isStrAt c (0 + Int.toNat 0 * 5 + 1 + 1 + 1 + 1) && true)))) then False else False else bif op == 12 then bif isIntAt IntKind.i64 c (0 + Int.toNat 0 * 5) && (isIntAt IntKind.i64 c (0 + Int.toNat 0 * 5 + 1) && (isIntAt IntKind.i64 c (0 + Int.toNat 0 * 5 + 1 + 1) && (isBoolAt c (0 + Int.toNat 0 * 5 + 1 + 1 + 1) && (isStrAt c (0 + Int.toNat 0 * 5 + 1 + 1 + 1 + 1) && true)))) then False else False else bif op == 13 then bif isIntAt IntKind.i64 c (0 + Int.toNat 0 * 5) && (isIntAt IntKind.i64 c (0 + Int.toNat 0 * 5 + 1) && (isIntAt IntKind.i64 c (0 + Int.toNat 0 * 5 + 1 + 1) && (isBoolAt c (0 + Int.toNat 0 * 5 + 1 + 1 + 1) && (isStrAt c (0 + Int.toNat 0 * 5 + 1 + 1 + 1 + 1) && true)))) then False else False else bif op == 14 then bif isIntAt IntKind.i64 c (0 + Int.toNat 0 * 5) && (isIntAt IntKind.i64 c (0 + Int.toNat 0 * 5 + 1) && (isIntAt IntKind.i64 c (0 + Int.toNat 0 * 5 + 1 + 1) && (isBoolAt c (0 + Int.toNat 0 * 5 + 1 + 1 + 1) && (isStrAt c (0 + Int.toNat 0 * 5 + 1 + 1 + 1 + 1) && true)))) then False else False else bif op == 15 then bif isIntAt IntKind.i64 c (0 + Int.toNat 0 * 5) && (isIntAt IntKind.i64 c (0 + Int.toNat 0 * 5 + 1) && (isIntAt IntKind.i64 c (0 + Int.toNat 0 * 5 + 1 + 1) && (isBoolAt c (0 + Int.toNat 0 * 5 + 1 + 1 + 1) && (isStrAt c (0 + Int.toNat 0 * 5 + 1 + 1 + 1 + 1) && true)))) then False else False else bif op == 16 then bif isIntAt IntKind.i64 c (0 + Int.toNat 0 * 5) && (isIntAt IntKind.i64 c (0 + Int.toNat 0 * 5 + 1) && (isIntAt IntKind.i64 c (0 + Int.toNat 0 * 5 + 1 + 1) && (isBoolAt c (0 + Int.toNat 0 * 5 + 1 + 1 + 1) && (isStrAt c (0 + Int.toNat 0 * 5 + 1 + 1 + 1 + 1) && true)))) then False else False else bif op == 18 then bif isIntAt IntKind.i64 c (0 + Int.toNat 0 * 5) && (isIntAt IntKind.i64 c (0 + Int.toNat 0 * 5 + 1) && (isIntAt IntKind.i64 c (0 + Int.toNat 0 * 5 + 1 + 1) && (isBoolAt c (0 + Int.toNat 0 * 5 + 1 + 1 + 1) && (isStrAt c (0 + Int.toNat 0 * 5 + 1 + 1 + 1 + 1) && true)))) then False else False else R (.tuple (.mk [.slice none 0 0, I 1]))) := by kernel_rfl
theorem z44_3 (op : Int) (c : List Value) (cap : Nat) (R : Value → Prop) : (bodyQ Tryz.prog E44e noL Tryz.f44 [I op, .slice (some ⟨1, 0, some 1⟩) 3 cap] (vwT c) 2 (fun v _ _ => R v)) = ( bif op == 5 then R (.tuple (.mk [.slice none 0 0, I 1])) else bif op == 11 then R (.tuple (.mk [.slice none 0 0, I 1])) else bif op == 17 then R (.tuple (.mk [.slice none 0 0, I 1])) else bif op == 6 then R (.tuple (.mk [.slice none 0 0, I 1])) else bif op == 7 then R (.tuple (.mk [.slice none 0 0, I 1])) else bif op == 8 then R (.tuple (.mk [.slice none 0 0, I 1])) else bif op == 9 then R (.tuple (.mk [.slice none 0 0, I 1])) else bif op == 10 then R (.tuple (.mk [.slice none 0 0, I 1])) else bif op == 12 then R (.tuple (.mk [.slice none 0 0, I 1])) else bif op == 13 then R (.tuple (.mk [.slice none 0 0, I 1])) else bif op == 14 then R (.tuple (.mk [.slice none 0 0, I 1])) else bif op == 15 then R (.tuple (.mk [.slice none 0 0, I 1])) else bif op == 16 then R (.tuple (.mk [.slice none 0 0, I 1])) else bif op == 18 then R (.tuple (.mk [.slice none 0 0, I 1])) else R (.tuple (.mk [.slice none 0 0, I 1]))) := by kernel_rfl
theorem z44_4 (op : Int) (c : List Value) (cap : Nat) (R : Value → Prop) : (bodyQ Tryz.prog E44e noL Tryz.f44 [I op, .slice (some ⟨1, 0, some 1⟩) 4 cap] (vwT c) 2 (fun v _ _ => R v)) = ( bif op == 5 then R (.tuple (.mk [.slice none 0 0, I 1])) else bif op == 11 then R (.tuple (.mk [.slice none 0 0, I 1])) else bif op == 17 then R (.tuple (.mk [.slice none 0 0, I 1])) else bif op == 6 then R (.tuple (.mk [.slice none 0 0, I 1])) else bif op == 7 then R (.tuple (.mk [.slice none 0 0, I 1])) else bif op == 8 then R (.tuple (.mk [.slice none 0 0, I 1])) else bif op == 9 then R (.tuple (.mk [.slice none 0 0, I 1])) else bif op == 10 then R (.tuple (.mk [.slice none 0 0, I 1])) else bif op == 12 then R (.tuple (.mk [.slice none 0 0, I 1])) else bif op == 13 then R (.tuple (.mk [.slice none 0 0, I 1])) else bif op == 14 then R (.tuple (.mk [.slice none 0 0, I 1])) else bif op == 15 then R (.tuple (.mk [.slice none 0 0, I 1])) else bif op == 16 then R (.tuple (.mk [.slice none 0 0, I 1])) else bif op == 18 then R (.tuple (.mk [.slice none 0 0, I 1])) else R (.tuple (.mk [.slice none 0 0, I 1]))) := by kernel_rfl
theorem z45_n (op : Int) (R : Value → Prop) : (bodyQ Tryz.prog E45e noL Tryz.f45 [I op, .slice none 0 0] (fun _ => none) 0 (fun v _ _ => R v)) = ( bif cntO op == 0 || true then bif cntO op == 0 || 0 != cntO op then R (.tuple (.mk [.slice none 0 0, I 1])) else bif op == 18 || true then bif op == 18 && 0 == 2 then False else bif op == 5 then False else bif op == 11 then False else bif op == 17 then False else bif op == 15 then False else bif op == 16 then False else bif op == 14 then False else bif op == 18 then False else False else False else False) := by kernel_rfl
theorem z45_0 (op : Int) (c : List Value) (cap : Nat) (R : Value → Prop) : (bodyQ Tryz.prog E45e noL Tryz.f45 [I op, .slice (some ⟨1, 0, some 1⟩) 0 cap] (vwT c) 2 (fun v _ _ => R v)) = ( bif cntO op == 0 || true then bif cntO op == 0 || 0 != cntO op then R (.tuple (.mk [.slice none 0 0, I 1])) else bif op == 18 || true then bif op == 18 && 0 == 2 then False else bif op == 5 then False else bif op == 11 then False else bif op == 17 then False else bif op == 15 then False else bif op == 16 then False else bif op == 14 then False else bif op == 18 then False else False else False else False) := by kernel_rfl
theorem z45_1 (op : Int) (c : List Value) (cap : Nat) (R : Value → Prop) : (bodyQ Tryz.prog E45e noL Tryz.f45 [I op, .slice (some ⟨1, 0, some 1⟩) 1 cap] (vwT c) 2 (fun v _ _ => R v)) = ( bif cntO op == 0 || true then bif cntO op == 0 || 1 != cntO op then R (.tuple (.mk [.slice none 0 0, I 1])) else bif isIntAt IntKind.i64 c (0 + Int.toNat 0 * 5) && (isIntAt IntKind.i64 c (0 + Int.toNat 0 * 5 + 1) && (isIntAt IntKind.i64 c (0 + Int.toNat 0 * 5 + 1 + 1) && (isBoolAt c (0 + Int.toNat 0 * 5 + 1 + 1 + 1) && (isStrAt c (0 + Int.toNat 0 * 5 + 1 + 1 + 1 + 1) && true)))) then False else False else False) := by kernel_rfl
theorem z45_2 (op : Int) (c : List Value) (cap : Nat) (R : Value → Prop) : (bodyQ Tryz.prog E45e noL Tryz.f45 [I op, .slice (some ⟨1, 0, some 1⟩) 2 cap] (vwT c) 2 (fun v _ _ => R v)) = ( bif cntO op == 0 || true then bif cntO op == 0 || 2 != cntO op then R (.tuple (.mk [.slice none 0 0, I 1])) else bif isIntAt IntKind.i64 c (0 + Int.toNat 0 * 5) && (isIntAt IntKind.i64 c (0 + Int.toNat 0 * 5 + 1) && (isIntAt IntKind.i64 c (0 + Int.toNat 0 * 5 + 1 + 1) && (isBoolAt c (0 + Int.toNat 0 * 5 + 1 + 1 + 1) && (isStrAt c (0 + Int.toNat 0 * 5 + 1 + 1 + 1 + 1) && true)))) then False else False else False) := by kernel_rfl
theorem z45_3 (op : Int) (c : List Value) (cap : Nat) (R : Value → Prop) : (bodyQ Tryz.prog E45e noL Tryz.f45 [I op, .slice (some ⟨1, 0, some 1⟩) 3 cap] (vwT c) 2 (fun v _ _ => R v)) = ( bif cntO op == 0 || true then bif cntO op == 0 || 3 != cntO op then R (.tuple (.mk [.slice none 0 0, I 1])) else bif isIntAt IntKind.i64 c (0 + Int.toNat 0 * 5) && (isIntAt IntKind.i64 c (0 + Int.toNat 0 * 5 + 1) && (isIntAt IntKind.i64 c (0 + Int.toNat 0 * 5 + 1 + 1) && (isBoolAt c (0 + Int.toNat 0 * 5 + 1 + 1 + 1) && (isStrAt c (0 + Int.toNat 0 * 5 + 1 + 1 + 1 + 1) && true)))) then False else False else False) := by kernel_rfl
theorem z45_4 (op : Int) (c : List Value) (cap : Nat) (R : Value → Prop) : (bodyQ Tryz.prog E45e noL Tryz.f45 [I op, .slice (some ⟨1, 0, some 1⟩) 4 cap] (vwT c) 2 (fun v _ _ => R v)) = ( bif cntO op == 0 || true then bif cntO op == 0 || 4 != cntO op then R (.tuple (.mk [.slice none 0 0, I 1])) else bif isIntAt IntKind.i64 c (0 + Int.toNat 0 * 5) && (isIntAt IntKind.i64 c (0 + Int.toNat 0 * 5 + 1) && (isIntAt IntKind.i64 c (0 + Int.toNat 0 * 5 + 1 + 1) && (isBoolAt c (0 + Int.toNat 0 * 5 + 1 + 1 + 1) && (isStrAt c (0 + Int.toNat 0 * 5 + 1 + 1 + 1 + 1) && true)))) then False else False else False) := by kernel_rfl
end Go.Cx
end
noncomputable section
set_option maxHeartbeats 3200000
namespace Go.Cx
open Go Go.Ab Go.Proofs Go.Shelf Go.Px Go.Cv
open Go.Fx (Ty Vl check Valid most base pw bnd Fit fits tv vv tup V0 T0)
instance tabsU4 : Tabs := Cs.tabsC
def isN (t : Ty) : Bool := decide (Valid t) || numT t
def opF (op : Int) (num bts : Bool) (t : Ty) : Ty :=
 if op = 15 ∨ op = 16 ∨ op = 17 then bitT t else if op = 14 ∨ (op = 18 ∧ num = false) then (if bts = true then bitT t else chaT t) else ariT t
def bo2 (u v : Ty) : Ty × Ty := if u.k = v.k then (u, v) else (Fx.binT u, Fx.binT v)
def op2 (op : Int) (a b : Ty) : Int × Ty × Ty :=
 if chk4 a ≠ 0 then (chk4 a, T0, T0) else if chk4 b ≠ 0 then (chk4 b, T0, T0)
 else if op = 18 ∧ a.k = 6 ∧ b.k = 6 then (0, a, b) else if a.k = 6 ∨ b.k = 6 then (5, T0, T0)
 else (0, bo2 (opF op (isN a || isN b) (decide (a.k = 4 ∧ b.k = 4)) a) (opF op (isN a || isN b) (decide (a.k = 4 ∧ b.k = 4)) b))
def op1 (op : Int) (a : Ty) : Int × Ty := if chk4 a ≠ 0 then (chk4 a, T0) else if a.k = 6 then (5, T0) else (0, opF op false false a)
def RO2 (x : Int × Ty × Ty) (v : Value) (l : List (Option Blk)) : Prop :=
 (x.1 ≠ 0 ∧ v = .tuple ⟨[.slice none 0 0, I x.1]⟩) ∨ (x.1 = 0 ∧ ∃ k cap tail, v = .tuple ⟨[.slice (some ⟨k, 0, some 1⟩) 2 cap, I 0]⟩ ∧ l = [some ⟨Fx.tyc x.2.1 ++ (Fx.tyc x.2.2 ++ tail), 23, true⟩] ∧ tailOK tail cap 2 5 = true)
def RO1 (x : Int × Ty) (v : Value) (l : List (Option Blk)) : Prop :=
 (x.1 ≠ 0 ∧ v = .tuple ⟨[.slice none 0 0, I x.1]⟩) ∨ (x.1 = 0 ∧ ∃ k cap tail, v = .tuple ⟨[.slice (some ⟨k, 0, some 1⟩) 1 cap, I 0]⟩ ∧ l = [some ⟨Fx.tyc x.2 ++ tail, 23, true⟩] ∧ tailOK tail cap 1 5 = true)
theorem e0_sz : (ByteArray.mk #[]).size ≤ 9223372036854775807 := by decide
theorem sc_of {t : Ty} (h : chk4 t = 0) (hk : t.k ≠ 6) : scal t = 0 := by unfold scal; rw [if_neg hk]; exact h
theorem e0_nil : (ByteArray.mk #[]).toList = [] := by rw [ByteArray.toList_eq]
theorem v31 : Valid ⟨2, 31, 0, false, ⟨#[]⟩⟩ := ⟨.inr rfl, (by show (1 : Int) ≤ 31; omega), (by show (31 : Int) ≤ most 2; decide), (by show (0 : Int) ≤ 0; omega), (by show (0 : Int) ≤ 31; omega), fun _ => rfl, rfl, e0_nil⟩
theorem v9 : Valid ⟨1, 9, 0, false, ⟨#[]⟩⟩ := ⟨.inl rfl, (by show (1 : Int) ≤ 9; omega), (by show (9 : Int) ≤ most 1; decide), (by show (0 : Int) ≤ 0; omega), (by show (0 : Int) ≤ 9; omega), fun _ => rfl, rfl, e0_nil⟩
theorem ari_v {t : Ty} (h : scal t = 0) : Valid (ariT t) := by
 unfold ariT
 rw [if_neg (by rw [h]; decide)]
 split
 ·assumption
 ·split
  ·rename_i hn
   unfold numT at hn
   rw [Bool.and_eq_true] at hn
   exact pi_valid hn.2
  ·split
   ·exact v31
   ·exact v9
theorem ari_sz {t : Ty} (h : sz63 t) : sz63 (ariT t) := by
 unfold ariT
 repeat' split
 all_goals first | exact h | exact e0_sz
theorem cha_sz {t : Ty} (h : sz63 t) : sz63 (chaT t) := by
 unfold chaT
 repeat' split
 all_goals first | exact h | exact e0_sz
theorem bit_sz {t : Ty} : sz63 (bitT t) := by
 unfold bitT
 split <;> exact e0_sz
theorem cha_k {t : Ty} (h : scal t = 0) : (chaT t).k = 3 := by
 unfold chaT
 rw [if_neg (by rw [h]; decide)]
 split
 ·assumption
 ·rfl
theorem bit_k {t : Ty} (h : scal t = 0) : (bitT t).k = 4 := by
 unfold bitT
 rw [if_neg (by rw [h]; decide)]
theorem bit_self {t : Ty} (h : scal t = 0) (hk : t.k = 4) : bitT t = t := by
 have h0 := h
 unfold scal at h
 rw [if_neg (by omega)] at h
 unfold chk4 at h
 rw [if_neg (fun q => by have := q.1; omega), if_neg (fun q => by have := q.1; omega)] at h
 split at h
 ·rename_i q
  obtain ⟨-, q1, q2, q3, q4, q5⟩ := q
  have hs : t.s = ⟨#[]⟩ := by rw [← sz_bz t.s, q2]; rfl
  unfold bitT bwT numT
  rw [if_neg (by rw [h0]; decide)]
  obtain ⟨k, p, q, v, s⟩ := t
  simp only at hk q1 q3 hs q4 q5
  subst hk q1 q3 hs
  simp
  omega
 ·rw [if_neg (fun q => by have := q.1; omega), if_neg (fun q => by have := q.1; omega)] at h
  cases h
theorem binT_self {t : Ty} (hv : Valid t) (hk : t.k = 2) : Fx.binT t = t := by unfold Fx.binT; rw [if_pos hv, if_pos hk]
theorem clA {a : Ty} (h : sz63 a) : (Ty.k a == 6 || (decide (Valid a) || bif Ty.k a == 5 then decide (ByteArray.size (Ty.s a) ≤ 9223372036854775807) && true else true) && (decide (Valid a) || Ty.k a == 5 && pN (bz (Ty.s a)) || (Ty.k a == 4 || true))) = true := by
 have h : a.s.size ≤ 9223372036854775807 := h
 rw [decide_eq_true h]
 cases (a.k == 5) <;> simp
theorem pc_eq (x y : Bool) : (bif y then IntKind.wrap IntKind.i64 ((bif x then (1 : Int) else 0) + 1) else bif x then (1 : Int) else 0) = (bif x then (1 : Int) else 0) + (bif y then (1 : Int) else 0) := by
 cases x <;> cases y <;> rfl
theorem len_ok {tail : List Value} {cap : Nat} (h : tailOK tail cap 1 5 = true) (v1 v2 v3 v4 v5 : Value) :
  (Nat.beq (List.length (v1 :: v2 :: v3 :: v4 :: v5 :: tail)) (cap * 5) && Nat.ble 1 cap && Nat.ble cap 9223372036854775807 && true && true) = true := by
 unfold tailOK at h
 simp only [Bool.and_eq_true] at h
 have h1 := Nat.eq_of_beq_eq_true h.1.1.2
 have e : List.length (v1 :: v2 :: v3 :: v4 :: v5 :: tail) = cap * 5 := by simp only [List.length_cons]; omega
 rw [e, h.1.2, h.2, Nat.beq_refl]
 rfl
theorem t44_ok {u v : Ty} (hu : sz63 u) (hv : sz63 v) (hk : (Valid u ∧ Valid v) ∨ (u.k = v.k ∧ u.k ≠ 2)) (k : Nat) : t44 u v k (RO2 (0, bo2 u v)) := by
 unfold t44
 intro cap tail ht
 rw [pc_eq]
 by_cases he : u.k = v.k
 ·have hb : ((bif u.k == 2 then (1 : Int) else 0) + (bif v.k == 2 then (1 : Int) else 0) == 1) = false := by
   rw [← he]; cases (u.k == 2) <;> rfl
  rw [hb]
  refine c_t rfl (c_f rfl (c_t rfl (c_f rfl (.inr ⟨rfl, k, cap, tail, rfl, ?_, ht⟩))))
  unfold bo2
  rw [if_pos he]
  rfl
 ·rcases hk with ⟨v1, v2⟩ | hk
  ·have hne : bo2 u v = (Fx.binT u, Fx.binT v) := if_neg he
   rw [hne]
   rcases v1.1 with k1 | k1 <;> rcases v2.1 with k2 | k2
   ·exact absurd (k1.trans k2.symm) he
   ·rw [k1, k2]
    refine c_t (by simp) (c_t (by simp [v1]) (c_t (decide_eq_true hu) fun w hw => c_t (by simp) (c_f (by simp) (.inr ⟨rfl, k, cap, tail, rfl, ?_, ht⟩))))
    have hw : Fx.binT u = w := by rw [← hw]; obtain ⟨a, b, c, d, e⟩ := u; simp only at k1; subst k1; rfl
    subst hw
    rw [binT_self v2 k2]
    show [some (Blk.mk (I (Fx.binT u).k :: I (Fx.binT u).p :: I (Fx.binT u).q :: B (Fx.binT u).v :: S (Fx.binT u).s :: I 2 :: I v.p :: I v.q :: B v.v :: S v.s :: tail) 23 true)] = _
    rw [← k2]
    rfl
   ·rw [k1, k2]
    refine c_t (by simp) (c_f (by simp) (c_t (by simp) (c_t (by simp [v2]) (c_t (decide_eq_true hv) fun w hw => .inr ⟨rfl, k, cap, tail, rfl, ?_, ht⟩))))
    have hw : Fx.binT v = w := by rw [← hw]; obtain ⟨a, b, c, d, e⟩ := v; simp only at k2; subst k2; rfl
    subst hw
    rw [binT_self v1 k1]
    show [some (Blk.mk (I 2 :: I u.p :: I u.q :: B u.v :: S u.s :: I (Fx.binT v).k :: I (Fx.binT v).p :: I (Fx.binT v).q :: B (Fx.binT v).v :: S (Fx.binT v).s :: tail) 23 true)] = _
    rw [← k1]
    rfl
   ·exact absurd (k1.trans k2.symm) he
  ·exact absurd hk.1 he
def m44 (f : Ty → Ty) (a b : Ty) (N : Nat) (R : Value → List (Option Blk) → Prop) : Prop :=
 bif decide (sz63 a) then ∀ (u : Ty), f (Ty.mk (Ty.k a) (Ty.p a) (Ty.q a) (Ty.v a) (Ty.s a)) = u → bif Ty.k u == 2 || true then ∀ (cap : Nat) (tail : List Value), tailOK tail cap 1 5 = true →
  bif decide (sz63 b) then ∀ (u_1 : Ty), f (Ty.mk (Ty.k b) (Ty.p b) (Ty.q b) (Ty.v b) (Ty.s b)) = u_1 → bif Ty.k u_1 == 2 || true then
   bif Nat.beq (List.length (Value.int IntKind.i64 (Ty.k u) :: Value.int IntKind.i64 (Ty.p u) :: Value.int IntKind.i64 (Ty.q u) :: Value.bool (Ty.v u) :: Value.string (Ty.s u) :: tail)) (cap * 5) && Nat.ble 1 cap && Nat.ble cap 9223372036854775807 && true && true then t44 u u_1 N R else False else False else False else False else False
theorem m44_ok {f : Ty → Ty} {a b : Ty} {N : Nat} {R : Value → List (Option Blk) → Prop} (ha : sz63 a) (hb : sz63 b) (h : t44 (f a) (f b) N R) : m44 f a b N R := by
 unfold m44
 refine c_t (decide_eq_true ha) fun u hu => c_t (Bool.or_true _) fun cap tail ht => c_t (decide_eq_true hb) fun w hw => c_t (Bool.or_true _) (c_t (len_ok ht _ _ _ _ _) ?_)
 have hu : f a = u := hu
 have hw : f b = w := hw
 subst hu hw
 exact h
theorem head2 {sa sb ok1 ok2 : Bool} {ea eb : Bool} {E1 E2 X : Prop} (h1 : sa = true) (h2 : ok1 = true) (h3 : sb = true) (h4 : ok2 = true) (g1 : ea = true → E1) (g2 : ea = false → eb = true → E2) (g3 : ea = false → eb = false → X) :
  bif sa then bif ea then E1 else bif ok1 then bif sb then bif eb then E2 else bif ok2 then X else False else False else False else False := by
 rw [h1, h2, h3, h4]
 cases ea
 ·cases eb
  ·exact g3 rfl rfl
  ·exact g2 rfl rfl
 ·exact g1 rfl
theorem ro_e1 {op : Int} {a b : Ty} {l : List (Option Blk)} (h : (chk4 a != 0) = true) : RO2 (op2 op a b) (.tuple ⟨[.slice none 0 0, .int .i64 (chk4 a)]⟩) l := by
 have h : chk4 a ≠ 0 := by simpa using h
 unfold op2
 rw [if_pos h]
 exact .inl ⟨h, rfl⟩
theorem ro_e2 {op : Int} {a b : Ty} {l : List (Option Blk)} (h0 : (chk4 a != 0) = false) (h : (chk4 b != 0) = true) : RO2 (op2 op a b) (.tuple ⟨[.slice none 0 0, .int .i64 (chk4 b)]⟩) l := by
 have h0 : chk4 a = 0 := by simpa using h0
 have h : chk4 b ≠ 0 := by simpa using h
 unfold op2
 rw [if_neg (by omega), if_pos h]
 exact .inl ⟨h, rfl⟩
theorem ro_p {op : Int} {a b : Ty} {l : List (Option Blk)} (h0 : (chk4 a != 0) = false) (h1 : (chk4 b != 0) = false) (h : a.k = 6 ∨ b.k = 6) (hn : ¬ (op = 18 ∧ a.k = 6 ∧ b.k = 6)) : RO2 (op2 op a b) (.tuple ⟨[.slice none 0 0, .int .i64 5]⟩) l := by
 have h0 : chk4 a = 0 := by simpa using h0
 have h1 : chk4 b = 0 := by simpa using h1
 unfold op2
 rw [if_neg (by omega), if_neg (by omega), if_neg hn, if_pos h]
 exact .inl ⟨by decide, rfl⟩
theorem op2_f {op : Int} {a b : Ty} (h0 : (chk4 a != 0) = false) (h1 : (chk4 b != 0) = false) (h : ¬ (a.k = 6 ∨ b.k = 6)) :
  op2 op a b = (0, bo2 (opF op (isN a || isN b) (decide (a.k = 4 ∧ b.k = 4)) a) (opF op (isN a || isN b) (decide (a.k = 4 ∧ b.k = 4)) b)) ∧ scal a = 0 ∧ scal b = 0 := by
 have h0 : chk4 a = 0 := by simpa using h0
 have h1 : chk4 b = 0 := by simpa using h1
 refine ⟨?_, sc_of h0 (by omega), sc_of h1 (by omega)⟩
 unfold op2
 rw [if_neg (by omega), if_neg (by omega), if_neg (by omega), if_neg h]
theorem pgt {a b : Ty} : decide (((bif a.k == 6 then (1 : Int) else 0) + (bif b.k == 6 then (1 : Int) else 0)) > 0) = decide (a.k = 6 ∨ b.k = 6) := by
 have e : ∀ x : Int, (x == 6) = decide (x = 6) := fun _ => rfl
 rw [decide_eq_decide, e, e]
 by_cases h1 : a.k = 6 <;> by_cases h2 : b.k = 6 <;> simp [h1, h2]
abbrev MR (a b : Ty) (rest : List Value) : Lk := vwT ([I a.k, I a.p, I a.q, B a.v, S a.s, I b.k, I b.p, I b.q, B b.v, S b.s] ++ rest)
section
variable {op : Int} {a b : Ty} (rest : List Value) (cap : Nat)
theorem y44_6 (ho : op = 6 ∨ op = 7 ∨ op = 8 ∨ op = 9 ∨ op = 10 ∨ op = 12 ∨ op = 13) (ha : sz63 a) (hb : sz63 b) :
  bodyQ Tryz.prog E44 (jV [6, 7, 8, 9, 13, 15]) Tryz.f44 [I op, .slice (some ⟨1, 0, some 1⟩) 2 cap] (MR a b rest) 2 (fun v m' _ => RO2 (op2 op a b) v (lookT m' v)) := by
 have hx := x44_6 ho a b rest cap (RO2 (op2 op a b))
 rw [MR, hx]
 refine head2 (decide_eq_true ha) (clA ha) (decide_eq_true hb) (clA hb) ro_e1 ro_e2 fun g1 g2 => ?_
 rw [pc_eq, pgt]
 refine cond_intro (fun h => ro_p g1 g2 (of_decide_eq_true h) (by omega)) (fun h => ?_)
 obtain ⟨e, s1, s2⟩ := op2_f (op := op) g1 g2 (of_decide_eq_false h)
 have f : ∀ t, opF op (isN a || isN b) (decide (a.k = 4 ∧ b.k = 4)) t = ariT t := fun t => by unfold opF; rw [if_neg (by omega), if_neg (by omega)]
 rw [f, f] at e
 rw [e]
 exact m44_ok ha hb (t44_ok (ari_sz ha) (ari_sz hb) (.inl ⟨ari_v s1, ari_v s2⟩) _)
theorem y44_15 (ho : op = 15 ∨ op = 16) (ha : sz63 a) (hb : sz63 b) :
  bodyQ Tryz.prog E44 (jV [6, 7, 8, 9, 13, 15]) Tryz.f44 [I op, .slice (some ⟨1, 0, some 1⟩) 2 cap] (MR a b rest) 2 (fun v m' _ => RO2 (op2 op a b) v (lookT m' v)) := by
 have hx := x44_15 ho a b rest cap (RO2 (op2 op a b))
 rw [MR, hx]
 refine head2 (decide_eq_true ha) (clA ha) (decide_eq_true hb) (clA hb) ro_e1 ro_e2 fun g1 g2 => ?_
 rw [pc_eq, pgt]
 refine cond_intro (fun h => ro_p g1 g2 (of_decide_eq_true h) (by omega)) (fun h => ?_)
 obtain ⟨e, s1, s2⟩ := op2_f (op := op) g1 g2 (of_decide_eq_false h)
 have f : ∀ t, opF op (isN a || isN b) (decide (a.k = 4 ∧ b.k = 4)) t = bitT t := fun t => by unfold opF; rw [if_pos (by omega)]
 rw [f, f] at e
 rw [e]
 have k1 := bit_k s1
 have k2 := bit_k s2
 exact m44_ok ha hb (t44_ok bit_sz bit_sz (.inr ⟨k1.trans k2.symm, by omega⟩) _)
theorem nk4 {t : Ty} : (t.k == 4) = true → (decide (Valid t) || t.k == 5 && pN (bz t.s)) = false := fun h => by
 have h : t.k = 4 := by simpa using h
 rw [decide_eq_false (fun q : Valid t => by have := q.1; omega), h]
 rfl
theorem st_eq {na a4 nb b4 : Bool} (h1 : a4 = true → na = false) (h2 : b4 = true → nb = false) :
  ((bif nb then bif na then (0 : Int) else bif a4 then (1 : Int) else 0 else bif b4 then IntKind.wrap IntKind.i64 ((bif na then (0 : Int) else bif a4 then (1 : Int) else 0) + 1) else bif na then (0 : Int) else bif a4 then (1 : Int) else 0) == 2) = (a4 && b4) := by
 cases a4
 ·cases na <;> cases nb <;> cases b4 <;> first | rfl | (have := h2 rfl; cases this)
 ·have := h1 rfl
  subst this
  cases nb <;> cases b4 <;> first | rfl | (have := h2 rfl; cases this)
theorem np {t : Ty} (h : t.k ≠ 6) : (t.k == 6) = false := by simpa using h
theorem pc2 {a b : Ty} : (((bif a.k == 6 then (1 : Int) else 0) + (bif b.k == 6 then (1 : Int) else 0)) == 2) = decide (a.k = 6 ∧ b.k = 6) := by
 have e : ∀ x : Int, (x == 6) = decide (x = 6) := fun _ => rfl
 rw [e, e]
 by_cases h1 : a.k = 6 <;> by_cases h2 : b.k = 6 <;> simp [h1, h2]
theorem k44 {a b : Ty} : (a.k == 4 && b.k == 4) = decide (a.k = 4 ∧ b.k = 4) := by
 have e : ∀ x : Int, (x == 4) = decide (x = 4) := fun _ => rfl
 rw [e, e]
 by_cases h1 : a.k = 4 <;> by_cases h2 : b.k = 4 <;> simp [h1, h2]
theorem y44_14 (ha : sz63 a) (hb : sz63 b) :
  bodyQ Tryz.prog E44 (jV [6, 7, 8, 9, 13, 15]) Tryz.f44 [I 14, .slice (some ⟨1, 0, some 1⟩) 2 cap] (MR a b rest) 2 (fun v m' _ => RO2 (op2 14 a b) v (lookT m' v)) := by
 have hx := x44_14 a b rest cap (RO2 (op2 14 a b))
 rw [MR, hx]
 refine head2 (decide_eq_true ha) (clA ha) (decide_eq_true hb) (clA hb) ro_e1 ro_e2 fun g1 g2 => ?_
 rw [pc_eq, pgt]
 refine cond_intro (fun h => ro_p g1 g2 (of_decide_eq_true h) (by omega)) (fun h => ?_)
 have h := of_decide_eq_false h
 obtain ⟨e, s1, s2⟩ := op2_f (op := 14) g1 g2 h
 rw [np (show a.k ≠ 6 from fun q => h (.inl q)), np (show b.k ≠ 6 from fun q => h (.inr q))]
 simp only [cond_false]
 rw [st_eq nk4 nk4, k44]
 refine cond_intro (fun hq => ?_) (fun hq => ?_)
 ·have f : ∀ t, opF 14 (isN a || isN b) (decide (a.k = 4 ∧ b.k = 4)) t = bitT t := fun t => by unfold opF; rw [if_neg (by omega), if_pos (.inl rfl), if_pos hq]
  rw [f, f] at e
  rw [e]
  have k1 := bit_k s1
  have k2 := bit_k s2
  exact m44_ok ha hb (t44_ok bit_sz bit_sz (.inr ⟨k1.trans k2.symm, by omega⟩) _)
 ·have f : ∀ t, opF 14 (isN a || isN b) (decide (a.k = 4 ∧ b.k = 4)) t = chaT t := fun t => by unfold opF; rw [if_neg (by omega), if_pos (.inl rfl), if_neg (by rw [hq]; decide)]
  rw [f, f] at e
  rw [e]
  have k1 := cha_k s1
  have k2 := cha_k s2
  exact m44_ok ha hb (t44_ok (cha_sz ha) (cha_sz hb) (.inr ⟨k1.trans k2.symm, by omega⟩) _)
theorem y44_18 (ha : sz63 a) (hb : sz63 b) :
  bodyQ Tryz.prog E44 (jV [6, 7, 8, 9, 13, 15]) Tryz.f44 [I 18, .slice (some ⟨1, 0, some 1⟩) 2 cap] (MR a b rest) 2 (fun v m' _ => RO2 (op2 18 a b) v (lookT m' v)) := by
 have hx := x44_18 a b rest cap (RO2 (op2 18 a b))
 rw [MR, hx]
 refine head2 (decide_eq_true ha) (clA ha) (decide_eq_true hb) (clA hb) ro_e1 ro_e2 fun g1 g2 => ?_
 rw [pc_eq, pc2, pgt]
 refine cond_intro (fun h => ?_) (fun h => ?_)
 ·have h : a.k = 6 ∧ b.k = 6 := by simpa using h
  intro cap tail ht
  have c1 : chk4 a = 0 := by simpa using g1
  have c2 : chk4 b = 0 := by simpa using g2
  have e : op2 18 a b = (0, a, b) := by unfold op2; rw [if_neg (by omega), if_neg (by omega), if_pos ⟨rfl, h⟩]
  rw [e]
  exact .inr ⟨rfl, _, cap, tail, rfl, rfl, ht⟩
 have hno : ¬ (a.k = 6 ∧ b.k = 6) := by simpa using h
 refine cond_intro (fun h => ro_p g1 g2 (of_decide_eq_true h) (fun q => hno q.2)) (fun h => ?_)
 have h := of_decide_eq_false h
 obtain ⟨e, s1, s2⟩ := op2_f (op := 18) g1 g2 h
 rw [np (show a.k ≠ 6 from fun q => h (.inl q)), np (show b.k ≠ 6 from fun q => h (.inr q))]
 simp only [cond_false]
 rw [st_eq nk4 nk4, k44]
 refine cond_intro (fun hn => ?_) (fun hn => ?_)
 ·have hn : (isN a || isN b) = false := by
   have hn2 : (decide (Valid b) || b.k == 5 && pN (bz b.s) || (decide (Valid a) || a.k == 5 && pN (bz a.s)) && true) = false := (Bool.not_eq_true' _).mp hn
   unfold isN numT
   rw [Bool.or_eq_false_iff] at hn2 ⊢
   exact ⟨by simpa using hn2.2, hn2.1⟩
  refine cond_intro (fun hq => ?_) (fun hq => ?_)
  ·have f : ∀ t, opF 18 (isN a || isN b) (decide (a.k = 4 ∧ b.k = 4)) t = bitT t := fun t => by unfold opF; rw [if_neg (by omega), if_pos (.inr ⟨rfl, hn⟩), if_pos hq]
   rw [f, f] at e
   rw [e]
   have k1 := bit_k s1
   have k2 := bit_k s2
   exact m44_ok ha hb (t44_ok bit_sz bit_sz (.inr ⟨k1.trans k2.symm, by omega⟩) _)
  ·have f : ∀ t, opF 18 (isN a || isN b) (decide (a.k = 4 ∧ b.k = 4)) t = chaT t := fun t => by unfold opF; rw [if_neg (by omega), if_pos (.inr ⟨rfl, hn⟩), if_neg (by rw [hq]; decide)]
   rw [f, f] at e
   rw [e]
   have k1 := cha_k s1
   have k2 := cha_k s2
   exact m44_ok ha hb (t44_ok (cha_sz ha) (cha_sz hb) (.inr ⟨k1.trans k2.symm, by omega⟩) _)
 ·have hn : (isN a || isN b) ≠ false := by
   intro q
   have hn2 : (decide (Valid b) || b.k == 5 && pN (bz b.s) || (decide (Valid a) || a.k == 5 && pN (bz a.s)) && true) = false := by
    unfold isN numT at q
    rw [Bool.or_eq_false_iff] at q
    rw [q.1, q.2]; rfl
   rw [hn2] at hn
   cases hn
  have f : ∀ t, opF 18 (isN a || isN b) (decide (a.k = 4 ∧ b.k = 4)) t = ariT t := fun t => by unfold opF; rw [if_neg (by omega), if_neg (by rintro (q | q); exact absurd q (by decide); exact hn q.2)]
  rw [f, f] at e
  rw [e]
  exact m44_ok ha hb (t44_ok (ari_sz ha) (ari_sz hb) (.inl ⟨ari_v s1, ari_v s2⟩) _)
end
end Go.Cx
end
noncomputable section
set_option maxHeartbeats 3200000
namespace Go.Cx
open Go Go.Ab Go.Proofs Go.Shelf Go.Px Go.Cv
open Go.Fx (Ty Vl check Valid most base pw bnd Fit fits tv vv tup V0 T0)
instance tabsU5 : Tabs := Cs.tabsC
theorem tl0 : tailOK [] 2 2 5 = true := by rfl
theorem tl1 : tailOK [] 1 1 5 = true := by rfl
section
variable {op : Int} {a b : Ty} (rest : List Value) (cap : Nat)
theorem y45_6 (ho : op = 6 ∨ op = 7 ∨ op = 8 ∨ op = 9 ∨ op = 10 ∨ op = 12 ∨ op = 13) (ha : sz63 a) (hb : sz63 b) :
  bodyQ Tryz.prog E45_120 (jV [6]) Tryz.f45 [I op, .slice (some ⟨1, 0, some 1⟩) 2 cap] (MR a b rest) 2 (fun v m' _ => RO2 (op2 op a b) v (lookT m' v)) := by
 have hx := x45_6 ho a b rest cap (RO2 (op2 op a b))
 rw [MR, hx]
 refine head2 (decide_eq_true ha) (Bool.or_true _) (decide_eq_true hb) (Bool.or_true _) ro_e1 ro_e2 fun g1 g2 => ?_
 rw [pc_eq, pgt]
 refine cond_intro (fun h => ro_p g1 g2 (of_decide_eq_true h) (by omega)) (fun h => ?_)
 obtain ⟨e, s1, s2⟩ := op2_f (op := op) g1 g2 (of_decide_eq_false h)
 have f : ∀ t, opF op (isN a || isN b) (decide (a.k = 4 ∧ b.k = 4)) t = ariT t := fun t => by unfold opF; rw [if_neg (by omega), if_neg (by omega)]
 rw [f, f] at e
 rw [e]
 refine c_t (decide_eq_true ha) fun u hu => c_t (decide_eq_true hb) fun w hw => ?_
 have hu : ariT a = u := hu
 have hw : ariT b = w := hw
 rw [hu, hw]
 have zu : sz63 u := hu ▸ ari_sz ha
 have zw : sz63 w := hw ▸ ari_sz hb
 refine cond_intro (fun h => ?_) (fun h => c_t (decide_eq_true zu) fun u2 h2 => c_t (decide_eq_true zw) fun w2 h3 => ?_)
 ·have h : u.k = w.k := by simpa using h
  rw [show bo2 u w = (u, w) from if_pos h]
  exact .inr ⟨rfl, _, 2, [], rfl, rfl, tl0⟩
 ·have h : u.k ≠ w.k := by simpa using h
  rw [show bo2 u w = (Fx.binT u, Fx.binT w) from if_neg h]
  subst h2 h3
  exact .inr ⟨rfl, _, 2, [], rfl, rfl, tl0⟩
theorem y45_15 (ho : op = 15 ∨ op = 16) (ha : sz63 a) (hb : sz63 b) :
  bodyQ Tryz.prog E45_120 (jV [6]) Tryz.f45 [I op, .slice (some ⟨1, 0, some 1⟩) 2 cap] (MR a b rest) 2 (fun v m' _ => RO2 (op2 op a b) v (lookT m' v)) := by
 have hx := x45_15 ho a b rest cap (RO2 (op2 op a b))
 rw [MR, hx]
 refine head2 (decide_eq_true ha) (Bool.or_true _) (decide_eq_true hb) (Bool.or_true _) ro_e1 ro_e2 fun g1 g2 => ?_
 rw [pc_eq, pgt]
 refine cond_intro (fun h => ro_p g1 g2 (of_decide_eq_true h) (by omega)) (fun h => ?_)
 obtain ⟨e, s1, s2⟩ := op2_f (op := op) g1 g2 (of_decide_eq_false h)
 have f : ∀ t, opF op (isN a || isN b) (decide (a.k = 4 ∧ b.k = 4)) t = bitT t := fun t => by unfold opF; rw [if_pos (by omega)]
 rw [f, f] at e
 rw [e]
 refine c_t (decide_eq_true ha) fun u hu => c_t (decide_eq_true hb) fun w hw => ?_
 have hu : bitT a = u := hu
 have hw : bitT b = w := hw
 have h : u.k = w.k := by rw [← hu, ← hw, bit_k s1, bit_k s2]
 rw [hu, hw, show bo2 u w = (u, w) from if_pos h]
 exact .inr ⟨rfl, _, 2, [], rfl, rfl, tl0⟩
theorem y45_14 (ha : sz63 a) (hb : sz63 b) :
  bodyQ Tryz.prog E45_120 (jV [6]) Tryz.f45 [I 14, .slice (some ⟨1, 0, some 1⟩) 2 cap] (MR a b rest) 2 (fun v m' _ => RO2 (op2 14 a b) v (lookT m' v)) := by
 have hx := x45_14 a b rest cap (RO2 (op2 14 a b))
 rw [MR, hx]
 refine head2 (decide_eq_true ha) (Bool.or_true _) (decide_eq_true hb) (Bool.or_true _) ro_e1 ro_e2 fun g1 g2 => ?_
 rw [pc_eq, pgt]
 refine cond_intro (fun h => ro_p g1 g2 (of_decide_eq_true h) (by omega)) (fun h => ?_)
 obtain ⟨e, s1, s2⟩ := op2_f (op := 14) g1 g2 (of_decide_eq_false h)
 refine c_t (Bool.or_true _) ?_
 rw [k44]
 refine cond_intro (fun hq => ?_) (fun hq => ?_)
 ·have f : ∀ t, opF 14 (isN a || isN b) (decide (a.k = 4 ∧ b.k = 4)) t = bitT t := fun t => by unfold opF; rw [if_neg (by omega), if_pos (.inl rfl), if_pos hq]
  have hq := of_decide_eq_true hq
  rw [f, f, bit_self s1 hq.1, bit_self s2 hq.2] at e
  rw [e, show bo2 a b = (a, b) from if_pos (hq.1.trans hq.2.symm)]
  exact .inr ⟨rfl, _, 2, [], rfl, rfl, tl0⟩
 ·have f : ∀ t, opF 14 (isN a || isN b) (decide (a.k = 4 ∧ b.k = 4)) t = chaT t := fun t => by unfold opF; rw [if_neg (by omega), if_pos (.inl rfl), if_neg (by rw [hq]; decide)]
  rw [f, f] at e
  rw [e]
  refine c_t (decide_eq_true ha) fun u hu => c_t (decide_eq_true hb) fun w hw => ?_
  have hu : chaT a = u := hu
  have hw : chaT b = w := hw
  have h : u.k = w.k := by rw [← hu, ← hw, cha_k s1, cha_k s2]
  rw [hu, hw, show bo2 u w = (u, w) from if_pos h]
  exact .inr ⟨rfl, _, 2, [], rfl, rfl, tl0⟩
theorem y45_18 (ha : sz63 a) (hb : sz63 b) :
  bodyQ Tryz.prog E45_120 (jV [6]) Tryz.f45 [I 18, .slice (some ⟨1, 0, some 1⟩) 2 cap] (MR a b rest) 2 (fun v m' _ => RO2 (op2 18 a b) v (lookT m' v)) := by
 have hx := x45_18 a b rest cap (RO2 (op2 18 a b))
 rw [MR, hx]
 refine head2 (decide_eq_true ha) (Bool.or_true _) (decide_eq_true hb) (Bool.or_true _) ro_e1 ro_e2 fun g1 g2 => ?_
 rw [pc_eq, pc2, pgt]
 refine cond_intro (fun h => ?_) (fun h => ?_)
 ·have h : a.k = 6 ∧ b.k = 6 := by simpa using h
  have c1 : chk4 a = 0 := by simpa using g1
  have c2 : chk4 b = 0 := by simpa using g2
  have e : op2 18 a b = (0, a, b) := by unfold op2; rw [if_neg (by omega), if_neg (by omega), if_pos ⟨rfl, h⟩]
  rw [e]
  exact .inr ⟨rfl, _, 2, [], rfl, rfl, tl0⟩
 have hno : ¬ (a.k = 6 ∧ b.k = 6) := by simpa using h
 refine cond_intro (fun h => ro_p g1 g2 (of_decide_eq_true h) (fun q => hno q.2)) (fun h => ?_)
 have h := of_decide_eq_false h
 obtain ⟨e, s1, s2⟩ := op2_f (op := 18) g1 g2 h
 refine c_t (by rw [decide_eq_true ha, decide_eq_true hb]; cases decide (Valid a) <;> cases numT a <;> cases decide (Valid b) <;> rfl) ?_
 refine cond_intro (fun hn => ?_) (fun hn => ?_)
 ·have hn : (isN a || isN b) = false := by
   unfold isN
   revert hn
   cases decide (Valid a) <;> cases numT a <;> cases decide (Valid b) <;> cases numT b <;> simp
  refine c_t (Bool.or_true _) ?_
  rw [k44]
  refine cond_intro (fun hq => ?_) (fun hq => ?_)
  ·have f : ∀ t, opF 18 (isN a || isN b) (decide (a.k = 4 ∧ b.k = 4)) t = bitT t := fun t => by unfold opF; rw [if_neg (by omega), if_pos (.inr ⟨rfl, hn⟩), if_pos hq]
   have hq := of_decide_eq_true hq
   rw [f, f, bit_self s1 hq.1, bit_self s2 hq.2] at e
   rw [e, show bo2 a b = (a, b) from if_pos (hq.1.trans hq.2.symm)]
   exact .inr ⟨rfl, _, 2, [], rfl, rfl, tl0⟩
  ·have f : ∀ t, opF 18 (isN a || isN b) (decide (a.k = 4 ∧ b.k = 4)) t = chaT t := fun t => by unfold opF; rw [if_neg (by omega), if_pos (.inr ⟨rfl, hn⟩), if_neg (by rw [hq]; decide)]
   rw [f, f] at e
   rw [e]
   refine c_t (decide_eq_true ha) fun u hu => c_t (decide_eq_true hb) fun w hw => ?_
   have hu : chaT a = u := hu
   have hw : chaT b = w := hw
   have h : u.k = w.k := by rw [← hu, ← hw, cha_k s1, cha_k s2]
   rw [hu, hw, show bo2 u w = (u, w) from if_pos h]
   exact .inr ⟨rfl, _, 2, [], rfl, rfl, tl0⟩
 ·have hn : (isN a || isN b) ≠ false := by
   unfold isN
   revert hn
   cases decide (Valid a) <;> cases numT a <;> cases decide (Valid b) <;> cases numT b <;> simp
  have f : ∀ t, opF 18 (isN a || isN b) (decide (a.k = 4 ∧ b.k = 4)) t = ariT t := fun t => by unfold opF; rw [if_neg (by omega), if_neg (by rintro (q | q); exact absurd q (by decide); exact hn q.2)]
  rw [f, f] at e
  rw [e]
  refine c_t (decide_eq_true ha) fun u hu => c_t (decide_eq_true hb) fun w hw => ?_
  have hu : ariT a = u := hu
  have hw : ariT b = w := hw
  rw [hu, hw]
  have zu : sz63 u := hu ▸ ari_sz ha
  have zw : sz63 w := hw ▸ ari_sz hb
  refine cond_intro (fun h => ?_) (fun h => c_t (decide_eq_true zu) fun u2 h2 => c_t (decide_eq_true zw) fun w2 h3 => ?_)
  ·have h : u.k = w.k := by simpa using h
   rw [show bo2 u w = (u, w) from if_pos h]
   exact .inr ⟨rfl, _, 2, [], rfl, rfl, tl0⟩
  ·have h : u.k ≠ w.k := by simpa using h
   rw [show bo2 u w = (Fx.binT u, Fx.binT w) from if_neg h]
   subst h2 h3
   exact .inr ⟨rfl, _, 2, [], rfl, rfl, tl0⟩
theorem op1_e {l : List (Option Blk)} (h : (chk4 a != 0) = true) : RO1 (op1 op a) (.tuple ⟨[.slice none 0 0, .int .i64 (chk4 a)]⟩) l := by
 have h : chk4 a ≠ 0 := by simpa using h
 unfold op1
 rw [if_pos h]
 exact .inl ⟨h, rfl⟩
theorem op1_p {l : List (Option Blk)} (h0 : (chk4 a != 0) = false) (h : a.k = 6) : RO1 (op1 op a) (.tuple ⟨[.slice none 0 0, .int .i64 5]⟩) l := by
 have h0 : chk4 a = 0 := by simpa using h0
 unfold op1
 rw [if_neg (by omega), if_pos h]
 exact .inl ⟨by decide, rfl⟩
theorem op1_f (h0 : (chk4 a != 0) = false) (h : a.k ≠ 6) : op1 op a = (0, opF op false false a) ∧ scal a = 0 := by
 have h0 : chk4 a = 0 := by simpa using h0
 refine ⟨?_, sc_of h0 h⟩
 unfold op1
 rw [if_neg (by omega), if_neg h]
theorem p1 : decide ((bif a.k == 6 then (1 : Int) else 0) > 0) = decide (a.k = 6) := by
 have e : ∀ x : Int, (x == 6) = decide (x = 6) := fun _ => rfl
 rw [decide_eq_decide, e]
 by_cases h1 : a.k = 6 <;> simp [h1]
abbrev MR1 (a : Ty) (rest : List Value) : Lk := vwT ([I a.k, I a.p, I a.q, B a.v, S a.s] ++ rest)
theorem head1 {sa ok1 ea : Bool} {E1 X : Prop} (h1 : sa = true) (h2 : ok1 = true) (g1 : ea = true → E1) (g3 : ea = false → X) : bif sa then bif ea then E1 else bif ok1 then X else False else False := by
 rw [h1, h2]
 cases ea
 ·exact g3 rfl
 ·exact g1 rfl
theorem y44_5 (ho : op = 5 ∨ op = 11) (ha : sz63 a) :
  bodyQ Tryz.prog E44 (jV [6, 7, 8, 9, 13, 15]) Tryz.f44 [I op, .slice (some ⟨1, 0, some 1⟩) 1 cap] (MR1 a rest) 2 (fun v m' _ => RO1 (op1 op a) v (lookT m' v)) := by
 have hx := x44_5 ho a rest cap (RO1 (op1 op a))
 rw [MR1, hx]
 refine head1 (decide_eq_true ha) (clA ha) op1_e fun g1 => ?_
 rw [p1]
 refine cond_intro (fun h => op1_p g1 (of_decide_eq_true h)) (fun h => ?_)
 obtain ⟨e, s1⟩ := op1_f (op := op) g1 (of_decide_eq_false h)
 have f : opF op false false a = ariT a := by unfold opF; rw [if_neg (by omega), if_neg (by omega)]
 rw [e, f]
 refine c_t (decide_eq_true ha) fun u hu => c_t (Bool.or_true _) fun cp tail ht => c_t (Bool.or_true _) (c_f (Bool.and_false _) (.inr ⟨rfl, _, cp, tail, rfl, ?_, ht⟩))
 have hu : ariT a = u := hu
 rw [hu]
 rfl
theorem y44_17 (ha : sz63 a) :
  bodyQ Tryz.prog E44 (jV [6, 7, 8, 9, 13, 15]) Tryz.f44 [I 17, .slice (some ⟨1, 0, some 1⟩) 1 cap] (MR1 a rest) 2 (fun v m' _ => RO1 (op1 17 a) v (lookT m' v)) := by
 have hx := x44_17 a rest cap (RO1 (op1 17 a))
 rw [MR1, hx]
 refine head1 (decide_eq_true ha) (clA ha) op1_e fun g1 => ?_
 rw [p1]
 refine cond_intro (fun h => op1_p g1 (of_decide_eq_true h)) (fun h => ?_)
 obtain ⟨e, s1⟩ := op1_f (op := 17) g1 (of_decide_eq_false h)
 have f : opF 17 false false a = bitT a := by unfold opF; rw [if_pos (by omega)]
 rw [e, f]
 refine c_t (decide_eq_true ha) fun u hu => c_t (Bool.or_true _) fun cp tail ht => c_t (Bool.or_true _) (c_f (Bool.and_false _) (.inr ⟨rfl, _, cp, tail, rfl, ?_, ht⟩))
 have hu : bitT a = u := hu
 rw [hu]
 rfl
theorem y45_5 (ho : op = 5 ∨ op = 11) (ha : sz63 a) :
  bodyQ Tryz.prog E45_120 (jV [6]) Tryz.f45 [I op, .slice (some ⟨1, 0, some 1⟩) 1 cap] (MR1 a rest) 2 (fun v m' _ => RO1 (op1 op a) v (lookT m' v)) := by
 have hx := x45_5 ho a rest cap (RO1 (op1 op a))
 rw [MR1, hx]
 refine head1 (decide_eq_true ha) (Bool.or_true _) op1_e fun g1 => ?_
 rw [p1]
 refine cond_intro (fun h => op1_p g1 (of_decide_eq_true h)) (fun h => ?_)
 obtain ⟨e, s1⟩ := op1_f (op := op) g1 (of_decide_eq_false h)
 have f : opF op false false a = ariT a := by unfold opF; rw [if_neg (by omega), if_neg (by omega)]
 rw [e, f]
 refine c_t (decide_eq_true ha) fun u hu => .inr ⟨rfl, _, 1, [], rfl, ?_, tl1⟩
 have hu : ariT a = u := hu
 rw [hu]
 rfl
theorem y45_17 (ha : sz63 a) :
  bodyQ Tryz.prog E45_120 (jV [6]) Tryz.f45 [I 17, .slice (some ⟨1, 0, some 1⟩) 1 cap] (MR1 a rest) 2 (fun v m' _ => RO1 (op1 17 a) v (lookT m' v)) := by
 have hx := x45_17 a rest cap (RO1 (op1 17 a))
 rw [MR1, hx]
 refine head1 (decide_eq_true ha) (Bool.or_true _) op1_e fun g1 => ?_
 rw [p1]
 refine cond_intro (fun h => op1_p g1 (of_decide_eq_true h)) (fun h => ?_)
 obtain ⟨e, s1⟩ := op1_f (op := 17) g1 (of_decide_eq_false h)
 have f : opF 17 false false a = bitT a := by unfold opF; rw [if_pos (by omega)]
 rw [e, f]
 refine c_t (decide_eq_true ha) fun u hu => .inr ⟨rfl, _, 1, [], rfl, ?_, tl1⟩
 have hu : bitT a = u := hu
 rw [hu]
 rfl
end
end Go.Cx
end
noncomputable section
set_option maxHeartbeats 3200000
namespace Go.Cx
open Go Go.Ab Go.Proofs Go.Shelf Go.Px Go.Cv
open Go.Fx (Ty Vl check Valid most base pw bnd Fit fits tv vv tup V0 T0)
instance tabsU6 : Tabs := Cs.tabsC
theorem lokf_jv {fn : Func} {l : List Nat} (h : (match fn.body with | some c => blks (jV l) c | none => []) = []) : LOKf Tryz.prog (jV l) fn := by
 unfold LOKf
 split
 ·rename_i c hc
  simp only [hc] at h
  exact lok_of c fun p hp => by rw [h] at hp; cases hp
 ·trivial
theorem gen_newG {L : Nat → Option LoopH} {G : Env} {f : FuncId} {fn : Func} (lk : Lk → Value → List (Option Blk)) (hG : EnvOK Tryz.prog G) (hf : Fn1 Tryz.prog f fn) (hL : LOKf Tryz.prog L fn)
  {args : List Value} {m : Lk} {n : Nat} {K : Value → Lk → Nat → Prop} {N : Nat} {w0 w : World} {ι : Nm} {args' : List Value} {m0 : Lk} {n0 : Nat} {ρ : Nat → Nat} {R : Value → List (Option Blk) → Prop}
  (hrel : RelM N w0 m ι w) (hwf : ∀ k b, m k = some b → k < n ∧ ∀ j ∈ idsL b.c, j < n)
  (hs : SubM m ρ m0 n0) (ha : ∀ ι : Nm, args'.map (ren fun j => ι (ρ j)) = args.map (ren ι)) (hlen : args'.length ≤ fn.ntmps) (hids : ∀ v ∈ args', ∀ j ∈ ids v, j < n0)
  (hd : bodyQ Tryz.prog G L fn args' m0 n0 (fun v' m' _ => R v' (lk m' v')))
  (hR : ∀ v' m', R v' (lk m' v') → ∃ v mm nn σ, ((∀ k b, m k = some b → k < n) → NewM m n m' mm nn σ) ∧ (∀ i ∈ ids v, n ≤ i ∧ i < nn) ∧ (∀ ι' ι'' : Nm, (∀ i, n ≤ i → ι'' i = ι' (σ i)) → ren ι'' v = ren ι' v') ∧ K v mm nn) :
  Calls Tryz.prog f (args.map (ren ι)).toArray w fun e w' => ∃ v m' n' ι', e = .returned (ren ι' v) ∧ K v m' n' ∧ n ≤ n' ∧ (∀ k, k < n → ι' k = ι k) ∧ RelM N w0 m' ι' w' ∧ (∀ k b, m' k = some b → k < n' ∧ ∀ j ∈ idsL b.c, j < n') ∧ ∀ j ∈ ids v, j < n' := by
 obtain ⟨h1, h2, h3, h4⟩ := hf
 cases hb : fn.body with
 | none => rw [hb] at h2; cases h2
 | some c =>
  simp only [hb] at h4
  simp only [LOKf, hb] at hL
  rw [← ha ι]
  refine (bodyQ_sound (N := w.heap.size) (w0 := w) (ι := fun j => ι (ρ j)) hG hmix h1 hb h4 hL hlen hd (hs.rel hrel) hs.lt hids).mono fun e w' ⟨v', m', n', ι', he, hv', _, _, hm', _, _⟩ => ?_
  obtain ⟨v, mm, nn, σ, hn, hvi, hvr, hk⟩ := hR v' m' hv'
  have hn := hn fun k b hk => (hwf k b hk).1
  obtain ⟨q1, q2⟩ := hn.rel hrel hwf hm'
  refine ⟨v, mm, nn, _, ?_, hk, hn.le, fun k hk => nmJ_old hk, q1, q2, fun j hj => (hvi j hj).2⟩
  rw [he, hvr ι' _ fun i hi => nmJ_new hi]
def out2 (x : Int × Ty × Ty) (m : Lk) (n : Nat) (K : Value → Lk → Nat → Prop) : Prop :=
 (x.1 ≠ 0 → ∀ e, x.1 = e → K (.tuple ⟨[.slice none 0 0, .int .i64 e]⟩) m n) ∧
 (x.1 = 0 → ∀ (u v : Ty) (cap : Nat) (tail : List Value), x.2.1 = u → x.2.2 = v → tailOK tail cap 2 5 = true → K (.tuple ⟨[oslc n 0 2 cap, .int .i64 0]⟩) (m.upd n ⟨Fx.tyc u ++ (Fx.tyc v ++ tail), 23, true⟩) (n + 1))
def out1 (x : Int × Ty) (m : Lk) (n : Nat) (K : Value → Lk → Nat → Prop) : Prop :=
 (x.1 ≠ 0 → ∀ e, x.1 = e → K (.tuple ⟨[.slice none 0 0, .int .i64 e]⟩) m n) ∧
 (x.1 = 0 → ∀ (u : Ty) (cap : Nat) (tail : List Value), x.2 = u → tailOK tail cap 1 5 = true → K (.tuple ⟨[oslc n 0 1 cap, .int .i64 0]⟩) (m.upd n ⟨Fx.tyc u ++ tail, 23, true⟩) (n + 1))
def opx2 (op : Int) (a b : Ty) : Int × Ty × Ty := if cntO op = 2 then op2 op a b else (1, T0, T0)
def opx1 (op : Int) (a : Ty) : Int × Ty := if cntO op = 1 then op1 op a else (1, T0)
def err1 : Value := .tuple ⟨[.slice none 0 0, .int .i64 1]⟩
def hOps : List Value → Lk → Nat → (Value → Lk → Nat → Prop) → Prop := fun args m n K => match args with
 | [.int .i64 op, .slice none 0 0] => K err1 m n
 | [.int .i64 op, .slice (some ⟨k, 0, some 1⟩) len cap] => match noIt (m k) with
  | some b => match len with
   | 0 | 3 | 4 => match cnd (plainL b.c) with | true => K err1 m n | false => False
   | 1 => match b.c with
    | .int .i64 k1 :: .int .i64 p1 :: .int .i64 q1 :: .bool v1 :: .string s1 :: rest => match cnd (decide (sz63 ⟨k1, p1, q1, v1, s1⟩) && plainL rest) with
     | true => out1 (opx1 op ⟨k1, p1, q1, v1, s1⟩) m n K
     | false => False
    | _ => False
   | 2 => match b.c with
    | .int .i64 k1 :: .int .i64 p1 :: .int .i64 q1 :: .bool v1 :: .string s1 :: .int .i64 k2 :: .int .i64 p2 :: .int .i64 q2 :: .bool v2 :: .string s2 :: rest => match cnd (decide (sz63 ⟨k1, p1, q1, v1, s1⟩) && (decide (sz63 ⟨k2, p2, q2, v2, s2⟩) && plainL rest)) with
     | true => out2 (opx2 op ⟨k1, p1, q1, v1, s1⟩ ⟨k2, p2, q2, v2, s2⟩) m n K
     | false => False
    | _ => False
   | _ => False
  | none => False
 | _ => False
theorem sub_vw {m : Lk} {k : Nat} {b : Blk} (h : noIt (m k) = some b) (hp : plainL b.c = true) : SubM m (fun _ => k) (vwT b.c) 2 := by
 have hg : ∀ j b', vwT b.c j = some b' → j = 1 ∧ b' = ⟨b.c, 23, false⟩ := fun j b' hj => by
  unfold vwT at hj
  split at hj
  ·rename_i e
   cases hj
   exact ⟨Nat.eq_of_beq_eq_true e, rfl⟩
  ·cases hj
 refine ⟨fun j b' hj => ?_, fun j b' hj => ?_⟩
 ·obtain ⟨rfl, rfl⟩ := hg j b' hj
  exact ⟨by omega, fun i hi => by rw [ids_plainL hp] at hi; cases hi⟩
 ·obtain ⟨rfl, rfl⟩ := hg j b' hj
  exact ⟨rfl, b, h, fun ι => renMap_congr fun i hi => by rw [ids_plainL hp] at hi; cases hi⟩
theorem tyc_plain (u : Ty) : plainL (Fx.tyc u) = true := rfl
theorem plain_app {l r : List Value} (h1 : plainL l = true) (h2 : plainL r = true) : plainL (l ++ r) = true := plainL_iff.2 fun v hv => by
 rcases List.mem_append.1 hv with h | h
 ·exact plainL_iff.1 h1 v h
 ·exact plainL_iff.1 h2 v h
theorem ro2_new {x : Int × Ty × Ty} {m : Lk} {n : Nat} {K : Value → Lk → Nat → Prop} (h : out2 x m n K) {v' : Value} {m' : Lk} (hR : RO2 x v' (lookT m' v')) :
  ∃ v mm nn σ, ((∀ k b, m k = some b → k < n) → NewM m n m' mm nn σ) ∧ (∀ i ∈ ids v, n ≤ i ∧ i < nn) ∧ (∀ ι' ι'' : Nm, (∀ i, n ≤ i → ι'' i = ι' (σ i)) → ren ι'' v = ren ι' v') ∧ K v mm nn := by
 rcases hR with ⟨h0, rfl⟩ | ⟨h0, a, cap, tail, rfl, hl, ht⟩
 ·exact ⟨_, m, n, id, fun hwf => new_none hwf m' id, by simp [ids, idsL], fun _ _ _ => by simp [ren, renL], h.1 h0 _ rfl⟩
 ·have ht' := ht
  unfold tailOK at ht'
  simp only [Bool.and_eq_true] at ht'
  have hb : m' a = some ⟨Fx.tyc x.2.1 ++ (Fx.tyc x.2.2 ++ tail), 23, true⟩ := by
   have : [m' a] = _ := hl
   simpa using this
  refine ⟨_, _, _, fun _ => a, fun hwf => new_one hwf hb (plain_app (tyc_plain _) (plain_app (tyc_plain _) ht'.1.1.1)) rfl, ?_, fun ι' ι'' hi => ?_, h.2 h0 _ _ cap tail rfl rfl ht⟩
  ·intro i hi
   simp [ids, idsL, oslc] at hi
   omega
  ·simp [ren, renL, oslc, ren1, hi n (Nat.le_refl n)]
theorem ro1_new {x : Int × Ty} {m : Lk} {n : Nat} {K : Value → Lk → Nat → Prop} (h : out1 x m n K) {v' : Value} {m' : Lk} (hR : RO1 x v' (lookT m' v')) :
  ∃ v mm nn σ, ((∀ k b, m k = some b → k < n) → NewM m n m' mm nn σ) ∧ (∀ i ∈ ids v, n ≤ i ∧ i < nn) ∧ (∀ ι' ι'' : Nm, (∀ i, n ≤ i → ι'' i = ι' (σ i)) → ren ι'' v = ren ι' v') ∧ K v mm nn := by
 rcases hR with ⟨h0, rfl⟩ | ⟨h0, a, cap, tail, rfl, hl, ht⟩
 ·exact ⟨_, m, n, id, fun hwf => new_none hwf m' id, by simp [ids, idsL], fun _ _ _ => by simp [ren, renL], h.1 h0 _ rfl⟩
 ·have ht' := ht
  unfold tailOK at ht'
  simp only [Bool.and_eq_true] at ht'
  have hb : m' a = some ⟨Fx.tyc x.2 ++ tail, 23, true⟩ := by
   have : [m' a] = _ := hl
   simpa using this
  refine ⟨_, _, _, fun _ => a, fun hwf => new_one hwf hb (plain_app (tyc_plain _) ht'.1.1.1) rfl, ?_, fun ι' ι'' hi => ?_, h.2 h0 _ cap tail rfl ht⟩
  ·intro i hi
   simp [ids, idsL, oslc] at hi
   omega
  ·simp [ren, renL, oslc, ren1, hi n (Nat.le_refl n)]
end Go.Cx
end
noncomputable section
set_option maxHeartbeats 3200000
namespace Go.Cx
open Go Go.Ab Go.Proofs Go.Shelf Go.Px Go.Cv
open Go.Fx (Ty Vl check Valid most base pw bnd Fit fits tv vv tup V0 T0)
instance tabsU7 : Tabs := Cs.tabsC
theorem sub_nil (m : Lk) (ρ : Nat → Nat) : SubM m ρ (fun _ => none) 0 := ⟨fun _ _ h => (by cases h), fun _ _ h => (by cases h)⟩
theorem err_new {m : Lk} {n : Nat} {K : Value → Lk → Nat → Prop} (h : K err1 m n) {v' : Value} {m' : Lk} (hR : v' = err1) :
  ∃ v mm nn σ, ((∀ k b, m k = some b → k < n) → NewM m n m' mm nn σ) ∧ (∀ i ∈ ids v, n ≤ i ∧ i < nn) ∧ (∀ ι' ι'' : Nm, (∀ i, n ≤ i → ι'' i = ι' (σ i)) → ren ι'' v = ren ι' v') ∧ K v mm nn := by
 subst hR
 exact ⟨_, m, n, id, fun hwf => new_none hwf m' id, by simp [ids, idsL, err1], fun _ _ _ => by simp [ren, renL, err1], h⟩
abbrev sv (op : Int) (len cap : Nat) : List Value := [I op, .slice (some ⟨1, 0, some 1⟩) len cap]
theorem gen_ops {f : FuncId} {fn : Func} {G Ge : Env} {L : Nat → Option LoopH} (hG : EnvOK Tryz.prog G) (hGe : EnvOK Tryz.prog Ge) (hf : Fn1 Tryz.prog f fn) (hL : LOKf Tryz.prog L fn) (hn : 2 ≤ fn.ntmps)
  (zn : ∀ op (R : Value → Prop), R err1 → bodyQ Tryz.prog Ge noL fn [I op, .slice none 0 0] (fun _ => none) 0 (fun v _ _ => R v))
  (z0 : ∀ op len c cap (R : Value → Prop), len = 0 ∨ len = 3 ∨ len = 4 → R err1 → bodyQ Tryz.prog Ge noL fn (sv op len cap) (vwT c) 2 (fun v _ _ => R v))
  (z1 : ∀ op c cap (R : Value → Prop), cntO op ≠ 1 → R err1 → bodyQ Tryz.prog Ge noL fn (sv op 1 cap) (vwT c) 2 (fun v _ _ => R v))
  (z2 : ∀ op c cap (R : Value → Prop), cntO op ≠ 2 → R err1 → bodyQ Tryz.prog Ge noL fn (sv op 2 cap) (vwT c) 2 (fun v _ _ => R v))
  (y1 : ∀ op a rest cap, cntO op = 1 → sz63 a → bodyQ Tryz.prog G L fn (sv op 1 cap) (MR1 a rest) 2 (fun v m' _ => RO1 (op1 op a) v (lookT m' v)))
  (y2 : ∀ op a b rest cap, cntO op = 2 → sz63 a → sz63 b → bodyQ Tryz.prog G L fn (sv op 2 cap) (MR a b rest) 2 (fun v m' _ => RO2 (op2 op a b) v (lookT m' v))) : GenOK Tryz.prog f hOps := by
 refine ⟨⟨_, hf.1, hf.3, by have h2 := hf.2; cases hb : fn.body with | none => rw [hb] at h2; cases h2 | some _ => rfl⟩, fun args m n K h N w0 ι w hrel hwf hav => ?_⟩
 have bad {op : Int} {k len cap : Nat} {b : Blk} (hb : noIt (m k) = some b) (hp : plainL b.c = true) (hk : K err1 m n) (hz : bodyQ Tryz.prog Ge noL fn (sv op len cap) (vwT b.c) 2 (fun v _ _ => v = err1)) :=
  gen_newG (w0 := w0) (N := N) (ι := ι) (w := w) (R := fun v _ => v = err1) (fun _ _ => []) hGe hf lokf_none (args := [I op, .slice (some ⟨k, 0, some 1⟩) len cap]) (K := K) hrel hwf (sub_vw hb hp) (fun ι => by simp [ren, ren1]) (by simpa using hn) (fun v hv j hj => by simp [sv] at hv; rcases hv with rfl | rfl <;> simp [ids] at hj; omega) hz (fun v' m' h => err_new hk h)
 unfold hOps at h
 split at h
 ·exact gen_newG (R := fun v _ => v = err1) (fun _ _ => []) hGe hf lokf_none hrel hwf (sub_nil m id) (fun _ => rfl) (by simpa using hn) (fun v hv j hj => by simp at hv; rcases hv with rfl | rfl <;> simp [ids] at hj) (zn _ _ rfl) (fun v' m' hv => err_new h hv)
 ·rename_i op k len cap
  split at h
  ·rename_i b hb
   split at h
   ·split at h
    ·rename_i hp
     exact bad hb hp h (z0 _ _ _ _ _ (.inl rfl) rfl)
    ·exact h.elim
   ·split at h
    ·rename_i hp
     exact bad hb hp h (z0 _ _ _ _ _ (.inr (.inl rfl)) rfl)
    ·exact h.elim
   ·split at h
    ·rename_i hp
     exact bad hb hp h (z0 _ _ _ _ _ (.inr (.inr rfl)) rfl)
    ·exact h.elim
   ·split at h
    ·rename_i k1 p1 q1 v1 s1 rest hc
     split at h
     ·rename_i hp
      have hp : (decide (sz63 ⟨k1, p1, q1, v1, s1⟩) && plainL rest) = true := hp
      rw [Bool.and_eq_true] at hp
      have hpl : plainL b.c = true := by rw [hc]; exact hp.2
      unfold opx1 at h
      split at h
      ·rename_i hcn
       refine gen_newG lookT hG hf hL hrel hwf (sub_vw hb hpl) (args' := sv op 1 cap) (fun ι => by simp [ren, ren1]) (by simpa using hn) (fun v hv j hj => by simp [sv] at hv; rcases hv with rfl | rfl <;> simp [ids] at hj; omega) ?_ (fun v' m' hv => ro1_new h hv)
       rw [hc]
       exact y1 op ⟨k1, p1, q1, v1, s1⟩ rest cap hcn (of_decide_eq_true hp.1)
      ·rename_i hcn
       exact bad hb hpl (h.1 (by decide) _ rfl) (z1 _ _ _ _ hcn rfl)
     ·exact h.elim
    ·exact h.elim
   ·split at h
    ·rename_i k1 p1 q1 v1 s1 k2 p2 q2 v2 s2 rest hc
     split at h
     ·rename_i hp
      have hp : (decide (sz63 ⟨k1, p1, q1, v1, s1⟩) && (decide (sz63 ⟨k2, p2, q2, v2, s2⟩) && plainL rest)) = true := hp
      rw [Bool.and_eq_true, Bool.and_eq_true] at hp
      have hpl : plainL b.c = true := by rw [hc]; exact hp.2.2
      unfold opx2 at h
      split at h
      ·rename_i hcn
       refine gen_newG lookT hG hf hL hrel hwf (sub_vw hb hpl) (args' := sv op 2 cap) (fun ι => by simp [ren, ren1]) (by simpa using hn) (fun v hv j hj => by simp [sv] at hv; rcases hv with rfl | rfl <;> simp [ids] at hj; omega) ?_ (fun v' m' hv => ro2_new h hv)
       rw [hc]
       exact y2 op ⟨k1, p1, q1, v1, s1⟩ ⟨k2, p2, q2, v2, s2⟩ rest cap hcn (of_decide_eq_true hp.1) (of_decide_eq_true hp.2.1)
      ·rename_i hcn
       exact bad hb hpl (h.1 (by decide) _ rfl) (z2 _ _ _ _ hcn rfl)
     ·exact h.elim
    ·exact h.elim
   ·exact h.elim
  ·exact h.elim
 ·exact h.elim
theorem nn {x y : Int} (h : (x == y) = true) : x = y := by simpa using h
theorem c45 {op n : Int} (hn : n = 0 ∨ n ≠ cntO op) (X : Prop) {R Y : Prop} (hR : R) : bif cntO op == 0 || true then bif cntO op == 0 || n != cntO op then R else X else Y := by
 refine c_t (Bool.or_true _) (c_t ?_ hR)
 rw [Bool.or_eq_true]
 rcases hn with rfl | h
 ·by_cases h0 : cntO op = 0
  ·exact .inl (by simpa using h0)
  ·exact .inr (by simpa using fun e => h0 e.symm)
 ·exact .inr (by simpa using h)
theorem cn3 (op : Int) : cntO op ≠ 3 ∧ cntO op ≠ 4 := by unfold cntO; repeat' split <;> simp
theorem cn1 {op : Int} (h : cntO op = 1) : (op = 5 ∨ op = 11) ∨ op = 17 := by
 unfold cntO at h
 split at h
 ·omega
 ·split at h <;> cases h
theorem cn2 {op : Int} (h : cntO op = 2) : (op = 6 ∨ op = 7 ∨ op = 8 ∨ op = 9 ∨ op = 10 ∨ op = 12 ∨ op = 13) ∨ (op = 15 ∨ op = 16) ∨ op = 14 ∨ op = 18 := by
 unfold cntO at h
 split at h
 ·cases h
 ·split at h
  ·omega
  ·cases h
end Go.Cx
end
noncomputable section
set_option maxHeartbeats 3200000
namespace Go.Cx
open Go Go.Ab Go.Proofs Go.Shelf Go.Px Go.Cv
instance tabsU8 : Tabs := Cs.tabsC
theorem lq44 : LOKf Tryz.prog (jV [6, 7, 8, 9, 13, 15]) Tryz.f44 := lokf_jv (l := [6, 7, 8, 9, 13, 15]) (by kernel_rfl)
theorem lq45 : LOKf Tryz.prog (jV [6]) Tryz.f45 := lokf_jv (l := [6]) (by kernel_rfl)
theorem n44 : 2 ≤ Tryz.f44.ntmps := by decide
theorem n45 : 2 ≤ Tryz.f45.ntmps := by decide
section
variable {op : Int} {c : List Value} {cap : Nat} {R : Value → Prop}
theorem q44_n (h : R err1) : bodyQ Tryz.prog E44e noL Tryz.f44 [I op, .slice none 0 0] (fun _ => none) 0 (fun v _ _ => R v) := by
 rw [z44_n]
 iterate 14 refine cond_intro (fun _ => h) (fun _ => ?_)
 exact h
theorem q44_0 (h : R err1) : bodyQ Tryz.prog E44e noL Tryz.f44 (sv op 0 cap) (vwT c) 2 (fun v _ _ => R v) := by
 rw [sv, z44_0]
 iterate 14 refine cond_intro (fun _ => h) (fun _ => ?_)
 exact h
theorem q44_3 (h : R err1) : bodyQ Tryz.prog E44e noL Tryz.f44 (sv op 3 cap) (vwT c) 2 (fun v _ _ => R v) := by
 rw [sv, z44_3]
 iterate 14 refine cond_intro (fun _ => h) (fun _ => ?_)
 exact h
theorem q44_4 (h : R err1) : bodyQ Tryz.prog E44e noL Tryz.f44 (sv op 4 cap) (vwT c) 2 (fun v _ _ => R v) := by
 rw [sv, z44_4]
 iterate 14 refine cond_intro (fun _ => h) (fun _ => ?_)
 exact h
theorem q44_1 (hc : cntO op ≠ 1) (h : R err1) : bodyQ Tryz.prog E44e noL Tryz.f44 (sv op 1 cap) (vwT c) 2 (fun v _ _ => R v) := by
 rw [sv, z44_1]
 iterate 3 refine cond_intro (fun e => (by have e := nn e; subst e; exact absurd rfl hc)) (fun _ => ?_)
 iterate 11 refine cond_intro (fun _ => h) (fun _ => ?_)
 exact h
theorem q44_2 (hc : cntO op ≠ 2) (h : R err1) : bodyQ Tryz.prog E44e noL Tryz.f44 (sv op 2 cap) (vwT c) 2 (fun v _ _ => R v) := by
 rw [sv, z44_2]
 iterate 3 refine cond_intro (fun _ => h) (fun _ => ?_)
 iterate 11 refine cond_intro (fun e => (by have e := nn e; subst e; exact absurd rfl hc)) (fun _ => ?_)
 exact h
theorem q45_n (h : R err1) : bodyQ Tryz.prog E45e noL Tryz.f45 [I op, .slice none 0 0] (fun _ => none) 0 (fun v _ _ => R v) := by
 rw [z45_n]
 exact c45 (.inl rfl) _ h
theorem q45_0 (h : R err1) : bodyQ Tryz.prog E45e noL Tryz.f45 (sv op 0 cap) (vwT c) 2 (fun v _ _ => R v) := by
 rw [sv, z45_0]
 exact c45 (.inl rfl) _ h
theorem q45_3 (h : R err1) : bodyQ Tryz.prog E45e noL Tryz.f45 (sv op 3 cap) (vwT c) 2 (fun v _ _ => R v) := by
 rw [sv, z45_3]
 exact c45 (.inr (cn3 op).1.symm) _ h
theorem q45_4 (h : R err1) : bodyQ Tryz.prog E45e noL Tryz.f45 (sv op 4 cap) (vwT c) 2 (fun v _ _ => R v) := by
 rw [sv, z45_4]
 exact c45 (.inr (cn3 op).2.symm) _ h
theorem q45_1 (hc : cntO op ≠ 1) (h : R err1) : bodyQ Tryz.prog E45e noL Tryz.f45 (sv op 1 cap) (vwT c) 2 (fun v _ _ => R v) := by
 rw [sv, z45_1]
 exact c45 (.inr hc.symm) _ h
theorem q45_2 (hc : cntO op ≠ 2) (h : R err1) : bodyQ Tryz.prog E45e noL Tryz.f45 (sv op 2 cap) (vwT c) 2 (fun v _ _ => R v) := by
 rw [sv, z45_2]
 exact c45 (.inr hc.symm) _ h
end
end Go.Cx
end
noncomputable section
set_option maxHeartbeats 3200000
namespace Go.Cx
open Go Go.Ab Go.Proofs Go.Shelf Go.Px Go.Cv
open Go.Fx (Ty)
section
variable {op : Int} {a b : Ty} (rest : List Value) (cap : Nat)
theorem y44_17' (ho : op = 17) (ha : sz63 a) : @bodyQ tabsU5 Tryz.prog E44 (jV [6, 7, 8, 9, 13, 15]) Tryz.f44 [I op, .slice (some ⟨1, 0, some 1⟩) 1 cap] (MR1 a rest) 2 (fun v m' _ => RO1 (op1 op a) v (lookT m' v)) := by
 cases ho
 with_reducible exact @y44_17 a rest cap ha
theorem y45_17' (ho : op = 17) (ha : sz63 a) : @bodyQ tabsU5 Tryz.prog E45_120 (jV [6]) Tryz.f45 [I op, .slice (some ⟨1, 0, some 1⟩) 1 cap] (MR1 a rest) 2 (fun v m' _ => RO1 (op1 op a) v (lookT m' v)) := by
 cases ho
 with_reducible exact @y45_17 a rest cap ha
theorem y45_14' (ho : op = 14) (ha : sz63 a) (hb : sz63 b) : @bodyQ tabsU5 Tryz.prog E45_120 (jV [6]) Tryz.f45 [I op, .slice (some ⟨1, 0, some 1⟩) 2 cap] (MR a b rest) 2 (fun v m' _ => RO2 (op2 op a b) v (lookT m' v)) := by
 cases ho
 with_reducible exact @y45_14 a b rest cap ha hb
theorem y45_18' (ho : op = 18) (ha : sz63 a) (hb : sz63 b) : @bodyQ tabsU5 Tryz.prog E45_120 (jV [6]) Tryz.f45 [I op, .slice (some ⟨1, 0, some 1⟩) 2 cap] (MR a b rest) 2 (fun v m' _ => RO2 (op2 op a b) v (lookT m' v)) := by
 cases ho
 with_reducible exact @y45_18 a b rest cap ha hb
end
section
variable {op : Int} {a b : Ty} (rest : List Value) (cap : Nat)
theorem y44_14' (ho : op = 14) (ha : sz63 a) (hb : sz63 b) : @bodyQ tabsU4 Tryz.prog E44 (jV [6, 7, 8, 9, 13, 15]) Tryz.f44 [I op, .slice (some ⟨1, 0, some 1⟩) 2 cap] (MR a b rest) 2 (fun v m' _ => RO2 (op2 op a b) v (lookT m' v)) := by
 cases ho
 with_reducible exact @y44_14 a b rest cap ha hb
theorem y44_18' (ho : op = 18) (ha : sz63 a) (hb : sz63 b) : @bodyQ tabsU4 Tryz.prog E44 (jV [6, 7, 8, 9, 13, 15]) Tryz.f44 [I op, .slice (some ⟨1, 0, some 1⟩) 2 cap] (MR a b rest) 2 (fun v m' _ => RO2 (op2 op a b) v (lookT m' v)) := by
 cases ho
 with_reducible exact @y44_18 a b rest cap ha hb
end
instance tabsU10 : Tabs := Cs.tabsC
theorem gen44 : GenOK Tryz.prog 44 hOps :=
 gen_ops ok_E44 ok_E44e fn44 lq44 n44 (fun _ _ h => q44_n h)
  (fun op len c cap R hl h => by rcases hl with rfl | rfl | rfl; exact q44_0 h; exact q44_3 h; exact q44_4 h)
  (fun _ _ _ _ hc h => q44_1 hc h) (fun _ _ _ _ hc h => q44_2 hc h)
  (fun op a rest cap hc ha => by
   rcases cn1 hc with h | h
   ·exact y44_5 rest cap h ha
   ·exact y44_17' rest cap h ha)
  (fun op a b rest cap hc ha hb => by
   rcases cn2 hc with h | h | h | h
   ·exact y44_6 rest cap h ha hb
   ·exact y44_15 rest cap h ha hb
   ·exact y44_14' rest cap h ha hb
   ·exact y44_18' rest cap h ha hb)
theorem gen45 : GenOK Tryz.prog 45 hOps :=
 gen_ops ok_E45_120 ok_E45e fn45 lq45 n45 (fun _ _ h => q45_n h)
  (fun op len c cap R hl h => by rcases hl with rfl | rfl | rfl; exact q45_0 h; exact q45_3 h; exact q45_4 h)
  (fun _ _ _ _ hc h => q45_1 hc h) (fun _ _ _ _ hc h => q45_2 hc h)
  (fun op a rest cap hc ha => by
   rcases cn1 hc with h | h
   ·exact y45_5 rest cap h ha
   ·exact y45_17' rest cap h ha)
  (fun op a b rest cap hc ha hb => by
   rcases cn2 hc with h | h | h | h
   ·exact y45_6 rest cap h ha hb
   ·exact y45_15 rest cap h ha hb
   ·exact y45_14' rest cap h ha hb
   ·exact y45_18' rest cap h ha hb)
end Go.Cx
end
noncomputable section
set_option maxHeartbeats 3200000
namespace Go.Cx
open Go Go.Ab Go.Proofs Go.Shelf Go.Px Go.Cv
open Go.Fx (Ty Vl check Valid most base pw bnd Fit fits tv vv tup V0 T0 pw_zero pw_succ wrap_mul pw_w64 str0)
instance tabsU11 : Tabs := Cs.tabsC
end Go.Cx
end
noncomputable section
set_option maxHeartbeats 3200000
namespace Go.Cx
open Go Go.Ab Go.Proofs Go.Shelf Go.Px Go.Cv
open Go.Fx (Ty Vl check Valid most base pw bnd Fit fits tv vv tup V0 T0)
instance tabsU12 : Tabs := Cs.tabsC
def E8o : Env := Env.nil.add 19 (sp1 (fun (t : Ty) => (true, B (decide ((t.s.size : Int) ≤ 200)))))
def E8a : Env := Env.nil.addG 37 (inlQ Tryz.prog E8o noL Tryz.f37)
def E8b : Env := Env.nil.addG 107 (inlQ Tryz.prog E8a noL Tryz.f107)
def E8 : Env := ((((((((((((Env.nil.add 18 (sp0 Cs.s18)).add 19 (sp1 (fun (t : Ty) => (true, B (decide ((t.s.size : Int) ≤ 200)))))).addG 37 (inlQ Tryz.prog E8o noL Tryz.f37)).addG 36 (inlQ Tryz.prog E8b noL Tryz.f36)).addG 38 (hidY ariT scal)).addG 40 (hidY chaT scal)).addG 42 (hidY bitT scal)).addG 39 (hidY ariT scal)).addG 41 (hidY chaT scal)).addG 43 (hidY bitT scal)).addG 44 hOps).addG 45 hOps).addG 46 (inlQ Tryz.prog Env.nil noL Tryz.f46)
def E8x : Env := ((Env.nil.add 18 (sp0 Cs.s18)).add 19 (sp1 (fun (t : Ty) => (true, B (decide ((t.s.size : Int) ≤ 200)))))).add 36 (fun _ _ => some (false, B false))
theorem fn8 : Fn1 Tryz.prog 8 Tryz.f8 := ⟨Tryz.func8, by kernel_rfl, by kernel_rfl, by kernel_rfl⟩
theorem fn36 : Fn1 Tryz.prog 36 Tryz.f36 := ⟨Tryz.func36, by kernel_rfl, by kernel_rfl, by kernel_rfl⟩
theorem fn37 : Fn1 Tryz.prog 37 Tryz.f37 := ⟨Tryz.func37, by kernel_rfl, by kernel_rfl, by kernel_rfl⟩
theorem fn46 : Fn1 Tryz.prog 46 Tryz.f46 := ⟨Tryz.func46, by kernel_rfl, by kernel_rfl, by kernel_rfl⟩
theorem fn107 : Fn1 Tryz.prog 107 Tryz.f107 := ⟨Tryz.func107, by kernel_rfl, by kernel_rfl, by kernel_rfl⟩
def eqT (u v : Ty) : Bool := u.k == v.k && (u.p == v.p && (u.q == v.q && (u.v == v.v && (u.s.toList == v.s.toList && true))))
theorem eqT_refl (u : Ty) : eqT u u = true := by simp [eqT]
theorem small_v (t : Ty) (R : Value → Prop) : bodyQ Tryz.prog Env.nil noL Tryz.f19 [Enc.enc t] (fun _ => none) 0 (fun v _ _ => R v) = R (.bool (decide ((t.s.size : Int) ≤ 200))) := by kernel_rfl
theorem fn19' : Fn1 Tryz.prog 19 Tryz.f19 := ⟨Tryz.func19, by kernel_rfl, by kernel_rfl, by kernel_rfl⟩
theorem small_ok : PureOK Tryz.prog 19 (sp1 (fun (t : Ty) => (true, B (decide ((t.s.size : Int) ≤ 200))))) := by
 refine qure1 env_nil hmix fn19' lokf_none (Nat.le_of_ble_eq_true (by kernel_rfl)) fun t hc => ?_
 rw [DoesQ, small_v]
theorem no36 : PureOK Tryz.prog 36 (fun _ _ => some (false, B false)) := ⟨⟨_, fn36.1, fn36.3, by have h2 := fn36.2; cases hb : Tryz.f36.body with | none => rw [hb] at h2; cases h2 | some _ => rfl⟩, fun _ _ _ _ _ _ _ _ hs => by cases hs⟩
theorem ok_E8o : EnvOK Tryz.prog E8o := env_add env_nil small_ok
theorem ok_E8a : EnvOK Tryz.prog E8a := env_addG env_nil (gen_inlQ ok_E8o hmix fn37 lokf_none)
theorem ok_E8b : EnvOK Tryz.prog E8b := env_addG env_nil (gen_inlQ ok_E8a hmix fn107 lokf_none)
theorem ok_E8 : EnvOK Tryz.prog E8 := env_addG (env_addG (env_addG (env_addG (env_addG (env_addG (env_addG (env_addG (env_addG (env_addG (env_addG (env_add (env_add env_nil Cs.okC18) small_ok) (gen_inlQ ok_E8o hmix fn37 lokf_none)) (gen_inlQ ok_E8b hmix fn36 lokf_none)) (gen_hidY (Cs.pureC ok38) fun t h => decide_eq_true h)) (gen_hidY (Cs.pureC ok40) fun t h => decide_eq_true h)) (gen_hidY (Cs.pureC ok42f) fun t h => decide_eq_true h)) (gen_hidY (Cs.pureC ok39) fun t h => decide_eq_true h)) (gen_hidY (Cs.pureC ok41) fun t h => decide_eq_true h)) (gen_hidY (Cs.pureC ok43) fun t h => decide_eq_true h)) gen44) gen45) (gen_inlQ env_nil hmix fn46 lokf_none)
theorem ok_E8x : EnvOK Tryz.prog E8x := env_add (env_add (env_add env_nil Cs.okC18) small_ok) no36
theorem hid2 {f : Ty → Ty} {x : Ty} {c : Bool} (hc : c = true) {N : Int} {X F : Prop} (h : X) : bif c then ∀ u, f x = u → bif c then ∀ u1, f x = u1 → bif !eqT u u1 || true then bif !eqT u u1 || N != N then F else X else False else False else False := by
 refine c_t hc fun u hu => c_t hc fun u1 h1 => c_t (Bool.or_true _) ?_
 rw [← hu, ← h1]
 exact c_f (by simp [eqT_refl]) h
theorem w8_n (op : Int) (x : Ty) (R : Value → Prop) : (bodyQ Tryz.prog E8 noL Tryz.f8 [I op, .slice none 0 0, Fx.tv x] (fun _ => none) 2 (fun v _ _ => R v)) = ( bif !decide ((↑(ByteArray.size (Ty.s x)) : Int) ≤ 200) || true then bif !decide ((↑(ByteArray.size (Ty.s x)) : Int) ≤ 200) || decide (0 > 4) then R (B true) else bif decide (sz63 x) then ∀ (u : Ty), ariT x = u → bif decide (sz63 x) then ∀ (u_1 : Ty), ariT x = u_1 → bif !eqT u u_1 || true then bif !eqT u u_1 || scal x != scal x then R (B false) else bif decide (sz63 x) then ∀ (u : Ty), chaT x = u → bif decide (sz63 x) then ∀ (u_2 : Ty), chaT x = u_2 → bif !eqT u u_2 || true then bif !eqT u u_2 || scal x != scal x then R (B false) else bif decide (sz63 x) then ∀ (u : Ty), bitT x = u → bif decide (sz63 x) then ∀ (u_3 : Ty), bitT x = u_3 → bif !eqT u u_3 || true then bif !eqT u u_3 || scal x != scal x then R (B false) else R (B (1 == 1)) else False else False else False else False else False else False else False else False else False else False) := by kernel_rfl
theorem w8_0 (op : Int) (x : Ty) (cap : Nat) (R : Value → Prop) : (bodyQ Tryz.prog E8 noL Tryz.f8 [I op, .slice (some ⟨1, 0, some 1⟩) 0 cap, Fx.tv x] (vwT []) 2 (fun v _ _ => R v)) = ( bif !decide ((↑(ByteArray.size (Ty.s x)) : Int) ≤ 200) || true then bif !decide ((↑(ByteArray.size (Ty.s x)) : Int) ≤ 200) || decide (0 > 4) then R (B true) else bif decide (sz63 x) then ∀ (u : Ty), ariT x = u → bif decide (sz63 x) then ∀ (u_1 : Ty), ariT x = u_1 → bif !eqT u u_1 || true then bif !eqT u u_1 || scal x != scal x then R (B false) else bif decide (sz63 x) then ∀ (u : Ty), chaT x = u → bif decide (sz63 x) then ∀ (u_2 : Ty), chaT x = u_2 → bif !eqT u u_2 || true then bif !eqT u u_2 || scal x != scal x then R (B false) else bif decide (sz63 x) then ∀ (u : Ty), bitT x = u → bif decide (sz63 x) then ∀ (u_3 : Ty), bitT x = u_3 → bif !eqT u u_3 || true then bif !eqT u u_3 || scal x != scal x then R (B false) else R (B (1 == 1)) else False else False else False else False else False else False else False else False else False else False) := by kernel_rfl
theorem w8_1 (op : Int) (x : Ty) (a : Ty) (cap : Nat) (R : Value → Prop) : (bodyQ Tryz.prog E8 noL Tryz.f8 [I op, .slice (some ⟨1, 0, some 1⟩) 1 cap, Fx.tv x] (vwT [.int .i64 a.k, .int .i64 a.p, .int .i64 a.q, .bool a.v, .string a.s]) 2 (fun v _ _ => R v)) = ( bif !decide ((↑(ByteArray.size (Ty.s x)) : Int) ≤ 200) || true then bif !decide ((↑(ByteArray.size (Ty.s x)) : Int) ≤ 200) || decide (1 > 4) then R (B true) else bif !decide ((↑(ByteArray.size (Ty.s a)) : Int) ≤ 200) then R (B true) else bif decide (sz63 x) then ∀ (u : Ty), ariT x = u → bif decide (sz63 x) then ∀ (u_1 : Ty), ariT x = u_1 → bif !eqT u u_1 || true then bif !eqT u u_1 || scal x != scal x then R (B false) else bif decide (sz63 x) then ∀ (u : Ty), chaT x = u → bif decide (sz63 x) then ∀ (u_2 : Ty), chaT x = u_2 → bif !eqT u u_2 || true then bif !eqT u u_2 || scal x != scal x then R (B false) else bif decide (sz63 x) then ∀ (u : Ty), bitT x = u → bif decide (sz63 x) then ∀ (u_3 : Ty), bitT x = u_3 → bif !eqT u u_3 || true then bif !eqT u u_3 || scal x != scal x then R (B false) else bif decide (sz63 a) && true then (Prod.fst (opx1 op a) ≠ 0 → ∀ (e : Int), Prod.fst (opx1 op a) = e → bif decide (sz63 a) && true then (Prod.fst (opx1 op a) ≠ 0 → ∀ (e_1 : Int), Prod.fst (opx1 op a) = e_1 → R (B (e == e_1))) ∧ (Prod.fst (opx1 op a) = 0 → ∀ (u : Ty) (cap : Nat) (tail : List Value), Prod.snd (opx1 op a) = u → tailOK tail cap 1 5 = true → R (B false)) else False) ∧ (Prod.fst (opx1 op a) = 0 → ∀ (u : Ty) (cap : Nat) (tail : List Value), Prod.snd (opx1 op a) = u → tailOK tail cap 1 5 = true → bif decide (sz63 a) && true then (Prod.fst (opx1 op a) ≠ 0 → ∀ (e : Int), Prod.fst (opx1 op a) = e → R (B false)) ∧ (Prod.fst (opx1 op a) = 0 → ∀ (u_4 : Ty) (cap : Nat) (tail : List Value), Prod.snd (opx1 op a) = u_4 → tailOK tail cap 1 5 = true → bif !eqT u u_4 then R (B false) else R (B (0 == 0))) else False) else False else False else False else False else False else False else False else False else False else False else False) := by kernel_rfl
theorem w8_2 (op : Int) (x : Ty) (a : Ty) (b : Ty) (cap : Nat) (R : Value → Prop) : (bodyQ Tryz.prog E8 noL Tryz.f8 [I op, .slice (some ⟨1, 0, some 1⟩) 2 cap, Fx.tv x] (vwT [.int .i64 a.k, .int .i64 a.p, .int .i64 a.q, .bool a.v, .string a.s, .int .i64 b.k, .int .i64 b.p, .int .i64 b.q, .bool b.v, .string b.s]) 2 (fun v _ _ => R v)) = ( bif !decide ((↑(ByteArray.size (Ty.s x)) : Int) ≤ 200) || true then bif !decide ((↑(ByteArray.size (Ty.s x)) : Int) ≤ 200) || decide (2 > 4) then R (B true) else bif !decide ((↑(ByteArray.size (Ty.s a)) : Int) ≤ 200) then R (B true) else bif !decide ((↑(ByteArray.size (Ty.s b)) : Int) ≤ 200) then R (B true) else bif decide (sz63 x) then ∀ (u : Ty), ariT x = u → bif decide (sz63 x) then ∀ (u_1 : Ty), ariT x = u_1 → bif !eqT u u_1 || true then bif !eqT u u_1 || scal x != scal x then R (B false) else bif decide (sz63 x) then ∀ (u : Ty), chaT x = u → bif decide (sz63 x) then ∀ (u_2 : Ty), chaT x = u_2 → bif !eqT u u_2 || true then bif !eqT u u_2 || scal x != scal x then R (B false) else bif decide (sz63 x) then ∀ (u : Ty), bitT x = u → bif decide (sz63 x) then ∀ (u_3 : Ty), bitT x = u_3 → bif !eqT u u_3 || true then bif !eqT u u_3 || scal x != scal x then R (B false) else bif decide (sz63 a) && (decide (sz63 b) && true) then (Prod.fst (opx2 op a b) ≠ 0 → ∀ (e : Int), Prod.fst (opx2 op a b) = e → bif decide (sz63 a) && (decide (sz63 b) && true) then (Prod.fst (opx2 op a b) ≠ 0 → ∀ (e_1 : Int), Prod.fst (opx2 op a b) = e_1 → R (B (e == e_1))) ∧ (Prod.fst (opx2 op a b) = 0 → ∀ (u v : Ty) (cap : Nat) (tail : List Value), Prod.fst (Prod.snd (opx2 op a b)) = u → Prod.snd (Prod.snd (opx2 op a b)) = v → tailOK tail cap 2 5 = true → R (B false)) else False) ∧ (Prod.fst (opx2 op a b) = 0 → ∀ (u v : Ty) (cap : Nat) (tail : List Value), Prod.fst (Prod.snd (opx2 op a b)) = u → Prod.snd (Prod.snd (opx2 op a b)) = v → tailOK tail cap 2 5 = true → bif decide (sz63 a) && (decide (sz63 b) && true) then (Prod.fst (opx2 op a b) ≠ 0 → ∀ (e : Int), Prod.fst (opx2 op a b) = e → R (B false)) ∧ (Prod.fst (opx2 op a b) = 0 → ∀ (u_4 v_1 : Ty) (cap : Nat) (tail : List Value), Prod.fst (Prod.snd (opx2 op a b)) = u_4 → Prod.snd (Prod.snd (opx2 op a b)) = v_1 → tailOK tail cap 2 5 = true → bif !eqT u u_4 then R (B false) else bif !eqT v v_1 then R (B false) else R (B (0 == 0))) else False) else False else False else False else False else False else False else False else False else False else False else False) := by kernel_rfl
theorem w8_3 (op : Int) (x : Ty) (a : Ty) (b : Ty) (c : Ty) (cap : Nat) (R : Value → Prop) : (bodyQ Tryz.prog E8 noL Tryz.f8 [I op, .slice (some ⟨1, 0, some 1⟩) 3 cap, Fx.tv x] (vwT [.int .i64 a.k, .int .i64 a.p, .int .i64 a.q, .bool a.v, .string a.s, .int .i64 b.k, .int .i64 b.p, .int .i64 b.q, .bool b.v, .string b.s, .int .i64 c.k, .int .i64 c.p, .int .i64 c.q, .bool c.v, .string c.s]) 2 (fun v _ _ => R v)) = ( bif !decide ((↑(ByteArray.size (Ty.s x)) : Int) ≤ 200) || true then bif !decide ((↑(ByteArray.size (Ty.s x)) : Int) ≤ 200) || decide (3 > 4) then R (B true) else bif !decide ((↑(ByteArray.size (Ty.s a)) : Int) ≤ 200) then R (B true) else bif !decide ((↑(ByteArray.size (Ty.s b)) : Int) ≤ 200) then R (B true) else bif !decide ((↑(ByteArray.size (Ty.s c)) : Int) ≤ 200) then R (B true) else bif decide (sz63 x) then ∀ (u : Ty), ariT x = u → bif decide (sz63 x) then ∀ (u_1 : Ty), ariT x = u_1 → bif !eqT u u_1 || true then bif !eqT u u_1 || scal x != scal x then R (B false) else bif decide (sz63 x) then ∀ (u : Ty), chaT x = u → bif decide (sz63 x) then ∀ (u_2 : Ty), chaT x = u_2 → bif !eqT u u_2 || true then bif !eqT u u_2 || scal x != scal x then R (B false) else bif decide (sz63 x) then ∀ (u : Ty), bitT x = u → bif decide (sz63 x) then ∀ (u_3 : Ty), bitT x = u_3 → bif !eqT u u_3 || true then bif !eqT u u_3 || scal x != scal x then R (B false) else R (B (1 == 1)) else False else False else False else False else False else False else False else False else False else False) := by kernel_rfl
theorem w8_4 (op : Int) (x : Ty) (a : Ty) (b : Ty) (c : Ty) (d : Ty) (cap : Nat) (R : Value → Prop) : (bodyQ Tryz.prog E8 noL Tryz.f8 [I op, .slice (some ⟨1, 0, some 1⟩) 4 cap, Fx.tv x] (vwT [.int .i64 a.k, .int .i64 a.p, .int .i64 a.q, .bool a.v, .string a.s, .int .i64 b.k, .int .i64 b.p, .int .i64 b.q, .bool b.v, .string b.s, .int .i64 c.k, .int .i64 c.p, .int .i64 c.q, .bool c.v, .string c.s, .int .i64 d.k, .int .i64 d.p, .int .i64 d.q, .bool d.v, .string d.s]) 2 (fun v _ _ => R v)) = ( bif !decide ((↑(ByteArray.size (Ty.s x)) : Int) ≤ 200) || true then bif !decide ((↑(ByteArray.size (Ty.s x)) : Int) ≤ 200) || decide (4 > 4) then R (B true) else bif !decide ((↑(ByteArray.size (Ty.s a)) : Int) ≤ 200) then R (B true) else bif !decide ((↑(ByteArray.size (Ty.s b)) : Int) ≤ 200) then R (B true) else bif !decide ((↑(ByteArray.size (Ty.s c)) : Int) ≤ 200) then R (B true) else bif !decide ((↑(ByteArray.size (Ty.s d)) : Int) ≤ 200) then R (B true) else bif decide (sz63 x) then ∀ (u : Ty), ariT x = u → bif decide (sz63 x) then ∀ (u_1 : Ty), ariT x = u_1 → bif !eqT u u_1 || true then bif !eqT u u_1 || scal x != scal x then R (B false) else bif decide (sz63 x) then ∀ (u : Ty), chaT x = u → bif decide (sz63 x) then ∀ (u_2 : Ty), chaT x = u_2 → bif !eqT u u_2 || true then bif !eqT u u_2 || scal x != scal x then R (B false) else bif decide (sz63 x) then ∀ (u : Ty), bitT x = u → bif decide (sz63 x) then ∀ (u_3 : Ty), bitT x = u_3 → bif !eqT u u_3 || true then bif !eqT u u_3 || scal x != scal x then R (B false) else R (B (1 == 1)) else False else False else False else False else False else False else False else False else False else False) := by kernel_rfl
theorem w8_x (op : Int) (x : Ty) (len : Nat) (cap : Nat) (c : List Value) (R : Value → Prop) : (bodyQ Tryz.prog E8x noL Tryz.f8 [I op, .slice (some ⟨1, 0, some 1⟩) len cap, Fx.tv x] (vwT c) 2 (fun v _ _ => R v)) = ( bif !decide ((↑(ByteArray.size (Ty.s x)) : Int) ≤ 200) || decide (Int.ofNat len > 4) && true then bif !decide ((↑(ByteArray.size (Ty.s x)) : Int) ≤ 200) || decide (Int.ofNat len > 4) && true then R (B true) else False else False) := by kernel_rfl
section
variable {op : Int} {x a b c d : Ty} {cap : Nat}
theorem q8_n (hx : sz63 x) : bodyQ Tryz.prog E8 noL Tryz.f8 [I op, .slice none 0 0, Fx.tv x] (fun _ => none) 2 (fun v _ _ => v = B true) := by
 rw [w8_n _ _ (fun v => v = B true)]
 refine c_t (Bool.or_true _) (cond_intro (fun _ => rfl) (fun _ => ?_))
 refine hid2 (decide_eq_true hx) (hid2 (decide_eq_true hx) (hid2 (decide_eq_true hx) ?_))
 rfl
theorem q8_0 (hx : sz63 x) : bodyQ Tryz.prog E8 noL Tryz.f8 [I op, .slice (some ⟨1, 0, some 1⟩) 0 cap, Fx.tv x] (vwT []) 2 (fun v _ _ => v = B true) := by
 rw [w8_0 _ _ cap (fun v => v = B true)]
 refine c_t (Bool.or_true _) (cond_intro (fun _ => rfl) (fun _ => ?_))
 refine hid2 (decide_eq_true hx) (hid2 (decide_eq_true hx) (hid2 (decide_eq_true hx) ?_))
 rfl
theorem q8_1 (hx : sz63 x) (ha : sz63 a) : bodyQ Tryz.prog E8 noL Tryz.f8 [I op, .slice (some ⟨1, 0, some 1⟩) 1 cap, Fx.tv x] (vwT [.int .i64 a.k, .int .i64 a.p, .int .i64 a.q, .bool a.v, .string a.s]) 2 (fun v _ _ => v = B true) := by
 rw [w8_1 _ _ a cap (fun v => v = B true)]
 refine c_t (Bool.or_true _) (cond_intro (fun _ => rfl) (fun _ => ?_))
 refine cond_intro (fun _ => rfl) (fun _ => ?_)
 refine hid2 (decide_eq_true hx) (hid2 (decide_eq_true hx) (hid2 (decide_eq_true hx) ?_))
 refine c_t (by rw [decide_eq_true ha]; rfl) ⟨fun h e he => c_t (by rw [decide_eq_true ha]; rfl) ⟨fun _ e1 h1 => ?_, fun h0 => absurd h0 h⟩, fun h _ cap tail hu ht => c_t (by rw [decide_eq_true ha]; rfl) ⟨fun h1 => absurd h h1, fun _ _ cap tail hu2 ht2 => ?_⟩⟩
 ·rw [← he, ← h1]
  exact congrArg Value.bool (beq_self_eq_true _)
 ·rw [← hu, ← hu2]
  exact c_f (by simp [eqT_refl]) rfl
theorem q8_2 (hx : sz63 x) (ha : sz63 a) (hb : sz63 b) : bodyQ Tryz.prog E8 noL Tryz.f8 [I op, .slice (some ⟨1, 0, some 1⟩) 2 cap, Fx.tv x] (vwT [.int .i64 a.k, .int .i64 a.p, .int .i64 a.q, .bool a.v, .string a.s, .int .i64 b.k, .int .i64 b.p, .int .i64 b.q, .bool b.v, .string b.s]) 2 (fun v _ _ => v = B true) := by
 rw [w8_2 _ _ a b cap (fun v => v = B true)]
 refine c_t (Bool.or_true _) (cond_intro (fun _ => rfl) (fun _ => ?_))
 refine cond_intro (fun _ => rfl) (fun _ => ?_)
 refine cond_intro (fun _ => rfl) (fun _ => ?_)
 refine hid2 (decide_eq_true hx) (hid2 (decide_eq_true hx) (hid2 (decide_eq_true hx) ?_))
 refine c_t (by rw [decide_eq_true ha, decide_eq_true hb]; rfl) ⟨fun h e he => c_t (by rw [decide_eq_true ha, decide_eq_true hb]; rfl) ⟨fun _ e1 h1 => ?_, fun h0 => absurd h0 h⟩, fun h _ _ cap tail hu hv ht => c_t (by rw [decide_eq_true ha, decide_eq_true hb]; rfl) ⟨fun h1 => absurd h h1, fun _ _ _ cap tail hu2 hv2 ht2 => ?_⟩⟩
 ·rw [← he, ← h1]
  exact congrArg Value.bool (beq_self_eq_true _)
 ·rw [← hu, ← hu2, ← hv, ← hv2]
  exact c_f (by simp [eqT_refl]) (c_f (by simp [eqT_refl]) rfl)
theorem q8_3 (hx : sz63 x) (ha : sz63 a) (hb : sz63 b) (hc : sz63 c) : bodyQ Tryz.prog E8 noL Tryz.f8 [I op, .slice (some ⟨1, 0, some 1⟩) 3 cap, Fx.tv x] (vwT [.int .i64 a.k, .int .i64 a.p, .int .i64 a.q, .bool a.v, .string a.s, .int .i64 b.k, .int .i64 b.p, .int .i64 b.q, .bool b.v, .string b.s, .int .i64 c.k, .int .i64 c.p, .int .i64 c.q, .bool c.v, .string c.s]) 2 (fun v _ _ => v = B true) := by
 rw [w8_3 _ _ a b c cap (fun v => v = B true)]
 refine c_t (Bool.or_true _) (cond_intro (fun _ => rfl) (fun _ => ?_))
 refine cond_intro (fun _ => rfl) (fun _ => ?_)
 refine cond_intro (fun _ => rfl) (fun _ => ?_)
 refine cond_intro (fun _ => rfl) (fun _ => ?_)
 refine hid2 (decide_eq_true hx) (hid2 (decide_eq_true hx) (hid2 (decide_eq_true hx) ?_))
 rfl
theorem q8_4 (hx : sz63 x) (ha : sz63 a) (hb : sz63 b) (hc : sz63 c) (hd : sz63 d) : bodyQ Tryz.prog E8 noL Tryz.f8 [I op, .slice (some ⟨1, 0, some 1⟩) 4 cap, Fx.tv x] (vwT [.int .i64 a.k, .int .i64 a.p, .int .i64 a.q, .bool a.v, .string a.s, .int .i64 b.k, .int .i64 b.p, .int .i64 b.q, .bool b.v, .string b.s, .int .i64 c.k, .int .i64 c.p, .int .i64 c.q, .bool c.v, .string c.s, .int .i64 d.k, .int .i64 d.p, .int .i64 d.q, .bool d.v, .string d.s]) 2 (fun v _ _ => v = B true) := by
 rw [w8_4 _ _ a b c d cap (fun v => v = B true)]
 refine c_t (Bool.or_true _) (cond_intro (fun _ => rfl) (fun _ => ?_))
 refine cond_intro (fun _ => rfl) (fun _ => ?_)
 refine cond_intro (fun _ => rfl) (fun _ => ?_)
 refine cond_intro (fun _ => rfl) (fun _ => ?_)
 refine cond_intro (fun _ => rfl) (fun _ => ?_)
 refine hid2 (decide_eq_true hx) (hid2 (decide_eq_true hx) (hid2 (decide_eq_true hx) ?_))
 rfl
theorem q8_x {len : Nat} {c : List Value} (h : 4 < len) : bodyQ Tryz.prog E8x noL Tryz.f8 [I op, .slice (some ⟨1, 0, some 1⟩) len cap, Fx.tv x] (vwT c) 2 (fun v _ _ => v = B true) := by
 rw [w8_x _ _ _ _ _ (fun v => v = B true)]
 have e : decide (Int.ofNat len > 4) = true := decide_eq_true (by show (4 : Int) < (len : Int); omega)
 rw [e]
 exact c_t (Bool.or_true _) (c_t (Bool.or_true _) rfl)
end
end Go.Cx
end
noncomputable section
namespace Go.Px
open Go Go.Ab Go.Proofs Go.Shelf Go.Cx Go.RowKit
theorem tabsC_of {n : Nat} {w : World} (h : @TabsIn tabs n w) : @TabsIn Cs.tabsC n w := h
theorem rsz {t : Fx.Ty} (h : okT t) : sz63 t := h.2.2.2
theorem ren_I (a : Int) (ι : Nm) : ren ι (I a) = I a := ren_plain _ rfl
theorem ren_tv (a : Fx.Ty) (ι : Nm) : ren ι (Fx.tv a) = Fx.tv a := ren_plain _ rfl
theorem ids_I (a : Int) : ids (I a) = [] := ids_plain rfl
theorem ids_tv (a : Fx.Ty) : ids (Fx.tv a) = [] := ids_plain rfl
theorem vwT_lk {w : World} {b off : Nat} {c : List Value} (hb : b < w.heap.size) (hc : ∀ i x, c[i]? = some x → w.cell? ⟨b, off + i, none⟩ = some x ∧ plain x = true) :
  ∀ k bl, vwT c k = some bl → k < 2 ∧ bl.own = false ∧ plainL bl.c = true ∧ (((fun _ => (b, off)) : Nm) k).1 < w.heap.size ∧ ∀ i v, bl.c[i]? = some v → w.cell? ⟨(((fun _ => (b, off)) : Nm) k).1, (((fun _ => (b, off)) : Nm) k).2 + i, none⟩ = some v := by
 intro k bl hk
 unfold vwT at hk
 split at hk
 ·rename_i e
  cases hk
  have := Nat.eq_of_beq_eq_true e
  refine ⟨by omega, rfl, plainL_iff.2 fun v hv => ?_, hb, fun i v hv => (hc i v hv).1⟩
  obtain ⟨i, hi⟩ := List.getElem?_of_mem hv
  exact (hc i v hi).2
 ·cases hk
section
variable {W : World}
theorem at8 {G : Env} (hG : @EnvOK Cs.tabsC Tryz.prog G) (ht : @TabsIn tabs W.heap.size W) (op : Int) (x : Fx.Ty) {b off n cap : Nat} {c : List Value} (hb : b < W.heap.size) (hc : ∀ i x, c[i]? = some x → W.cell? ⟨b, off + i, none⟩ = some x ∧ plain x = true)
  (h : @bodyQ Cs.tabsC Tryz.prog G noL Tryz.f8 [I op, .slice (some ⟨1, 0, some 1⟩) n cap, Fx.tv x] (vwT c) 2 (fun v _ _ => v = B true)) :
  Calls Tryz.prog 8 [I op, .slice (some ⟨b, off, none⟩) n cap, Fx.tv x].toArray W fun e w' => e = .returned (.bool true) ∧ Below W.heap.size W w' := by
 have q := @calls_top Cs.tabsC Tryz.prog G noL 8 Tryz.f8 hG hmix fn8 lokf_none [I op, .slice (some ⟨1, 0, some 1⟩) n cap, Fx.tv x] (vwT c) (B true) (Nat.le_of_ble_eq_true (by kernel_rfl)) (by rw [DoesT]; exact h) rfl W (fun _ => (b, off)) (tabsC_of ht) (vwT_lk hb hc)
  (fun v hv j hj => by simp only [List.mem_cons, List.not_mem_nil, or_false] at hv; rcases hv with rfl | rfl | rfl <;> first | (rw [ids_I] at hj; cases hj) | (rw [ids_tv] at hj; cases hj) | (simp [ids] at hj; omega))
 have e : ([I op, .slice (some ⟨1, 0, some 1⟩) n cap, Fx.tv x].map (ren fun _ => (b, off))).toArray = [I op, .slice (some ⟨b, off, none⟩) n cap, Fx.tv x].toArray := by
  simp only [List.map_cons, List.map_nil, ren_I, ren_tv]
  simp [ren, ren1]
 rw [e] at q
 exact q
theorem key8 (ht : @TabsIn tabs W.heap.size W) (op : Int) (x : Fx.Ty) (hx : okT x) {v : Value} (hv : v = .slice none 0 0 ∨ ∃ (b off n cap : Nat) (T : Nat → Fx.Ty), v = .slice (some ⟨b, off, none⟩) n cap ∧ b < W.heap.size ∧ n ≤ 9223372036854775807 ∧ (∀ i, i < n → okT (T i)) ∧ ∀ i x, (tcN T 0 n)[i]? = some x → W.cell? ⟨b, off + i, none⟩ = some x ∧ plain x = true) :
  Calls Tryz.prog 8 [I op, v, Fx.tv x].toArray W fun e w' => e = .returned (.bool true) ∧ Below W.heap.size W w' := by
 rcases hv with rfl | ⟨b, off, n, cap, T, rfl, hb, hn, hT, hcell⟩
 ·have q := @calls_top Cs.tabsC Tryz.prog E8 noL 8 Tryz.f8 ok_E8 hmix fn8 lokf_none [I op, .slice none 0 0, Fx.tv x] (fun _ => none) (B true) (Nat.le_of_ble_eq_true (by kernel_rfl)) (by rw [DoesT]; with_reducible exact q8_n (rsz hx)) rfl W (fun _ => (0, 0)) (tabsC_of ht) (fun _ _ h => by cases h)
   (fun v hv j hj => by simp only [List.mem_cons, List.not_mem_nil, or_false] at hv; rcases hv with rfl | rfl | rfl <;> first | (rw [ids_I] at hj; cases hj) | (rw [ids_tv] at hj; cases hj) | (simp [ids] at hj))
  have e : ([I op, .slice none 0 0, Fx.tv x].map (ren fun _ => (0, 0))).toArray = [I op, .slice none 0 0, Fx.tv x].toArray := by
   simp only [List.map_cons, List.map_nil, ren_I, ren_tv]
   simp [ren]
  rw [e] at q
  exact q
 ·by_cases h0 : n = 0
  ·subst h0
   have e : tcN T 0 0 = [] := rfl
   rw [e] at hcell
   refine at8 ok_E8 ht op x hb hcell ?_
   with_reducible exact q8_0 (rsz hx)
  by_cases h1 : n = 1
  ·subst h1
   have e : tcN T 0 1 = [.int .i64 (T 0).k, .int .i64 (T 0).p, .int .i64 (T 0).q, .bool (T 0).v, .string (T 0).s] := rfl
   rw [e] at hcell
   refine at8 ok_E8 ht op x hb hcell ?_
   with_reducible exact q8_1 (rsz hx) (rsz (hT 0 (by omega)))
  by_cases h2 : n = 2
  ·subst h2
   have e : tcN T 0 2 = [.int .i64 (T 0).k, .int .i64 (T 0).p, .int .i64 (T 0).q, .bool (T 0).v, .string (T 0).s, .int .i64 (T 1).k, .int .i64 (T 1).p, .int .i64 (T 1).q, .bool (T 1).v, .string (T 1).s] := rfl
   rw [e] at hcell
   refine at8 ok_E8 ht op x hb hcell ?_
   with_reducible exact q8_2 (rsz hx) (rsz (hT 0 (by omega))) (rsz (hT 1 (by omega)))
  by_cases h3 : n = 3
  ·subst h3
   have e : tcN T 0 3 = [.int .i64 (T 0).k, .int .i64 (T 0).p, .int .i64 (T 0).q, .bool (T 0).v, .string (T 0).s, .int .i64 (T 1).k, .int .i64 (T 1).p, .int .i64 (T 1).q, .bool (T 1).v, .string (T 1).s, .int .i64 (T 2).k, .int .i64 (T 2).p, .int .i64 (T 2).q, .bool (T 2).v, .string (T 2).s] := rfl
   rw [e] at hcell
   refine at8 ok_E8 ht op x hb hcell ?_
   with_reducible exact q8_3 (rsz hx) (rsz (hT 0 (by omega))) (rsz (hT 1 (by omega))) (rsz (hT 2 (by omega)))
  by_cases h4 : n = 4
  ·subst h4
   have e : tcN T 0 4 = [.int .i64 (T 0).k, .int .i64 (T 0).p, .int .i64 (T 0).q, .bool (T 0).v, .string (T 0).s, .int .i64 (T 1).k, .int .i64 (T 1).p, .int .i64 (T 1).q, .bool (T 1).v, .string (T 1).s, .int .i64 (T 2).k, .int .i64 (T 2).p, .int .i64 (T 2).q, .bool (T 2).v, .string (T 2).s, .int .i64 (T 3).k, .int .i64 (T 3).p, .int .i64 (T 3).q, .bool (T 3).v, .string (T 3).s] := rfl
   rw [e] at hcell
   refine at8 ok_E8 ht op x hb hcell ?_
   with_reducible exact q8_4 (rsz hx) (rsz (hT 0 (by omega))) (rsz (hT 1 (by omega))) (rsz (hT 2 (by omega))) (rsz (hT 3 (by omega)))
  refine at8 ok_E8x ht op x hb hcell ?_
  with_reducible exact q8_x (by omega)
end
end Go.Px
end
noncomputable section
set_option maxHeartbeats 3200000
namespace Go.Cx
open Go Go.Ab Go.Proofs Go.Shelf Go.Px Go.Cv
open Go.Fx (Ty Vl check Valid most base pw bnd Fit fits tv vv tup V0 T0 pw_zero pw_succ wrap_mul pw_w64 str0)
instance tabsU13 : Tabs := Cs.tabsC
def Y0 : Env := Env.nil
theorem ok_Y0 : EnvOK Tryz.prog Y0 := env_nil
def chT (t : Ty) : Bool := decide (t.k = 3 ∧ 0 ≤ t.p ∧ t.p ≤ 255 ∧ t.q = 0 ∧ t.s.toList = [])
def biT' (t : Ty) : Bool := decide (t.k = 4 ∧ 0 ≤ t.p ∧ t.p ≤ 64 ∧ t.q = 0 ∧ t.v = false ∧ t.s.toList = [])
def s193 (t : Ty) : Bool × Value := (true, B (chT t))
theorem fn193 : Fn1 Tryz.prog 193 Tryz.f193 := ⟨Tryz.func193, by kernel_rfl, by kernel_rfl, by kernel_rfl⟩
theorem v193 (t : Ty) (R : Value → Prop) : bodyQ Tryz.prog Y0 noL Tryz.f193 [Enc.enc t] (fun _ => none) 0 (fun v _ _ => R v) = ( bif bif Ty.k t == 3 then bif decide (Ty.p t ≥ 0) then bif decide (Ty.p t ≤ 255) then Ty.q t == 0 || true else true else true else true then R (B (Ty.k t == 3 && (decide (Ty.p t ≥ 0) && (decide (Ty.p t ≤ 255) && (Ty.q t == 0 && ByteArray.toList (Ty.s t) == ByteArray.toList (ByteArray.mk #[])))))) else False) := by kernel_rfl
theorem ok193 : PureOK Tryz.prog 193 (sp1 s193) := by
 refine qure1 ok_Y0 hmix fn193 lokf_none (Nat.le_of_ble_eq_true (by kernel_rfl)) fun t hc => ?_
 rw [DoesQ, v193]
 try dsimp only [s193]
 repeat' refine cond_intro (fun h => ?_) (fun h => ?_)
 all_goals grind [s193, chT, Fx.str0]
def s194 (t : Ty) : Bool × Value := (true, B (biT' t))
theorem fn194 : Fn1 Tryz.prog 194 Tryz.f194 := ⟨Tryz.func194, by kernel_rfl, by kernel_rfl, by kernel_rfl⟩
theorem v194 (t : Ty) (R : Value → Prop) : bodyQ Tryz.prog Y0 noL Tryz.f194 [Enc.enc t] (fun _ => none) 0 (fun v _ _ => R v) = ( bif bif Ty.k t == 4 && (Ty.p t == Ty.p t && (Ty.q t == 0 && (Ty.v t == false && (ByteArray.toList (Ty.s t) == ByteArray.toList (ByteArray.mk #[]) && true)))) then decide (Ty.p t ≥ 0) || true else true then R (B (Ty.k t == 4 && (Ty.p t == Ty.p t && (Ty.q t == 0 && (Ty.v t == false && (ByteArray.toList (Ty.s t) == ByteArray.toList (ByteArray.mk #[]) && true)))) && (decide (Ty.p t ≥ 0) && decide (Ty.p t ≤ 64)))) else False) := by kernel_rfl
theorem ok194 : PureOK Tryz.prog 194 (sp1 s194) := by
 refine qure1 ok_Y0 hmix fn194 lokf_none (Nat.le_of_ble_eq_true (by kernel_rfl)) fun t hc => ?_
 rw [DoesQ, v194]
 try dsimp only [s194]
 repeat' refine cond_intro (fun h => ?_) (fun h => ?_)
 all_goals grind [s194, biT', Fx.str0]
def Y1 : Env := (Y0.add 193 (sp1 s193)).add 194 (sp1 s194)
def Y2 : Env := Env.nil.addG 137 (inlQ Tryz.prog Y1 noL Tryz.f137)
theorem fn137 : Fn1 Tryz.prog 137 Tryz.f137 := ⟨Tryz.func137, by kernel_rfl, by kernel_rfl, by kernel_rfl⟩
theorem ok_Y1 : EnvOK Tryz.prog Y1 := env_add (env_add ok_Y0 ok193) ok194
theorem ok_Y2 : EnvOK Tryz.prog Y2 := env_addG env_nil (gen_inlQ ok_Y1 hmix fn137 lokf_none)
theorem fn63 : Fn1 Tryz.prog 63 Tryz.f63 := ⟨Tryz.func63, by kernel_rfl, by kernel_rfl, by kernel_rfl⟩
theorem x63_14 (a : Ty) (b : Ty) (rest : List Value) (cap : Nat) (R : Value → Prop) : (bodyQ Tryz.prog Y2 noL Tryz.f63 [I 14, .slice (some ⟨1, 0, some 1⟩) 2 cap] (vwT ([I a.k, I a.p, I a.q, B a.v, S a.s, I b.k, I b.p, I b.q, B b.v, S b.s] ++ rest)) 2 (fun v _ _ => R v)) = ( bif !chT a then bif !biT' a then R (.tuple (.mk [.agg (.mk [I 0, I 0, I 0, B false, S (ByteArray.mk #[])]), I 5])) else bif !biT' b then R (.tuple (.mk [.agg (.mk [I 0, I 0, I 0, B false, S (ByteArray.mk #[])]), I 5])) else R (.tuple (.mk [.agg (.mk [I 4, I (imin 64 (IntKind.wrap .i64 (Ty.p a + Ty.p b))), I 0, B false, S (ByteArray.mk #[])]), I 0])) else bif !chT b then bif !biT' a then R (.tuple (.mk [.agg (.mk [I 0, I 0, I 0, B false, S (ByteArray.mk #[])]), I 5])) else bif !biT' b then R (.tuple (.mk [.agg (.mk [I 0, I 0, I 0, B false, S (ByteArray.mk #[])]), I 5])) else R (.tuple (.mk [.agg (.mk [I 4, I (imin 64 (IntKind.wrap .i64 (Ty.p a + Ty.p b))), I 0, B false, S (ByteArray.mk #[])]), I 0])) else R (.tuple (.mk [.agg (.mk [I 3, I (imin 255 (IntKind.wrap .i64 (Ty.p a + Ty.p b))), I 0, B true, S (ByteArray.mk #[])]), I 0]))) := by kernel_rfl
theorem x63_15 (a : Ty) (b : Ty) (rest : List Value) (cap : Nat) (R : Value → Prop) : (bodyQ Tryz.prog Y2 noL Tryz.f63 [I 15, .slice (some ⟨1, 0, some 1⟩) 2 cap] (vwT ([I a.k, I a.p, I a.q, B a.v, S a.s, I b.k, I b.p, I b.q, B b.v, S b.s] ++ rest)) 2 (fun v _ _ => R v)) = ( bif !biT' a then R (.tuple (.mk [.agg (.mk [I 0, I 0, I 0, B false, S (ByteArray.mk #[])]), I 5])) else bif !biT' b then R (.tuple (.mk [.agg (.mk [I 0, I 0, I 0, B false, S (ByteArray.mk #[])]), I 5])) else R (.tuple (.mk [.agg (.mk [I 4, I (imax (Ty.p a) (Ty.p b)), I 0, B false, S (ByteArray.mk #[])]), I 0]))) := by kernel_rfl
theorem x63_16 (a : Ty) (b : Ty) (rest : List Value) (cap : Nat) (R : Value → Prop) : (bodyQ Tryz.prog Y2 noL Tryz.f63 [I 16, .slice (some ⟨1, 0, some 1⟩) 2 cap] (vwT ([I a.k, I a.p, I a.q, B a.v, S a.s, I b.k, I b.p, I b.q, B b.v, S b.s] ++ rest)) 2 (fun v _ _ => R v)) = ( bif !biT' a then R (.tuple (.mk [.agg (.mk [I 0, I 0, I 0, B false, S (ByteArray.mk #[])]), I 5])) else bif !biT' b then R (.tuple (.mk [.agg (.mk [I 0, I 0, I 0, B false, S (ByteArray.mk #[])]), I 5])) else R (.tuple (.mk [.agg (.mk [I 4, I (imax (Ty.p a) (Ty.p b)), I 0, B false, S (ByteArray.mk #[])]), I 0]))) := by kernel_rfl
theorem x63_17 (a : Ty) (rest : List Value) (cap : Nat) (R : Value → Prop) : (bodyQ Tryz.prog Y2 noL Tryz.f63 [I 17, .slice (some ⟨1, 0, some 1⟩) 1 cap] (vwT ([I a.k, I a.p, I a.q, B a.v, S a.s] ++ rest)) 2 (fun v _ _ => R v)) = ( bif !biT' a then R (.tuple (.mk [.agg (.mk [I 0, I 0, I 0, B false, S (ByteArray.mk #[])]), I 5])) else R (.tuple (.mk [.agg (.mk [I (Ty.k a), I (Ty.p a), I (Ty.q a), B (Ty.v a), S (Ty.s a)]), I 0]))) := by kernel_rfl
end Go.Cx
end
noncomputable section
set_option maxHeartbeats 3200000
namespace Go.Cx
open Go Go.Ab Go.Proofs Go.Shelf Go.Px Go.Cv
open Go.Fx (Ty Vl check Valid most base pw bnd Fit fits tv vv tup V0 T0)
def okR2 (op : Int) (a b : Ty) : Bool := (op == 14 && (chT a && chT b)) || ((op == 14 || op == 15 || op == 16) && (biT' a && biT' b))
def h63 : List Value → Lk → Nat → (Value → Lk → Nat → Prop) → Prop := fun args m n K => match args with
 | [.int .i64 op, .slice (some ⟨k, 0, some 1⟩) len cap] => match noIt (m k) with
  | some b => match len with
   | 1 => match b.c with
    | .int .i64 k1 :: .int .i64 p1 :: .int .i64 q1 :: .bool v1 :: .string s1 :: rest => match cnd ((op == 17 && biT' ⟨k1, p1, q1, v1, s1⟩) && plainL rest) with
     | true => ∀ t : Ty, K (.tuple ⟨[Fx.tv t, .int .i64 0]⟩) m n
     | false => False
    | _ => False
   | 2 => match b.c with
    | .int .i64 k1 :: .int .i64 p1 :: .int .i64 q1 :: .bool v1 :: .string s1 :: .int .i64 k2 :: .int .i64 p2 :: .int .i64 q2 :: .bool v2 :: .string s2 :: rest => match cnd (okR2 op ⟨k1, p1, q1, v1, s1⟩ ⟨k2, p2, q2, v2, s2⟩ && plainL rest) with
     | true => ∀ t : Ty, K (.tuple ⟨[Fx.tv t, .int .i64 0]⟩) m n
     | false => False
    | _ => False
   | _ => False
  | none => False
 | _ => False
def ROt (v : Value) : Prop := ∃ t : Ty, v = .tuple ⟨[Fx.tv t, .int .i64 0]⟩
theorem rot_new {m : Lk} {n : Nat} {K : Value → Lk → Nat → Prop} (h : ∀ t : Ty, K (.tuple ⟨[Fx.tv t, .int .i64 0]⟩) m n) {v' : Value} {m' : Lk} (hR : ROt v') :
  ∃ v mm nn σ, ((∀ k b, m k = some b → k < n) → NewM m n m' mm nn σ) ∧ (∀ i ∈ ids v, n ≤ i ∧ i < nn) ∧ (∀ ι' ι'' : Nm, (∀ i, n ≤ i → ι'' i = ι' (σ i)) → ren ι'' v = ren ι' v') ∧ K v mm nn := by
 obtain ⟨t, rfl⟩ := hR
 exact ⟨_, m, n, id, fun hwf => new_none hwf m' id, by simp [ids, idsL, Fx.tv], fun _ _ _ => by simp [ren, renL, Fx.tv], h t⟩
section
variable {a b : Ty} (rest : List Value) (cap : Nat)
theorem u63_17 (h : biT' a = true) : bodyQ Tryz.prog Y2 noL Tryz.f63 [I 17, .slice (some ⟨1, 0, some 1⟩) 1 cap] (MR1 a rest) 2 (fun v _ _ => ROt v) := by
 rw [MR1, x63_17 a rest cap ROt]
 exact c_f (by rw [h]; rfl) ⟨a, rfl⟩
theorem u63_14 (h1 : chT a = true) (h2 : chT b = true) : bodyQ Tryz.prog Y2 noL Tryz.f63 [I 14, .slice (some ⟨1, 0, some 1⟩) 2 cap] (MR a b rest) 2 (fun v _ _ => ROt v) := by
 rw [MR, x63_14 a b rest cap ROt]
 exact c_f (by rw [h1]; rfl) (c_f (by rw [h2]; rfl) ⟨⟨3, _, 0, true, ⟨#[]⟩⟩, rfl⟩)
theorem u63_14b (h1 : biT' a = true) (h2 : biT' b = true) : bodyQ Tryz.prog Y2 noL Tryz.f63 [I 14, .slice (some ⟨1, 0, some 1⟩) 2 cap] (MR a b rest) 2 (fun v _ _ => ROt v) := by
 rw [MR, x63_14 a b rest cap ROt]
 refine cond_intro (fun _ => c_f (by rw [h1]; rfl) (c_f (by rw [h2]; rfl) ⟨⟨4, _, 0, false, ⟨#[]⟩⟩, rfl⟩)) (fun _ => ?_)
 exact cond_intro (fun _ => c_f (by rw [h1]; rfl) (c_f (by rw [h2]; rfl) ⟨⟨4, _, 0, false, ⟨#[]⟩⟩, rfl⟩)) (fun _ => ⟨⟨3, _, 0, true, ⟨#[]⟩⟩, rfl⟩)
theorem u63_15 (h1 : biT' a = true) (h2 : biT' b = true) : bodyQ Tryz.prog Y2 noL Tryz.f63 [I 15, .slice (some ⟨1, 0, some 1⟩) 2 cap] (MR a b rest) 2 (fun v _ _ => ROt v) := by
 rw [MR, x63_15 a b rest cap ROt]
 exact c_f (by rw [h1]; rfl) (c_f (by rw [h2]; rfl) ⟨⟨4, _, 0, false, ⟨#[]⟩⟩, rfl⟩)
theorem u63_16 (h1 : biT' a = true) (h2 : biT' b = true) : bodyQ Tryz.prog Y2 noL Tryz.f63 [I 16, .slice (some ⟨1, 0, some 1⟩) 2 cap] (MR a b rest) 2 (fun v _ _ => ROt v) := by
 rw [MR, x63_16 a b rest cap ROt]
 exact c_f (by rw [h1]; rfl) (c_f (by rw [h2]; rfl) ⟨⟨4, _, 0, false, ⟨#[]⟩⟩, rfl⟩)
theorem y63_17 {op : Int} (h : (op == 17 && biT' a) = true) : bodyQ Tryz.prog Y2 noL Tryz.f63 [I op, .slice (some ⟨1, 0, some 1⟩) 1 cap] (MR1 a rest) 2 (fun v _ _ => ROt v) := by
 have ho : op = 17 := by simpa using (Bool.and_eq_true_iff.1 h).1
 have h2 := (Bool.and_eq_true_iff.1 h).2
 clear h
 cases ho
 with_reducible exact u63_17 rest cap h2
theorem w63_14 {op : Int} (ho : op = 14) (h1 : chT a = true) (h2 : chT b = true) : bodyQ Tryz.prog Y2 noL Tryz.f63 [I op, .slice (some ⟨1, 0, some 1⟩) 2 cap] (MR a b rest) 2 (fun v _ _ => ROt v) := by
 cases ho
 with_reducible exact u63_14 rest cap h1 h2
theorem w63_14b {op : Int} (ho : op = 14) (h1 : biT' a = true) (h2 : biT' b = true) : bodyQ Tryz.prog Y2 noL Tryz.f63 [I op, .slice (some ⟨1, 0, some 1⟩) 2 cap] (MR a b rest) 2 (fun v _ _ => ROt v) := by
 cases ho
 with_reducible exact u63_14b rest cap h1 h2
theorem w63_15 {op : Int} (ho : op = 15) (h1 : biT' a = true) (h2 : biT' b = true) : bodyQ Tryz.prog Y2 noL Tryz.f63 [I op, .slice (some ⟨1, 0, some 1⟩) 2 cap] (MR a b rest) 2 (fun v _ _ => ROt v) := by
 cases ho
 with_reducible exact u63_15 rest cap h1 h2
theorem w63_16 {op : Int} (ho : op = 16) (h1 : biT' a = true) (h2 : biT' b = true) : bodyQ Tryz.prog Y2 noL Tryz.f63 [I op, .slice (some ⟨1, 0, some 1⟩) 2 cap] (MR a b rest) 2 (fun v _ _ => ROt v) := by
 cases ho
 with_reducible exact u63_16 rest cap h1 h2
theorem okR2_iff {op : Int} (h : okR2 op a b = true) : (op = 14 ∧ chT a = true ∧ chT b = true) ∨ ((op = 14 ∨ op = 15 ∨ op = 16) ∧ biT' a = true ∧ biT' b = true) := by
 unfold okR2 at h
 simp only [Bool.or_eq_true, Bool.and_eq_true, beq_iff_eq, or_assoc] at h
 exact h
theorem y63_2 {op : Int} (h : okR2 op a b = true) : bodyQ Tryz.prog Y2 noL Tryz.f63 [I op, .slice (some ⟨1, 0, some 1⟩) 2 cap] (MR a b rest) 2 (fun v _ _ => ROt v) := by
 have q := okR2_iff h
 cases q with
 | inl q => with_reducible exact w63_14 rest cap q.1 q.2.1 q.2.2
 | inr q =>
  have q2 := q.1
  cases q2 with
  | inl e => with_reducible exact w63_14b rest cap e q.2.1 q.2.2
  | inr e =>
   cases e with
   | inl e => with_reducible exact w63_15 rest cap e q.2.1 q.2.2
   | inr e => with_reducible exact w63_16 rest cap e q.2.1 q.2.2
end
theorem n63 : 2 ≤ Tryz.f63.ntmps := by decide
theorem gen63 : GenOK Tryz.prog 63 h63 := by
 refine ⟨⟨_, fn63.1, fn63.3, by have h2 := fn63.2; cases hb : Tryz.f63.body with | none => rw [hb] at h2; cases h2 | some _ => rfl⟩, fun args m n K h N w0 ι w hrel hwf hav => ?_⟩
 unfold h63 at h
 split at h
 ·rename_i op k len cap
  split at h
  ·rename_i b hb
   split at h
   ·split at h
    ·rename_i k1 p1 q1 v1 s1 rest hc
     split at h
     ·rename_i hp
      have hp : ((op == 17 && biT' ⟨k1, p1, q1, v1, s1⟩) && plainL rest) = true := hp
      rw [Bool.and_eq_true] at hp
      have hpl : plainL b.c = true := by rw [hc]; exact hp.2
      refine gen_newG (R := fun v _ => ROt v) (fun _ _ => []) ok_Y2 fn63 lokf_none hrel hwf (sub_vw hb hpl) (args' := sv op 1 cap) (fun ι => by simp [ren, ren1]) n63 (fun v hv j hj => by simp [sv] at hv; rcases hv with rfl | rfl <;> simp [ids] at hj; omega) ?_ (fun v' m' hv => rot_new h hv)
      rw [hc, show vwT (.int .i64 k1 :: .int .i64 p1 :: .int .i64 q1 :: .bool v1 :: .string s1 :: rest) = MR1 ⟨k1, p1, q1, v1, s1⟩ rest from rfl]
      with_reducible exact y63_17 (a := ⟨k1, p1, q1, v1, s1⟩) rest cap hp.1
     ·exact h.elim
    ·exact h.elim
   ·split at h
    ·rename_i k1 p1 q1 v1 s1 k2 p2 q2 v2 s2 rest hc
     split at h
     ·rename_i hp
      have hp : (okR2 op ⟨k1, p1, q1, v1, s1⟩ ⟨k2, p2, q2, v2, s2⟩ && plainL rest) = true := hp
      rw [Bool.and_eq_true] at hp
      have hpl : plainL b.c = true := by rw [hc]; exact hp.2
      refine gen_newG (R := fun v _ => ROt v) (fun _ _ => []) ok_Y2 fn63 lokf_none hrel hwf (sub_vw hb hpl) (args' := sv op 2 cap) (fun ι => by simp [ren, ren1]) n63 (fun v hv j hj => by simp [sv] at hv; rcases hv with rfl | rfl <;> simp [ids] at hj; omega) ?_ (fun v' m' hv => rot_new h hv)
      rw [hc, show vwT (.int .i64 k1 :: .int .i64 p1 :: .int .i64 q1 :: .bool v1 :: .string s1 :: .int .i64 k2 :: .int .i64 p2 :: .int .i64 q2 :: .bool v2 :: .string s2 :: rest) = MR ⟨k1, p1, q1, v1, s1⟩ ⟨k2, p2, q2, v2, s2⟩ rest from rfl]
      with_reducible exact y63_2 (a := ⟨k1, p1, q1, v1, s1⟩) (b := ⟨k2, p2, q2, v2, s2⟩) rest cap hp.1
     ·exact h.elim
    ·exact h.elim
   ·exact h.elim
  ·exact h.elim
 ·exact h.elim
end Go.Cx
end
noncomputable section
set_option maxHeartbeats 3200000
namespace Go.Cx
open Go Go.Ab Go.Proofs Go.Shelf Go.Px Go.Cv
open Go.Fx (Ty Vl check Valid most base pw bnd Fit fits tv vv tup V0 T0 resE isOp unary)
theorem bz_e : bz (ByteArray.mk #[]) = [] := rfl
theorem sc_valid {t : Ty} (h : Valid t) : scal t = 0 := by
 unfold scal
 rw [if_neg (by have := h.1; omega)]
 exact if_pos h
theorem nv_k {t : Ty} (h : t.k ≠ 1) (h2 : t.k ≠ 2) : ¬ Valid t := fun v => by have := v.1; omega
theorem isN_k {t : Ty} (h : t.k = 3 ∨ t.k = 4) : isN t = false := by
 unfold isN numT
 rw [decide_eq_false (nv_k (by omega) (by omega)), beq_eq_false_iff_ne.2 (by omega)]
 rfl
theorem sc_cha {p : Int} {v : Bool} (h : 0 ≤ p ∧ p ≤ 255) : scal ⟨3, p, 0, v, ⟨#[]⟩⟩ = 0 := by
 unfold scal
 rw [if_neg (by show ¬ ((3 : Int) = 6); omega)]
 unfold chk4
 rw [if_neg (nv_k (by show (3 : Int) ≠ 1; omega) (by show (3 : Int) ≠ 2; omega)), if_pos ⟨rfl, rfl, bz_e, h.1, h.2⟩]
theorem sc_bit {p : Int} (h : 0 ≤ p ∧ p ≤ 64) : scal ⟨4, p, 0, false, ⟨#[]⟩⟩ = 0 := by
 unfold scal
 rw [if_neg (by show ¬ ((4 : Int) = 6); omega)]
 unfold chk4
 rw [if_neg (nv_k (by show (4 : Int) ≠ 1; omega) (by show (4 : Int) ≠ 2; omega)), if_neg (fun q => absurd q.1 (by show ¬ ((4 : Int) = 3); omega)), if_pos ⟨rfl, rfl, bz_e, rfl, h.1, h.2⟩]
theorem chaW_rng {t : Ty} (h : scal t = 0) : 0 ≤ chaW t ∧ chaW t ≤ 255 := by
 unfold chaW
 rcases kinds h with ⟨hk, hv⟩ | ⟨hk, hv⟩ | ⟨hk, nv, r1, r2⟩ | ⟨hk, nv, r1, r2⟩ | ⟨hk, nv, hp⟩
 ·have r := Fx.valid_r hv
  have := dec_p hv hk
  rw [if_pos (.inl hk)]
  unfold wid
  rw [if_neg (by omega)]
  omega
 ·have r := Fx.valid_r hv
  rw [if_pos (.inr hk)]
  unfold wid
  rw [if_pos hk]
  have : t.p ≤ 31 := by have := hv.2.2.1; unfold most at this; rw [if_neg (by omega)] at this; exact this
  omega
 ·rw [if_neg (by omega), if_neg (by omega)]; omega
 ·rw [if_neg (by omega), if_neg (by omega)]; omega
 ·rw [if_neg (by omega), if_pos hk]
  have := @pW_rng t.s
  omega
theorem cha3 {t : Ty} (h : scal t = 0) (hk : t.k = 3) : chT t = true := by
 unfold scal at h
 rw [if_neg (by omega)] at h
 unfold chk4 at h
 rw [if_neg (nv_k (by omega) (by omega))] at h
 split at h
 ·rename_i q
  obtain ⟨-, q1, q2, q3, q4⟩ := q
  have hs : t.s = ⟨#[]⟩ := by rw [← sz_bz t.s, q2]; rfl
  unfold chT
  rw [hs, e0_nil]
  exact decide_eq_true ⟨hk, q3, q4, q1, rfl⟩
 ·rw [if_neg (fun q => by have := q.1; omega), if_neg (fun q => by have := q.1; omega), if_neg (fun q => by have := q.1; omega)] at h
  cases h
theorem cha_ok {t : Ty} (h : scal t = 0) : scal (chaT t) = 0 ∧ chaT (chaT t) = chaT t ∧ chT (chaT t) = true := by
 have hk := cha_k h
 have hw := chaW_rng h
 have e : scal (chaT t) = 0 := by
  unfold chaT
  rw [if_neg (by rw [h]; decide)]
  split
  ·exact h
  ·exact sc_cha hw
 refine ⟨e, ?_, cha3 e hk⟩
 generalize chaT t = u at *
 unfold chaT
 rw [if_neg (by rw [e]; decide), if_pos hk]
theorem bw_rng {t : Ty} (h : scal t = 0) : 0 ≤ bwT t := by
 unfold bwT
 rcases kinds h with ⟨hk, hv⟩ | ⟨hk, hv⟩ | ⟨hk, nv, r1, r2⟩ | ⟨hk, nv, r1, r2⟩ | ⟨hk, nv, hp⟩
 ·have r := Fx.valid_r hv
  rw [if_pos (.inl hk)]
  unfold bitW0
  rw [if_neg (by omega)]
  omega
 ·have r := Fx.valid_r hv
  rw [if_pos (.inr hk)]
  unfold bitW0
  rw [if_pos hk]
  omega
 ·unfold numT
  rw [if_neg (by omega), if_neg (by rw [beq_eq_false_iff_ne.2 (by omega)]; simp), if_neg (by omega)]; omega
 ·unfold numT
  rw [if_neg (by omega), if_neg (by rw [beq_eq_false_iff_ne.2 (by omega)]; simp), if_neg (by omega)]; omega
 ·rw [if_neg (by omega)]
  split
  ·rename_i hn
   unfold numT at hn
   rw [Bool.and_eq_true] at hn
   have r := Fx.valid_r (pi_valid hn.2)
   have := r
   unfold bitW0 piT
   simp only at *
   split <;> omega
  ·exact (@pW_rng t.s).1
theorem bit_ok {t : Ty} (h : scal t = 0) : scal (bitT t) = 0 ∧ bitT (bitT t) = bitT t ∧ biT' (bitT t) = true := by
 have hw := bw_rng h
 have e : bitT t = ⟨4, min 64 (bwT t), 0, false, ⟨#[]⟩⟩ := by
  unfold bitT
  rw [if_neg (by rw [h]; decide)]
 have s : scal (bitT t) = 0 := by rw [e]; exact sc_bit (by omega)
 refine ⟨s, bit_self s (bit_k h), ?_⟩
 rw [e]
 unfold biT'
 exact decide_eq_true ⟨rfl, (by show 0 ≤ min 64 (bwT t); omega), (by show min 64 (bwT t) ≤ 64; omega), rfl, rfl, e0_nil⟩
theorem ari_ok {t : Ty} (h : scal t = 0) : scal (ariT t) = 0 ∧ ariT (ariT t) = ariT t ∧ Valid (ariT t) := by
 have hv := ari_v h
 refine ⟨sc_valid hv, ?_, hv⟩
 generalize ariT t = u at *
 unfold ariT
 rw [if_neg (by rw [sc_valid hv]; decide), if_pos hv]
theorem bin_ok {t : Ty} (hv : Valid t) : Valid (Fx.binT t) ∧ (Fx.binT t).k = 2 := by
 rcases hv.1 with hk | hk
 ·have r := Fx.valid_r hv
  have := dec_p hv hk
  rw [binT_eq hv hk]
  have h9 : (t.p * 332 + 99) / 100 ≤ 30 := by omega
  exact ⟨⟨.inr rfl, (by show 1 ≤ 1 + (t.p * 332 + 99) / 100; omega), (by show 1 + (t.p * 332 + 99) / 100 ≤ 31; omega), Int.le_refl 0, (by show (0 : Int) ≤ 1 + (t.p * 332 + 99) / 100; omega), fun _ => rfl, rfl, e0_nil⟩, rfl⟩
 ·rw [binT_self hv hk]
  exact ⟨hv, hk⟩
theorem ari_self {t : Ty} (hv : Valid t) : ariT t = t := by
 unfold ariT
 rw [if_neg (by rw [sc_valid hv]; decide), if_pos hv]
theorem chk_sc {t : Ty} (h : scal t = 0) : chk4 t = 0 ∧ t.k ≠ 6 := by
 unfold scal at h
 split at h
 ·cases h
 ·exact ⟨h, by assumption⟩
theorem op1_id {op : Int} {a u : Ty} (hc : cntO op = 1) (h : op1 op a = (0, u)) : op1 op u = (0, u) ∧ (op = 17 → biT' u = true) ∧ (op = 5 ∨ op = 11 → Valid u) := by
 unfold op1 at h
 split at h
 ·rename_i h0; exact absurd (congrArg Prod.fst h) h0
 ·rename_i h0
  split at h
  ·have := congrArg Prod.fst h; cases this
  ·rename_i h6
   have hs := sc_of (Decidable.not_not.1 h0) h6
   have hu : opF op false false a = u := congrArg Prod.snd h
   rcases cn1 hc with ho | ho
   ·have e : ∀ t, opF op false false t = ariT t := fun t => by unfold opF; rw [if_neg (by omega), if_neg (by omega)]
    rw [e] at hu
    obtain ⟨s, i, v⟩ := ari_ok hs
    rw [hu] at s i v
    obtain ⟨c, k⟩ := chk_sc s
    refine ⟨?_, fun q => by omega, fun _ => v⟩
    unfold op1
    rw [if_neg (by rw [c]; decide), if_neg k, e, i]
   ·have e : ∀ t, opF op false false t = bitT t := fun t => by unfold opF; rw [if_pos (by omega)]
    rw [e] at hu
    obtain ⟨s, i, v⟩ := bit_ok hs
    rw [hu] at s i v
    obtain ⟨c, k⟩ := chk_sc s
    refine ⟨?_, fun _ => v, fun q => by omega⟩
    unfold op1
    rw [if_neg (by rw [c]; decide), if_neg k, e, i]
theorem op2_mk {op : Int} {u v : Ty} (h1 : scal u = 0) (h2 : scal v = 0) (hk : u.k = v.k) (e1 : opF op (isN u || isN v) (decide (u.k = 4 ∧ v.k = 4)) u = u) (e2 : opF op (isN u || isN v) (decide (u.k = 4 ∧ v.k = 4)) v = v) : op2 op u v = (0, u, v) := by
 obtain ⟨c1, k1⟩ := chk_sc h1
 obtain ⟨c2, k2⟩ := chk_sc h2
 unfold op2
 rw [if_neg (by rw [c1]; decide), if_neg (by rw [c2]; decide), if_neg (by omega), if_neg (by omega), e1, e2, show bo2 u v = (u, v) from if_pos hk]
theorem op2_id {op : Int} {a b u v : Ty} (hc : cntO op = 2) (h : op2 op a b = (0, u, v)) :
  op2 op u v = (0, u, v) ∧ u.k = v.k ∧ u.k ≠ 5 ∧ (op = 14 ∨ op = 15 ∨ op = 16 → okR2 op u v = true) ∧ (6 ≤ op ∧ op ≤ 13 → Valid u ∧ Valid v) := by
 by_cases h0 : chk4 a = 0
 case neg => unfold op2 at h; rw [if_pos h0] at h; exact absurd (congrArg Prod.fst h) h0
 by_cases h1 : chk4 b = 0
 case neg => unfold op2 at h; rw [if_neg (by rw [h0]; decide), if_pos h1] at h; exact absurd (congrArg Prod.fst h) h1
 by_cases hp : op = 18 ∧ a.k = 6 ∧ b.k = 6
 ·have h' := h
  unfold op2 at h
  rw [if_neg (by rw [h0]; decide), if_neg (by rw [h1]; decide), if_pos hp] at h
  cases h
  exact ⟨h', by omega, by omega, fun q => by omega, fun q => by omega⟩
 by_cases h6 : a.k = 6 ∨ b.k = 6
 ·unfold op2 at h
  rw [if_neg (by rw [h0]; decide), if_neg (by rw [h1]; decide), if_neg hp, if_pos h6] at h
  have := congrArg Prod.fst h
  cases this
 have sa := sc_of h0 (by omega)
 have sb := sc_of h1 (by omega)
 have hA : ∀ (e : ∀ t, opF op (isN a || isN b) (decide (a.k = 4 ∧ b.k = 4)) t = ariT t), u.k = v.k ∧ Valid u ∧ Valid v := fun e => by
  unfold op2 at h
  rw [if_neg (by rw [h0]; decide), if_neg (by rw [h1]; decide), if_neg hp, if_neg h6, e, e] at h
  have h := congrArg Prod.snd h
  obtain ⟨-, -, va⟩ := ari_ok sa
  obtain ⟨-, -, vb⟩ := ari_ok sb
  dsimp only at h
  unfold bo2 at h
  split at h
  ·cases h
   rename_i q
   exact ⟨q, va, vb⟩
  ·cases h
   obtain ⟨v1, k1⟩ := bin_ok va
   obtain ⟨v2, k2⟩ := bin_ok vb
   exact ⟨by omega, v1, v2⟩
 have hB : ∀ (e : ∀ t, opF op (isN a || isN b) (decide (a.k = 4 ∧ b.k = 4)) t = bitT t), u = bitT a ∧ v = bitT b := fun e => by
  unfold op2 at h
  rw [if_neg (by rw [h0]; decide), if_neg (by rw [h1]; decide), if_neg hp, if_neg h6, e, e] at h
  have h := congrArg Prod.snd h
  dsimp only at h
  rw [show bo2 (bitT a) (bitT b) = (bitT a, bitT b) from if_pos (by rw [bit_k sa, bit_k sb])] at h
  cases h
  exact ⟨rfl, rfl⟩
 have hC : ∀ (e : ∀ t, opF op (isN a || isN b) (decide (a.k = 4 ∧ b.k = 4)) t = chaT t), u = chaT a ∧ v = chaT b := fun e => by
  unfold op2 at h
  rw [if_neg (by rw [h0]; decide), if_neg (by rw [h1]; decide), if_neg hp, if_neg h6, e, e] at h
  have h := congrArg Prod.snd h
  dsimp only at h
  rw [show bo2 (chaT a) (chaT b) = (chaT a, chaT b) from if_pos (by rw [cha_k sa, cha_k sb])] at h
  cases h
  exact ⟨rfl, rfl⟩
 clear h
 have dA : ∀ n c t, ¬ (op = 15 ∨ op = 16 ∨ op = 17) → ¬ (op = 14 ∨ (op = 18 ∧ n = false)) → opF op n c t = ariT t := fun n c t q1 q2 => by unfold opF; rw [if_neg q1, if_neg q2]
 have dB : ∀ n t, (op = 14 ∨ (op = 18 ∧ n = false)) → opF op n true t = bitT t := fun n t q => by unfold opF; rw [if_neg (by omega), if_pos q, if_pos rfl]
 have dC : ∀ n t, (op = 14 ∨ (op = 18 ∧ n = false)) → opF op n false t = chaT t := fun n t q => by unfold opF; rw [if_neg (by omega), if_pos q, if_neg (by decide)]
 by_cases hb : op = 15 ∨ op = 16
 ·obtain ⟨rfl, rfl⟩ := hB fun t => by unfold opF; rw [if_pos (by omega)]
  obtain ⟨s1, i1, t1⟩ := bit_ok sa
  obtain ⟨s2, i2, t2⟩ := bit_ok sb
  have k1 := bit_k sa
  have k2 := bit_k sb
  refine ⟨op2_mk s1 s2 (by omega) ?_ ?_, by omega, by omega, fun _ => ?_, fun q => by omega⟩
  ·unfold opF; rw [if_pos (by omega), i1]
  ·unfold opF; rw [if_pos (by omega), i2]
  ·unfold okR2; rw [t1, t2]; rcases hb with rfl | rfl <;> simp
 by_cases hs : op = 14 ∨ (op = 18 ∧ (isN a || isN b) = false)
 ·by_cases hbt : a.k = 4 ∧ b.k = 4
  ·obtain ⟨rfl, rfl⟩ := hB fun t => by rw [decide_eq_true hbt]; exact dB _ t hs
   obtain ⟨s1, i1, t1⟩ := bit_ok sa
   obtain ⟨s2, i2, t2⟩ := bit_ok sb
   have k1 := bit_k sa
   have k2 := bit_k sb
   have en : (isN (bitT a) || isN (bitT b)) = false := by rw [isN_k (.inr k1), isN_k (.inr k2)]; rfl
   have eb : decide ((bitT a).k = 4 ∧ (bitT b).k = 4) = true := decide_eq_true ⟨k1, k2⟩
   refine ⟨op2_mk s1 s2 (by omega) ?_ ?_, by omega, by omega, fun q => ?_, fun q => by omega⟩
   ·rw [en, eb, dB _ _ (hs.imp id fun q => ⟨q.1, rfl⟩), i1]
   ·rw [en, eb, dB _ _ (hs.imp id fun q => ⟨q.1, rfl⟩), i2]
   ·unfold okR2; rw [t1, t2]; rcases q with rfl | rfl | rfl <;> simp
  ·obtain ⟨rfl, rfl⟩ := hC fun t => by rw [decide_eq_false hbt]; exact dC _ t hs
   obtain ⟨s1, i1, t1⟩ := cha_ok sa
   obtain ⟨s2, i2, t2⟩ := cha_ok sb
   have k1 := cha_k sa
   have k2 := cha_k sb
   have en : (isN (chaT a) || isN (chaT b)) = false := by rw [isN_k (.inl k1), isN_k (.inl k2)]; rfl
   have eb : decide ((chaT a).k = 4 ∧ (chaT b).k = 4) = false := decide_eq_false (by omega)
   refine ⟨op2_mk s1 s2 (by omega) ?_ ?_, by omega, by omega, fun q => ?_, fun q => by omega⟩
   ·rw [en, eb, dC _ _ (hs.imp id fun q => ⟨q.1, rfl⟩), i1]
   ·rw [en, eb, dC _ _ (hs.imp id fun q => ⟨q.1, rfl⟩), i2]
   ·rcases q with q | q
    ·subst q; unfold okR2; rw [t1, t2]; rfl
    ·omega
 ·obtain ⟨hk, vu, vv⟩ := hA fun t => dA _ _ t (by have := cn2 hc; omega) hs
  have ku := vu.1
  have en : (isN u || isN v) = true := by unfold isN; rw [decide_eq_true vu]; rfl
  refine ⟨op2_mk (sc_valid vu) (sc_valid vv) hk ?_ ?_, hk, by omega, fun q => by omega, fun _ => ⟨vu, vv⟩⟩
  ·rw [en, dA _ _ _ (by have := cn2 hc; omega) (by simp; omega), ari_self vu]
  ·rw [en, dA _ _ _ (by have := cn2 hc; omega) (by simp; omega), ari_self vv]
theorem res_ok {op : Int} {u v : Ty} (h : (5 ≤ op ∧ op ≤ 13)) (hu : Valid u) (hv : Valid v) (hk : u.k = v.k) : resE op u v = 0 := by
 unfold resE isOp
 rw [decide_eq_true h, if_neg (by decide), if_neg (not_not_intro hu)]
 split
 ·rfl
 ·simp [hv, hk]
end Go.Cx
end
