/-
  The run and the laws that serve these rows (part 4)
-/
import Derived.Test.YtpflidodnhbeoaaGreatDoorX3
set_option linter.unusedVariables false
set_option linter.unusedSimpArgs false
noncomputable section
set_option maxRecDepth 100000
set_option maxHeartbeats 3200000
namespace Go.Cs
open Go Go.Ab Go.Proofs Go.Px Go.Cx
theorem jb8 {row tail : List Value} {cap n : Nat} (h : jay tail cap n 1 = true) (hr : Nat.beq row.length n = true) :
  (Nat.beq (List.length (row ++ tail)) (cap * 1) && Nat.ble n cap && Nat.ble cap 9223372036854775807 && true && true) = true := by
 simp only [jay, jaf] at h
 obtain ⟨⟨⟨_, h2⟩, h3⟩, h4⟩ := h
 have hr := jah hr
 have h2 := jah h2
 have e : Nat.beq (List.length (row ++ tail)) (cap * 1) = true := by
  rw [List.length_append, hr, ← h2, Nat.mul_one, Nat.add_comm]; exact Nat.beq_refl _
 rw [e, h3, h4]; rfl
theorem fn234 : Fn1 Tryz.prog 234 Tryz.f234 := .m Tryz.func234 (by kernel_rfl)
def B1 : Env := Env.nil.add 272 (sp2 Px.s141)
theorem ok_B1 : jax Tryz.prog B1 := jaj jam (jcs Px.ok141)
theorem fn235 : Fn1 Tryz.prog 235 Tryz.f235 := .m Tryz.func235 (by kernel_rfl)
def B2 : Env := (Env.nil.addG 234 (inlQ Tryz.prog S0 noL Tryz.f234)).addG 235 (inlQ Tryz.prog B1 noL Tryz.f235)
theorem ok_B2 : jax Tryz.prog B2 := jao (jao jam (jas ok_S0 hmix fn234 jai)) (jas ok_B1 hmix fn235 jai)
theorem fn188 : Fn1 Tryz.prog 188 Tryz.f188 := .m Tryz.func188 (by kernel_rfl)
def m188 : List (List Value × Value) := [([.string ⟨#[90, 90, 57, 86, 46, 57, 57]⟩], .tuple ⟨[.string ⟨#[90, 90, 57, 86, 46, 57, 57]⟩, .bool true]⟩), ([.string ⟨#[57, 57, 57]⟩], .tuple ⟨[.string ⟨#[57, 57, 57]⟩, .bool true]⟩), ([.string ⟨#[65, 65, 57]⟩], .tuple ⟨[.string ⟨#[65, 65, 57]⟩, .bool true]⟩)]
theorem v188_0 (R : Value → Prop) : ja4 Tryz.prog B2 noL Tryz.f188 [S ⟨#[90, 90, 57, 86, 46, 57, 57]⟩] (fun _ => none) 0 (fun v _ _ => R v) = (∀ (c1 : Nat) (t1 : List Value), jay t1 c1 1 1 = true → bif Nat.beq (List.length ([.int .u8 90] ++ t1)) (c1 * 1) && Nat.ble 1 c1 && Nat.ble c1 9223372036854775807 && true && true then ∀ (c2 : Nat) (t2 : List Value), jay t2 c2 2 1 = true → bif Nat.beq (List.length ([.int .u8 90, .int .u8 90] ++ t2)) (c2 * 1) && Nat.ble 2 c2 && Nat.ble c2 9223372036854775807 && true && true then ∀ (c3 : Nat) (t3 : List Value), jay t3 c3 3 1 = true → bif Nat.beq (List.length ([.int .u8 90, .int .u8 90, .int .u8 57] ++ t3)) (c3 * 1) && Nat.ble 3 c3 && Nat.ble c3 9223372036854775807 && true && true then ∀ (c4 : Nat) (t4 : List Value), jay t4 c4 4 1 = true → bif Nat.beq (List.length ([.int .u8 90, .int .u8 90, .int .u8 57, .int .u8 86] ++ t4)) (c4 * 1) && Nat.ble 4 c4 && Nat.ble c4 9223372036854775807 && true && true then ∀ (c5 : Nat) (t5 : List Value), jay t5 c5 5 1 = true → bif Nat.beq (List.length ([.int .u8 90, .int .u8 90, .int .u8 57, .int .u8 86, .int .u8 46] ++ t5)) (c5 * 1) && Nat.ble 5 c5 && Nat.ble c5 9223372036854775807 && true && true then ∀ (c6 : Nat) (t6 : List Value), jay t6 c6 6 1 = true → bif Nat.beq (List.length ([.int .u8 90, .int .u8 90, .int .u8 57, .int .u8 86, .int .u8 46, .int .u8 57] ++ t6)) (c6 * 1) && Nat.ble 6 c6 && Nat.ble c6 9223372036854775807 && true && true then ∀ (c7 : Nat) (t7 : List Value), jay t7 c7 7 1 = true → R (.tuple ⟨[S ⟨#[90, 90, 57, 86, 46, 57, 57]⟩, B true]⟩) else False else False else False else False else False else False) := by kernel_rfl
theorem k188_0 : ja3 Tryz.prog B2 noL Tryz.f188 [.string ⟨#[90, 90, 57, 86, 46, 57, 57]⟩] (.tuple ⟨[.string ⟨#[90, 90, 57, 86, 46, 57, 57]⟩, .bool true]⟩) := by
 rw [ja3, v188_0]
 intro c1 t1 h1
 refine c_t (jb8 (row := [.int .u8 90]) h1 rfl) ?_
 intro c2 t2 h2
 refine c_t (jb8 (row := [.int .u8 90, .int .u8 90]) h2 rfl) ?_
 intro c3 t3 h3
 refine c_t (jb8 (row := [.int .u8 90, .int .u8 90, .int .u8 57]) h3 rfl) ?_
 intro c4 t4 h4
 refine c_t (jb8 (row := [.int .u8 90, .int .u8 90, .int .u8 57, .int .u8 86]) h4 rfl) ?_
 intro c5 t5 h5
 refine c_t (jb8 (row := [.int .u8 90, .int .u8 90, .int .u8 57, .int .u8 86, .int .u8 46]) h5 rfl) ?_
 intro c6 t6 h6
 refine c_t (jb8 (row := [.int .u8 90, .int .u8 90, .int .u8 57, .int .u8 86, .int .u8 46, .int .u8 57]) h6 rfl) ?_
 intro c7 t7 h7
 rfl
theorem v188_1 (R : Value → Prop) : ja4 Tryz.prog B2 noL Tryz.f188 [S ⟨#[57, 57, 57]⟩] (fun _ => none) 0 (fun v _ _ => R v) = (∀ (c1 : Nat) (t1 : List Value), jay t1 c1 1 1 = true → bif Nat.beq (List.length ([.int .u8 57] ++ t1)) (c1 * 1) && Nat.ble 1 c1 && Nat.ble c1 9223372036854775807 && true && true then ∀ (c2 : Nat) (t2 : List Value), jay t2 c2 2 1 = true → bif Nat.beq (List.length ([.int .u8 57, .int .u8 57] ++ t2)) (c2 * 1) && Nat.ble 2 c2 && Nat.ble c2 9223372036854775807 && true && true then ∀ (c3 : Nat) (t3 : List Value), jay t3 c3 3 1 = true → R (.tuple ⟨[S ⟨#[57, 57, 57]⟩, B true]⟩) else False else False) := by kernel_rfl
theorem k188_1 : ja3 Tryz.prog B2 noL Tryz.f188 [.string ⟨#[57, 57, 57]⟩] (.tuple ⟨[.string ⟨#[57, 57, 57]⟩, .bool true]⟩) := by
 rw [ja3, v188_1]
 intro c1 t1 h1
 refine c_t (jb8 (row := [.int .u8 57]) h1 rfl) ?_
 intro c2 t2 h2
 refine c_t (jb8 (row := [.int .u8 57, .int .u8 57]) h2 rfl) ?_
 intro c3 t3 h3
 rfl
theorem v188_2 (R : Value → Prop) : ja4 Tryz.prog B2 noL Tryz.f188 [S ⟨#[65, 65, 57]⟩] (fun _ => none) 0 (fun v _ _ => R v) = (∀ (c1 : Nat) (t1 : List Value), jay t1 c1 1 1 = true → bif Nat.beq (List.length ([.int .u8 65] ++ t1)) (c1 * 1) && Nat.ble 1 c1 && Nat.ble c1 9223372036854775807 && true && true then ∀ (c2 : Nat) (t2 : List Value), jay t2 c2 2 1 = true → bif Nat.beq (List.length ([.int .u8 65, .int .u8 65] ++ t2)) (c2 * 1) && Nat.ble 2 c2 && Nat.ble c2 9223372036854775807 && true && true then ∀ (c3 : Nat) (t3 : List Value), jay t3 c3 3 1 = true → R (.tuple ⟨[S ⟨#[65, 65, 57]⟩, B true]⟩) else False else False) := by kernel_rfl
theorem k188_2 : ja3 Tryz.prog B2 noL Tryz.f188 [.string ⟨#[65, 65, 57]⟩] (.tuple ⟨[.string ⟨#[65, 65, 57]⟩, .bool true]⟩) := by
 rw [ja3, v188_2]
 intro c1 t1 h1
 refine c_t (jb8 (row := [.int .u8 65]) h1 rfl) ?_
 intro c2 t2 h2
 refine c_t (jb8 (row := [.int .u8 65, .int .u8 65]) h2 rfl) ?_
 intro c3 t3 h3
 rfl
theorem pk188 : jan Tryz.prog 188 (memo m188) := jdh ok_B2 hmix fn188 jai (by kernel_rfl) ⟨k188_0, k188_1, k188_2, trivial⟩
def B3 : Env := Env.nil.add 272 (sp2 Px.s141)
theorem ok_B3 : jax Tryz.prog B3 := jaj jam (jcs Px.ok141)
theorem fn281 : Fn1 Tryz.prog 281 Tryz.f281 := .m Tryz.func281 (by kernel_rfl)
def B4 : Env := (((Env.nil.add 272 (sp2 Px.s141)).add 279 (sp2 Px.s157)).add 129 (sp2 s132)).add 280 (sp2 s280)
theorem ok_B4 : jax Tryz.prog B4 := jaj (jaj (jaj (jaj jam (jcs Px.ok141)) (jcs Px.ok157)) (jcs ok132)) (jcs ok280)
theorem fn244 : Fn1 Tryz.prog 244 Tryz.f244 := .m Tryz.func244 (by kernel_rfl)
def B5 : Env := Env.nil.addG 281 (inlQ Tryz.prog B3 noL Tryz.f281)
theorem ok_B5 : jax Tryz.prog B5 := jao jam (jas ok_B3 hmix fn281 jai)
theorem fn245 : Fn1 Tryz.prog 245 Tryz.f245 := .m Tryz.func245 (by kernel_rfl)
def B6 : Env := Env.nil
theorem ok_B6 : jax Tryz.prog B6 := jam
theorem fn246 : Fn1 Tryz.prog 246 Tryz.f246 := .m Tryz.func246 (by kernel_rfl)
def B7 : Env := Env.nil.add 272 (sp2 Px.s141)
theorem ok_B7 : jax Tryz.prog B7 := jaj jam (jcs Px.ok141)
theorem fn247 : Fn1 Tryz.prog 247 Tryz.f247 := .m Tryz.func247 (by kernel_rfl)
def B8 : Env := ((((((Env.nil.add 129 (sp2 s132)).add 130 (sp2 s130)).add 203 (sp2 s102)).addG 244 (inlQ Tryz.prog B4 noL Tryz.f244)).addG 245 (inlQ Tryz.prog B5 noL Tryz.f245)).addG 246 (inlQ Tryz.prog B6 noL Tryz.f246)).addG 247 (inlQ Tryz.prog B7 noL Tryz.f247)
theorem ok_B8 : jax Tryz.prog B8 := jao (jao (jao (jao (jaj (jaj (jaj jam (jcs ok132)) (jcs ok130)) (jcs ok102)) (jas ok_B4 hmix fn244 jai)) (jas ok_B5 hmix fn245 jai)) (jas ok_B6 hmix fn246 jai)) (jas ok_B7 hmix fn247 jai)
theorem fn204 : Fn1 Tryz.prog 204 Tryz.f204 := .m Tryz.func204 (by kernel_rfl)
def B9 : Env := (((Env.nil.add 55 (sp2 s55)).add 203 (sp2 s102)).add 188 (memo m188)).addG 204 (inlQ Tryz.prog B8 noL Tryz.f204)
theorem ok_B9 : jax Tryz.prog B9 := jao (jaj (jaj (jaj jam ok55) (jcs ok102)) pk188) (jas ok_B8 hmix fn204 jai)
theorem fn145 : Fn1 Tryz.prog 145 Tryz.f145 := .m Tryz.func145 (by kernel_rfl)
def B10 : Env := Env.nil.addG 145 (inlQ Tryz.prog B9 noL Tryz.f145)
theorem ok_B10 : jax Tryz.prog B10 := jao jam (jas ok_B9 hmix fn145 jai)
theorem fn113 : Fn1 Tryz.prog 113 Tryz.f113 := .m Tryz.func113 (by kernel_rfl)
def m113 : List (List Value × Value) := [([.string ⟨#[90, 90, 57, 86, 46, 57, 57]⟩], .tuple ⟨[.agg ⟨[.string ⟨#[90, 90, 57, 86, 46, 57, 57]⟩, .bool true, .int .i64 6, .int .i64 5, .int .i64 2, .bool false]⟩, .int .i64 0]⟩), ([.string ⟨#[57, 57, 57]⟩], .tuple ⟨[.agg ⟨[.string ⟨#[57, 57, 57]⟩, .bool true, .int .i64 3, .int .i64 3, .int .i64 0, .bool false]⟩, .int .i64 0]⟩), ([.string ⟨#[65, 65, 57]⟩], .tuple ⟨[.agg ⟨[.string ⟨#[65, 65, 57]⟩, .bool false, .int .i64 3, .int .i64 0, .int .i64 0, .bool false]⟩, .int .i64 0]⟩)]
theorem v113_0 (R : Value → Prop) : ja4 Tryz.prog B10 noL Tryz.f113 [S ⟨#[90, 90, 57, 86, 46, 57, 57]⟩] (fun _ => none) 0 (fun v _ _ => R v) = (∀ c1 : Nat, Nat.ble 7 c1 = true → ∀ (c2 : Nat) (t2 : List Value), jay t2 c2 1 1 = true → bif Nat.beq (List.length ([I 1] ++ t2)) (c2 * 1) && Nat.ble 1 c2 && Nat.ble c2 9223372036854775807 && true && true then ∀ (c3 : Nat) (t3 : List Value), jay t3 c3 2 1 = true → bif Nat.beq (List.length ([I 1, I 1] ++ t3)) (c3 * 1) && Nat.ble 2 c3 && Nat.ble c3 9223372036854775807 && true && true then ∀ (c4 : Nat) (t4 : List Value), jay t4 c4 3 1 = true → bif Nat.beq (List.length ([I 1, I 1, I 0] ++ t4)) (c4 * 1) && Nat.ble 3 c4 && Nat.ble c4 9223372036854775807 && true && true then ∀ (c5 : Nat) (t5 : List Value), jay t5 c5 4 1 = true → bif Nat.beq (List.length ([I 1, I 1, I 0, I 2] ++ t5)) (c5 * 1) && Nat.ble 4 c5 && Nat.ble c5 9223372036854775807 && true && true then ∀ (c6 : Nat) (t6 : List Value), jay t6 c6 5 1 = true → bif Nat.beq (List.length ([I 1, I 1, I 0, I 2, I 3] ++ t6)) (c6 * 1) && Nat.ble 5 c6 && Nat.ble c6 9223372036854775807 && true && true then ∀ (c7 : Nat) (t7 : List Value), jay t7 c7 6 1 = true → bif Nat.beq (List.length ([I 1, I 1, I 0, I 2, I 3, I 0] ++ t7)) (c7 * 1) && Nat.ble 6 c7 && Nat.ble c7 9223372036854775807 && true && true then ∀ (c8 : Nat) (t8 : List Value), jay t8 c8 7 1 = true → ∀ c9 : Nat, Nat.ble 7 c9 = true → R (.tuple ⟨[.agg ⟨[S ⟨#[90, 90, 57, 86, 46, 57, 57]⟩, B true, I 6, I 5, I 2, B false]⟩, I 0]⟩) else False else False else False else False else False else False) := by kernel_rfl
theorem k113_0 : ja3 Tryz.prog B10 noL Tryz.f113 [.string ⟨#[90, 90, 57, 86, 46, 57, 57]⟩] (.tuple ⟨[.agg ⟨[.string ⟨#[90, 90, 57, 86, 46, 57, 57]⟩, .bool true, .int .i64 6, .int .i64 5, .int .i64 2, .bool false]⟩, .int .i64 0]⟩) := by
 rw [ja3, v113_0]
 intro c1 h1
 intro c2 t2 h2
 refine c_t (jb8 (row := [.int .i64 1]) h2 rfl) ?_
 intro c3 t3 h3
 refine c_t (jb8 (row := [.int .i64 1, .int .i64 1]) h3 rfl) ?_
 intro c4 t4 h4
 refine c_t (jb8 (row := [.int .i64 1, .int .i64 1, .int .i64 0]) h4 rfl) ?_
 intro c5 t5 h5
 refine c_t (jb8 (row := [.int .i64 1, .int .i64 1, .int .i64 0, .int .i64 2]) h5 rfl) ?_
 intro c6 t6 h6
 refine c_t (jb8 (row := [.int .i64 1, .int .i64 1, .int .i64 0, .int .i64 2, .int .i64 3]) h6 rfl) ?_
 intro c7 t7 h7
 refine c_t (jb8 (row := [.int .i64 1, .int .i64 1, .int .i64 0, .int .i64 2, .int .i64 3, .int .i64 0]) h7 rfl) ?_
 intro c8 t8 h8
 intro c9 h9
 rfl
theorem v113_1 (R : Value → Prop) : ja4 Tryz.prog B10 noL Tryz.f113 [S ⟨#[57, 57, 57]⟩] (fun _ => none) 0 (fun v _ _ => R v) = (∀ c1 : Nat, Nat.ble 3 c1 = true → ∀ (c2 : Nat) (t2 : List Value), jay t2 c2 1 1 = true → bif Nat.beq (List.length ([I 0] ++ t2)) (c2 * 1) && Nat.ble 1 c2 && Nat.ble c2 9223372036854775807 && true && true then ∀ (c3 : Nat) (t3 : List Value), jay t3 c3 2 1 = true → bif Nat.beq (List.length ([I 0, I 0] ++ t3)) (c3 * 1) && Nat.ble 2 c3 && Nat.ble c3 9223372036854775807 && true && true then ∀ (c4 : Nat) (t4 : List Value), jay t4 c4 3 1 = true → ∀ c5 : Nat, Nat.ble 3 c5 = true → R (.tuple ⟨[.agg ⟨[S ⟨#[57, 57, 57]⟩, B true, I 3, I 3, I 0, B false]⟩, I 0]⟩) else False else False) := by kernel_rfl
theorem k113_1 : ja3 Tryz.prog B10 noL Tryz.f113 [.string ⟨#[57, 57, 57]⟩] (.tuple ⟨[.agg ⟨[.string ⟨#[57, 57, 57]⟩, .bool true, .int .i64 3, .int .i64 3, .int .i64 0, .bool false]⟩, .int .i64 0]⟩) := by
 rw [ja3, v113_1]
 intro c1 h1
 intro c2 t2 h2
 refine c_t (jb8 (row := [.int .i64 0]) h2 rfl) ?_
 intro c3 t3 h3
 refine c_t (jb8 (row := [.int .i64 0, .int .i64 0]) h3 rfl) ?_
 intro c4 t4 h4
 intro c5 h5
 rfl
theorem v113_2 (R : Value → Prop) : ja4 Tryz.prog B10 noL Tryz.f113 [S ⟨#[65, 65, 57]⟩] (fun _ => none) 0 (fun v _ _ => R v) = (R (.tuple ⟨[.agg ⟨[S ⟨#[65, 65, 57]⟩, B false, I 3, I 0, I 0, B false]⟩, I 0]⟩)) := by kernel_rfl
theorem pk113 : jan Tryz.prog 113 (memo m113) := jdh ok_B10 hmix fn113 jai (by kernel_rfl) ⟨k113_0, k113_1, by rw [ja3, v113_2], trivial⟩
def B11 : Env := Env.nil.add 113 (memo m113)
theorem ok_B11 : jax Tryz.prog B11 := jaj jam pk113
theorem fn67 : Fn1 Tryz.prog 67 Tryz.f67 := .m Tryz.func67 (by kernel_rfl)
def m67 : List (List Value × Value) := [([.string ⟨#[90, 90, 57, 86, 46, 57, 57]⟩], .int .i64 0), ([.string ⟨#[57, 57, 57]⟩], .int .i64 0), ([.string ⟨#[65, 65, 57]⟩], .int .i64 0)]
theorem pk67 : jan Tryz.prog 67 (memo m67) := jaz [] ok_B11 hmix fn67 jai (by kernel_rfl) (by kernel_rfl)
def B12 : Env := Env.nil.add 113 (memo m113)
theorem ok_B12 : jax Tryz.prog B12 := jaj jam pk113
theorem fn61 : Fn1 Tryz.prog 61 Tryz.f61 := .m Tryz.func61 (by kernel_rfl)
def m61 : List (List Value × Value) := [([.string ⟨#[90, 90, 57, 86, 46, 57, 57]⟩], .tuple ⟨[.agg ⟨[.int .i64 1, .int .i64 5, .int .i64 2, .bool false, .string ⟨#[]⟩]⟩, .int .i64 0]⟩), ([.string ⟨#[57, 57, 57]⟩], .tuple ⟨[.agg ⟨[.int .i64 1, .int .i64 3, .int .i64 0, .bool false, .string ⟨#[]⟩]⟩, .int .i64 0]⟩), ([.string ⟨#[65, 65, 57]⟩], .tuple ⟨[.agg ⟨[.int .i64 3, .int .i64 3, .int .i64 0, .bool false, .string ⟨#[]⟩]⟩, .int .i64 0]⟩)]
theorem pk61 : jan Tryz.prog 61 (memo m61) := jaz [] ok_B12 hmix fn61 jai (by kernel_rfl) (by kernel_rfl)
def B13 : Env := Env.nil.addG 145 (inlQ Tryz.prog B9 noL Tryz.f145)
theorem ok_B13 : jax Tryz.prog B13 := jao jam (jas ok_B9 hmix fn145 jai)
theorem fn136 : Fn1 Tryz.prog 136 Tryz.f136 := .m Tryz.func136 (by kernel_rfl)
def B14 : Env := Env.nil.addG 136 (inlQ Tryz.prog B13 noL Tryz.f136)
theorem ok_B14 : jax Tryz.prog B14 := jao jam (jas ok_B13 hmix fn136 jai)
theorem fn59 : Fn1 Tryz.prog 59 Tryz.f59 := .m Tryz.func59 (by kernel_rfl)
def m59 : List (List Value × Value) := [([.string ⟨#[90, 90, 57, 86, 46, 57, 57]⟩], .bool true), ([.string ⟨#[57, 57, 57]⟩], .bool true), ([.string ⟨#[65, 65, 57]⟩], .bool false)]
theorem v59_0 (R : Value → Prop) : ja4 Tryz.prog B14 noL Tryz.f59 [S ⟨#[90, 90, 57, 86, 46, 57, 57]⟩] (fun _ => none) 0 (fun v _ _ => R v) = (∀ c1 : Nat, Nat.ble 7 c1 = true → ∀ (c2 : Nat) (t2 : List Value), jay t2 c2 1 1 = true → bif Nat.beq (List.length ([I 1] ++ t2)) (c2 * 1) && Nat.ble 1 c2 && Nat.ble c2 9223372036854775807 && true && true then ∀ (c3 : Nat) (t3 : List Value), jay t3 c3 2 1 = true → bif Nat.beq (List.length ([I 1, I 1] ++ t3)) (c3 * 1) && Nat.ble 2 c3 && Nat.ble c3 9223372036854775807 && true && true then ∀ (c4 : Nat) (t4 : List Value), jay t4 c4 3 1 = true → bif Nat.beq (List.length ([I 1, I 1, I 0] ++ t4)) (c4 * 1) && Nat.ble 3 c4 && Nat.ble c4 9223372036854775807 && true && true then ∀ (c5 : Nat) (t5 : List Value), jay t5 c5 4 1 = true → bif Nat.beq (List.length ([I 1, I 1, I 0, I 2] ++ t5)) (c5 * 1) && Nat.ble 4 c5 && Nat.ble c5 9223372036854775807 && true && true then ∀ (c6 : Nat) (t6 : List Value), jay t6 c6 5 1 = true → bif Nat.beq (List.length ([I 1, I 1, I 0, I 2, I 3] ++ t6)) (c6 * 1) && Nat.ble 5 c6 && Nat.ble c6 9223372036854775807 && true && true then ∀ (c7 : Nat) (t7 : List Value), jay t7 c7 6 1 = true → bif Nat.beq (List.length ([I 1, I 1, I 0, I 2, I 3, I 0] ++ t7)) (c7 * 1) && Nat.ble 6 c7 && Nat.ble c7 9223372036854775807 && true && true then ∀ (c8 : Nat) (t8 : List Value), jay t8 c8 7 1 = true → ∀ c9 : Nat, Nat.ble 7 c9 = true → R (B true) else False else False else False else False else False else False) := by kernel_rfl
theorem k59_0 : ja3 Tryz.prog B14 noL Tryz.f59 [.string ⟨#[90, 90, 57, 86, 46, 57, 57]⟩] (.bool true) := by
 rw [ja3, v59_0]
 intro c1 h1
 intro c2 t2 h2
 refine c_t (jb8 (row := [.int .i64 1]) h2 rfl) ?_
 intro c3 t3 h3
 refine c_t (jb8 (row := [.int .i64 1, .int .i64 1]) h3 rfl) ?_
 intro c4 t4 h4
 refine c_t (jb8 (row := [.int .i64 1, .int .i64 1, .int .i64 0]) h4 rfl) ?_
 intro c5 t5 h5
 refine c_t (jb8 (row := [.int .i64 1, .int .i64 1, .int .i64 0, .int .i64 2]) h5 rfl) ?_
 intro c6 t6 h6
 refine c_t (jb8 (row := [.int .i64 1, .int .i64 1, .int .i64 0, .int .i64 2, .int .i64 3]) h6 rfl) ?_
 intro c7 t7 h7
 refine c_t (jb8 (row := [.int .i64 1, .int .i64 1, .int .i64 0, .int .i64 2, .int .i64 3, .int .i64 0]) h7 rfl) ?_
 intro c8 t8 h8
 intro c9 h9
 rfl
theorem v59_1 (R : Value → Prop) : ja4 Tryz.prog B14 noL Tryz.f59 [S ⟨#[57, 57, 57]⟩] (fun _ => none) 0 (fun v _ _ => R v) = (∀ c1 : Nat, Nat.ble 3 c1 = true → ∀ (c2 : Nat) (t2 : List Value), jay t2 c2 1 1 = true → bif Nat.beq (List.length ([I 0] ++ t2)) (c2 * 1) && Nat.ble 1 c2 && Nat.ble c2 9223372036854775807 && true && true then ∀ (c3 : Nat) (t3 : List Value), jay t3 c3 2 1 = true → bif Nat.beq (List.length ([I 0, I 0] ++ t3)) (c3 * 1) && Nat.ble 2 c3 && Nat.ble c3 9223372036854775807 && true && true then ∀ (c4 : Nat) (t4 : List Value), jay t4 c4 3 1 = true → ∀ c5 : Nat, Nat.ble 3 c5 = true → R (B true) else False else False) := by kernel_rfl
theorem k59_1 : ja3 Tryz.prog B14 noL Tryz.f59 [.string ⟨#[57, 57, 57]⟩] (.bool true) := by
 rw [ja3, v59_1]
 intro c1 h1
 intro c2 t2 h2
 refine c_t (jb8 (row := [.int .i64 0]) h2 rfl) ?_
 intro c3 t3 h3
 refine c_t (jb8 (row := [.int .i64 0, .int .i64 0]) h3 rfl) ?_
 intro c4 t4 h4
 intro c5 h5
 rfl
theorem v59_2 (R : Value → Prop) : ja4 Tryz.prog B14 noL Tryz.f59 [S ⟨#[65, 65, 57]⟩] (fun _ => none) 0 (fun v _ _ => R v) = (R (B false)) := by kernel_rfl
theorem pk59 : jan Tryz.prog 59 (memo m59) := jdh ok_B14 hmix fn59 jai (by kernel_rfl) ⟨k59_0, k59_1, by rw [ja3, v59_2], trivial⟩
def B15 : Env := Env.nil
theorem ok_B15 : jax Tryz.prog B15 := jam
theorem fn147 : Fn1 Tryz.prog 147 Tryz.f147 := .m Tryz.func147 (by kernel_rfl)
def B16 : Env := (((Env.nil.add 154 (sp2 s154)).add 55 (sp2 s55)).add 30 (sp2 s30)).add 81 (memo m81)
theorem ok_B16 : jax Tryz.prog B16 := jaj (jaj (jaj (jaj jam ok154) ok55) ok30) pk81
theorem fn225 : Fn1 Tryz.prog 225 Tryz.f225 := .m Tryz.func225 (by kernel_rfl)
def B17 : Env := Env.nil
theorem ok_B17 : jax Tryz.prog B17 := jam
theorem fn287 : Fn1 Tryz.prog 287 Tryz.f287 := .m Tryz.func287 (by kernel_rfl)
def B18 : Env := Env.nil
theorem ok_B18 : jax Tryz.prog B18 := jam
theorem fn288 : Fn1 Tryz.prog 288 Tryz.f288 := .m Tryz.func288 (by kernel_rfl)
def B19 : Env := Env.nil.add 55 (sp2 s55)
theorem ok_B19 : jax Tryz.prog B19 := jaj jam ok55
theorem fn251 : Fn1 Tryz.prog 251 Tryz.f251 := .m Tryz.func251 (by kernel_rfl)
def B20 : Env := (Env.nil.addG 287 (inlQ Tryz.prog B17 noL Tryz.f287)).addG 288 (inlQ Tryz.prog B18 noL Tryz.f288)
theorem ok_B20 : jax Tryz.prog B20 := jao (jao jam (jas ok_B17 hmix fn287 jai)) (jas ok_B18 hmix fn288 jai)
theorem fn252 : Fn1 Tryz.prog 252 Tryz.f252 := .m Tryz.func252 (by kernel_rfl)
def B21 : Env := Env.nil.addG 287 (inlQ Tryz.prog B17 noL Tryz.f287)
theorem ok_B21 : jax Tryz.prog B21 := jao jam (jas ok_B17 hmix fn287 jai)
theorem fn253 : Fn1 Tryz.prog 253 Tryz.f253 := .m Tryz.func253 (by kernel_rfl)
def B22 : Env := Env.nil
theorem ok_B22 : jax Tryz.prog B22 := jam
theorem fn254 : Fn1 Tryz.prog 254 Tryz.f254 := .m Tryz.func254 (by kernel_rfl)
def B23 : Env := Env.nil
theorem ok_B23 : jax Tryz.prog B23 := jam
theorem fn255 : Fn1 Tryz.prog 255 Tryz.f255 := .m Tryz.func255 (by kernel_rfl)
def B24 : Env := Env.nil
theorem ok_B24 : jax Tryz.prog B24 := jam
theorem fn256 : Fn1 Tryz.prog 256 Tryz.f256 := .m Tryz.func256 (by kernel_rfl)
def B25 : Env := ((((((Env.nil.add 30 (sp2 s30)).addG 251 (inlQ Tryz.prog B19 noL Tryz.f251)).addG 252 (inlQ Tryz.prog B20 noL Tryz.f252)).addG 253 (inlQ Tryz.prog B21 noL Tryz.f253)).addG 254 (inlQ Tryz.prog B22 noL Tryz.f254)).addG 255 (inlQ Tryz.prog B23 noL Tryz.f255)).addG 256 (inlQ Tryz.prog B24 noL Tryz.f256)
theorem ok_B25 : jax Tryz.prog B25 := jao (jao (jao (jao (jao (jao (jaj jam ok30) (jas ok_B19 hmix fn251 jai)) (jas ok_B20 hmix fn252 jai)) (jas ok_B21 hmix fn253 jai)) (jas ok_B22 hmix fn254 jai)) (jas ok_B23 hmix fn255 jai)) (jas ok_B24 hmix fn256 jai)
theorem fn207 : Fn1 Tryz.prog 207 Tryz.f207 := .m Tryz.func207 (by kernel_rfl)
def B26 : Env := ((Env.nil.addG 136 (inlQ Tryz.prog B13 noL Tryz.f136)).addG 225 (inlQ Tryz.prog B16 noL Tryz.f225)).addG 207 (inlQ Tryz.prog B25 noL Tryz.f207)
theorem ok_B26 : jax Tryz.prog B26 := jao (jao (jao jam (jas ok_B13 hmix fn136 jai)) (jas ok_B16 hmix fn225 jai)) (jas ok_B25 hmix fn207 jai)
theorem fn171 : Fn1 Tryz.prog 171 Tryz.f171 := .m Tryz.func171 (by kernel_rfl)
def m171 : List (List Value × Value) := [([.int .i64 1230, .int .i64 2, .string ⟨#[90, 90, 57, 86, 46, 57, 57]⟩], .tuple ⟨[.string ⟨#[32, 49, 50, 46, 51, 48]⟩, .bool true, .int .i64 0]⟩), ([.int .i64 234, .int .i64 0, .string ⟨#[57, 57, 57]⟩], .tuple ⟨[.string ⟨#[50, 51, 52]⟩, .bool true, .int .i64 0]⟩)]
theorem v171_0 (R : Value → Prop) : ja4 Tryz.prog B26 noL Tryz.f171 [I 1230, I 2, S ⟨#[90, 90, 57, 86, 46, 57, 57]⟩] (fun _ => none) 0 (fun v _ _ => R v) = (∀ c1 : Nat, Nat.ble 7 c1 = true → ∀ (c2 : Nat) (t2 : List Value), jay t2 c2 1 1 = true → bif Nat.beq (List.length ([I 1] ++ t2)) (c2 * 1) && Nat.ble 1 c2 && Nat.ble c2 9223372036854775807 && true && true then ∀ (c3 : Nat) (t3 : List Value), jay t3 c3 2 1 = true → bif Nat.beq (List.length ([I 1, I 1] ++ t3)) (c3 * 1) && Nat.ble 2 c3 && Nat.ble c3 9223372036854775807 && true && true then ∀ (c4 : Nat) (t4 : List Value), jay t4 c4 3 1 = true → bif Nat.beq (List.length ([I 1, I 1, I 0] ++ t4)) (c4 * 1) && Nat.ble 3 c4 && Nat.ble c4 9223372036854775807 && true && true then ∀ (c5 : Nat) (t5 : List Value), jay t5 c5 4 1 = true → bif Nat.beq (List.length ([I 1, I 1, I 0, I 2] ++ t5)) (c5 * 1) && Nat.ble 4 c5 && Nat.ble c5 9223372036854775807 && true && true then ∀ (c6 : Nat) (t6 : List Value), jay t6 c6 5 1 = true → bif Nat.beq (List.length ([I 1, I 1, I 0, I 2, I 3] ++ t6)) (c6 * 1) && Nat.ble 5 c6 && Nat.ble c6 9223372036854775807 && true && true then ∀ (c7 : Nat) (t7 : List Value), jay t7 c7 6 1 = true → bif Nat.beq (List.length ([I 1, I 1, I 0, I 2, I 3, I 0] ++ t7)) (c7 * 1) && Nat.ble 6 c7 && Nat.ble c7 9223372036854775807 && true && true then ∀ (c8 : Nat) (t8 : List Value), jay t8 c8 7 1 = true → ∀ c9 : Nat, Nat.ble 7 c9 = true → ∀ (c10 : Nat) (t10 : List Value), jay t10 c10 1 1 = true → bif Nat.beq (List.length ([.int .u8 32] ++ t10)) (c10 * 1) && Nat.ble 1 c10 && Nat.ble c10 9223372036854775807 && true && true then ∀ (c11 : Nat) (t11 : List Value), jay t11 c11 2 1 = true → bif Nat.beq (List.length ([.int .u8 32, .int .u8 49] ++ t11)) (c11 * 1) && Nat.ble 2 c11 && Nat.ble c11 9223372036854775807 && true && true then ∀ (c12 : Nat) (t12 : List Value), jay t12 c12 3 1 = true → bif Nat.beq (List.length ([.int .u8 32, .int .u8 49, .int .u8 50] ++ t12)) (c12 * 1) && Nat.ble 3 c12 && Nat.ble c12 9223372036854775807 && true && true then ∀ (c13 : Nat) (t13 : List Value), jay t13 c13 4 1 = true → bif Nat.beq (List.length ([.int .u8 32, .int .u8 49, .int .u8 50, .int .u8 46] ++ t13)) (c13 * 1) && Nat.ble 4 c13 && Nat.ble c13 9223372036854775807 && true && true then ∀ (c14 : Nat) (t14 : List Value), jay t14 c14 5 1 = true → bif Nat.beq (List.length ([.int .u8 32, .int .u8 49, .int .u8 50, .int .u8 46, .int .u8 51] ++ t14)) (c14 * 1) && Nat.ble 5 c14 && Nat.ble c14 9223372036854775807 && true && true then ∀ (c15 : Nat) (t15 : List Value), jay t15 c15 6 1 = true → R (.tuple ⟨[S ⟨#[32, 49, 50, 46, 51, 48]⟩, B true, I 0]⟩) else False else False else False else False else False else False else False else False else False else False else False) := by kernel_rfl
theorem k171_0 : ja3 Tryz.prog B26 noL Tryz.f171 [.int .i64 1230, .int .i64 2, .string ⟨#[90, 90, 57, 86, 46, 57, 57]⟩] (.tuple ⟨[.string ⟨#[32, 49, 50, 46, 51, 48]⟩, .bool true, .int .i64 0]⟩) := by
 rw [ja3, v171_0]
 intro c1 h1
 intro c2 t2 h2
 refine c_t (jb8 (row := [.int .i64 1]) h2 rfl) ?_
 intro c3 t3 h3
 refine c_t (jb8 (row := [.int .i64 1, .int .i64 1]) h3 rfl) ?_
 intro c4 t4 h4
 refine c_t (jb8 (row := [.int .i64 1, .int .i64 1, .int .i64 0]) h4 rfl) ?_
 intro c5 t5 h5
 refine c_t (jb8 (row := [.int .i64 1, .int .i64 1, .int .i64 0, .int .i64 2]) h5 rfl) ?_
 intro c6 t6 h6
 refine c_t (jb8 (row := [.int .i64 1, .int .i64 1, .int .i64 0, .int .i64 2, .int .i64 3]) h6 rfl) ?_
 intro c7 t7 h7
 refine c_t (jb8 (row := [.int .i64 1, .int .i64 1, .int .i64 0, .int .i64 2, .int .i64 3, .int .i64 0]) h7 rfl) ?_
 intro c8 t8 h8
 intro c9 h9
 intro c10 t10 h10
 refine c_t (jb8 (row := [.int .u8 32]) h10 rfl) ?_
 intro c11 t11 h11
 refine c_t (jb8 (row := [.int .u8 32, .int .u8 49]) h11 rfl) ?_
 intro c12 t12 h12
 refine c_t (jb8 (row := [.int .u8 32, .int .u8 49, .int .u8 50]) h12 rfl) ?_
 intro c13 t13 h13
 refine c_t (jb8 (row := [.int .u8 32, .int .u8 49, .int .u8 50, .int .u8 46]) h13 rfl) ?_
 intro c14 t14 h14
 refine c_t (jb8 (row := [.int .u8 32, .int .u8 49, .int .u8 50, .int .u8 46, .int .u8 51]) h14 rfl) ?_
 intro c15 t15 h15
 rfl
theorem v171_1 (R : Value → Prop) : ja4 Tryz.prog B26 noL Tryz.f171 [I 234, I 0, S ⟨#[57, 57, 57]⟩] (fun _ => none) 0 (fun v _ _ => R v) = (∀ c1 : Nat, Nat.ble 3 c1 = true → ∀ (c2 : Nat) (t2 : List Value), jay t2 c2 1 1 = true → bif Nat.beq (List.length ([I 0] ++ t2)) (c2 * 1) && Nat.ble 1 c2 && Nat.ble c2 9223372036854775807 && true && true then ∀ (c3 : Nat) (t3 : List Value), jay t3 c3 2 1 = true → bif Nat.beq (List.length ([I 0, I 0] ++ t3)) (c3 * 1) && Nat.ble 2 c3 && Nat.ble c3 9223372036854775807 && true && true then ∀ (c4 : Nat) (t4 : List Value), jay t4 c4 3 1 = true → ∀ c5 : Nat, Nat.ble 3 c5 = true → ∀ (c6 : Nat) (t6 : List Value), jay t6 c6 1 1 = true → bif Nat.beq (List.length ([.int .u8 50] ++ t6)) (c6 * 1) && Nat.ble 1 c6 && Nat.ble c6 9223372036854775807 && true && true then ∀ (c7 : Nat) (t7 : List Value), jay t7 c7 2 1 = true → bif Nat.beq (List.length ([.int .u8 50, .int .u8 51] ++ t7)) (c7 * 1) && Nat.ble 2 c7 && Nat.ble c7 9223372036854775807 && true && true then ∀ (c8 : Nat) (t8 : List Value), jay t8 c8 3 1 = true → R (.tuple ⟨[S ⟨#[50, 51, 52]⟩, B true, I 0]⟩) else False else False else False else False) := by kernel_rfl
theorem k171_1 : ja3 Tryz.prog B26 noL Tryz.f171 [.int .i64 234, .int .i64 0, .string ⟨#[57, 57, 57]⟩] (.tuple ⟨[.string ⟨#[50, 51, 52]⟩, .bool true, .int .i64 0]⟩) := by
 rw [ja3, v171_1]
 intro c1 h1
 intro c2 t2 h2
 refine c_t (jb8 (row := [.int .i64 0]) h2 rfl) ?_
 intro c3 t3 h3
 refine c_t (jb8 (row := [.int .i64 0, .int .i64 0]) h3 rfl) ?_
 intro c4 t4 h4
 intro c5 h5
 intro c6 t6 h6
 refine c_t (jb8 (row := [.int .u8 50]) h6 rfl) ?_
 intro c7 t7 h7
 refine c_t (jb8 (row := [.int .u8 50, .int .u8 51]) h7 rfl) ?_
 intro c8 t8 h8
 rfl
theorem pk171 : jan Tryz.prog 171 (memo m171) := jdh ok_B26 hmix fn171 jai (by kernel_rfl) ⟨k171_0, k171_1, trivial⟩
def B27 : Env := (Env.nil.addG 145 (inlQ Tryz.prog B9 noL Tryz.f145)).addG 147 (inlQ Tryz.prog B15 noL Tryz.f147)
theorem ok_B27 : jax Tryz.prog B27 := jao (jao jam (jas ok_B9 hmix fn145 jai)) (jas ok_B15 hmix fn147 jai)
theorem fn72 : Fn1 Tryz.prog 72 Tryz.f72 := .m Tryz.func72 (by kernel_rfl)
def m72 : List (List Value × Value) := [([.string ⟨#[65, 65, 57]⟩, .string ⟨#[97, 49, 49]⟩], .bool false)]
theorem v72_0 (R : Value → Prop) : ja4 Tryz.prog B27 noL Tryz.f72 [S ⟨#[65, 65, 57]⟩, S ⟨#[97, 49, 49]⟩] (fun _ => none) 0 (fun v _ _ => R v) = (∀ c1 : Nat, Nat.ble 3 c1 = true → R (B false)) := by kernel_rfl
theorem k72_0 : ja3 Tryz.prog B27 noL Tryz.f72 [.string ⟨#[65, 65, 57]⟩, .string ⟨#[97, 49, 49]⟩] (.bool false) := by
 rw [ja3, v72_0]
 intro c1 h1
 rfl
theorem pk72 : jan Tryz.prog 72 (memo m72) := jdh ok_B27 hmix fn72 jai (by kernel_rfl) ⟨k72_0, trivial⟩
def B28 : Env := ((Env.nil.add 30 (sp2 s30)).addG 145 (inlQ Tryz.prog B9 noL Tryz.f145)).addG 207 (inlQ Tryz.prog B25 noL Tryz.f207)
theorem ok_B28 : jax Tryz.prog B28 := jao (jao (jaj jam ok30) (jas ok_B9 hmix fn145 jai)) (jas ok_B25 hmix fn207 jai)
theorem fn176 : Fn1 Tryz.prog 176 Tryz.f176 := .m Tryz.func176 (by kernel_rfl)
def m176 : List (List Value × Value) := [([.string ⟨#[65, 65, 57]⟩], .tuple ⟨[.string ⟨#[32, 32, 32]⟩, .int .i64 0]⟩)]
theorem pk176 : jan Tryz.prog 176 (memo m176) := jaz [] ok_B28 hmix fn176 jai (by kernel_rfl) (by kernel_rfl)
def A5 : Env := (Env.nil.add 67 (memo m67)).add 66 (sp1 Cx.s66)
theorem ok_A5 : jax Tryz.prog A5 := jaj (jaj jam pk67) (jcs Cx.ok66)
theorem fn20 : Fn1 Tryz.prog 20 Tryz.f20 := .m Tryz.func20 (by kernel_rfl)
def m20 : List (List Value × Value) := [([.agg ⟨[.int .i64 1, .int .i64 4, .int .i64 2, .bool false, .string ⟨#[]⟩]⟩], .int .i64 0), ([.agg ⟨[.int .i64 3, .int .i64 3, .int .i64 0, .bool false, .string ⟨#[]⟩]⟩], .int .i64 0), ([.agg ⟨[.int .i64 1, .int .i64 3, .int .i64 0, .bool false, .string ⟨#[]⟩]⟩], .int .i64 0), ([.agg ⟨[.int .i64 2, .int .i64 15, .int .i64 0, .bool false, .string ⟨#[]⟩]⟩], .int .i64 0), ([.agg ⟨[.int .i64 4, .int .i64 1, .int .i64 0, .bool false, .string ⟨#[]⟩]⟩], .int .i64 0), ([.agg ⟨[.int .i64 4, .int .i64 3, .int .i64 0, .bool false, .string ⟨#[]⟩]⟩], .int .i64 0), ([.agg ⟨[.int .i64 3, .int .i64 5, .int .i64 0, .bool false, .string ⟨#[]⟩]⟩], .int .i64 0), ([.agg ⟨[.int .i64 1, .int .i64 3, .int .i64 1, .bool false, .string ⟨#[]⟩]⟩], .int .i64 0), ([.agg ⟨[.int .i64 5, .int .i64 0, .int .i64 0, .bool false, .string ⟨#[90, 90, 57, 86, 46, 57, 57]⟩]⟩], .int .i64 0), ([.agg ⟨[.int .i64 1, .int .i64 4, .int .i64 0, .bool false, .string ⟨#[]⟩]⟩], .int .i64 0), ([.agg ⟨[.int .i64 5, .int .i64 0, .int .i64 0, .bool false, .string ⟨#[57, 57, 57]⟩]⟩], .int .i64 0), ([.agg ⟨[.int .i64 5, .int .i64 0, .int .i64 0, .bool false, .string ⟨#[65, 65, 57]⟩]⟩], .int .i64 0), ([.agg ⟨[.int .i64 3, .int .i64 256, .int .i64 0, .bool false, .string ⟨#[]⟩]⟩], .int .i64 5), ([.agg ⟨[.int .i64 4, .int .i64 64, .int .i64 0, .bool false, .string ⟨#[]⟩]⟩], .int .i64 0)]
theorem pk20 : jan Tryz.prog 20 (memo m20) := jaz [0, 1, 0, 0, 0, 0, 1, 0, 0, 0, 0, 0, 1] ok_A5 hmix fn20 jai (by kernel_rfl) (by kernel_rfl)
def A6 : Env := Env.nil
theorem ok_A6 : jax Tryz.prog A6 := jam
theorem fn191 : Fn1 Tryz.prog 191 Tryz.f191 := .m Tryz.func191 (by kernel_rfl)
def m191 : List (List Value × Value) := [([], .agg ⟨[.int .i64 1, .int .i64 10, .int .i64 100, .int .i64 1000, .int .i64 10000, .int .i64 100000, .int .i64 1000000, .int .i64 10000000, .int .i64 100000000, .int .i64 1000000000, .int .i64 10000000000, .int .i64 100000000000, .int .i64 1000000000000, .int .i64 10000000000000, .int .i64 100000000000000, .int .i64 1000000000000000, .int .i64 10000000000000000, .int .i64 100000000000000000, .int .i64 1000000000000000000]⟩)]
theorem pk191 : jan Tryz.prog 191 (memo m191) := jaz [] ok_A6 hmix fn191 jai (by kernel_rfl) (by kernel_rfl)
def A7 : Env := Env.nil.add 191 (memo m191)
theorem ok_A7 : jax Tryz.prog A7 := jaj jam pk191
theorem fn144 : Fn1 Tryz.prog 144 Tryz.f144 := .m Tryz.func144 (by kernel_rfl)
def m144 : List (List Value × Value) := [([.agg ⟨[.int .i64 1, .int .i64 4, .int .i64 2, .bool false, .string ⟨#[]⟩]⟩], .int .i64 10000), ([.agg ⟨[.int .i64 2, .int .i64 15, .int .i64 0, .bool false, .string ⟨#[]⟩]⟩], .int .i64 32768), ([.agg ⟨[.int .i64 1, .int .i64 3, .int .i64 1, .bool false, .string ⟨#[]⟩]⟩], .int .i64 1000), ([.agg ⟨[.int .i64 1, .int .i64 4, .int .i64 0, .bool false, .string ⟨#[]⟩]⟩], .int .i64 10000)]
theorem pk144 : jan Tryz.prog 144 (memo m144) := jaz [] ok_A7 hmix fn144 jai (by kernel_rfl) (by kernel_rfl)
def A8 : Env := (Env.nil.add 66 (sp1 Cx.s66)).add 144 (memo m144)
theorem ok_A8 : jax Tryz.prog A8 := jaj (jaj jam (jcs Cx.ok66)) pk144
theorem fn70 : Fn1 Tryz.prog 70 Tryz.f70 := .m Tryz.func70 (by kernel_rfl)
def m70 : List (List Value × Value) := [([.agg ⟨[.int .i64 (-150), .string ⟨#[]⟩]⟩, .agg ⟨[.int .i64 1, .int .i64 4, .int .i64 2, .bool false, .string ⟨#[]⟩]⟩], .int .i64 0), ([.agg ⟨[.int .i64 1, .string ⟨#[]⟩]⟩, .agg ⟨[.int .i64 2, .int .i64 15, .int .i64 0, .bool false, .string ⟨#[]⟩]⟩], .int .i64 0), ([.agg ⟨[.int .i64 123, .string ⟨#[]⟩]⟩, .agg ⟨[.int .i64 1, .int .i64 3, .int .i64 1, .bool false, .string ⟨#[]⟩]⟩], .int .i64 0), ([.agg ⟨[.int .i64 1234, .string ⟨#[]⟩]⟩, .agg ⟨[.int .i64 1, .int .i64 4, .int .i64 0, .bool false, .string ⟨#[]⟩]⟩], .int .i64 0)]
theorem pk70 : jan Tryz.prog 70 (memo m70) := jaz [] ok_A8 hmix fn70 jai (by kernel_rfl) (by kernel_rfl)
def A9 : Env := Env.nil.add 55 (sp2 s55)
theorem ok_A9 : jax Tryz.prog A9 := jaj jam ok55
theorem fn71 : Fn1 Tryz.prog 71 Tryz.f71 := .m Tryz.func71 (by kernel_rfl)
def m71 : List (List Value × Value) := [([.string ⟨#[49, 48, 49]⟩], .bool true), ([.string ⟨#[50]⟩], .bool false)]
theorem pk71 : jan Tryz.prog 71 (memo m71) := jaz [] ok_A9 hmix fn71 jai (by kernel_rfl) (by kernel_rfl)
def A10 : Env := (((Env.nil.add 72 (memo m72)).add 20 (memo m20)).add 70 (memo m70)).add 71 (memo m71)
theorem ok_A10 : jax Tryz.prog A10 := jaj (jaj (jaj (jaj jam pk72) pk20) pk70) pk71
theorem fn22 : Fn1 Tryz.prog 22 Tryz.f22 := .m Tryz.func22 (by kernel_rfl)
def m22 : List (List Value × Value) := [([.agg ⟨[.int .i64 (-150), .string ⟨#[]⟩]⟩, .agg ⟨[.int .i64 1, .int .i64 4, .int .i64 2, .bool false, .string ⟨#[]⟩]⟩], .int .i64 0), ([.agg ⟨[.int .i64 0, .string ⟨#[49, 50, 120]⟩]⟩, .agg ⟨[.int .i64 3, .int .i64 3, .int .i64 0, .bool false, .string ⟨#[]⟩]⟩], .int .i64 0), ([.agg ⟨[.int .i64 1, .string ⟨#[]⟩]⟩, .agg ⟨[.int .i64 2, .int .i64 15, .int .i64 0, .bool false, .string ⟨#[]⟩]⟩], .int .i64 0), ([.agg ⟨[.int .i64 0, .string ⟨#[49, 48, 49]⟩]⟩, .agg ⟨[.int .i64 4, .int .i64 3, .int .i64 0, .bool false, .string ⟨#[]⟩]⟩], .int .i64 0), ([.agg ⟨[.int .i64 123, .string ⟨#[]⟩]⟩, .agg ⟨[.int .i64 1, .int .i64 3, .int .i64 1, .bool false, .string ⟨#[]⟩]⟩], .int .i64 0), ([.agg ⟨[.int .i64 1234, .string ⟨#[]⟩]⟩, .agg ⟨[.int .i64 1, .int .i64 4, .int .i64 0, .bool false, .string ⟨#[]⟩]⟩], .int .i64 0), ([.agg ⟨[.int .i64 0, .string ⟨#[97, 49, 49]⟩]⟩, .agg ⟨[.int .i64 3, .int .i64 3, .int .i64 0, .bool false, .string ⟨#[]⟩]⟩], .int .i64 0), ([.agg ⟨[.int .i64 0, .string ⟨#[50]⟩]⟩, .agg ⟨[.int .i64 4, .int .i64 1, .int .i64 0, .bool false, .string ⟨#[]⟩]⟩], .int .i64 6)]
theorem pk22 : jan Tryz.prog 22 (memo m22) := jaz [] ok_A10 hmix fn22 jai (by kernel_rfl) (by kernel_rfl)
def A11 : Env := (Env.nil.add 154 (sp2 s154)).add 131 (sp2 s131)
theorem ok_A11 : jax Tryz.prog A11 := jaj (jaj jam ok154) ok131
theorem fn77 : Fn1 Tryz.prog 77 Tryz.f77 := .m Tryz.func77 (by kernel_rfl)
def m77 : List (List Value × Value) := [([.bool true, .string ⟨#[48, 48, 49, 50, 53, 48]⟩, .int .i64 2], .agg ⟨[.bool true, .string ⟨#[49, 50, 53]⟩, .int .i64 1]⟩), ([.bool false, .string ⟨#[49, 50, 48, 48]⟩, .int .i64 0], .agg ⟨[.bool false, .string ⟨#[49, 50]⟩, .int .i64 (-2)]⟩), ([.bool false, .string ⟨#[49, 50, 51]⟩, .int .i64 1], .agg ⟨[.bool false, .string ⟨#[49, 50, 51]⟩, .int .i64 1]⟩), ([.bool false, .string ⟨#[49, 50, 51, 52]⟩, .int .i64 0], .agg ⟨[.bool false, .string ⟨#[49, 50, 51, 52]⟩, .int .i64 0]⟩)]
theorem pk77 : jan Tryz.prog 77 (memo m77) := jaz [] ok_A11 hmix fn77 jai (by kernel_rfl) (by kernel_rfl)
def A12 : Env := Env.nil.add 55 (sp2 s55)
theorem ok_A12 : jax Tryz.prog A12 := jaj jam ok55
theorem fn84 : Fn1 Tryz.prog 84 Tryz.f84 := .m Tryz.func84 (by kernel_rfl)
def m84 : List (List Value × Value) := [([.agg ⟨[.bool false, .string ⟨#[49, 50, 51, 52, 53]⟩, .int .i64 2]⟩], .bool true), ([.agg ⟨[.bool false, .string ⟨#[49, 50, 51]⟩, .int .i64 1]⟩], .bool true), ([.agg ⟨[.bool false, .string ⟨#[49, 50, 51, 52]⟩, .int .i64 0]⟩], .bool true)]
theorem pk84 : jan Tryz.prog 84 (memo m84) := jaz [] ok_A12 hmix fn84 jai (by kernel_rfl) (by kernel_rfl)
def A13 : Env := (Env.nil.add 154 (sp2 s154)).add 30 (sp2 s30)
theorem ok_A13 : jax Tryz.prog A13 := jaj (jaj jam ok154) ok30
theorem fn86 : Fn1 Tryz.prog 86 Tryz.f86 := .m Tryz.func86 (by kernel_rfl)
def m86 : List (List Value × Value) := [([.agg ⟨[.bool false, .string ⟨#[49, 50, 51, 52, 53]⟩, .int .i64 2]⟩, .int .i64 1], .string ⟨#[49, 50, 51, 52]⟩), ([.agg ⟨[.bool false, .string ⟨#[49, 50, 51]⟩, .int .i64 1]⟩, .int .i64 2], .string ⟨#[49, 50, 51, 48]⟩), ([.agg ⟨[.bool false, .string ⟨#[49, 50, 51, 52]⟩, .int .i64 0]⟩, .int .i64 0], .string ⟨#[49, 50, 51, 52]⟩)]
theorem pk86 : jan Tryz.prog 86 (memo m86) := jaz [] ok_A13 hmix fn86 jai (by kernel_rfl) (by kernel_rfl)
def A14 : Env := ((Env.nil.add 85 (sp1 Cx.s85)).add 84 (memo m84)).add 86 (memo m86)
theorem ok_A14 : jax Tryz.prog A14 := jaj (jaj (jaj jam (jcs Cx.ok85)) pk84) pk86
theorem fn26 : Fn1 Tryz.prog 26 Tryz.f26 := .m Tryz.func26 (by kernel_rfl)
def m26 : List (List Value × Value) := [([.agg ⟨[.bool false, .string ⟨#[49, 50, 51, 52, 53]⟩, .int .i64 2]⟩, .agg ⟨[.int .i64 1, .int .i64 3, .int .i64 1, .bool false, .string ⟨#[]⟩]⟩], .tuple ⟨[.agg ⟨[.int .i64 234, .string ⟨#[]⟩]⟩, .int .i64 1, .int .i64 0]⟩), ([.agg ⟨[.bool false, .string ⟨#[49, 50, 51]⟩, .int .i64 1]⟩, .agg ⟨[.int .i64 1, .int .i64 5, .int .i64 2, .bool false, .string ⟨#[]⟩]⟩], .tuple ⟨[.agg ⟨[.int .i64 1230, .string ⟨#[]⟩]⟩, .int .i64 0, .int .i64 0]⟩), ([.agg ⟨[.bool false, .string ⟨#[49, 50, 51, 52]⟩, .int .i64 0]⟩, .agg ⟨[.int .i64 1, .int .i64 3, .int .i64 0, .bool false, .string ⟨#[]⟩]⟩], .tuple ⟨[.agg ⟨[.int .i64 234, .string ⟨#[]⟩]⟩, .int .i64 1, .int .i64 0]⟩)]
theorem pk26 : jan Tryz.prog 26 (memo m26) := jaz [] ok_A14 hmix fn26 jai (by kernel_rfl) (by kernel_rfl)
def A15 : Env := Env.nil.add 59 (memo m59)
theorem ok_A15 : jax Tryz.prog A15 := jaj jam pk59
theorem fn97 : Fn1 Tryz.prog 97 Tryz.f97 := .m Tryz.func97 (by kernel_rfl)
def m97 : List (List Value × Value) := [([.agg ⟨[.int .i64 (-150), .string ⟨#[]⟩]⟩, .agg ⟨[.int .i64 1, .int .i64 4, .int .i64 2, .bool false, .string ⟨#[]⟩]⟩], .iface 174 (.agg ⟨[.int .i64 (-150), .int .i64 1, .int .i64 4, .int .i64 2, .bool false, .string ⟨#[]⟩]⟩)), ([.agg ⟨[.int .i64 0, .string ⟨#[49, 50, 120]⟩]⟩, .agg ⟨[.int .i64 3, .int .i64 3, .int .i64 0, .bool false, .string ⟨#[]⟩]⟩], .iface 178 (.string ⟨#[49, 50, 120]⟩)), ([.agg ⟨[.int .i64 1, .string ⟨#[]⟩]⟩, .agg ⟨[.int .i64 2, .int .i64 15, .int .i64 0, .bool false, .string ⟨#[]⟩]⟩], .iface 174 (.agg ⟨[.int .i64 1, .int .i64 2, .int .i64 15, .int .i64 0, .bool false, .string ⟨#[]⟩]⟩)), ([.agg ⟨[.int .i64 0, .string ⟨#[49, 48, 49]⟩]⟩, .agg ⟨[.int .i64 4, .int .i64 3, .int .i64 0, .bool false, .string ⟨#[]⟩]⟩], .iface 175 (.string ⟨#[49, 48, 49]⟩)), ([.agg ⟨[.int .i64 123, .string ⟨#[]⟩]⟩, .agg ⟨[.int .i64 1, .int .i64 3, .int .i64 1, .bool false, .string ⟨#[]⟩]⟩], .iface 174 (.agg ⟨[.int .i64 123, .int .i64 1, .int .i64 3, .int .i64 1, .bool false, .string ⟨#[]⟩]⟩)), ([.agg ⟨[.int .i64 1234, .string ⟨#[]⟩]⟩, .agg ⟨[.int .i64 1, .int .i64 4, .int .i64 0, .bool false, .string ⟨#[]⟩]⟩], .iface 174 (.agg ⟨[.int .i64 1234, .int .i64 1, .int .i64 4, .int .i64 0, .bool false, .string ⟨#[]⟩]⟩)), ([.agg ⟨[.int .i64 0, .string ⟨#[97, 49, 49]⟩]⟩, .agg ⟨[.int .i64 3, .int .i64 3, .int .i64 0, .bool false, .string ⟨#[]⟩]⟩], .iface 178 (.string ⟨#[97, 49, 49]⟩))]
theorem pk97 : jan Tryz.prog 97 (memo m97) := jaz [] ok_A15 hmix fn97 jai (by kernel_rfl) (by kernel_rfl)
def A16 : Env := Env.nil
theorem ok_A16 : jax Tryz.prog A16 := jam
theorem fn112 : Fn1 Tryz.prog 112 Tryz.f112 := .m Tryz.func112 (by kernel_rfl)
def m112 : List (List Value × Value) := [([.agg ⟨[.int .i64 1, .int .i64 4, .int .i64 2, .bool false, .string ⟨#[]⟩]⟩], .int .i64 7), ([.agg ⟨[.int .i64 1, .int .i64 3, .int .i64 1, .bool false, .string ⟨#[]⟩]⟩], .int .i64 6)]
theorem pk112 : jan Tryz.prog 112 (memo m112) := jaz [] ok_A16 hmix fn112 jai (by kernel_rfl) (by kernel_rfl)
def A17 : Env := ((Env.nil.add 30 (sp2 s30)).add 29 (memo m29)).add 112 (memo m112)
theorem ok_A17 : jax Tryz.prog A17 := jaj (jaj (jaj jam ok30) pk29) pk112
theorem fn321 : Fn1 Tryz.prog 321 Tryz.f321 := .m Tryz.func321 (by kernel_rfl)
def m321 : List (List Value × Value) := [([.agg ⟨[.int .i64 (-150), .int .i64 1, .int .i64 4, .int .i64 2, .bool false, .string ⟨#[]⟩]⟩], .string ⟨#[32, 32, 45, 49, 46, 53, 48]⟩)]
theorem pk321 : jan Tryz.prog 321 (memo m321) := jaz [] ok_A17 hmix fn321 jai (by kernel_rfl) (by kernel_rfl)
def A18 : Env := Env.nil
theorem ok_A18 : jax Tryz.prog A18 := jam
theorem fn322 : Fn1 Tryz.prog 322 Tryz.f322 := .m Tryz.func322 (by kernel_rfl)
def m322 : List (List Value × Value) := [([.string ⟨#[49, 48, 49]⟩], .string ⟨#[49, 48, 49]⟩)]
theorem pk322 : jan Tryz.prog 322 (memo m322) := jaz [] ok_A18 hmix fn322 jai (by kernel_rfl) (by kernel_rfl)
def A19 : Env := Env.nil
theorem ok_A19 : jax Tryz.prog A19 := jam
theorem fn324 : Fn1 Tryz.prog 324 Tryz.f324 := .m Tryz.func324 (by kernel_rfl)
def m324 : List (List Value × Value) := [([.string ⟨#[49, 50, 120]⟩], .string ⟨#[49, 50, 120]⟩), ([.string ⟨#[97, 49, 49]⟩], .string ⟨#[97, 49, 49]⟩)]
theorem pk324 : jan Tryz.prog 324 (memo m324) := jaz [] ok_A19 hmix fn324 jai (by kernel_rfl) (by kernel_rfl)
def A20 : Env := ((((Env.nil.add 22 (memo m22)).add 97 (memo m97)).add 321 (memo m321)).add 322 (memo m322)).add 324 (memo m324)
theorem ok_A20 : jax Tryz.prog A20 := jaj (jaj (jaj (jaj (jaj jam pk22) pk97) pk321) pk322) pk324
theorem fn32 : Fn1 Tryz.prog 32 Tryz.f32 := .m Tryz.func32 (by kernel_rfl)
def m32 : List (List Value × Value) := [([.agg ⟨[.int .i64 (-150), .string ⟨#[]⟩]⟩, .agg ⟨[.int .i64 1, .int .i64 4, .int .i64 2, .bool false, .string ⟨#[]⟩]⟩], .tuple ⟨[.string ⟨#[32, 32, 45, 49, 46, 53, 48]⟩, .int .i64 0]⟩)]
theorem pk32 : jan Tryz.prog 32 (memo m32) := jaz [] ok_A20 hmix fn32 jai (by kernel_rfl) (by kernel_rfl)
def A21 : Env := Env.nil
theorem ok_A21 : jax Tryz.prog A21 := jam
theorem fn153 : Fn1 Tryz.prog 153 Tryz.f153 := .m Tryz.func153 (by kernel_rfl)
def A22 : Env := Env.nil
theorem ok_A22 : jax Tryz.prog A22 := jam
theorem fn214 : Fn1 Tryz.prog 214 Tryz.f214 := .m Tryz.func214 (by kernel_rfl)
def A23 : Env := Env.nil
theorem ok_A23 : jax Tryz.prog A23 := jam
theorem fn215 : Fn1 Tryz.prog 215 Tryz.f215 := .m Tryz.func215 (by kernel_rfl)
def A24 : Env := Env.nil
theorem ok_A24 : jax Tryz.prog A24 := jam
theorem fn76 : Fn1 Tryz.prog 76 Tryz.f76 := .m Tryz.func76 (by kernel_rfl)
def A25 : Env := ((((Env.nil.add 152 (sp1 Cx.s152)).add 213 (sp1 Cx.s213)).addG 153 (inlQ Tryz.prog A21 noL Tryz.f153)).addG 214 (inlQ Tryz.prog A22 noL Tryz.f214)).addG 215 (inlQ Tryz.prog A23 noL Tryz.f215)
theorem ok_A25 : jax Tryz.prog A25 := jao (jao (jao (jaj (jaj jam (jcs Cx.ok152)) (jcs Cx.ok213)) (jas ok_A21 hmix fn153 jai)) (jas ok_A22 hmix fn214 jai)) (jas ok_A23 hmix fn215 jai)
theorem fn212 : Fn1 Tryz.prog 212 Tryz.f212 := .m Tryz.func212 (by kernel_rfl)
def A26 : Env := (((Env.nil.add 152 (sp1 Cx.s152)).add 213 (sp1 Cx.s213)).addG 214 (inlQ Tryz.prog A22 noL Tryz.f214)).addG 215 (inlQ Tryz.prog A23 noL Tryz.f215)
theorem ok_A26 : jax Tryz.prog A26 := jao (jao (jaj (jaj jam (jcs Cx.ok152)) (jcs Cx.ok213)) (jas ok_A22 hmix fn214 jai)) (jas ok_A23 hmix fn215 jai)
theorem fn263 : Fn1 Tryz.prog 263 Tryz.f263 := .m Tryz.func263 (by kernel_rfl)
def A27 : Env := (Env.nil.add 152 (sp1 Cx.s152)).addG 215 (inlQ Tryz.prog A23 noL Tryz.f215)
theorem ok_A27 : jax Tryz.prog A27 := jao (jaj jam (jcs Cx.ok152)) (jas ok_A23 hmix fn215 jai)
theorem fn264 : Fn1 Tryz.prog 264 Tryz.f264 := .m Tryz.func264 (by kernel_rfl)
def A28 : Env := ((((((((Env.nil.add 152 (sp1 Cx.s152)).add 321 (memo m321)).add 322 (memo m322)).add 324 (memo m324)).addG 153 (inlQ Tryz.prog A21 noL Tryz.f153)).addG 76 (inlQ Tryz.prog A24 noL Tryz.f76)).addG 212 (inlQ Tryz.prog A25 noL Tryz.f212)).addG 263 (inlQ Tryz.prog A26 noL Tryz.f263)).addG 264 (inlQ Tryz.prog A27 noL Tryz.f264)
theorem ok_A28 : jax Tryz.prog A28 := jao (jao (jao (jao (jao (jaj (jaj (jaj (jaj jam (jcs Cx.ok152)) pk321) pk322) pk324) (jas ok_A21 hmix fn153 jai)) (jas ok_A24 hmix fn76 jai)) (jas ok_A25 hmix fn212 jai)) (jas ok_A26 hmix fn263 jai)) (jas ok_A27 hmix fn264 jai)
theorem fn151 : Fn1 Tryz.prog 151 Tryz.f151 := .m Tryz.func151 (by kernel_rfl)
def A29 : Env := (((((((((Env.nil.add 55 (sp2 s55)).add 77 (memo m77)).add 321 (memo m321)).add 322 (memo m322)).add 324 (memo m324)).addG 76 (inlQ Tryz.prog A24 noL Tryz.f76)).addG 212 (inlQ Tryz.prog A25 noL Tryz.f212)).addG 263 (inlQ Tryz.prog A26 noL Tryz.f263)).addG 264 (inlQ Tryz.prog A27 noL Tryz.f264)).addG 151 (inlQ Tryz.prog A28 noL Tryz.f151)
theorem ok_A29 : jax Tryz.prog A29 := jao (jao (jao (jao (jao (jaj (jaj (jaj (jaj (jaj jam ok55) pk77) pk321) pk322) pk324) (jas ok_A24 hmix fn76 jai)) (jas ok_A25 hmix fn212 jai)) (jas ok_A26 hmix fn263 jai)) (jas ok_A27 hmix fn264 jai)) (jas ok_A28 hmix fn151 jai)
theorem fn24 : Fn1 Tryz.prog 24 Tryz.f24 := .m Tryz.func24 (by kernel_rfl)
def m24 : List (List Value × Value) := [([.string ⟨#[32, 32, 45, 48, 48, 49, 50, 46, 53, 48, 32]⟩], .tuple ⟨[.agg ⟨[.bool true, .string ⟨#[49, 50, 53]⟩, .int .i64 1]⟩, .bool true]⟩), ([.string ⟨#[49, 50, 48, 48]⟩], .tuple ⟨[.agg ⟨[.bool false, .string ⟨#[49, 50]⟩, .int .i64 (-2)]⟩, .bool true]⟩), ([.string ⟨#[49, 69, 49, 50, 51]⟩], .tuple ⟨[.agg ⟨[.bool false, .string ⟨#[]⟩, .int .i64 0]⟩, .bool false]⟩), ([.string ⟨#[49, 50, 120]⟩], .tuple ⟨[.agg ⟨[.bool false, .string ⟨#[]⟩, .int .i64 0]⟩, .bool false]⟩)]
theorem pk24 : jan Tryz.prog 24 (memo m24) := jaz [] ok_A29 hmix fn24 jai (by kernel_rfl) (by kernel_rfl)
def A30 : Env := (((((((((Env.nil.add 29 (memo m29)).add 77 (memo m77)).add 321 (memo m321)).add 322 (memo m322)).add 324 (memo m324)).addG 212 (inlQ Tryz.prog A25 noL Tryz.f212)).addG 263 (inlQ Tryz.prog A26 noL Tryz.f263)).addG 264 (inlQ Tryz.prog A27 noL Tryz.f264)).addG 151 (inlQ Tryz.prog A28 noL Tryz.f151)).add 24 (memo m24)
theorem ok_A30 : jax Tryz.prog A30 := jaj (jao (jao (jao (jao (jaj (jaj (jaj (jaj (jaj jam pk29) pk77) pk321) pk322) pk324) (jas ok_A25 hmix fn212 jai)) (jas ok_A26 hmix fn263 jai)) (jas ok_A27 hmix fn264 jai)) (jas ok_A28 hmix fn151 jai)) pk24
theorem fn222 : Fn1 Tryz.prog 222 Tryz.f222 := .m Tryz.func222 (by kernel_rfl)
def m222 : List (List Value × Value) := [([.iface 178 (.string ⟨#[49, 50, 120]⟩)], .tuple ⟨[.agg ⟨[.bool false, .string ⟨#[]⟩, .int .i64 0]⟩, .iface 119 (.agg ⟨[.string ⟨#[49, 50, 120]⟩]⟩)]⟩), ([.iface 174 (.agg ⟨[.int .i64 123, .int .i64 1, .int .i64 3, .int .i64 1, .bool false, .string ⟨#[]⟩]⟩)], .tuple ⟨[.agg ⟨[.bool false, .string ⟨#[49, 50, 51]⟩, .int .i64 1]⟩, .nilIface]⟩), ([.iface 174 (.agg ⟨[.int .i64 1234, .int .i64 1, .int .i64 4, .int .i64 0, .bool false, .string ⟨#[]⟩]⟩)], .tuple ⟨[.agg ⟨[.bool false, .string ⟨#[49, 50, 51, 52]⟩, .int .i64 0]⟩, .nilIface]⟩)]
theorem pk222 : jan Tryz.prog 222 (memo m222) := jaz [] ok_A30 hmix fn222 jai (by kernel_rfl) (by kernel_rfl)
def A31 : Env := (Env.nil.add 26 (memo m26)).add 222 (memo m222)
theorem ok_A31 : jax Tryz.prog A31 := jaj (jaj jam pk26) pk222
theorem fn168 : Fn1 Tryz.prog 168 Tryz.f168 := .m Tryz.func168 (by kernel_rfl)
def m168 : List (List Value × Value) := [([.iface 178 (.string ⟨#[49, 50, 120]⟩), .agg ⟨[.int .i64 1, .int .i64 3, .int .i64 0, .bool false, .string ⟨#[]⟩]⟩], .tuple ⟨[.agg ⟨[.int .i64 0, .string ⟨#[]⟩]⟩, .int .i64 0, .iface 119 (.agg ⟨[.string ⟨#[49, 50, 120]⟩]⟩)]⟩), ([.iface 174 (.agg ⟨[.int .i64 123, .int .i64 1, .int .i64 3, .int .i64 1, .bool false, .string ⟨#[]⟩]⟩), .agg ⟨[.int .i64 1, .int .i64 5, .int .i64 2, .bool false, .string ⟨#[]⟩]⟩], .tuple ⟨[.agg ⟨[.int .i64 1230, .string ⟨#[]⟩]⟩, .int .i64 0, .nilIface]⟩), ([.iface 174 (.agg ⟨[.int .i64 1234, .int .i64 1, .int .i64 4, .int .i64 0, .bool false, .string ⟨#[]⟩]⟩), .agg ⟨[.int .i64 1, .int .i64 3, .int .i64 0, .bool false, .string ⟨#[]⟩]⟩], .tuple ⟨[.agg ⟨[.int .i64 234, .string ⟨#[]⟩]⟩, .int .i64 1, .nilIface]⟩)]
theorem pk168 : jan Tryz.prog 168 (memo m168) := jaz [] ok_A31 hmix fn168 jai (by kernel_rfl) (by kernel_rfl)
def A32 : Env := Env.nil
theorem ok_A32 : jax Tryz.prog A32 := jam
theorem fn115 : Fn1 Tryz.prog 115 Tryz.f115 := .m Tryz.func115 (by kernel_rfl)
def m115 : List (List Value × Value) := [([.agg ⟨[.int .i64 2, .int .i64 15, .int .i64 0, .bool false, .string ⟨#[]⟩]⟩], .int .i64 15), ([.agg ⟨[.int .i64 1, .int .i64 3, .int .i64 0, .bool false, .string ⟨#[]⟩]⟩], .int .i64 10)]
theorem pk115 : jan Tryz.prog 115 (memo m115) := jaz [] ok_A32 hmix fn115 jai (by kernel_rfl) (by kernel_rfl)
def A33 : Env := Env.nil
theorem ok_A33 : jax Tryz.prog A33 := jam
theorem fn223 : Fn1 Tryz.prog 223 Tryz.f223 := .m Tryz.func223 (by kernel_rfl)
def m223 : List (List Value × Value) := [([.int .i64 1, .int .i64 15], .string ⟨#[48, 48, 48, 48, 48, 48, 48, 48, 48, 48, 48, 48, 48, 48, 49]⟩)]
theorem pk223 : jan Tryz.prog 223 (memo m223) := jaz [] ok_A33 hmix fn223 jai (by kernel_rfl) (by kernel_rfl)
def A34 : Env := Env.nil.add 30 (sp2 s30)
theorem ok_A34 : jax Tryz.prog A34 := jaj jam ok30
theorem fn169 : Fn1 Tryz.prog 169 Tryz.f169 := .m Tryz.func169 (by kernel_rfl)
def m169 : List (List Value × Value) := [([.string ⟨#[48, 48, 48, 48, 48, 48, 48, 48, 48, 48, 48, 48, 48, 48, 49]⟩, .int .i64 1, .string ⟨#[48]⟩], .string ⟨#[48]⟩), ([.string ⟨#[49, 48, 49]⟩, .int .i64 5, .string ⟨#[32]⟩], .string ⟨#[49, 48, 49, 32, 32]⟩), ([.string ⟨#[97, 49, 49]⟩, .int .i64 3, .string ⟨#[32]⟩], .string ⟨#[97, 49, 49]⟩)]
theorem pk169 : jan Tryz.prog 169 (memo m169) := jaz [] ok_A34 hmix fn169 jai (by kernel_rfl) (by kernel_rfl)
def A35 : Env := (((((((((Env.nil.add 71 (memo m71)).add 321 (memo m321)).add 322 (memo m322)).add 324 (memo m324)).addG 212 (inlQ Tryz.prog A25 noL Tryz.f212)).addG 263 (inlQ Tryz.prog A26 noL Tryz.f263)).addG 264 (inlQ Tryz.prog A27 noL Tryz.f264)).addG 151 (inlQ Tryz.prog A28 noL Tryz.f151)).add 115 (memo m115)).add 223 (memo m223)
theorem ok_A35 : jax Tryz.prog A35 := jaj (jaj (jao (jao (jao (jao (jaj (jaj (jaj (jaj jam pk71) pk321) pk322) pk324) (jas ok_A25 hmix fn212 jai)) (jas ok_A26 hmix fn263 jai)) (jas ok_A27 hmix fn264 jai)) (jas ok_A28 hmix fn151 jai)) pk115) pk223
theorem fn170 : Fn1 Tryz.prog 170 Tryz.f170 := .m Tryz.func170 (by kernel_rfl)
def m170 : List (List Value × Value) := [([.iface 174 (.agg ⟨[.int .i64 1, .int .i64 2, .int .i64 15, .int .i64 0, .bool false, .string ⟨#[]⟩]⟩)], .tuple ⟨[.string ⟨#[48, 48, 48, 48, 48, 48, 48, 48, 48, 48, 48, 48, 48, 48, 49]⟩, .nilIface]⟩)]
theorem pk170 : jan Tryz.prog 170 (memo m170) := jaz [] ok_A35 hmix fn170 jai (by kernel_rfl) (by kernel_rfl)
def A36 : Env := (((((((((((((Env.nil.add 61 (memo m61)).add 59 (memo m59)).add 171 (memo m171)).add 72 (memo m72)).add 321 (memo m321)).add 322 (memo m322)).add 324 (memo m324)).addG 212 (inlQ Tryz.prog A25 noL Tryz.f212)).addG 263 (inlQ Tryz.prog A26 noL Tryz.f263)).addG 264 (inlQ Tryz.prog A27 noL Tryz.f264)).addG 151 (inlQ Tryz.prog A28 noL Tryz.f151)).add 168 (memo m168)).add 169 (memo m169)).add 170 (memo m170)
theorem ok_A36 : jax Tryz.prog A36 := jaj (jaj (jaj (jao (jao (jao (jao (jaj (jaj (jaj (jaj (jaj (jaj (jaj jam pk61) pk59) pk171) pk72) pk321) pk322) pk324) (jas ok_A25 hmix fn212 jai)) (jas ok_A26 hmix fn263 jai)) (jas ok_A27 hmix fn264 jai)) (jas ok_A28 hmix fn151 jai)) pk168) pk169) pk170
theorem fn99 : Fn1 Tryz.prog 99 Tryz.f99 := .m Tryz.func99 (by kernel_rfl)
def m99 : List (List Value × Value) := [([.iface 178 (.string ⟨#[49, 50, 120]⟩), .agg ⟨[.int .i64 1, .int .i64 3, .int .i64 0, .bool false, .string ⟨#[]⟩]⟩], .tuple ⟨[.agg ⟨[.int .i64 0, .string ⟨#[]⟩]⟩, .int .i64 0, .iface 119 (.agg ⟨[.string ⟨#[49, 50, 120]⟩]⟩)]⟩), ([.iface 174 (.agg ⟨[.int .i64 1, .int .i64 2, .int .i64 15, .int .i64 0, .bool false, .string ⟨#[]⟩]⟩), .agg ⟨[.int .i64 4, .int .i64 1, .int .i64 0, .bool false, .string ⟨#[]⟩]⟩], .tuple ⟨[.agg ⟨[.int .i64 0, .string ⟨#[48]⟩]⟩, .int .i64 0, .nilIface]⟩), ([.iface 175 (.string ⟨#[49, 48, 49]⟩), .agg ⟨[.int .i64 3, .int .i64 5, .int .i64 0, .bool false, .string ⟨#[]⟩]⟩], .tuple ⟨[.agg ⟨[.int .i64 0, .string ⟨#[49, 48, 49, 32, 32]⟩]⟩, .int .i64 0, .nilIface]⟩), ([.iface 174 (.agg ⟨[.int .i64 123, .int .i64 1, .int .i64 3, .int .i64 1, .bool false, .string ⟨#[]⟩]⟩), .agg ⟨[.int .i64 5, .int .i64 0, .int .i64 0, .bool false, .string ⟨#[90, 90, 57, 86, 46, 57, 57]⟩]⟩], .tuple ⟨[.agg ⟨[.int .i64 0, .string ⟨#[32, 49, 50, 46, 51, 48]⟩]⟩, .int .i64 0, .nilIface]⟩), ([.iface 174 (.agg ⟨[.int .i64 1234, .int .i64 1, .int .i64 4, .int .i64 0, .bool false, .string ⟨#[]⟩]⟩), .agg ⟨[.int .i64 5, .int .i64 0, .int .i64 0, .bool false, .string ⟨#[57, 57, 57]⟩]⟩], .tuple ⟨[.agg ⟨[.int .i64 0, .string ⟨#[50, 51, 52]⟩]⟩, .int .i64 1, .nilIface]⟩), ([.iface 178 (.string ⟨#[97, 49, 49]⟩), .agg ⟨[.int .i64 5, .int .i64 0, .int .i64 0, .bool false, .string ⟨#[65, 65, 57]⟩]⟩], .tuple ⟨[.agg ⟨[.int .i64 0, .string ⟨#[]⟩]⟩, .int .i64 0, .iface 119 (.agg ⟨[.string ⟨#[97, 49, 49]⟩]⟩)]⟩)]
theorem pk99 : jan Tryz.prog 99 (memo m99) := jaz [0, 0, 0, 0, 0, 2] ok_A36 hmix fn99 jai (by kernel_rfl) (by kernel_rfl)
def A37 : Env := (Env.nil.add 30 (sp2 s30)).add 176 (memo m176)
theorem ok_A37 : jax Tryz.prog A37 := jaj (jaj jam ok30) pk176
theorem fn101 : Fn1 Tryz.prog 101 Tryz.f101 := .m Tryz.func101 (by kernel_rfl)
def m101 : List (List Value × Value) := [([.agg ⟨[.int .i64 1, .int .i64 3, .int .i64 0, .bool false, .string ⟨#[]⟩]⟩], .agg ⟨[.int .i64 0, .string ⟨#[]⟩]⟩), ([.agg ⟨[.int .i64 5, .int .i64 0, .int .i64 0, .bool false, .string ⟨#[65, 65, 57]⟩]⟩], .agg ⟨[.int .i64 0, .string ⟨#[32, 32, 32]⟩]⟩)]
theorem pk101 : jan Tryz.prog 101 (memo m101) := jaz [] ok_A37 hmix fn101 jai (by kernel_rfl) (by kernel_rfl)
def A38 : Env := (((((Env.nil.addG 100 h100).add 20 (memo m20)).add 22 (memo m22)).add 97 (memo m97)).add 99 (memo m99)).add 101 (memo m101)
theorem ok_A38 : jax Tryz.prog A38 := jaj (jaj (jaj (jaj (jaj (jao jam genC) pk20) pk22) pk97) pk99) pk101
theorem fn34 : Fn1 Tryz.prog 34 Tryz.f34 := .m Tryz.func34 (by kernel_rfl)
def m34 : List (List Value × Value) := [([.agg ⟨[.int .i64 0, .string ⟨#[49, 50, 120]⟩]⟩, .agg ⟨[.int .i64 3, .int .i64 3, .int .i64 0, .bool false, .string ⟨#[]⟩]⟩, .agg ⟨[.int .i64 1, .int .i64 3, .int .i64 0, .bool false, .string ⟨#[]⟩]⟩], .tuple ⟨[.agg ⟨[.int .i64 0, .string ⟨#[]⟩]⟩, .int .i64 4, .int .i64 0]⟩), ([.agg ⟨[.int .i64 1, .string ⟨#[]⟩]⟩, .agg ⟨[.int .i64 2, .int .i64 15, .int .i64 0, .bool false, .string ⟨#[]⟩]⟩, .agg ⟨[.int .i64 4, .int .i64 1, .int .i64 0, .bool false, .string ⟨#[]⟩]⟩], .tuple ⟨[.agg ⟨[.int .i64 0, .string ⟨#[48]⟩]⟩, .int .i64 0, .int .i64 0]⟩), ([.agg ⟨[.int .i64 0, .string ⟨#[49, 48, 49]⟩]⟩, .agg ⟨[.int .i64 4, .int .i64 3, .int .i64 0, .bool false, .string ⟨#[]⟩]⟩, .agg ⟨[.int .i64 3, .int .i64 5, .int .i64 0, .bool false, .string ⟨#[]⟩]⟩], .tuple ⟨[.agg ⟨[.int .i64 0, .string ⟨#[49, 48, 49, 32, 32]⟩]⟩, .int .i64 0, .int .i64 0]⟩), ([.agg ⟨[.int .i64 123, .string ⟨#[]⟩]⟩, .agg ⟨[.int .i64 1, .int .i64 3, .int .i64 1, .bool false, .string ⟨#[]⟩]⟩, .agg ⟨[.int .i64 5, .int .i64 0, .int .i64 0, .bool false, .string ⟨#[90, 90, 57, 86, 46, 57, 57]⟩]⟩], .tuple ⟨[.agg ⟨[.int .i64 0, .string ⟨#[32, 49, 50, 46, 51, 48]⟩]⟩, .int .i64 0, .int .i64 0]⟩), ([.agg ⟨[.int .i64 1234, .string ⟨#[]⟩]⟩, .agg ⟨[.int .i64 1, .int .i64 4, .int .i64 0, .bool false, .string ⟨#[]⟩]⟩, .agg ⟨[.int .i64 5, .int .i64 0, .int .i64 0, .bool false, .string ⟨#[57, 57, 57]⟩]⟩], .tuple ⟨[.agg ⟨[.int .i64 0, .string ⟨#[50, 51, 52]⟩]⟩, .int .i64 1, .int .i64 0]⟩), ([.agg ⟨[.int .i64 0, .string ⟨#[97, 49, 49]⟩]⟩, .agg ⟨[.int .i64 3, .int .i64 3, .int .i64 0, .bool false, .string ⟨#[]⟩]⟩, .agg ⟨[.int .i64 5, .int .i64 0, .int .i64 0, .bool false, .string ⟨#[65, 65, 57]⟩]⟩], .tuple ⟨[.agg ⟨[.int .i64 0, .string ⟨#[32, 32, 32]⟩]⟩, .int .i64 4, .int .i64 0]⟩)]
theorem pk34 : jan Tryz.prog 34 (memo m34) := jaz [] ok_A38 hmix fn34 jai (by kernel_rfl) (by kernel_rfl)
def A39 : Env := Env.nil.add 34 (memo m34)
theorem ok_A39 : jax Tryz.prog A39 := jaj jam pk34
theorem fn48 : Fn1 Tryz.prog 48 Tryz.f48 := .m Tryz.func48 (by kernel_rfl)
def m48 : List (List Value × Value) := [([.agg ⟨[.int .i64 0, .string ⟨#[49, 50, 120]⟩]⟩, .agg ⟨[.int .i64 3, .int .i64 3, .int .i64 0, .bool false, .string ⟨#[]⟩]⟩, .agg ⟨[.int .i64 1, .int .i64 3, .int .i64 0, .bool false, .string ⟨#[]⟩]⟩, .agg ⟨[.int .i64 0, .string ⟨#[]⟩]⟩, .int .i64 4], .bool true), ([.agg ⟨[.int .i64 1, .string ⟨#[]⟩]⟩, .agg ⟨[.int .i64 2, .int .i64 15, .int .i64 0, .bool false, .string ⟨#[]⟩]⟩, .agg ⟨[.int .i64 4, .int .i64 1, .int .i64 0, .bool false, .string ⟨#[]⟩]⟩, .agg ⟨[.int .i64 0, .string ⟨#[48]⟩]⟩, .int .i64 0], .bool true), ([.agg ⟨[.int .i64 0, .string ⟨#[49, 48, 49]⟩]⟩, .agg ⟨[.int .i64 4, .int .i64 3, .int .i64 0, .bool false, .string ⟨#[]⟩]⟩, .agg ⟨[.int .i64 3, .int .i64 5, .int .i64 0, .bool false, .string ⟨#[]⟩]⟩, .agg ⟨[.int .i64 0, .string ⟨#[49, 48, 49, 32, 32]⟩]⟩, .int .i64 0], .bool true), ([.agg ⟨[.int .i64 123, .string ⟨#[]⟩]⟩, .agg ⟨[.int .i64 1, .int .i64 3, .int .i64 1, .bool false, .string ⟨#[]⟩]⟩, .agg ⟨[.int .i64 5, .int .i64 0, .int .i64 0, .bool false, .string ⟨#[90, 90, 57, 86, 46, 57, 57]⟩]⟩, .agg ⟨[.int .i64 0, .string ⟨#[32, 49, 50, 46, 51, 48]⟩]⟩, .int .i64 0], .bool true), ([.agg ⟨[.int .i64 1234, .string ⟨#[]⟩]⟩, .agg ⟨[.int .i64 1, .int .i64 4, .int .i64 0, .bool false, .string ⟨#[]⟩]⟩, .agg ⟨[.int .i64 5, .int .i64 0, .int .i64 0, .bool false, .string ⟨#[57, 57, 57]⟩]⟩, .agg ⟨[.int .i64 0, .string ⟨#[50, 51, 52]⟩]⟩, .int .i64 1], .bool true), ([.agg ⟨[.int .i64 0, .string ⟨#[97, 49, 49]⟩]⟩, .agg ⟨[.int .i64 3, .int .i64 3, .int .i64 0, .bool false, .string ⟨#[]⟩]⟩, .agg ⟨[.int .i64 5, .int .i64 0, .int .i64 0, .bool false, .string ⟨#[65, 65, 57]⟩]⟩, .agg ⟨[.int .i64 0, .string ⟨#[32, 32, 32]⟩]⟩, .int .i64 4], .bool true)]
theorem pk48 : jan Tryz.prog 48 (memo m48) := jaz [] ok_A39 hmix fn48 jai (by kernel_rfl) (by kernel_rfl)
def A40 : Env := Env.nil.add 20 (memo m20)
theorem ok_A40 : jax Tryz.prog A40 := jaj jam pk20
theorem fn108 : Fn1 Tryz.prog 108 Tryz.f108 := .m Tryz.func108 (by kernel_rfl)
def m108 : List (List Value × Value) := [([.agg ⟨[.int .i64 4, .int .i64 3, .int .i64 0, .bool false, .string ⟨#[]⟩]⟩], .int .i64 0), ([.agg ⟨[.int .i64 1, .int .i64 3, .int .i64 1, .bool false, .string ⟨#[]⟩]⟩], .int .i64 0), ([.agg ⟨[.int .i64 1, .int .i64 3, .int .i64 0, .bool false, .string ⟨#[]⟩]⟩], .int .i64 0), ([.agg ⟨[.int .i64 2, .int .i64 15, .int .i64 0, .bool false, .string ⟨#[]⟩]⟩], .int .i64 0)]
theorem pk108 : jan Tryz.prog 108 (memo m108) := jaz [] ok_A40 hmix fn108 jai (by kernel_rfl) (by kernel_rfl)
def A41 : Env := (((Env.nil.add 61 (memo m61)).add 59 (memo m59)).add 85 (sp1 Cx.s85)).add 108 (memo m108)
theorem ok_A41 : jax Tryz.prog A41 := jaj (jaj (jaj (jaj jam pk61) pk59) (jcs Cx.ok85)) pk108
theorem fn38 : Fn1 Tryz.prog 38 Tryz.f38 := .m Tryz.func38 (by kernel_rfl)
def m38 : List (List Value × Value) := [([.agg ⟨[.int .i64 4, .int .i64 3, .int .i64 0, .bool false, .string ⟨#[]⟩]⟩], .tuple ⟨[.agg ⟨[.int .i64 2, .int .i64 31, .int .i64 0, .bool false, .string ⟨#[]⟩]⟩, .int .i64 0]⟩), ([.agg ⟨[.int .i64 1, .int .i64 3, .int .i64 1, .bool false, .string ⟨#[]⟩]⟩], .tuple ⟨[.agg ⟨[.int .i64 1, .int .i64 3, .int .i64 1, .bool false, .string ⟨#[]⟩]⟩, .int .i64 0]⟩), ([.agg ⟨[.int .i64 2, .int .i64 15, .int .i64 0, .bool false, .string ⟨#[]⟩]⟩], .tuple ⟨[.agg ⟨[.int .i64 2, .int .i64 15, .int .i64 0, .bool false, .string ⟨#[]⟩]⟩, .int .i64 0]⟩)]
theorem pk38 : jan Tryz.prog 38 (memo m38) := jaz [] ok_A41 hmix fn38 jai (by kernel_rfl) (by kernel_rfl)
def A42 : Env := ((Env.nil.add 113 (memo m113)).add 112 (memo m112)).add 108 (memo m108)
theorem ok_A42 : jax Tryz.prog A42 := jaj (jaj (jaj jam pk113) pk112) pk108
theorem fn40 : Fn1 Tryz.prog 40 Tryz.f40 := .m Tryz.func40 (by kernel_rfl)
def m40 : List (List Value × Value) := [([.agg ⟨[.int .i64 1, .int .i64 3, .int .i64 1, .bool false, .string ⟨#[]⟩]⟩], .tuple ⟨[.agg ⟨[.int .i64 3, .int .i64 6, .int .i64 0, .bool false, .string ⟨#[]⟩]⟩, .int .i64 0]⟩)]
theorem pk40 : jan Tryz.prog 40 (memo m40) := jaz [] ok_A42 hmix fn40 jai (by kernel_rfl) (by kernel_rfl)
def A43 : Env := (((Env.nil.add 61 (memo m61)).add 85 (sp1 Cx.s85)).add 115 (memo m115)).add 108 (memo m108)
theorem ok_A43 : jax Tryz.prog A43 := jaj (jaj (jaj (jaj jam pk61) (jcs Cx.ok85)) pk115) pk108
theorem fn42 : Fn1 Tryz.prog 42 Tryz.f42 := .m Tryz.func42 (by kernel_rfl)
def m42 : List (List Value × Value) := [([.agg ⟨[.int .i64 1, .int .i64 3, .int .i64 0, .bool false, .string ⟨#[]⟩]⟩], .tuple ⟨[.agg ⟨[.int .i64 4, .int .i64 10, .int .i64 0, .bool false, .string ⟨#[]⟩]⟩, .int .i64 0]⟩)]
theorem pk42 : jan Tryz.prog 42 (memo m42) := jaz [] ok_A43 hmix fn42 jai (by kernel_rfl) (by kernel_rfl)
def A44 : Env := Env.nil.add 66 (sp1 Cx.s66)
theorem ok_A44 : jax Tryz.prog A44 := jaj jam (jcs Cx.ok66)
theorem fn117 : Fn1 Tryz.prog 117 Tryz.f117 := .m Tryz.func117 (by kernel_rfl)
def m117 : List (List Value × Value) := [([.agg ⟨[.int .i64 1, .int .i64 3, .int .i64 1, .bool false, .string ⟨#[]⟩]⟩], .tuple ⟨[.agg ⟨[.int .i64 2, .int .i64 11, .int .i64 0, .bool false, .string ⟨#[]⟩]⟩, .int .i64 0]⟩)]
theorem pk117 : jan Tryz.prog 117 (memo m117) := jaz [] ok_A44 hmix fn117 jai (by kernel_rfl) (by kernel_rfl)
def A45 : Env := Env.nil
theorem ok_A45 : jax Tryz.prog A45 := jam
theorem fn53 : Fn1 Tryz.prog 53 Tryz.f53 := .m Tryz.func53 (by kernel_rfl)
def m53 : List (List Value × Value) := [([.int .i64 (-150)], .agg ⟨[.int .i64 (-150), .string ⟨#[]⟩]⟩), ([.int .i64 0], .agg ⟨[.int .i64 0, .string ⟨#[]⟩]⟩), ([.int .i64 1], .agg ⟨[.int .i64 1, .string ⟨#[]⟩]⟩), ([.int .i64 123], .agg ⟨[.int .i64 123, .string ⟨#[]⟩]⟩), ([.int .i64 1234], .agg ⟨[.int .i64 1234, .string ⟨#[]⟩]⟩), ([.int .i64 234], .agg ⟨[.int .i64 234, .string ⟨#[]⟩]⟩)]
theorem pk53 : jan Tryz.prog 53 (memo m53) := jaz [] ok_A45 hmix fn53 jai (by kernel_rfl) (by kernel_rfl)
def A46 : Env := Env.nil
theorem ok_A46 : jax Tryz.prog A46 := jam
theorem fn65 : Fn1 Tryz.prog 65 Tryz.f65 := .m Tryz.func65 (by kernel_rfl)
def m65 : List (List Value × Value) := [([.int .i64 3, .int .i64 1], .agg ⟨[.int .i64 1, .int .i64 3, .int .i64 1, .bool false, .string ⟨#[]⟩]⟩), ([.int .i64 4, .int .i64 2], .agg ⟨[.int .i64 1, .int .i64 4, .int .i64 2, .bool false, .string ⟨#[]⟩]⟩), ([.int .i64 3, .int .i64 0], .agg ⟨[.int .i64 1, .int .i64 3, .int .i64 0, .bool false, .string ⟨#[]⟩]⟩), ([.int .i64 4, .int .i64 0], .agg ⟨[.int .i64 1, .int .i64 4, .int .i64 0, .bool false, .string ⟨#[]⟩]⟩)]
theorem pk65 : jan Tryz.prog 65 (memo m65) := jaz [] ok_A46 hmix fn65 jai (by kernel_rfl) (by kernel_rfl)
def A47 : Env := Env.nil
theorem ok_A47 : jax Tryz.prog A47 := jam
theorem fn50 : Fn1 Tryz.prog 50 Tryz.f50 := .m Tryz.func50 (by kernel_rfl)
def m50 : List (List Value × Value) := [([.int .i64 15], .agg ⟨[.int .i64 2, .int .i64 15, .int .i64 0, .bool false, .string ⟨#[]⟩]⟩), ([.int .i64 11], .agg ⟨[.int .i64 2, .int .i64 11, .int .i64 0, .bool false, .string ⟨#[]⟩]⟩), ([.int .i64 31], .agg ⟨[.int .i64 2, .int .i64 31, .int .i64 0, .bool false, .string ⟨#[]⟩]⟩)]
theorem pk50 : jan Tryz.prog 50 (memo m50) := jaz [] ok_A47 hmix fn50 jai (by kernel_rfl) (by kernel_rfl)
def A48 : Env := Env.nil
theorem ok_A48 : jax Tryz.prog A48 := jam
theorem fn51 : Fn1 Tryz.prog 51 Tryz.f51 := .m Tryz.func51 (by kernel_rfl)
def m51 : List (List Value × Value) := [([.int .i64 1], .agg ⟨[.int .i64 4, .int .i64 1, .int .i64 0, .bool false, .string ⟨#[]⟩]⟩), ([.int .i64 3], .agg ⟨[.int .i64 4, .int .i64 3, .int .i64 0, .bool false, .string ⟨#[]⟩]⟩), ([.int .i64 10], .agg ⟨[.int .i64 4, .int .i64 10, .int .i64 0, .bool false, .string ⟨#[]⟩]⟩), ([.int .i64 64], .agg ⟨[.int .i64 4, .int .i64 64, .int .i64 0, .bool false, .string ⟨#[]⟩]⟩)]
theorem pk51 : jan Tryz.prog 51 (memo m51) := jaz [] ok_A48 hmix fn51 jai (by kernel_rfl) (by kernel_rfl)
def A49 : Env := Env.nil
theorem ok_A49 : jax Tryz.prog A49 := jam
theorem fn54 : Fn1 Tryz.prog 54 Tryz.f54 := .m Tryz.func54 (by kernel_rfl)
def m54 : List (List Value × Value) := [([.int .i64 3], .agg ⟨[.int .i64 3, .int .i64 3, .int .i64 0, .bool false, .string ⟨#[]⟩]⟩), ([.int .i64 5], .agg ⟨[.int .i64 3, .int .i64 5, .int .i64 0, .bool false, .string ⟨#[]⟩]⟩), ([.int .i64 6], .agg ⟨[.int .i64 3, .int .i64 6, .int .i64 0, .bool false, .string ⟨#[]⟩]⟩), ([.int .i64 256], .agg ⟨[.int .i64 3, .int .i64 256, .int .i64 0, .bool false, .string ⟨#[]⟩]⟩)]
theorem pk54 : jan Tryz.prog 54 (memo m54) := jaz [] ok_A49 hmix fn54 jai (by kernel_rfl) (by kernel_rfl)
def A50 : Env := Env.nil
theorem ok_A50 : jax Tryz.prog A50 := jam
theorem fn60 : Fn1 Tryz.prog 60 Tryz.f60 := .m Tryz.func60 (by kernel_rfl)
def m60 : List (List Value × Value) := [([.string ⟨#[90, 90, 57, 86, 46, 57, 57]⟩], .agg ⟨[.int .i64 5, .int .i64 0, .int .i64 0, .bool false, .string ⟨#[90, 90, 57, 86, 46, 57, 57]⟩]⟩), ([.string ⟨#[57, 57, 57]⟩], .agg ⟨[.int .i64 5, .int .i64 0, .int .i64 0, .bool false, .string ⟨#[57, 57, 57]⟩]⟩), ([.string ⟨#[65, 65, 57]⟩], .agg ⟨[.int .i64 5, .int .i64 0, .int .i64 0, .bool false, .string ⟨#[65, 65, 57]⟩]⟩)]
theorem pk60 : jan Tryz.prog 60 (memo m60) := jaz [] ok_A50 hmix fn60 jai (by kernel_rfl) (by kernel_rfl)
def A51 : Env := Env.nil
theorem ok_A51 : jax Tryz.prog A51 := jam
theorem fn52 : Fn1 Tryz.prog 52 Tryz.f52 := .m Tryz.func52 (by kernel_rfl)
def m52 : List (List Value × Value) := [([.string ⟨#[49, 50, 120]⟩], .agg ⟨[.int .i64 0, .string ⟨#[49, 50, 120]⟩]⟩), ([.string ⟨#[48]⟩], .agg ⟨[.int .i64 0, .string ⟨#[48]⟩]⟩), ([.string ⟨#[49, 48, 49]⟩], .agg ⟨[.int .i64 0, .string ⟨#[49, 48, 49]⟩]⟩), ([.string ⟨#[49, 48, 49, 32, 32]⟩], .agg ⟨[.int .i64 0, .string ⟨#[49, 48, 49, 32, 32]⟩]⟩), ([.string ⟨#[32, 49, 50, 46, 51, 48]⟩], .agg ⟨[.int .i64 0, .string ⟨#[32, 49, 50, 46, 51, 48]⟩]⟩), ([.string ⟨#[50, 51, 52]⟩], .agg ⟨[.int .i64 0, .string ⟨#[50, 51, 52]⟩]⟩), ([.string ⟨#[97, 49, 49]⟩], .agg ⟨[.int .i64 0, .string ⟨#[97, 49, 49]⟩]⟩), ([.string ⟨#[32, 32, 32]⟩], .agg ⟨[.int .i64 0, .string ⟨#[32, 32, 32]⟩]⟩), ([.string ⟨#[50]⟩], .agg ⟨[.int .i64 0, .string ⟨#[50]⟩]⟩)]
theorem pk52 : jan Tryz.prog 52 (memo m52) := jaz [] ok_A51 hmix fn52 jai (by kernel_rfl) (by kernel_rfl)
def A52 : Env := (((((((((((((Env.nil.add 59 (memo m59)).add 85 (sp1 Cx.s85)).add 20 (memo m20)).add 321 (memo m321)).add 322 (memo m322)).add 324 (memo m324)).addG 212 (inlQ Tryz.prog A25 noL Tryz.f212)).addG 263 (inlQ Tryz.prog A26 noL Tryz.f263)).addG 264 (inlQ Tryz.prog A27 noL Tryz.f264)).addG 151 (inlQ Tryz.prog A28 noL Tryz.f151)).add 38 (memo m38)).add 40 (memo m40)).add 42 (memo m42)).add 117 (memo m117)
theorem ok_A52 : jax Tryz.prog A52 := jaj (jaj (jaj (jaj (jao (jao (jao (jao (jaj (jaj (jaj (jaj (jaj (jaj jam pk59) (jcs Cx.ok85)) pk20) pk321) pk322) pk324) (jas ok_A25 hmix fn212 jai)) (jas ok_A26 hmix fn263 jai)) (jas ok_A27 hmix fn264 jai)) (jas ok_A28 hmix fn151 jai)) pk38) pk40) pk42) pk117
theorem fn44 : Fn1 Tryz.prog 44 Tryz.f44 := .m Tryz.func44 (by kernel_rfl)
def A53 : Env := Env.nil
theorem ok_A53 : jax Tryz.prog A53 := jam
theorem fn46 : Fn1 Tryz.prog 46 Tryz.f46 := .m Tryz.func46 (by kernel_rfl)
def L46 : List Value := [.int .i64 2, .int .i64 11, .int .i64 0, .bool false, .string ⟨#[]⟩, .int .i64 2, .int .i64 15, .int .i64 0, .bool false, .string ⟨#[]⟩]
def s46c : Ab.Spec := fun args bs => match args, bs with
 | [.slice (some ⟨_, 0, some 1⟩) 2 _, .slice (some ⟨_, 0, some 1⟩) 2 _], [some ⟨l1, _, _⟩, some ⟨l2, _, _⟩] => match eqVL (l1.take 10) L46 && eqVL (l2.take 10) L46 with
  | true => some (ja2 l1 && ja2 l2, .bool true)
  | false => none
 | _, _ => none
def vwT (c d : List Value) (t u : TypeId) : Lk := fun k => match k with | 0 => some ⟨c, t, false⟩ | 1 => some ⟨d, u, false⟩ | _ => none
theorem v46 (r1 r2 : List Value) (t u : TypeId) (c1 c2 : Nat) (R : Value → Prop) : ja4 Tryz.prog A53 noL Tryz.f46 [.slice (some ⟨0, 0, some 1⟩) 2 c1, .slice (some ⟨1, 0, some 1⟩) 2 c2] (vwT (L46 ++ r1) (L46 ++ r2) t u) 2 (fun v _ _ => R v) = R (B true) := by kernel_rfl
theorem pk46 : jan Tryz.prog 46 s46c := by
 refine pure_viewQ ok_A53 hmix fn46 jai fun args bs v hs => ?_
 unfold s46c at hs
 split at hs
 case h_2 => cases hs
 rename_i k1 c1 k2 c2 l1 t1 o1 l2 t2 o2
 split at hs
 case h_2 => cases hs
 rename_i hq
 simp only [Option.some.injEq, Prod.mk.injEq, jaf] at hs hq
 obtain ⟨⟨p1, p2⟩, rfl⟩ := hs
 obtain ⟨q1, q2⟩ := hq
 have e1 : l1 = L46 ++ l1.drop 10 := by rw [← jd7 q1, List.take_append_drop]
 have e2 : l2 = L46 ++ l2.drop 10 := by rw [← jd7 q2, List.take_append_drop]
 refine ⟨[.slice (some ⟨0, 0, some 1⟩) 2 c1, .slice (some ⟨1, 0, some 1⟩) 2 c2], 2, rfl, rfl, jag (by kernel_rfl), ?_⟩
 have e : jh1 [some ⟨l1, t1, o1⟩, some ⟨l2, t2, o2⟩] = vwT (L46 ++ l1.drop 10) (L46 ++ l2.drop 10) t1 t2 := by
  funext k
  rw [← e1, ← e2]
  match k with
  | 0 => simp only [jh1, jjo, p1, vwT]
  | 1 => simp only [jh1, jjo, p2, vwT]
  | k + 2 => rfl
 rw [jjn, e, v46]
def A54 : Env := (((((((((((((((((Env.nil.add 20 (memo m20)).add 22 (memo m22)).add 26 (memo m26)).add 32 (memo m32)).add 24 (memo m24)).add 48 (memo m48)).add 38 (memo m38)).add 40 (memo m40)).add 42 (memo m42)).add 53 (memo m53)).add 65 (memo m65)).add 50 (memo m50)).add 51 (memo m51)).add 54 (memo m54)).add 60 (memo m60)).add 52 (memo m52)).addG 44 (inlQ Tryz.prog A52 noL Tryz.f44)).add 46 (s46c)
theorem ok_A54 : jax Tryz.prog A54 := jaj (jao (jaj (jaj (jaj (jaj (jaj (jaj (jaj (jaj (jaj (jaj (jaj (jaj (jaj (jaj (jaj (jaj jam pk20) pk22) pk26) pk32) pk24) pk48) pk38) pk40) pk42) pk53) pk65) pk50) pk51) pk54) pk60) pk52) (jas ok_A52 hmix fn44 jai)) pk46
end Go.Cs
end
noncomputable section
set_option maxRecDepth 100000
namespace Go.Cs
open Go Go.Ab Go.Proofs Go.Px Go.Cx
def T31 : List Value := [.int .i64 1, .int .i64 3, .int .i64 1, .bool false, .string ⟨#[]⟩]
theorem fn18 : Fn1 Tryz.prog 18 Tryz.f18 := .m Tryz.func18 (by kernel_rfl)
theorem v18 (R : Value → Prop) : ja4 Tryz.prog A54 noL Tryz.f18 [] (fun _ => none) 0 (fun v _ _ => R v) = ( ∀ (cap : Nat) (tail : List Value), jay tail cap 1 5 = true → bif Nat.beq (T31 ++ tail).length (cap * 5) && Nat.ble 1 cap && Nat.ble cap 9223372036854775807 && true && true then ∀ (cap : Nat) (tail : List Value), jay tail cap (1 + 1) 5 = true → bif ja2 (L46 ++ tail) && ja2 L46 then R (B true) else False else False) := by kernel_rfl
def s18 : Bool × Value := (true, .bool true)
theorem okC18 : jan Tryz.prog 18 (sp0 s18) := by
 refine qure0 ok_A54 hmix fn18 jai fun _ => ?_
 rw [ja3, v18]
 intro cap tail h
 simp only [jay, jaf] at h
 obtain ⟨⟨⟨_, h2⟩, h3⟩, h4⟩ := h
 have e : (T31 ++ tail).length = tail.length + 1 * 5 := by rw [List.length_append]; show 5 + _ = _; omega
 refine c_t (by rw [e, h2, h3, h4]; rfl) fun cap2 tail2 h => ?_
 simp only [jay, jaf] at h
 obtain ⟨⟨⟨h1, _⟩, _⟩, _⟩ := h
 refine c_t ?_ rfl
 have : ja2 (L46 ++ tail2) = true := by rw [ja7] at h1 ⊢; intro v hv; rcases List.mem_append.1 hv with hv | hv; exact ja7.1 (show ja2 L46 = true from rfl) v hv; exact h1 v hv
 rw [this]
 rfl
theorem ok18 : @jan tabs Tryz.prog 18 (sp0 s18) := pureT okC18
end Go.Cs
end
noncomputable section
set_option maxHeartbeats 3200000
namespace Go.Cx
open Go Go.Ab Go.Proofs Go.Shelf Go.Px Go.Cv
open Go.Fx (Ty Vl check jbl most base pw bnd Fit fits tv vv tup V0 T0 jb1 jca jby jcw str0)
instance tabsT : Tabs := tabs
def chaW (t : Ty) : Int := if t.k = 1 ∨ t.k = 2 then wid t else if t.k = 5 then pW (bz t.s) else t.p
def sz63 (t : Ty) : Prop := t.s.size ≤ 9223372036854775807
instance (t : Ty) : Decidable (sz63 t) := by unfold sz63; infer_instance
def M0 : Env := (Env.nil.add 66 (sp1 s66)).add 67 (sp1 Px.s33)
theorem ok_M0 : jax Tryz.prog M0 := jaj (jaj jam ok66) Px.ok33
def s20f (t : Ty) : Bool × Value := (decide (sz63 t), I (chk4 t))
theorem v20f (t : Ty) (R : Value → Prop) : ja4 Tryz.prog M0 noL Tryz.f20 [Enc.enc t] (fun _ => none) 0 (fun v _ _ => R v) = ( bif t.k == 1 then R (I (check t)) else bif t.k == 2 then R (I (check t)) else bif t.k == 3 then (bif decide (t.p ≥ 0) || true then bif !(decide (t.p ≥ 0) && decide (t.p ≤ 255)) || true then bif !(decide (t.p ≥ 0) && decide (t.p ≤ 255)) || !(t.k == t.k && (t.p == t.p && (t.q == 0 && (t.v == t.v && (t.s.toList == (ByteArray.mk #[]).toList && true))))) then R (I 5) else R (I 0) else False else False) ∧ bif decide (t.p ≥ 0) || true then bif !(decide (t.p ≥ 0) && decide (t.p ≤ 255)) || true then bif !(decide (t.p ≥ 0) && decide (t.p ≤ 255)) || !(t.k == t.k && (t.p == t.p && (t.q == 0 && (t.v == t.v && (t.s.toList == (ByteArray.mk #[]).toList && true))))) then R (I 5) else R (I 0) else False else False else bif t.k == 4 then bif decide (t.p ≥ 0) || true then bif !(decide (t.p ≥ 0) && decide (t.p ≤ 64)) || true then bif !(decide (t.p ≥ 0) && decide (t.p ≤ 64)) || !(t.k == t.k && (t.p == t.p && (t.q == 0 && (t.v == false && (t.s.toList == (ByteArray.mk #[]).toList && true))))) then R (I 5) else R (I 0) else False else False else bif t.k == 5 then bif decide (t.s.size ≤ 9223372036854775807) then bif !pE (bz t.s) == 0 || true then bif !pE (bz t.s) == 0 || !(t.k == t.k && (t.p == 0 && (t.q == 0 && (t.v == false && (t.s.toList == t.s.toList && true))))) then R (I 5) else R (I 0) else False else False else bif t.k == 6 then bif !true || !(t.k == t.k && (t.p == 0 && (t.q == 0 && (t.v == false && (t.s.toList == (ByteArray.mk #[]).toList && true))))) then R (I 5) else R (I 0) else R (I 5)) := by kernel_rfl
theorem ok20f : jan Tryz.prog 20 (sp1 s20f) := by
 refine jb7 ok_M0 hmix fn20 jai (jag (by kernel_rfl)) fun t hc => ?_
 rw [ja3, v20f]
 have hc : (sz63 t) := jab hc
 try dsimp only [s20f]
 have hs : t.s.size ≤ 9223372036854775807 := hc
 have nvk : ∀ k : Int, t.k = k → k ≠ 1 → k ≠ 2 → ¬ jbl t := fun k hk h1 h2 hv => by have := hv.1; omega
 have ck : t.k = 1 ∨ t.k = 2 → check t = chk4 t := fun hk => by
  unfold Fx.check chk4
  by_cases hv : jbl t
  ·rw [if_pos hv, if_pos hv]
  ·rw [if_neg hv, if_neg hv, if_neg (by omega), if_neg (by omega), if_neg (by omega), if_neg (by omega)]
 refine cond_intro (fun hk => ?_) (fun h1 => ?_)
 ·rw [ck (.inl (by simpa using hk))]
 refine cond_intro (fun hk => ?_) (fun h2 => ?_)
 ·rw [ck (.inr (by simpa using hk))]
 have h1 : t.k ≠ 1 := by simpa using h1
 have h2 : t.k ≠ 2 := by simpa using h2
 have nv : ¬ jbl t := nvk _ rfl h1 h2
 refine cond_intro (fun h3 => ?_) (fun h3 => ?_)
 ·have h3 : t.k = 3 := by simpa using h3
  have key : ∀ X : Prop, (bif !(decide (t.p ≥ 0) && decide (t.p ≤ 255)) || !(t.k == t.k && (t.p == t.p && (t.q == 0 && (t.v == t.v && (t.s.toList == (ByteArray.mk #[]).toList && true))))) then Value.int IntKind.i64 5 = I (chk4 t) else Value.int IntKind.i64 0 = I (chk4 t)) := fun _ => by
   rw [jc8]
   unfold chk4
   rw [if_neg nv]
   refine cond_intro (fun h => ?_) (fun h => ?_)
   ·rw [if_neg, if_neg (by omega), if_neg (by omega), if_neg (by omega)]
    rintro ⟨-, q1, q2, q3, q4⟩
    simp [q1, q2, q3, q4] at h
   ·rw [if_pos]
    simp at h
    exact ⟨h3, h.2.1, h.2.2, h.1.1, h.1.2⟩
  exact ⟨c_t (Bool.or_true _) (c_t (Bool.or_true _) (key True)), c_t (Bool.or_true _) (c_t (Bool.or_true _) (key True))⟩
 have h3 : t.k ≠ 3 := by simpa using h3
 refine cond_intro (fun h4 => ?_) (fun h4 => ?_)
 ·have h4 : t.k = 4 := by simpa using h4
  refine c_t (Bool.or_true _) (c_t (Bool.or_true _) ?_)
  rw [jc8]
  unfold chk4
  rw [if_neg nv, if_neg (by omega)]
  refine cond_intro (fun h => ?_) (fun h => ?_)
  ·rw [if_neg, if_neg (by omega), if_neg (by omega)]
   rintro ⟨-, q1, q2, q3, q4, q5⟩
   simp [q1, q2, q3, q4, q5] at h
  ·rw [if_pos]
   simp at h
   exact ⟨h4, h.2.1, h.2.2.2, h.2.2.1, h.1.1, h.1.2⟩
 have h4 : t.k ≠ 4 := by simpa using h4
 refine cond_intro (fun h5 => ?_) (fun h5 => ?_)
 ·have h5 : t.k = 5 := by simpa using h5
  refine c_t (jaa hs) (c_t (Bool.or_true _) ?_)
  unfold chk4
  rw [if_neg nv, if_neg (by omega), if_neg (by omega)]
  refine cond_intro (fun h => ?_) (fun h => ?_)
  ·rw [if_neg, if_neg (by omega)]
   rintro ⟨-, q1, q2, q3, q4⟩
   simp [q1, q2, q3, q4] at h
  ·rw [if_pos]
   simp at h
   exact ⟨h5, h.2.1, h.2.2.1, h.2.2.2, h.1⟩
 have h5 : t.k ≠ 5 := by simpa using h5
 refine cond_intro (fun h6 => ?_) (fun h6 => ?_)
 ·have h6 : t.k = 6 := by simpa using h6
  rw [jc8]
  unfold chk4
  rw [if_neg nv, if_neg (by omega), if_neg (by omega), if_neg (by omega)]
  refine cond_intro (fun h => ?_) (fun h => ?_)
  ·rw [if_neg]
   rintro ⟨-, q1, q2, q3, q4⟩
   simp [q1, q2, q3, q4] at h
  ·rw [if_pos]
   simp at h
   exact ⟨h6, h.2.1, h.2.2.2, h.1, h.2.2.1⟩
 have h6 : t.k ≠ 6 := by simpa using h6
 unfold chk4
 rw [if_neg nv, if_neg (by omega), if_neg (by omega), if_neg (by omega), if_neg (by omega)]
def N0 : Env := Env.nil.add 143 (sp1 Px.s30)
theorem ok_N0 : jax Tryz.prog N0 := jaj jam Px.ok30
def s114 (t : Ty) : Bool × Value := (decide (sz63 t ∧ 0 ≤ t.p ∧ t.p ≤ 1000000), I (chaW t))
theorem fn114 : Fn1 Tryz.prog 114 Tryz.f114 := .m Tryz.func114 (by kernel_rfl)
theorem v114 (t : Ty) (R : Value → Prop) : ja4 Tryz.prog N0 noL Tryz.f114 [Enc.enc t] (fun _ => none) 0 (fun v _ _ => R v) = ( bif t.k == 1 then R (I (IntKind.wrap .i64 (t.p + 3))) else bif t.k == 2 then R (I (IntKind.wrap .i64 (IntKind.wrap .i64 (1 + IntKind.wrap .i64 (Int.tdiv (IntKind.wrap .i64 (IntKind.wrap .i64 (100 * t.p) + 331)) 332)) + 3))) else bif t.k == 5 then bif decide (t.s.size ≤ 9223372036854775807) then R (I (pW (bz t.s))) else False else R (I t.p)) := by kernel_rfl
theorem ok114 : jan Tryz.prog 114 (sp1 s114) := by
 refine jb7 ok_N0 hmix fn114 jai (jag (by kernel_rfl)) fun t hc => ?_
 rw [ja3, v114]
 have hc : (sz63 t ∧ 0 ≤ t.p ∧ t.p ≤ 1000000) := jab hc
 try dsimp only [s114]
 obtain ⟨hs, h1, h2⟩ := hc
 unfold chaW wid
 refine cond_intro (fun hk => ?_) (fun hk => ?_)
 ·have hk : t.k = 1 := by simpa using hk
  rw [if_pos (.inl hk), if_neg (by omega), w64 (by omega)]
 have hk : t.k ≠ 1 := by simpa using hk
 refine cond_intro (fun hk2 => ?_) (fun hk2 => ?_)
 ·have hk2 : t.k = 2 := by simpa using hk2
  rw [if_pos (.inr hk2), if_pos hk2, w64 (n := 100 * t.p) (by omega), w64 (n := 100 * t.p + 331) (by omega), Int.tdiv_eq_ediv_of_nonneg (by omega), w64 (n := (100 * t.p + 331) / 332) (by omega), w64 (n := 1 + (100 * t.p + 331) / 332) (by omega), w64 (by omega)]
 have hk2 : t.k ≠ 2 := by simpa using hk2
 rw [if_neg (by omega)]
 refine cond_intro (fun hk5 => ?_) (fun hk5 => ?_)
 ·rw [if_pos (by simpa using hk5)]
  exact c_t (jaa hs) rfl
 ·rw [if_neg (by simpa using hk5)]
instance tabsT1 : Tabs := tabs
def Q0 : Env := (((Env.nil.add 20 (sp1 s20f)).add 70 (sp2 s70)).add 71 (sp1 s71)).add 72 (sp2 Px.s24)
theorem ok_Q0 : jax Tryz.prog Q0 := jaj (jaj (jaj (jaj jam ok20f) ok70) ok71) Px.ok24
def s22f (v : Vl) (t : Ty) : Bool × Value := (decide (t.s.size ≤ 9223372036854775807 ∧ v.s.size ≤ 9223372036854775807), I (fit4 v t))
theorem v22f (v : Vl) (t : Ty) (R : Value → Prop) : ja4 Tryz.prog Q0 noL Tryz.f22 [Enc.enc v, Enc.enc t] (fun _ => none) 0 (fun v _ _ => R v) = ( bif decide (sz63 t) then bif chk4 t != 0 then R (I (chk4 t)) else bif t.k == 1 then R (I (fits v t)) else bif t.k == 2 then R (I (fits v t)) else bif t.k == 3 then bif bif v.n == 0 then (v.s.size : Int) == t.p || (t.v || true) else true then bif !(v.n == 0 && ((v.s.size : Int) == t.p || t.v && decide ((v.s.size : Int) < t.p))) then R (I 6) else R (I 0) else False else bif t.k == 4 then bif bif v.n == 0 then bif (v.s.size : Int) == t.p then decide (v.s.size ≤ 9223372036854775807) && true else true else true then bif !(v.n == 0 && ((v.s.size : Int) == t.p && jfh (bz v.s))) then R (I 6) else R (I 0) else False else bif t.k == 5 then bif bif v.n == 0 then decide (t.s.size ≤ 9223372036854775807 ∧ v.s.size ≤ 9223372036854775807) && true else true then bif !(v.n == 0 && hoZ (bz t.s) (bz v.s)) then R (I 6) else R (I 0) else False else bif t.k == 6 then bif bif v.s.toList == (ByteArray.mk #[]).toList then decide (v.n ≥ 0) || true else true then bif !(v.s.toList == (ByteArray.mk #[]).toList && (decide (v.n ≥ 0) && decide (v.n ≤ 524288))) then R (I 6) else R (I 0) else False else bif !v.n == 0 then R (I 6) else R (I 0) else False) := by kernel_rfl
theorem ok22f : jan Tryz.prog 22 (sp2 s22f) := by
 refine jcr ok_Q0 hmix fn22 jai (jag (by kernel_rfl)) fun v t hc => ?_
 rw [ja3, v22f]
 have hc : (t.s.size ≤ 9223372036854775807 ∧ v.s.size ≤ 9223372036854775807) := jab hc
 try dsimp only [s22f]
 rw [jc8]
 unfold fit4 is4
 refine c_t (jaa hc.1) ?_
 have hk : chk4 t = 0 → (t.k = 1 ∨ t.k = 2 ∨ t.k = 3 ∨ t.k = 4 ∨ t.k = 5 ∨ t.k = 6) ∧ ((t.k = 1 ∨ t.k = 2) → jbl t) := fun h => by
  unfold chk4 at h
  have hv : jbl t → t.k = 1 ∨ t.k = 2 := fun h => h.1
  grind
 refine cond_intro (fun h => ?_) (fun h => ?_)
 ·rw [if_pos (by simpa using h)]
 have h0 : chk4 t = 0 := by simpa using h
 rw [if_neg (fun z => z h0)]
 obtain ⟨hk, hval⟩ := hk h0
 have hf : jbl t → Fx.fits v t = if Fit v t then 0 else 6 := fun h => if_pos h
 simp only [Bool.or_true, Bool.and_true, Bool.cond_self, jaa hc, jaa hc.2]
 repeat' refine cond_intro (fun h => ?_) (fun h => ?_)
 all_goals first | (exfalso; simp at h; done) | (congr 1; grind) | (exfalso; grind)
instance tabsT2 : Tabs := tabs
theorem ex_ck3 (t : Ty) : ∃ x : Int, x = chk4 t := ⟨_, rfl⟩
def ckT (t : Ty) : Int := Classical.choose (ex_ck3 t)
theorem ckT_eq (t : Ty) : ckT t = chk4 t := Classical.choose_spec (ex_ck3 t)
theorem ex_ft3 (v : Vl) (t : Ty) : ∃ x : Int, x = fit4 v t := ⟨_, rfl⟩
def ftT (v : Vl) (t : Ty) : Int := Classical.choose (ex_ft3 v t)
theorem jio (v : Vl) (t : Ty) : ftT v t = fit4 v t := Classical.choose_spec (ex_ft3 v t)
def z20 (t : Ty) : Bool × Value := (decide (t.s.size ≤ 9223372036854775807), I (ckT t))
def z22 (v : Vl) (t : Ty) : Bool × Value := (decide (t.s.size ≤ 9223372036854775807 ∧ v.s.size ≤ 9223372036854775807), I (ftT v t))
def z19 (t : Ty) : Bool × Value := (true, B (decide ((t.s.size : Int) ≤ 200)))
def Q2 : Env := (((((Env.nil.add 18 (sp0 Cs.s18)).add 19 (sp1 z19)).add 20 (sp1 z20)).add 21 (sp1 z20)).add 22 (sp2 z22)).add 23 (sp2 z22)
theorem fn19s : Fn1 Tryz.prog 19 Tryz.f19 := .m Tryz.func19 (by kernel_rfl)
theorem v19s (t : Ty) (R : Value → Prop) : ja4 Tryz.prog Env.nil noL Tryz.f19 [Enc.enc t] (fun _ => none) 0 (fun v _ _ => R v) = R (B (decide ((t.s.size : Int) ≤ 200))) := by kernel_rfl
theorem ok19s : jan Tryz.prog 19 (sp1 z19) := by
 refine jb7 jam hmix fn19s jai (jag (by kernel_rfl)) fun t hc => ?_
 rw [ja3, v19s]; rfl
theorem z20_eq : z20 = s20f := by funext t; simp only [z20, s20f, ckT_eq]; rfl
theorem z20_eq2 : z20 = s21 := by funext t; simp only [z20, s21, ckT_eq]
theorem z22_eq : z22 = s22f := by funext v t; simp only [z22, s22f, jio]
theorem z22_eq2 : z22 = s23 := by funext v t; simp only [z22, s23, jio]
theorem ok_Q2 : jax Tryz.prog Q2 := jaj (jaj (jaj (jaj (jaj (jaj jam Cs.ok18) ok19s) (z20_eq ▸ ok20f)) (z20_eq2 ▸ ok21)) (z22_eq ▸ ok22f)) (z22_eq2 ▸ ok23)
def s3 (t : Ty) (v : Vl) : Bool × Value := (decide (t.s.size ≤ 9223372036854775807 ∧ v.s.size ≤ 9223372036854775807), B true)
theorem fn3 : Fn1 Tryz.prog 3 Tryz.f3 := .m Tryz.func3 (by kernel_rfl)
theorem v3 (t : Ty) (v : Vl) (R : Value → Prop) : ja4 Tryz.prog Q2 noL Tryz.f3 [Enc.enc t, Enc.enc v] (fun _ => none) 0 (fun v _ _ => R v) = ( bif !decide ((t.s.size : Int) ≤ 200) then R (B true) else bif decide (t.s.size ≤ 9223372036854775807) && (decide (t.s.size ≤ 9223372036854775807) && bif ckT t == ckT t then decide (t.s.size ≤ 9223372036854775807 ∧ v.s.size ≤ 9223372036854775807) && (decide (t.s.size ≤ 9223372036854775807 ∧ v.s.size ≤ 9223372036854775807) && true) else true) then R (B (ckT t == ckT t && ftT v t == ftT v t)) else False) := by kernel_rfl
theorem ok3 : jan Tryz.prog 3 (sp2 s3) := by
 refine jcr ok_Q2 hmix fn3 jai (jag (by kernel_rfl)) fun t v hc => ?_
 rw [ja3, v3]
 have hc : (t.s.size ≤ 9223372036854775807 ∧ v.s.size ≤ 9223372036854775807) := jab hc
 try dsimp only [s3]
 simp only [jaa hc.1, jaa hc, beq_self_eq_true, cond_true, Bool.and_true, Bool.true_and, Bool.and_self]
 exact cond_intro (fun _ => trivial) (fun _ => trivial)
end Go.Cx
end
noncomputable section
namespace Go.Cx
open Go Go.Ab Go.Px Go.Cv
theorem u8n {n : Nat} (h : n < 10) : ((UInt8.ofNat (48 + n)).toNat : Int) = 48 + n := by
 rw [UInt8.toNat_ofNat']
 omega
end Go.Cx
end
noncomputable section
namespace Go.Cx
open Go Go.Ab Go.Px Go.Cv
open Go.Fx (Ty Vl check jbl most base pw bnd Fit fits)
theorem dec_digs : ∀ (k n : Nat), n < 10 ^ (k + 1) → jgg (zl (Lib.decDigits n)) = true ∧ zl (Lib.decDigits n) ≠ []
 | k, n, h => by
  have one : ∀ j, j < 10 → dig ((UInt8.ofNat (48 + j)).toNat : Int) = true := fun j hj => by
   rw [u8n hj]; unfold dig; exact jaa (by omega)
  rw [Lib.decDigits]
  by_cases h10 : n < 10
  ·rw [dif_pos h10]
   exact ⟨by simp only [zl, List.map_cons, List.map_nil, jgg, List.all_cons, List.all_nil, one n h10, Bool.and_self], by simp [zl]⟩
  ·rw [dif_neg h10]
   cases k with
   | zero => omega
   | succ k =>
    have ih := dec_digs k (n / 10) (by rw [Nat.pow_succ] at h; omega)
    refine ⟨?_, by simp [zl]⟩
    rw [zl, List.map_append]
    rw [digs_app]
    have e : jgg (List.map (fun b : UInt8 => (b.toNat : Int)) (Lib.decDigits (n / 10))) = true := ih.1
    rw [e]
    simp only [List.map_cons, List.map_nil, jgg, List.all_cons, List.all_nil, one (n % 10) (by omega), Bool.and_self]
theorem ito_digs {m : Int} (h : 0 ≤ m ∧ m ≤ 2147483648) : jgg (itoZ m) = true ∧ itoZ m ≠ [] := by
 obtain ⟨k, rfl⟩ : ∃ k : Nat, m = (k : Int) := ⟨m.toNat, by omega⟩
 rw [itoZ, Lib.itoa_nonneg]
 exact dec_digs 9 k (by omega)
end Go.Cx
end
noncomputable section
set_option maxHeartbeats 3200000
namespace Go.Cx
open Go Go.Ab Go.Proofs Go.Shelf Go.Px Go.Cv
open Go.Fx (Ty Vl check jbl most base pw bnd Fit fits tv vv tup V0 T0 jb1 jca jby jcw str0)
def P0 : Env := Env.nil.addG 29 (jg9 (sp1 s29))
theorem ok_P0 : jax Tryz.prog P0 := jao jam (jd6 ok29)
def isR (s : ByteArray) (c : Int) (l : List Int) : Prop := bz s = List.replicate (s.size - l.length) c ++ l ∧ l.length ≤ s.size
instance (s : ByteArray) (c : Int) (l : List Int) : Decidable (isR s c l) := by unfold isR; infer_instance
def V167_0 : Int × ByteArray × ByteArray → List Value := fun (n, r, s) => [I n, S r, S s]
def B167_0 : Int × ByteArray × ByteArray → List (Option Blk) := fun _ => []
def S167_0 : LSpec (Int × ByteArray × ByteArray) where
 live := [0, 2, 3]
 mid := []
 n := 40
 dec vs bs := match vs, bs with | [.int .i64 n, .string r, .string s], [] => some (n, r, s) | _, _ => none
 pre := fun (n, r, s) => decide (isR s 32 [] ∧ (s.size : Int) ≤ max n 0 ∧ n ≤ 1000)
 fin := fun (n, r, s) Z => Z (.exit 0) [I n, S r, S (szO (List.replicate n.toNat 32))] []
theorem r167_0 (n : Int) (r : ByteArray) (s : ByteArray) (jk : Tmps) (R : Exit → List Value → List (Option Blk) → Prop) : (jbr Tryz.prog P0 noL Tryz.f167.ntmps (jbb Tryz.f167 0) (tl S167_0.live (V167_0 (n, r, s)) jk) (ml S167_0.mid (B167_0 (n, r, s))) S167_0.n fun e t' m' _ => R e (List.map t' S167_0.live) (List.map m' S167_0.mid)) = ( bif decide ((s.size : Int) < n) then bif jb6 (s.size + (ByteArray.mk #[32]).size) then R Exit.normal [I n, S r, S (s ++ ByteArray.mk #[32])] [] else False else R (Exit.exit 0) [I n, S r, S s] []) := by kernel_rfl
theorem l167_0 : LOKf Tryz.prog (oneL 0 S167_0.h) Tryz.f167 := by
 refine jbh (h := S167_0.h) (by kernel_rfl) (jbk ok_P0 hmix (by kernel_rfl) (ja6 _) S167_0 V167_0 B167_0 (fun (n, r, s) => (n - s.size).toNat) ?_ ?_ ?_)
 ·intro vs bs s h
  simp only [S167_0] at h
  split at h
  all_goals first | (cases h; exact ⟨rfl, rfl⟩) | cases h | (split at h <;> first | (rename_i hq; cases h; have hq := jah hq; subst hq; exact ⟨rfl, rfl⟩) | cases h)
 ·exact fun _ _ _ h => h
 ·intro ⟨n, r, s⟩ jk Z hp hf
  rw [r167_0]
  simp only [S167_0] at hp hf
  have hp := jab hp
  obtain ⟨⟨h1, -⟩, h2, h3⟩ := hp
  have h1 : bz s = List.replicate s.size 32 := by simpa using h1
  have w1 : (ByteArray.mk #[32]).size = 1 := rfl
  refine cond_intro (fun h => ?_) (fun h => ?_)
  ·have h := jab h
   have z : (s ++ ByteArray.mk #[32]).size = s.size + 1 := by rw [ByteArray.size_append, w1]
   refine c_t (fitN (by rw [w1]; omega)) ?_
   exact ⟨(n, r, s ++ ByteArray.mk #[32]), rfl, rfl, by simp only [S167_0, jae]; exact ⟨⟨by rw [jb3, h1, z, show bz (ByteArray.mk #[32]) = [32] from rfl, List.length_nil, Nat.sub_zero, List.append_nil, List.replicate_succ'], Nat.zero_le _⟩, by omega, h3⟩, by simp only [z]; omega, hf⟩
  ·have h := jac h
   have e : s = szO (List.replicate n.toNat 32) := jh2 (by rw [h1]; congr 1; omega)
   rw [← e] at hf
   exact hf
def V166_0 : Int × Int × ByteArray × ByteArray → List Value := fun (n, q, r, s) => [I n, I q, S r, S s]
def B166_0 : Int × Int × ByteArray × ByteArray → List (Option Blk) := fun _ => []
def S166_0 : LSpec (Int × Int × ByteArray × ByteArray) where
 live := [0, 1, 4, 5]
 mid := []
 n := 60
 dec vs bs := match vs, bs with | [.int .i64 n, .int .i64 q, .string r, .string s], [] => some (n, q, r, s) | _, _ => none
 pre := fun (n, q, r, s) => decide (isR s 48 (itoZ (max n (-n))) ∧ s.size ≤ 100 ∧ 0 ≤ q ∧ q ≤ 9 ∧ ((itoZ (max n (-n))).length < s.size → (s.size : Int) ≤ q + 1))
 fin := fun (n, q, r, s) Z => Z (.exit 0) [I n, I q, S r, S (szO (fixU (max n (-n)) q))] []
theorem r166_0 (n : Int) (q : Int) (r : ByteArray) (s : ByteArray) (jk : Tmps) (R : Exit → List Value → List (Option Blk) → Prop) : (jbr Tryz.prog P0 noL Tryz.f166.ntmps (jbb Tryz.f166 0) (tl S166_0.live (V166_0 (n, q, r, s)) jk) (ml S166_0.mid (B166_0 (n, q, r, s))) S166_0.n fun e t' m' _ => R e (List.map t' S166_0.live) (List.map m' S166_0.mid)) = ( bif decide ((s.size : Int) ≤ q) then bif jb6 ((ByteArray.mk #[48]).size + s.size) then R Exit.normal [I n, I q, S r, S (ByteArray.mk #[48] ++ s)] [] else False else R (Exit.exit 0) [I n, I q, S r, S s] []) := by kernel_rfl
theorem l166_0 : LOKf Tryz.prog (oneL 0 S166_0.h) Tryz.f166 := by
 refine jbh (h := S166_0.h) (by kernel_rfl) (jbk ok_P0 hmix (by kernel_rfl) (ja6 _) S166_0 V166_0 B166_0 (fun (n, q, r, s) => (q + 1 - s.size).toNat) ?_ ?_ ?_)
 ·intro vs bs s h
  simp only [S166_0] at h
  split at h
  all_goals first | (cases h; exact ⟨rfl, rfl⟩) | cases h | (split at h <;> first | (rename_i hq; cases h; have hq := jah hq; subst hq; exact ⟨rfl, rfl⟩) | cases h)
 ·exact fun _ _ _ h => h
 ·intro ⟨n, q, r, s⟩ jk Z hp hf
  rw [r166_0]
  simp only [S166_0] at hp hf
  have hp := jab hp
  obtain ⟨⟨h1, h0⟩, h2, h3, h4, h5⟩ := hp
  have w1 : (ByteArray.mk #[48]).size = 1 := rfl
  refine cond_intro (fun h => ?_) (fun h => ?_)
  ·have h := jab h
   have z : (ByteArray.mk #[48] ++ s).size = s.size + 1 := by rw [ByteArray.size_append, w1]; omega
   refine c_t (fitN (by rw [w1]; omega)) ?_
   exact ⟨(n, q, r, ByteArray.mk #[48] ++ s), rfl, rfl, by simp only [S166_0, jae]; exact ⟨⟨by rw [jb3, h1, z, show bz (ByteArray.mk #[48]) = [48] from rfl, show s.size + 1 - (itoZ (max n (-n))).length = s.size - (itoZ (max n (-n))).length + 1 by omega, List.replicate_succ]; rfl, by omega⟩, by omega, h3, h4, fun _ => by omega⟩, by simp only [z]; omega, hf⟩
  ·have h := jac h
   have e : s = szO (fixU (max n (-n)) q) := jh2 (by unfold fixU Cv.rep48; rw [h1]; congr 2; omega)
   rw [← e] at hf
   exact hf
def s167 (n : Int) : Bool × Value := (decide (n ≤ 1000), S (szO (List.replicate n.toNat 32)))
theorem fn167 : Fn1 Tryz.prog 167 Tryz.f167 := .m Tryz.func167 (by kernel_rfl)
theorem v167 (n : Int) (R : Value → Prop) : ja4 Tryz.prog P0 (oneL 0 S167_0.h) Tryz.f167 [Enc.enc n] (fun _ => none) 0 (fun v _ _ => R v) = ( bif LSpec.pre S167_0 (n, ByteArray.mk #[], ByteArray.mk #[]) then ∀ (x : Tmps), R (S (szO (List.replicate n.toNat 32))) else False) := by kernel_rfl
theorem ok167 : jan Tryz.prog 167 (sp1 s167) := by
 refine jb7 ok_P0 hmix fn167 l167_0 (jag (by kernel_rfl)) fun n hc => ?_
 rw [ja3, v167]
 have hc : (n ≤ 1000) := jab hc
 try dsimp only [s167]
 refine c_t (jaa ⟨⟨rfl, Nat.zero_le _⟩, ?_, hc⟩) fun _ => rfl
 show ((0 : Nat) : Int) ≤ max n 0
 omega
theorem fix_p {u : ByteArray} {m q : Int} (hu : bz u = fixU m q) (hq : 0 < q ∧ q ≤ 9) (hl : fixU m q = fixU m q → q < u.size) (hz : u.size ≤ 100) {sg : ByteArray} :
  bz (sg ++ (u.extract 0 ((u.size : Int) - q).toNat ++ ByteArray.mk #[46] ++ u.extract ((u.size : Int) - q).toNat u.size)) = bz sg ++ fixD m q ∧ (u.extract 0 ((u.size : Int) - q).toNat).size ≤ 100 ∧ (u.extract ((u.size : Int) - q).toNat u.size).size ≤ 100 := by
 have e3 : bz (u.extract 0 ((u.size : Int) - q).toNat) = (fixU m q).take ((fixU m q).length - q.toNat) := by
  rw [bz_take, hu, ← hu, jaq]; congr 1; omega
 have e4 : bz (u.extract ((u.size : Int) - q).toNat u.size) = (fixU m q).drop ((fixU m q).length - q.toNat) := by
  rw [bz_dropE, hu, ← hu, jaq]; congr 1; omega
 refine ⟨?_, by rw [jhe]; omega, by rw [jhe]; omega⟩
 rw [jb3, jb3, jb3, e3, e4, fixD, if_pos hq.1, show bz (ByteArray.mk #[46]) = [46] from rfl, List.append_assoc]
 rfl
theorem fixU_len {m q : Int} (hm : 0 ≤ m ∧ m ≤ 2147483648) (hq : 0 ≤ q ∧ q ≤ 9) : q < (fixU m q).length ∧ (fixU m q).length ≤ 20 ∧ IsB (fixU m q) := by
 have h := jg6 hm
 refine ⟨?_, ?_, rep48_isB _ |>.append (jg7 _)⟩
 ·unfold fixU Cv.rep48; rw [List.length_append, List.length_replicate]; omega
 ·unfold fixU Cv.rep48; rw [List.length_append, List.length_replicate]; omega
theorem fixU_0 {m q : Int} (hq : ¬ q > 0) (hm : 0 ≤ m ∧ m ≤ 2147483648) : fixU m q = fixD m q := by
 have h : 0 < (itoZ m).length := List.length_pos_iff.2 (ito_digs hm).2
 unfold fixU fixD Cv.rep48
 rw [if_neg hq, show (q + 1 - (itoZ m).length).toNat = 0 by omega]
 rfl
theorem max_n {n : Int} (h : n < 0) : max n (-n) = -n := by omega
theorem max_p {n : Int} (h : ¬ n < 0) : max n (-n) = n := by omega
def s166 (n : Int) (q : Int) : Bool × Value := (decide (0 ≤ q ∧ q ≤ 9 ∧ -2147483648 ≤ n ∧ n ≤ 2147483648), S (szO (fixS n q)))
theorem fn166 : Fn1 Tryz.prog 166 Tryz.f166 := .m Tryz.func166 (by kernel_rfl)
theorem v166 (n : Int) (q : Int) (R : Value → Prop) : ja4 Tryz.prog P0 (oneL 0 S166_0.h) Tryz.f166 [Enc.enc n, Enc.enc q] (fun _ => none) 0 (fun v _ _ => R v) = ( bif decide (-9223372036854775808 ≤ imax n (IntKind.wrap .i64 (0 - n)) ∧ imax n (IntKind.wrap .i64 (0 - n)) ≤ 9223372036854775807) then ∀ (s' : ByteArray), szO (itoZ (imax n (IntKind.wrap .i64 (0 - n)))) = s' → bif LSpec.pre S166_0 (n, q, ByteArray.mk #[], s') then ∀ (x : Tmps), bif decide (q > 0) then bif decide ((0 : Int) ≤ 0 ∧ 0 ≤ IntKind.wrap .i64 ((↑((szO (fixU (max n (-n)) q)).size) : Int) - q) ∧ IntKind.wrap .i64 ((↑((szO (fixU (max n (-n)) q)).size) : Int) - q) ≤ (↑((szO (fixU (max n (-n)) q)).size) : Int)) then bif jb6 ((ByteArray.extract (szO (fixU (max n (-n)) q)) 0 (IntKind.wrap .i64 ((↑((szO (fixU (max n (-n)) q)).size) : Int) - q)).toNat).size + (ByteArray.mk #[46]).size) then bif decide (0 ≤ IntKind.wrap .i64 ((↑((szO (fixU (max n (-n)) q)).size) : Int) - q) ∧ IntKind.wrap .i64 ((↑((szO (fixU (max n (-n)) q)).size) : Int) - q) ≤ (↑((szO (fixU (max n (-n)) q)).size) : Int) ∧ (↑((szO (fixU (max n (-n)) q)).size) : Int) ≤ (↑((szO (fixU (max n (-n)) q)).size) : Int)) then bif jb6 ((ByteArray.extract (szO (fixU (max n (-n)) q)) 0 (IntKind.wrap .i64 ((↑((szO (fixU (max n (-n)) q)).size) : Int) - q)).toNat ++ ByteArray.mk #[46]).size + (ByteArray.extract (szO (fixU (max n (-n)) q)) (IntKind.wrap .i64 ((↑((szO (fixU (max n (-n)) q)).size) : Int) - q)).toNat (szO (fixU (max n (-n)) q)).size).size) then bif decide (n < 0) then bif jb6 ((ByteArray.mk #[45]).size + (ByteArray.extract (szO (fixU (max n (-n)) q)) 0 (IntKind.wrap .i64 ((↑((szO (fixU (max n (-n)) q)).size) : Int) - q)).toNat ++ ByteArray.mk #[46] ++ ByteArray.extract (szO (fixU (max n (-n)) q)) (IntKind.wrap .i64 ((↑((szO (fixU (max n (-n)) q)).size) : Int) - q)).toNat (szO (fixU (max n (-n)) q)).size).size) then R (S (ByteArray.mk #[45] ++ (ByteArray.extract (szO (fixU (max n (-n)) q)) 0 (IntKind.wrap .i64 ((↑((szO (fixU (max n (-n)) q)).size) : Int) - q)).toNat ++ ByteArray.mk #[46] ++ ByteArray.extract (szO (fixU (max n (-n)) q)) (IntKind.wrap .i64 ((↑((szO (fixU (max n (-n)) q)).size) : Int) - q)).toNat (szO (fixU (max n (-n)) q)).size))) else False else R (S (ByteArray.extract (szO (fixU (max n (-n)) q)) 0 (IntKind.wrap .i64 ((↑((szO (fixU (max n (-n)) q)).size) : Int) - q)).toNat ++ ByteArray.mk #[46] ++ ByteArray.extract (szO (fixU (max n (-n)) q)) (IntKind.wrap .i64 ((↑((szO (fixU (max n (-n)) q)).size) : Int) - q)).toNat (szO (fixU (max n (-n)) q)).size)) else False else False else False else False else bif decide (n < 0) then bif jb6 ((ByteArray.mk #[45]).size + (szO (fixU (max n (-n)) q)).size) then R (S (ByteArray.mk #[45] ++ szO (fixU (max n (-n)) q))) else False else R (S (szO (fixU (max n (-n)) q))) else False else False) := by kernel_rfl
theorem ok166 : jan Tryz.prog 166 (sp2 s166) := by
 refine jcr ok_P0 hmix fn166 l166_0 (jag (by kernel_rfl)) fun n q hc => ?_
 rw [ja3, v166]
 have hc : (0 ≤ q ∧ q ≤ 9 ∧ -2147483648 ≤ n ∧ n ≤ 2147483648) := jab hc
 try dsimp only [s166]
 obtain ⟨q1, q2, n1, n2⟩ := hc
 have ea : imax n (IntKind.wrap .i64 (0 - n)) = max n (-n) := by rw [jh9, w64 (n := 0 - n) (by omega)]; congr 1; omega
 rw [ea]
 have hm : 0 ≤ max n (-n) ∧ max n (-n) ≤ 2147483648 := by omega
 refine c_t (jaa (by omega)) fun s' hs => c_t ?_ fun x => ?_
 ·have b1 : bz s' = itoZ (max n (-n)) := by rw [← hs, je5 (jg7 _)]
  have z : s'.size = (itoZ (max n (-n))).length := by rw [← b1, jaq]
  have := jg6 hm
  simp only [S166_0, jae]
  exact ⟨⟨by rw [z, Nat.sub_self, b1]; rfl, by omega⟩, by omega, q1, q2, fun h => by omega⟩
 obtain ⟨l1, l2, l3⟩ := fixU_len hm ⟨q1, q2⟩
 have hu : bz (szO (fixU (max n (-n)) q)) = fixU (max n (-n)) q := je5 l3
 have hz : (szO (fixU (max n (-n)) q)).size = (fixU (max n (-n)) q).length := szO_size _
 generalize szO (fixU (max n (-n)) q) = u at *
 have w46 : (ByteArray.mk #[46]).size = 1 := rfl
 have w45 : (ByteArray.mk #[45]).size = 1 := rfl
 rw [w64 (n := (u.size : Int) - q) (by omega)]
 refine cond_intro (fun h => ?_) (fun h => ?_)
 ·have h := jab h
  have f1 := fun sg => fix_p hu ⟨h, q2⟩ (fun _ => by omega) (by omega) (sg := sg)
  obtain ⟨-, z1, z2⟩ := f1 (ByteArray.mk #[])
  have za : ∀ a b : ByteArray, (a ++ b).size = a.size + b.size := fun a b => ByteArray.size_append
  refine c_t (jaa (by omega)) (c_t (fitN (by rw [w46]; omega)) (c_t (jaa (by omega)) (c_t (fitN (by rw [za, w46]; omega)) (cond_intro (fun h0 => ?_) (fun h0 => ?_)))))
  ·have h0 := jab h0
   refine c_t (fitN (by rw [za, za, w46, w45]; omega)) ?_
   rw [jh2 (f1 (ByteArray.mk #[45])).1, fixS, if_pos h0, max_n h0]
   rfl
  ·have h0 := jac h0
   have f2 := (f1 (ByteArray.mk #[])).1
   rw [jb3] at f2
   rw [jh2 (show bz _ = fixD (max n (-n)) q from f2), fixS, if_neg h0, max_p h0]
 ·have h := jac h
  rw [fixU_0 h hm] at hu
  refine cond_intro (fun h0 => ?_) (fun h0 => ?_)
  ·have h0 := jab h0
   refine c_t (fitN (by rw [w45]; omega)) ?_
   rw [jh2 (show bz (ByteArray.mk #[45] ++ u) = 45 :: fixD (max n (-n)) q by rw [jb3, hu]; rfl), fixS, if_pos h0, max_n h0]
  ·have h0 := jac h0
   rw [jh2 hu, fixS, if_neg h0, max_p h0]
def P1 : Env := (((Env.nil.add 68 (sp1 s68)).addG 166 (jg9 (sp2 s166))).addG 167 (jg9 (sp1 s167))).add 114 (sp1 s114)
theorem ok_P1 : jax Tryz.prog P1 := jaj (jao (jao (jaj jam ok68) (jd6 ok166)) (jd6 ok167)) ok114
theorem fixS_len {n q : Int} (hn : -2147483648 ≤ n ∧ n ≤ 2147483648) (hq : 0 ≤ q ∧ q ≤ 9) : (fixS n q).length ≤ 30 ∧ IsB (fixS n q) := by
 have key : ∀ m : Int, 0 ≤ m ∧ m ≤ 2147483648 → (fixD m q).length ≤ 25 ∧ IsB (fixD m q) := fun m hm => by
  obtain ⟨l1, l2, l3⟩ := fixU_len hm hq
  unfold fixD
  split
  ·refine ⟨?_, (l3.take _).append (.cons (by omega) (l3.drop _))⟩
   simp only [List.length_append, List.length_take, List.length_cons, List.length_drop]
   omega
  ·exact ⟨by have := jg6 hm; omega, jg7 _⟩
 unfold fixS
 split
 ·obtain ⟨a, b⟩ := key (-n) (by omega)
  exact ⟨by rw [List.length_cons]; omega, .cons (by omega) b⟩
 ·obtain ⟨a, b⟩ := key n (by omega)
  exact ⟨by omega, b⟩
def txS (v : Vl) (t : Ty) : ByteArray := if jbl t then szO (txtZ v.n t) else v.s
def s98 (v : Vl) (t : Ty) : Bool × Value := (decide (sz63 t ∧ (jbl t → -2147483648 ≤ v.n ∧ v.n ≤ 2147483648)), S (txS v t))
theorem fn98 : Fn1 Tryz.prog 98 Tryz.f98 := .m Tryz.func98 (by kernel_rfl)
theorem v98 (v : Vl) (t : Ty) (R : Value → Prop) : ja4 Tryz.prog P1 noL Tryz.f98 [Enc.enc v, Enc.enc t] (fun _ => none) 0 (fun v _ _ => R v) = ( bif !decide (jbl t) then R (S v.s) else bif decide (0 ≤ t.q ∧ t.q ≤ 9 ∧ -2147483648 ≤ v.n ∧ v.n ≤ 2147483648) then ∀ (s' : ByteArray), szO (fixS v.n t.q) = s' → bif decide (sz63 t ∧ 0 ≤ t.p ∧ t.p ≤ 1000000) then bif decide (IntKind.wrap .i64 (chaW t - (s'.size : Int)) ≤ 1000) then ∀ (s'_1 : ByteArray), szO (List.replicate (IntKind.wrap .i64 (chaW t - (s'.size : Int))).toNat 32) = s'_1 → bif jb6 (s'_1.size + s'.size) then R (S (s'_1 ++ s')) else False else False else False else False) := by kernel_rfl
theorem ok98 : jan Tryz.prog 98 (sp2 s98) := by
 refine jcr ok_P1 hmix fn98 jai (jag (by kernel_rfl)) fun v t hc => ?_
 rw [ja3, v98]
 have hc : (sz63 t ∧ (jbl t → -2147483648 ≤ v.n ∧ v.n ≤ 2147483648)) := jab hc
 try dsimp only [s98]
 refine cond_intro (fun h => ?_) (fun h => ?_)
 ·have h : ¬ jbl t := by simpa using h
  unfold txS
  rw [if_neg h]
 ·have h : jbl t := by simpa using h
  have n32 := hc.2 h
  have hq := Fx.valid_r h
  refine c_t (jaa (by omega)) fun s' hs => c_t (jaa ⟨hc.1, by omega, by omega⟩) ?_
  obtain ⟨l1, l2⟩ := fixS_len (n := v.n) (q := t.q) n32 (by omega)
  have b1 : bz s' = fixS v.n t.q := by rw [← hs, je5 l2]
  have z1 : s'.size = (fixS v.n t.q).length := by rw [← b1, jaq]
  have hw : chaW t = wid t := if_pos h.1
  have hw2 : 0 ≤ wid t ∧ wid t ≤ 100 := by unfold wid; split <;> omega
  rw [hw, w64 (n := wid t - (s'.size : Int)) (by omega)]
  refine c_t (jaa (by omega)) fun s2 h2 => ?_
  have b2 : bz s2 = List.replicate (wid t - (s'.size : Int)).toNat 32 := by rw [← h2, je5 (jf0 _)]
  have z2 : s2.size = (wid t - (s'.size : Int)).toNat := by rw [← jaq, b2, List.length_replicate]
  refine c_t (fitN (by omega)) ?_
  unfold txS
  rw [if_pos h, jh2 (l := txtZ v.n t) (s := s2 ++ s') (by rw [jb3, b2, b1, txtZ, z1])]
theorem ex_tx (v : Vl) (t : Ty) : ∃ x : ByteArray, x = txS v t := ⟨_, rfl⟩
def txT (v : Vl) (t : Ty) : ByteArray := Classical.choose (ex_tx v t)
theorem txT_eq (v : Vl) (t : Ty) : txT v t = txS v t := Classical.choose_spec (ex_tx v t)
def z98 (v : Vl) (t : Ty) : Bool × Value := (decide (sz63 t ∧ (jbl t → -2147483648 ≤ v.n ∧ v.n ≤ 2147483648)), S (txT v t))
theorem fit_n32 {v : Vl} {t : Ty} (h : fit4 v t = 0) (hv : jbl t) : -2147483648 ≤ v.n ∧ v.n ≤ 2147483648 := by
 unfold fit4 at h
 have hc : chk4 t = 0 := if_pos hv
 rw [if_neg (fun q => q hc)] at h
 split at h
 ·rename_i i
  unfold is4 at i
  rw [if_pos hv.1] at i
  have i : Fx.fits v t = 0 := by simpa using i
  unfold Fx.fits at i
  rw [if_pos hv] at i
  split at i
  ·rename_i f
   have := Fx.bnd_range hv
   have := f.2
   omega
  ·cases i
 ·cases h
def txE (v : Vl) (t : Ty) : Int := if fit4 v t ≠ 0 then fit4 v t else if t.k = 6 then 5 else 0
def txV (v : Vl) (t : Ty) : Value := .tuple ⟨[S (if txE v t ≠ 0 then ⟨#[]⟩ else txS v t), I (txE v t)]⟩
def P2 : Env := (Env.nil.add 23 (sp2 z22)).add 98 (sp2 z98)
theorem z98_eq : z98 = s98 := by funext v t; simp only [z98, s98, txT_eq]
theorem ok_P2 : jax Tryz.prog P2 := jaj (jaj jam (z22_eq2 ▸ ok23)) (z98_eq ▸ ok98)
def s33 (v : Vl) (t : Ty) : Bool × Value := (decide (t.s.size ≤ 9223372036854775807 ∧ v.s.size ≤ 9223372036854775807), txV v t)
theorem fn33 : Fn1 Tryz.prog 33 Tryz.f33 := .m Tryz.func33 (by kernel_rfl)
theorem v33 (v : Vl) (t : Ty) (R : Value → Prop) : ja4 Tryz.prog P2 noL Tryz.f33 [Enc.enc v, Enc.enc t] (fun _ => none) 0 (fun v _ _ => R v) = ( bif decide (t.s.size ≤ 9223372036854775807 ∧ v.s.size ≤ 9223372036854775807) then bif ftT v t != 0 then R (.tuple (.mk [S (ByteArray.mk #[]), I (ftT v t)])) else bif t.k == 6 then R (.tuple (.mk [S (ByteArray.mk #[]), I 5])) else bif decide (sz63 t ∧ (jbl t → -2147483648 ≤ v.n ∧ v.n ≤ 2147483648)) then R (.tuple (.mk [S (txT v t), I 0])) else False else False) := by kernel_rfl
theorem ok33 : jan Tryz.prog 33 (sp2 s33) := by
 refine jcr ok_P2 hmix fn33 jai (jag (by kernel_rfl)) fun v t hc => ?_
 rw [ja3, v33]
 have hc : (t.s.size ≤ 9223372036854775807 ∧ v.s.size ≤ 9223372036854775807) := jab hc
 try dsimp only [s33]
 have hn : fit4 v t = 0 → jbl t → -2147483648 ≤ v.n ∧ v.n ≤ 2147483648 := fun h hv => fit_n32 h hv
 refine c_t (jaa hc) ?_
 simp only [jio, txT_eq]
 unfold txV txE
 refine cond_intro (fun h => ?_) (fun h => ?_)
 ·have h : fit4 v t ≠ 0 := by simpa using h
  simp only [if_pos h]
 ·have h : fit4 v t = 0 := by simpa using h
  have h' : ¬ fit4 v t ≠ 0 := fun q => q h
  simp only [if_neg h']
  refine cond_intro (fun h6 => ?_) (fun h6 => c_t (jaa ⟨hc.1, hn h⟩) ?_)
  ·have h6 : t.k = 6 := by simpa using h6
   simp only [if_pos h6]
   rfl
  ·have h6 : ¬ t.k = 6 := by simpa using h6
   simp only [if_neg h6]
   rfl
structure Sh where
 s : ByteArray
 p : ByteArray
instance : Enc Sh where
 enc x := .agg ⟨[.string x.s, .string x.p]⟩
 dec | .agg ⟨[.string s, .string p]⟩ => some ⟨s, p⟩ | _ => none
 dec_some := by
  intro v a h
  split at h
  ·cases h; rfl
  ·cases h
 plain_enc _ := rfl
instance tabsT5 : Tabs := tabs
def P3 : Env := Env.nil
theorem ok_P3 : jax Tryz.prog P3 := jam
def s323 (x : Sh) : Bool × Value := (true, S x.s)
theorem fn323 : Fn1 Tryz.prog 323 Tryz.f323 := .m Tryz.func323 (by kernel_rfl)
theorem v323 (x : Sh) (R : Value → Prop) : ja4 Tryz.prog P3 noL Tryz.f323 [Enc.enc x] (fun _ => none) 0 (fun v _ _ => R v) = ( R (S (Sh.s x))) := by kernel_rfl
theorem ok323 : jan Tryz.prog 323 (sp1 s323) := by
 refine jb7 ok_P3 hmix fn323 jai (jag (by kernel_rfl)) fun x hc => ?_
 rw [ja3, v323]
 try dsimp only [s323]
def P4 : Env := P3.add 59 (sp1 Px.s31)
theorem fn97' : Fn1 Tryz.prog 97 Tryz.f97 := .m Tryz.func97 (by kernel_rfl)
def P5 : Env := (((((P3.add 22 (sp2 z22)).addG 97 (inlQ Tryz.prog P4 noL Tryz.f97)).add 321 (sp1 s321)).add 322 (sp1 s322)).add 323 (sp1 s323)).add 324 (sp1 s324)
theorem ok_P4 : jax Tryz.prog P4 := jaj ok_P3 Px.ok31
theorem ok_P5 : jax Tryz.prog P5 := jaj (jaj (jaj (jaj (jao (jaj ok_P3 (z22_eq ▸ ok22f)) (jas ok_P4 hmix fn97' jai)) ok321) ok322) ok323) ok324
def s32f (v : Vl) (t : Ty) : Bool × Value := (decide (t.s.size ≤ 9223372036854775807 ∧ v.s.size ≤ 9223372036854775807), txV v t)
theorem fn32 : Fn1 Tryz.prog 32 Tryz.f32 := .m Tryz.func32 (by kernel_rfl)
theorem v32f (v : Vl) (t : Ty) (R : Value → Prop) : ja4 Tryz.prog P5 noL Tryz.f32 [Enc.enc v, Enc.enc t] (fun _ => none) 0 (fun v _ _ => R v) = ( bif decide (t.s.size ≤ 9223372036854775807 ∧ v.s.size ≤ 9223372036854775807) then bif ftT v t != 0 then R (.tuple (.mk [S (ByteArray.mk #[]), I (ftT v t)])) else bif t.k == 6 then R (.tuple (.mk [S (ByteArray.mk #[]), I 5])) else bif t.k == 1 then bif decide (jbl t ∧ -2147483648 ≤ v.n ∧ v.n ≤ 2147483648) then R (.tuple (.mk [S (szO (txtZ v.n t)), I 0])) else False else bif t.k == 2 then bif decide (jbl t ∧ -2147483648 ≤ v.n ∧ v.n ≤ 2147483648) then R (.tuple (.mk [S (szO (txtZ v.n t)), I 0])) else False else bif t.k == 4 then R (.tuple (.mk [S v.s, I 0])) else bif t.k == 5 then bif decide (t.s.size ≤ 9223372036854775807) then bif pN (bz t.s) then R (.tuple (.mk [S v.s, I 0])) else R (.tuple (.mk [S v.s, I 0])) else False else R (.tuple (.mk [S v.s, I 0])) else False) := by kernel_rfl
theorem ok32f : jan Tryz.prog 32 (sp2 s32f) := by
 refine jcr ok_P5 hmix fn32 jai (jag (by kernel_rfl)) fun v t hc => ?_
 rw [ja3, v32f]
 have hc : (t.s.size ≤ 9223372036854775807 ∧ v.s.size ≤ 9223372036854775807) := jab hc
 try dsimp only [s32f]
 have hn : fit4 v t = 0 → jbl t → -2147483648 ≤ v.n ∧ v.n ≤ 2147483648 := fun h hv => fit_n32 h hv
 refine c_t (jaa hc) ?_
 simp only [jio]
 unfold txV txE
 refine cond_intro (fun h => ?_) (fun h => ?_)
 ·have h : fit4 v t ≠ 0 := by simpa using h
  simp only [if_pos h]
 have h : fit4 v t = 0 := by simpa using h
 have h' : ¬ fit4 v t ≠ 0 := fun q => q h
 have hv : (t.k = 1 ∨ t.k = 2) → jbl t := fun hk => by
  have hc4 : chk4 t = 0 := by
   unfold fit4 at h
   split at h
   ·exact h
   ·rename_i q; exact Decidable.not_not.1 q
  unfold chk4 at hc4
  split at hc4
  ·assumption
  ·rw [if_neg (by omega), if_neg (by omega), if_neg (by omega), if_neg (by omega)] at hc4
   cases hc4
 simp only [if_neg h']
 refine cond_intro (fun h6 => ?_) (fun h6 => ?_)
 ·have h6 : t.k = 6 := by simpa using h6
  simp only [if_pos h6]
  rfl
 have h6 : ¬ t.k = 6 := by simpa using h6
 simp only [if_neg h6, txS]
 refine cond_intro (fun k1 => ?_) (fun k1 => cond_intro (fun k2 => ?_) (fun k2 => ?_))
 ·have V := hv (.inl (by simpa using k1))
  refine c_t (jaa ⟨V, hn h V⟩) ?_
  rw [if_pos V]
  rfl
 ·have V := hv (.inr (by simpa using k2))
  refine c_t (jaa ⟨V, hn h V⟩) ?_
  rw [if_pos V]
  rfl
 have nV : ¬ jbl t := fun V => by
  have := V.1
  simp only [beq_eq_false_iff_ne] at k1 k2
  omega
 rw [if_neg nV]
 refine cond_intro (fun _ => rfl) (fun _ => cond_intro (fun _ => c_t (jaa hc.1) (cond_intro (fun _ => rfl) (fun _ => rfl))) (fun _ => rfl))
instance tabsT6 : Tabs := tabs
theorem ex_tv (v : Vl) (t : Ty) : ∃ x : ByteArray × Int, x = (if txE v t ≠ 0 then ⟨#[]⟩ else txS v t, txE v t) := ⟨_, rfl⟩
def tvT (v : Vl) (t : Ty) : ByteArray × Int := Classical.choose (ex_tv v t)
theorem tvT_eq (v : Vl) (t : Ty) : tvT v t = (if txE v t ≠ 0 then ⟨#[]⟩ else txS v t, txE v t) := Classical.choose_spec (ex_tv v t)
def z32 (v : Vl) (t : Ty) : Bool × Value := (decide (t.s.size ≤ 9223372036854775807 ∧ v.s.size ≤ 9223372036854775807), .tuple ⟨[S (tvT v t).1, I (tvT v t).2]⟩)
def R0a : Env := Env.nil
def R0b : Env := R0a.addG 96 (inlQ Tryz.prog R0a noL Tryz.f96)
def R0c : Env := R0b.addG 165 (inlQ Tryz.prog R0b noL Tryz.f165)
def R0e : Env := R0c.addG 95 (inlQ Tryz.prog R0c noL Tryz.f95)
def R0d : Env := ((((R0e.add 18 (sp0 Cs.s18)).add 19 (sp1 z19)).addG 31 (inlQ Tryz.prog R0e noL Tryz.f31)).add 32 (sp2 z32)).add 33 (sp2 z32)
theorem fn96' : Fn1 Tryz.prog 96 Tryz.f96 := .m Tryz.func96 (by kernel_rfl)
theorem fn165' : Fn1 Tryz.prog 165 Tryz.f165 := .m Tryz.func165 (by kernel_rfl)
theorem fn95' : Fn1 Tryz.prog 95 Tryz.f95 := .m Tryz.func95 (by kernel_rfl)
theorem fn31' : Fn1 Tryz.prog 31 Tryz.f31 := .m Tryz.func31 (by kernel_rfl)
theorem ok_R0b : jax Tryz.prog R0b := jao jam (jas jam hmix fn96' jai)
theorem ok_R0c : jax Tryz.prog R0c := jao ok_R0b (jas ok_R0b hmix fn165' jai)
theorem ok_R0e : jax Tryz.prog R0e := jao ok_R0c (jas ok_R0c hmix fn95' jai)
theorem z32_v (v : Vl) (t : Ty) : (Value.tuple ⟨[S (tvT v t).1, I (tvT v t).2]⟩) = txV v t := by rw [tvT_eq]; rfl
theorem z32_eq : z32 = s32f := by funext v t; simp only [z32, s32f, z32_v]
theorem z32_eq2 : z32 = s33 := by funext v t; simp only [z32, s33, z32_v]
theorem ok_R0d : jax Tryz.prog R0d := jaj (jaj (jao (jaj (jaj ok_R0e Cs.ok18) ok19s) (jas ok_R0e hmix fn31' jai)) (z32_eq ▸ ok32f)) (z32_eq2 ▸ ok33)
def s6 (v : Vl) (t : Ty) : Bool × Value := (decide (t.s.size ≤ 9223372036854775807 ∧ v.s.size ≤ 9223372036854775807), B true)
theorem fn6 : Fn1 Tryz.prog 6 Tryz.f6 := .m Tryz.func6 (by kernel_rfl)
theorem v6 (v : Vl) (t : Ty) (R : Value → Prop) : ja4 Tryz.prog R0d noL Tryz.f6 [Enc.enc v, Enc.enc t] (fun _ => none) 0 (fun v _ _ => R v) = ( bif !decide ((t.s.size : Int) ≤ 200) then R (B true) else bif decide (0 < natO 1) then bif decide ((v.s.size : Int) > 2000) then R (B true) else bif decide (1 < natO 1) then False else bif decide (t.s.size ≤ 9223372036854775807 ∧ v.s.size ≤ 9223372036854775807) then bif decide (t.s.size ≤ 9223372036854775807 ∧ v.s.size ≤ 9223372036854775807) then bif ByteArray.toList (tvT v t).1 == ByteArray.toList (tvT v t).1 || true then R (B (ByteArray.toList (tvT v t).1 == ByteArray.toList (tvT v t).1 && (tvT v t).2 == (tvT v t).2)) else False else False else False else bif decide (t.s.size ≤ 9223372036854775807 ∧ v.s.size ≤ 9223372036854775807) then bif decide (t.s.size ≤ 9223372036854775807 ∧ v.s.size ≤ 9223372036854775807) then bif ByteArray.toList (tvT v t).1 == ByteArray.toList (tvT v t).1 || true then R (B (ByteArray.toList (tvT v t).1 == ByteArray.toList (tvT v t).1 && (tvT v t).2 == (tvT v t).2)) else False else False else False) := by kernel_rfl
theorem ok6 : jan Tryz.prog 6 (sp2 s6) := by
 refine jcr ok_R0d hmix fn6 jai (jag (by kernel_rfl)) fun v t hc => ?_
 rw [ja3, v6]
 have hc : (t.s.size ≤ 9223372036854775807 ∧ v.s.size ≤ 9223372036854775807) := jab hc
 try dsimp only [s6]
 refine cond_intro (fun _ => rfl) (fun _ => c_t (by rw [jbz]; rfl) (cond_intro (fun _ => rfl) (fun _ => c_f (by rw [jbz]; rfl) (c_t (jaa hc) (c_t (jaa hc) (c_t (Bool.or_true _) ?_))))))
 rw [beq_self_eq_true, beq_self_eq_true]
 rfl
end Go.Cx
end
noncomputable section
namespace Go.Px
open Go Go.Proofs
open Go.Proofs.YtpflidodnhbeoaaGreatDoor
theorem q_laid : laidOutB Tryz.prog = true := by kernel_rfl
theorem q_maps : mapsRowed Tryz.prog = true := by kernel_rfl
theorem q_stop : (Tryz.prog.stops == []) = true := by kernel_rfl
theorem q_knob : (Tryz.prog.stopKnobs == []) = true := by kernel_rfl
theorem q_keys : (Rows.convertTypesRow.plainKeys == Tryz.prog.plainKeys) = true := by kernel_rfl
theorem q_heard : Tryz.prog.stopsHeard = true := by kernel_rfl
theorem q_enter : Tryz.prog.mayEnter = true := by kernel_rfl
theorem q_lifts : (Rows.convertTypesRow.lifted == Tryz.prog.liftsFinal) = true := by kernel_rfl
theorem q_make : (Tryz.prog.make == some Rows.convertTypesRow.make) = true := by kernel_rfl
theorem main_is : Tryz.pinned.checked.prog.mainIs = some (true, ("2cb47cbf95087f7cc8d5ede91c198a947601d35cfd546d8bdc61f47b13d7b636" : String).toList) := by kernel_rfl
theorem looks_is : true = Tryz.pinned.checked.prog.looks [] := by kernel_rfl
end Go.Px
end
noncomputable section
namespace Go.Px
open Go Go.Ab Go.Proofs Go.Shelf Go.ChangeMaps Go.ChangeShapes Go.WideShapes Go.ChangeAt Go.RowKit Go.Joins
open Go.Proofs.YtpflidodnhbeoaaGreatDoor
theorem own : ownKnob Tryz.prog.godebug = none := by kernel_rfl
def laidL : List (String × DataW Unit) := Rows.convertTypesRow.laid
theorem tab_is {P : Program} {W : World} {name : String} {k : IntKind} {zs : List Int} {g : Nat} {t e : TypeId} {n : Nat} (hr : Lib.VarReads P W name (Lib.tabData k zs))
  (hg : P.globalNamed name = some g) (hty : (P.globals[g]?).map (·.type) = some t) (ht : P.underlying t = some (.array n e)) (he : P.underlying e = some (.int k)) (hce : P.cellsOf e = 1) (hct : P.cellsOf t = n) :
  g < W.heap.size ∧ ∃ ty fr, W.heap[g]? = some (.cells ⟨zs.map fun z => Value.int k z⟩ ty fr) := by
 obtain ⟨g', t', cs, fuel, p, h1, h2, h3, h4⟩ := hr
 obtain rfl := Option.some.inj (hg.symm.trans h1)
 obtain rfl := Option.some.inj (hty.symm.trans h2)
 have hc := Lib.cells_of_tab ht he hce hct h4
 unfold World.var? at h3
 rw [hg, Option.bind_some] at h3
 split at h3
 case h_2 => cases h3
 rename_i cs' ty fr hh
 have h3 := Option.some.inj h3
 refine ⟨(Array.getElem?_eq_some_iff.1 hh).1, ty, fr, ?_⟩
 rw [hh, h3]
 congr 2
 rw [← hc]
theorem rt : (Tryz.prog.cutTypes.find? (·.1 == "internal/reflectlite.rtype")).map (·.2) = some 229 := by kernel_rfl
theorem tsz : Tryz.prog.types.size = 321 := by kernel_rfl
theorem oneRow : ((List.range 321).filter fun t => Tryz.prog.rowNamed t [101, 114, 114, 111, 114]) = [105] := by kernel_rfl
theorem hdl : typeHandle Tryz.prog 105 = .pointer (some ⟨10, 105, none⟩) := by kernel_rfl
theorem gE : Tryz.prog.globalNamed "errors.errorType" = some 0 := by kernel_rfl
theorem laid_h : laidL.filter (fun x => x.2.handleName?.isSome) = [("errors.errorType", Rows.laid_errors_errorType)] := by kernel_rfl
theorem laid_d : laidL.filter (fun x => x.2.handleName?.isNone) = [("math/bits.deBruijn32tab", Rows.laid_math_bits_deBruijn32tab), ("math/bits.deBruijn64tab", Rows.laid_math_bits_deBruijn64tab), ("internal/strconv.uint64pow10", Rows.laid_internal_strconv_uint64pow10), ("unicode/utf8.acceptRanges", Rows.laid_unicode_utf8_acceptRanges), ("strconv.ErrRange", Rows.laid_strconv_ErrRange), ("strconv.ErrSyntax", Rows.laid_strconv_ErrSyntax), ("pliant/picture.punched", Rows.laid_pliant_picture_punched), ("unicode/utf8.first", Rows.laid_unicode_utf8_first)] := by kernel_rfl
theorem handle_of_laid {W : World} (h : handlesMet Tryz.prog [("errors.errorType", Rows.laid_errors_errorType)] W) : 0 < W.heap.size ∧ ∃ ty fr, W.heap[0]? = some (.cells #[.iface 229 (.agg #[.pointer (some ⟨10, 105, none⟩)])] ty fr) := by
 obtain ⟨name, u, ty, e1, e2, e3, e4, e5⟩ := h _ (List.mem_singleton.2 rfl)
 have en : name = [101, 114, 114, 111, 114] := (Option.some.inj e1).symm
 subst en
 obtain rfl := Option.some.inj (rt.symm.trans e2)
 have hm : ty ∈ (List.range 321).filter fun t => Tryz.prog.rowNamed t [101, 114, 114, 111, 114] := List.mem_filter.2 ⟨List.mem_range.2 (by rw [← tsz]; exact e3), e4⟩
 rw [oneRow] at hm
 obtain rfl := List.mem_singleton.1 hm
 rw [hdl] at e5
 unfold World.var? at e5
 rw [gE, Option.bind_some] at e5
 split at e5
 case h_2 => cases e5
 rename_i cs' ty fr hh
 have e5 := Option.some.inj e5
 exact ⟨(Array.getElem?_eq_some_iff.1 hh).1, ty, fr, by rw [hh, e5]⟩
set_option maxRecDepth 100000 in
theorem tabs_of_laid {W : World} (h : laidMetH Tryz.prog laidL W) : TabsIn W.heap.size W := by
 obtain ⟨hd, hh⟩ := laidMetH_iff.1 h
 rw [laid_h] at hh
 rw [laid_d] at hd
 intro b r hb
 have key : ∀ b : Nat, jjp b = some r → b = 5 ∧ r = punchedZ.map (fun n => Value.int .u8 n) ∨ b = 1 ∧ r = pow10Z.map (fun n => Value.int .u64 n) ∨ b = 0 ∧ r = [.iface 229 (.agg ⟨[.pointer (some ⟨10, 105, none⟩)]⟩)] := by
  intro b hb
  unfold jjp at hb
  split at hb
  ·cases hb; exact .inl ⟨rfl, rfl⟩
  ·cases hb; exact .inr (.inl ⟨rfl, rfl⟩)
  ·cases hb; exact .inr (.inr ⟨rfl, rfl⟩)
  ·cases hb
 have t5 : Tryz.prog.cellsOf 5 = 1 := by kernel_rfl
 rcases key b hb with ⟨rfl, rfl⟩ | ⟨rfl, rfl⟩ | ⟨rfl, rfl⟩
 ·have hr : Lib.VarReads Tryz.prog W "pliant/picture.punched" (Lib.tabData .u8 punchedZ) := Lib.laidMet.reads hd (.tail _ (.tail _ (.tail _ (.tail _ (.tail _ (.tail _ (.head _)))))))
  exact tab_is hr (g := 5) (t := 273) (n := 20) (e := 5) (by kernel_rfl) (by kernel_rfl) (by kernel_rfl) (by kernel_rfl) t5 (by kernel_rfl)
 ·have hr : Lib.VarReads Tryz.prog W "internal/strconv.uint64pow10" (Lib.tabData .u64 pow10Z) := Lib.laidMet.reads hd (.tail _ (.tail _ (.head _)))
  exact tab_is hr (g := 1) (t := 262) (n := 20) (e := 90) (by kernel_rfl) (by kernel_rfl) (by kernel_rfl) (by kernel_rfl) (by kernel_rfl) (by kernel_rfl)
 ·exact handle_of_laid hh
noncomputable def handleWorld (os : Os) : World :=
 let w0 := World.holding Tryz.prog os ⟨#[], #[], []⟩
 { w0 with heap := w0.heap.modify 0 fun
   | .cells _ t frozen => .cells #[.iface 229 (.agg #[.pointer (some ⟨10, 105, none⟩)])] t frozen
   | o => o }
def laidD : List (String × DataW Unit) := laidL.filter fun x => x.2.handleName?.isNone
noncomputable def laidWorld (os : Os) : World := (handleWorld os).layVars Tryz.prog laidD
theorem laidWorld_os (os : Os) : (laidWorld os).os = os := World.layVars_os _ _ _
theorem laidWorld_met (os : Os) (args : Array Value) : laidMetH Tryz.prog laidL ((laidWorld os).forCall (fun _ _ => 0) ⟨#[], args, []⟩).memory := by
 refine laidMetH_of_parts ?_ (by kernel_rfl)
 have e1 : (laidD.filter fun x => (laidD.map (·.1)).contains x.1) = laidD := List.filter_eq_self.2 fun x hx => List.contains_iff_mem.2 (List.mem_map.2 ⟨x, hx, rfl⟩)
 have e2 : (laidD.filter fun x => !(laidD.map (·.1)).contains x.1) = [] := List.filter_eq_nil_iff.2 fun x hx => by rw [List.contains_iff_mem.2 (List.mem_map.2 ⟨x, hx, rfl⟩)]; simp
 have h : laidMet Tryz.prog laidD (laidWorld os) := laidMet_layVars (w0 := handleWorld os) (laidD.map (·.1)) [] (by rw [e1]; rfl) (by rw [e1]; kernel_rfl) (by rw [e1]; kernel_rfl) (by rw [e2]; exact LaidIn.none)
 exact h.of_heap (by simp [World.memory, World.forCall, Input.heap])
def jes (P : Program) (t : TypeId) (α : Type) [Enc α] (Q : α → Prop) : Prop :=
 ∀ {H : Type} {enc : TypeId × Value → H} {w : World} {base : Nat} {spare : Nat → Bool} {held : Bool} {r : Reach} {b0 : Nat} {v : Value} {d : DataW H} {p : List MemPlace}, Value.okWide P w r b0 t v → DataW.Trod enc P w base spare held t v d p →
  ∃ a : α, v = Enc.enc a ∧ Q a ∧ p = [] ∧ ∀ (w' : World) (b' : Nat) (sp' : Nat → Bool) (hd' : Bool), DataW.Trod enc P w' b' sp' hd' t v d []
theorem opensP_string {P : Program} {t : TypeId} (ht : P.underlying t = some .string) : jes P t ByteArray fun s => s.size ≤ 9223372036854775807 := by
 intro H enc w base spare held r b0 v d p hv h
 obtain ⟨n, rfl, rfl, rfl, hw⟩ := open_string ht hv h
 exact ⟨n, rfl, Nat.le_trans hw (by decide), rfl, fun w' b' sp' hd' => shut_string ht hw⟩
theorem oS : jes Tryz.prog 9 ByteArray fun s => s.size ≤ 9223372036854775807 := opensP_string Tryz.underlying9
theorem opensP_int {P : Program} {t : TypeId} (ht : P.underlying t = some (.int .i64)) : jes P t Int fun n => -9223372036854775808 ≤ n ∧ n ≤ 9223372036854775807 := by
 intro H enc w base spare held r b0 v d p hv h
 obtain ⟨n, rfl, rfl, rfl, hw⟩ := open_int ht hv h
 exact ⟨n, rfl, by simpa [Lit.wf, IntKind.min, IntKind.max, IntKind.signed, IntKind.bits] using hw, rfl, fun w' b' sp' hd' => shut_int ht hw⟩
theorem oI : jes Tryz.prog 3 Int fun n => -9223372036854775808 ≤ n ∧ n ≤ 9223372036854775807 := opensP_int Tryz.underlying3
theorem opensP_bool {P : Program} {t : TypeId} (ht : P.underlying t = some .bool) : jes P t Bool fun _ => True := by
 intro H enc w base spare held r b0 v d p hv h
 obtain ⟨n, rfl, rfl, rfl⟩ := open_bool ht hv h
 exact ⟨n, rfl, trivial, rfl, fun w' b' sp' hd' => shut_bool ht n⟩
theorem oB : jes Tryz.prog 4 Bool fun _ => True := opensP_bool Tryz.underlying4
theorem jdq {P : Program} {α : Type} [Enc α] {t : TypeId} {fs : Array Field} {Q : α → Prop} (hs : P.underlying t = some (.struct fs)) (hl : fs.toList.all (fun f => jjt P f.type) = true)
  (hc : ∀ cs : Array Value, cs.size = P.cellsOf t → (∀ (i : Nat) (f : Field), fs[i]? = some f → ∃ (H : Type) (enc : TypeId × Value → H) (w : World) (base : Nat) (spare : Nat → Bool) (held : Bool) (n : Nat) (y : DataW H × List MemPlace),
   DataW.trod enc P w base spare held n f.type ((cs.toList.drop f.offset).take (P.cellsOf f.type)) = some y) → ∃ a : α, Value.agg cs = Enc.enc a ∧ Q a) : jes P t α Q := by
 intro H enc w base spare held r b0 v d p hv h
 obtain ⟨cs, rfl, hsz⟩ := okWide_struct hs hv
 obtain ⟨fuel, hf⟩ := h
 simp only [Value.cells] at hf
 obtain ⟨hp, hany⟩ := leaves_any hs hl hf
 obtain ⟨xs, n, _, _, hlen, hxs, hg⟩ := DataW.trod_struct hs hf
 obtain ⟨a, ha, hq⟩ := hc cs hsz fun i f hi => by
  have hlt : i < xs.length := by
   have := (Array.getElem?_eq_some_iff.1 hi).1
   omega
  exact ⟨H, enc, w, base, spare, held, n, xs[i], by rw [hg i f hi, List.getElem?_eq_getElem hlt]⟩
 simp only at hp
 subst hp
 exact ⟨a, ha, hq, rfl, fun w' b' sp' hd' => ⟨2, by simpa [Value.cells] using hany w' b' sp' hd'⟩⟩
def r64 (n : Int) : Prop := -9223372036854775808 ≤ n ∧ n ≤ 9223372036854775807
def rS (s : ByteArray) : Prop := s.size ≤ 9223372036854775807
theorem r64_wf {n : Int} (h : (Lit.int .i64 n).wf = true) : r64 n := by simpa [Lit.wf, IntKind.min, IntKind.max, IntKind.signed, IntKind.bits, r64] using h
theorem array5 {α : Type} {cs : Array α} (h : cs.size = 5) : ∃ c0 c1 c2 c3 c4, cs = #[c0, c1, c2, c3, c4] := by
 obtain ⟨l⟩ := cs
 match l, h with
 | [c0, c1, c2, c3, c4], _ => exact ⟨c0, c1, c2, c3, c4, rfl⟩
theorem array3 {α : Type} {cs : Array α} (h : cs.size = 3) : ∃ c0 c1 c2, cs = #[c0, c1, c2] := by
 obtain ⟨l⟩ := cs
 match l, h with
 | [c0, c1, c2], _ => exact ⟨c0, c1, c2, rfl⟩
theorem oT : jes Tryz.prog 23 Fx.Ty fun t => r64 t.k ∧ r64 t.p ∧ r64 t.q ∧ rS t.s := by
 refine jdq Tryz.underlying23 (by kernel_rfl) fun cs hsz hf => ?_
 have hc : Tryz.prog.cellsOf 23 = 5 := by kernel_rfl
 have h3 : Tryz.prog.cellsOf 3 = 1 := by kernel_rfl
 have h4 : Tryz.prog.cellsOf 4 = 1 := by kernel_rfl
 have h9 : Tryz.prog.cellsOf 9 = 1 := by kernel_rfl
 rw [hc] at hsz
 obtain ⟨c0, c1, c2, c3, c4, rfl⟩ := array5 hsz
 ·obtain ⟨H, enc, w, base, spare, held, n, y, h0⟩ := hf 0 { name := "Kind", type := 3, offset := 0, embedded := false, tag := "", pkgPath := "", byteOffset := 0 } rfl
  obtain ⟨H, enc, w, base, spare, held, n, y, h1⟩ := hf 1 { name := "P", type := 3, offset := 1, embedded := false, tag := "", pkgPath := "", byteOffset := 8 } rfl
  obtain ⟨H, enc, w, base, spare, held, n, y, h2⟩ := hf 2 { name := "Q", type := 3, offset := 2, embedded := false, tag := "", pkgPath := "", byteOffset := 16 } rfl
  obtain ⟨H, enc, w, base, spare, held, n, y, hv⟩ := hf 3 { name := "Vary", type := 4, offset := 3, embedded := false, tag := "", pkgPath := "", byteOffset := 24 } rfl
  obtain ⟨H, enc, w, base, spare, held, n, y, hs⟩ := hf 4 { name := "Pic", type := 9, offset := 4, embedded := false, tag := "", pkgPath := "", byteOffset := 32 } rfl
  obtain ⟨k, e0, _, w0⟩ := DataW.trod_int Tryz.underlying3 h0
  obtain ⟨p, e1, _, w1⟩ := DataW.trod_int Tryz.underlying3 h1
  obtain ⟨q, e2, _, w2⟩ := DataW.trod_int Tryz.underlying3 h2
  obtain ⟨v, e3, _⟩ := DataW.trod_bool Tryz.underlying4 hv
  obtain ⟨s, e4, _, w4⟩ := DataW.trod_string Tryz.underlying9 hs
  simp only [h3, h4, h9, List.drop_zero, List.drop_succ_cons, List.take_succ_cons, List.take_zero, List.cons.injEq, and_true] at e0 e1 e2 e3 e4
  exact ⟨⟨k, p, q, v, s⟩, by rw [e0, e1, e2, e3, e4]; rfl, r64_wf w0, r64_wf w1, r64_wf w2, Nat.le_trans w4 (by decide)⟩
theorem oV : jes Tryz.prog 25 Fx.Vl fun v => r64 v.n ∧ rS v.s := by
 refine jdq Tryz.underlying25 (by kernel_rfl) fun cs hsz hf => ?_
 have hc : Tryz.prog.cellsOf 25 = 2 := by kernel_rfl
 have h3 : Tryz.prog.cellsOf 3 = 1 := by kernel_rfl
 have h9 : Tryz.prog.cellsOf 9 = 1 := by kernel_rfl
 rw [hc] at hsz
 obtain ⟨c0, c1, rfl⟩ := array2 hsz
 ·obtain ⟨H, enc, w, base, spare, held, n, y, h0⟩ := hf 0 { name := "N", type := 3, offset := 0, embedded := false, tag := "", pkgPath := "", byteOffset := 0 } rfl
  obtain ⟨H, enc, w, base, spare, held, n, y, h1⟩ := hf 1 { name := "S", type := 9, offset := 1, embedded := false, tag := "", pkgPath := "", byteOffset := 8 } rfl
  obtain ⟨k, e0, _, w0⟩ := DataW.trod_int Tryz.underlying3 h0
  obtain ⟨s, e4, _, w4⟩ := DataW.trod_string Tryz.underlying9 h1
  simp only [h3, h9, List.drop_zero, List.drop_succ_cons, List.take_succ_cons, List.take_zero, List.cons.injEq, and_true] at e0 e4
  exact ⟨⟨k, s⟩, by rw [e0, e4]; rfl, r64_wf w0, Nat.le_trans w4 (by decide)⟩
theorem oN : jes Tryz.prog 33 Cx.Nu fun v => rS v.d ∧ r64 v.c := by
 refine jdq Tryz.underlying33 (by kernel_rfl) fun cs hsz hf => ?_
 have hc : Tryz.prog.cellsOf 33 = 3 := by kernel_rfl
 have h3 : Tryz.prog.cellsOf 3 = 1 := by kernel_rfl
 have h4 : Tryz.prog.cellsOf 4 = 1 := by kernel_rfl
 have h9 : Tryz.prog.cellsOf 9 = 1 := by kernel_rfl
 rw [hc] at hsz
 obtain ⟨c0, c1, c2, rfl⟩ := array3 hsz
 ·obtain ⟨H, enc, w, base, spare, held, n, y, hv⟩ := hf 0 { name := "Neg", type := 4, offset := 0, embedded := false, tag := "", pkgPath := "", byteOffset := 0 } rfl
  obtain ⟨H, enc, w, base, spare, held, n, y, hs⟩ := hf 1 { name := "Digits", type := 9, offset := 1, embedded := false, tag := "", pkgPath := "", byteOffset := 8 } rfl
  obtain ⟨H, enc, w, base, spare, held, n, y, h0⟩ := hf 2 { name := "Scale", type := 3, offset := 2, embedded := false, tag := "", pkgPath := "", byteOffset := 24 } rfl
  obtain ⟨v, e3, _⟩ := DataW.trod_bool Tryz.underlying4 hv
  obtain ⟨s, e4, _, w4⟩ := DataW.trod_string Tryz.underlying9 hs
  obtain ⟨k, e0, _, w0⟩ := DataW.trod_int Tryz.underlying3 h0
  simp only [h3, h4, h9, List.drop_zero, List.drop_succ_cons, List.take_succ_cons, List.take_zero, List.cons.injEq, and_true] at e0 e3 e4
  exact ⟨⟨v, s, k⟩, by rw [e0, e3, e4]; rfl, Nat.le_trans w4 (by decide), r64_wf w0⟩
noncomputable def hAB (fn : Func) (s : ChangeSpec) (c : OpenClaim) : Bool := c.wf (OpenSpec.ofChange s) && fn.params.all (Tryz.prog.readableRec ·) && namedTie Tryz.prog c.named s.vars && (c.stops == []) && (c.knobs == [])
noncomputable def hRB (fn : Func) (s : ChangeSpec) (c : OpenClaim) : Bool := (c.maps == (fn.params.toList ++ s.plain.varTypes Tryz.prog).any (Tryz.prog.mapsRec ·)) && (c.ifaces == (fn.params.toList ++ s.plain.varTypes Tryz.prog).any (Tryz.prog.ifacesRec ·)) && (c.mapsOut == Tryz.prog.mapsAmong fn.resultTypes.toList) && (c.loops == (fn.params.toList ++ s.plain.varTypes Tryz.prog).any (Tryz.prog.loopsFrom ·))
noncomputable def hSB (fn : Func) (s : ChangeSpec) (c : OpenClaim) : Bool := (c.wideKeys == (fn.params.toList ++ s.plain.varTypes Tryz.prog ++ fn.resultTypes.toList).any (Tryz.prog.wideKeysFrom ·)) && s.vars.all (Tryz.prog.varReadable ·) && fn.resultTypes.all (fun t => Tryz.prog.readableRec t && decide (t < Tryz.prog.types.size)) && (c.ifacesOut == fn.resultTypes.toList.any (Tryz.prog.ifacesRec ·)) && (c.loopsOut == fn.resultTypes.toList.any (Tryz.prog.loopsFrom ·)) && c.shortTexts.isNone
noncomputable def hTB (fn : Func) (s : ChangeSpec) (c : OpenClaim) : Bool := (c.kinds == (if c.domain.isEmpty then [] else fn.params.toList.map fun t => match Tryz.prog.underlying t with | some (.int k) => some k | _ => none)) && (c.pinned == c.pinnedBy) && (c.veiled == (fn.params.toList ++ s.plain.varTypes Tryz.prog ++ fn.resultTypes.toList).any (Tryz.prog.veiledRec ·)) && c.veiledFits Tryz.prog fn.params.toList (fn.params.toList ++ s.plain.varTypes Tryz.prog ++ fn.resultTypes.toList)
set_option maxRecDepth 100000 in
theorem jf_mk {f : FuncId} {fn : Func} {s : ChangeSpec} {c : OpenClaim} (hA : hAB fn s c = true) (h1 : (c.inPlace == Tryz.prog.inPlace f) = true) (h2 : (c.unfollowed == Tryz.prog.unfollowed f) = true) (h3 : (c.recurses == Tryz.prog.recurses f) = true) (h4 : (c.named == Tryz.prog.varsNamed f) = true)
  (hR : hRB fn s c = true) (hS : hSB fn s c = true)
  (hk : (c.plainKeys == Tryz.prog.plainKeys) = true) (hl : (c.lifted == Tryz.prog.liftsFinal) = true) (hm : (Tryz.prog.make == some c.make) = true)
  (hT : hTB fn s c = true) : joinedFacts Tryz.prog f fn s c = true := by
 unfold joinedFacts
 simp only [hAB, hRB, hSB, hTB, jaf] at hA hR hS hT
 obtain ⟨⟨⟨⟨a1, a2⟩, a3⟩, a4⟩, a5⟩ := hA
 obtain ⟨⟨⟨r1, r2⟩, r3⟩, r4⟩ := hR
 obtain ⟨⟨⟨⟨⟨s1, s2⟩, s3⟩, s4⟩, s5⟩, s6⟩ := hS
 obtain ⟨⟨⟨t1, t2⟩, t3⟩, t4⟩ := hT
 rw [a1, a2, a3, a4, a5, h1, h2, h3, h4, r1, r2, r3, r4, s1, s2, s3, s4, s5, s6, t2, t3, t4, q_laid, q_maps, q_stop, q_knob, q_heard, q_enter, hk, hl, hm]
 simp only [Bool.true_and, Bool.and_true]
 exact t1
end Go.Px
end
section

end
