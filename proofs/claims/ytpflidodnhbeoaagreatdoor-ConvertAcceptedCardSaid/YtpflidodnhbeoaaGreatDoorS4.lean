/-
  The run and the laws that serve these rows (part 4)
-/
import Derived.Test.YtpflidodnhbeoaaGreatDoorS3
set_option linter.unusedVariables false
set_option linter.unusedSimpArgs false
noncomputable section
set_option maxHeartbeats 3200000
namespace Go.Cx
open Go Go.Ab Go.Proofs Go.Shelf Go.Px Go.Cv
open Go.Fx (Ty Vl check Valid most base pw bnd Fit fits tv vv tup V0 T0 resE isOp unary)
instance tabsU15 : Tabs := Cs.tabsC
theorem ex_rs (op : Int) (a b : Ty) : ∃ x : Ty × Int, x = (Fx.resT op a b, Fx.resE op a b) := ⟨_, rfl⟩
def rsO (op : Int) (a b : Ty) : Ty × Int := Classical.choose (ex_rs op a b)
theorem ex_ck (t : Ty) : ∃ x : Int, x = chk4 t := ⟨_, rfl⟩
def ckO (t : Ty) : Int := Classical.choose (ex_ck t)
def E9o : Env := (Env.nil.add 19 (sp1 (fun (t : Ty) => (true, B (decide ((t.s.size : Int) ≤ 200)))))).add 21 (sp1 (fun (t : Ty) => (decide (sz63 t), I (ckO t))))
def E9a : Env := Env.nil.addG 62 (inlQ Tryz.prog E9o noL Tryz.f62)
def E9b : Env := Env.nil.addG 107 (inlQ Tryz.prog E9a noL Tryz.f107)
def E9 : Env := ((((((Env.nil.add 18 (sp0 Cs.s18)).addG 62 (inlQ Tryz.prog E9o noL Tryz.f62)).addG 36 (inlQ Tryz.prog E9b noL Tryz.f36)).addG 44 hOps).addG 46 (inlQ Tryz.prog Env.nil noL Tryz.f46)).addG 63 h63).add 64 (sp3 (fun (op : Int) (a b : Ty) => (true, tup [tv (rsO op a b).1, I (rsO op a b).2])))
def E9x : Env := (Env.nil.add 18 (sp0 Cs.s18)).add 36 (fun _ _ => some (false, B false))
theorem fn17 : Fn1 Tryz.prog 17 Tryz.f17 := ⟨Tryz.func17, by kernel_rfl, by kernel_rfl, by kernel_rfl⟩
theorem fn62 : Fn1 Tryz.prog 62 Tryz.f62 := ⟨Tryz.func62, by kernel_rfl, by kernel_rfl, by kernel_rfl⟩
theorem rsO_eq (op : Int) (a b : Ty) : rsO op a b = (Fx.resT op a b, Fx.resE op a b) := Classical.choose_spec (ex_rs op a b)
theorem ckO_eq (t : Ty) : ckO t = chk4 t := Classical.choose_spec (ex_ck t)
theorem ck_ok : PureOK Tryz.prog 21 (sp1 (fun (t : Ty) => (decide (sz63 t), I (ckO t)))) := by
 have e : (fun (t : Ty) => (decide (sz63 t), I (ckO t))) = s21 := by funext t; simp only [s21, ckO_eq]; rfl
 rw [e]; exact Cs.pureC ok21
theorem rs_ok : PureOK Tryz.prog 64 (sp3 (fun (op : Int) (a b : Ty) => (true, tup [tv (rsO op a b).1, I (rsO op a b).2]))) := by
 have e : (fun (op : Int) (a b : Ty) => (true, tup [tv (rsO op a b).1, I (rsO op a b).2])) = Cz.s64 := by funext op a b; simp only [Cz.s64, rsO_eq]
 rw [e]; exact Cs.pureC Cz.ok64
theorem ok_E9o : EnvOK Tryz.prog E9o := env_add (env_add env_nil small_ok) ck_ok
theorem ok_E9a : EnvOK Tryz.prog E9a := env_addG env_nil (gen_inlQ ok_E9o hmix fn62 lokf_none)
theorem ok_E9b : EnvOK Tryz.prog E9b := env_addG env_nil (gen_inlQ ok_E9a hmix fn107 lokf_none)
theorem ok_E9 : EnvOK Tryz.prog E9 := env_add (env_addG (env_addG (env_addG (env_addG (env_addG (env_add env_nil Cs.okC18) (gen_inlQ ok_E9o hmix fn62 lokf_none)) (gen_inlQ ok_E9b hmix fn36 lokf_none)) gen44) (gen_inlQ env_nil hmix fn46 lokf_none)) gen63) rs_ok
theorem ok_E9x : EnvOK Tryz.prog E9x := env_add (env_add env_nil Cs.okC18) no36
theorem w17_n (op : Int) (R : Value → Prop) : (bodyQ Tryz.prog E9 noL Tryz.f17 [I op, .slice none 0 0] (fun _ => none) 2 (fun v _ _ => R v)) = ( R (B (0 == 0))) := by kernel_rfl
theorem w17_0 (op : Int) (cap : Nat) (R : Value → Prop) : (bodyQ Tryz.prog E9 noL Tryz.f17 [I op, .slice (some ⟨1, 0, some 1⟩) 0 cap] (vwT []) 2 (fun v _ _ => R v)) = ( R (B (0 == 0))) := by kernel_rfl
theorem w17_1 (op : Int) (a : Ty) (cap : Nat) (R : Value → Prop) : (bodyQ Tryz.prog E9 noL Tryz.f17 [I op, .slice (some ⟨1, 0, some 1⟩) 1 cap] (vwT [.int .i64 a.k, .int .i64 a.p, .int .i64 a.q, .bool a.v, .string a.s]) 2 (fun v _ _ => R v)) = ( bif !decide ((↑(ByteArray.size (Ty.s a)) : Int) ≤ 200) || decide (sz63 a) && true then bif !decide ((↑(ByteArray.size (Ty.s a)) : Int) ≤ 200) || ckO a != 0 then R (B true) else bif decide (sz63 a) && true then (Prod.fst (opx1 op a) ≠ 0 → ∀ (e : Int), Prod.fst (opx1 op a) = e → bif e != 0 then R (B (0 == 0)) else R (B false)) ∧ (Prod.fst (opx1 op a) = 0 → ∀ (u : Ty) (cap : Nat) (tail : List Value), Prod.snd (opx1 op a) = u → tailOK tail cap 1 5 = true → bif decide (sz63 u) && plainL tail then (Prod.fst (opx1 op u) ≠ 0 → ∀ (e : Int), Prod.fst (opx1 op u) = e → bif e != 0 then R (B false) else R (B false)) ∧ (Prod.fst (opx1 op u) = 0 → ∀ (u_1 : Ty) (cap : Nat) (tail_1 : List Value), Prod.snd (opx1 op u) = u_1 → tailOK tail_1 cap 1 5 = true → bif !eqT u u_1 then R (B false) else bif op == 14 then bif op == 17 && biT' u && plainL tail then ∀ (t : Ty), R (B (0 == 0)) else False else bif op == 15 then bif op == 17 && biT' u && plainL tail then ∀ (t : Ty), R (B (0 == 0)) else False else bif op == 16 then bif op == 17 && biT' u && plainL tail then ∀ (t : Ty), R (B (0 == 0)) else False else bif op == 17 then bif op == 17 && biT' u && plainL tail then ∀ (t : Ty), R (B (0 == 0)) else False else bif op == 18 then bif Ty.k u != Ty.k u || true then bif Ty.k u != Ty.k u || Ty.k u == 5 then R (B false) else R (B (0 == 0)) else False else R (B (Prod.snd (rsO op u u) == 0))) else False) else False else False) := by kernel_rfl
theorem w17_2 (op : Int) (a : Ty) (b : Ty) (cap : Nat) (R : Value → Prop) : (bodyQ Tryz.prog E9 noL Tryz.f17 [I op, .slice (some ⟨1, 0, some 1⟩) 2 cap] (vwT [.int .i64 a.k, .int .i64 a.p, .int .i64 a.q, .bool a.v, .string a.s, .int .i64 b.k, .int .i64 b.p, .int .i64 b.q, .bool b.v, .string b.s]) 2 (fun v _ _ => R v)) = ( bif !decide ((↑(ByteArray.size (Ty.s a)) : Int) ≤ 200) || decide (sz63 a) && true then bif !decide ((↑(ByteArray.size (Ty.s a)) : Int) ≤ 200) || ckO a != 0 then R (B true) else bif !decide ((↑(ByteArray.size (Ty.s b)) : Int) ≤ 200) || decide (sz63 b) && true then bif !decide ((↑(ByteArray.size (Ty.s b)) : Int) ≤ 200) || ckO b != 0 then R (B true) else bif decide (sz63 a) && (decide (sz63 b) && true) then (Prod.fst (opx2 op a b) ≠ 0 → ∀ (e : Int), Prod.fst (opx2 op a b) = e → bif e != 0 then R (B (0 == 0)) else R (B false)) ∧ (Prod.fst (opx2 op a b) = 0 → ∀ (u v : Ty) (cap : Nat) (tail : List Value), Prod.fst (Prod.snd (opx2 op a b)) = u → Prod.snd (Prod.snd (opx2 op a b)) = v → tailOK tail cap 2 5 = true → bif decide (sz63 u) && (decide (sz63 v) && plainL tail) then (Prod.fst (opx2 op u v) ≠ 0 → ∀ (e : Int), Prod.fst (opx2 op u v) = e → bif e != 0 then R (B false) else R (B false)) ∧ (Prod.fst (opx2 op u v) = 0 → ∀ (u_1 v_1 : Ty) (cap : Nat) (tail_1 : List Value), Prod.fst (Prod.snd (opx2 op u v)) = u_1 → Prod.snd (Prod.snd (opx2 op u v)) = v_1 → tailOK tail_1 cap 2 5 = true → bif !eqT u u_1 then R (B false) else bif !eqT v v_1 then R (B false) else bif op == 14 then bif okR2 op u v && plainL tail then ∀ (t : Ty), R (B (0 == 0)) else False else bif op == 15 then bif okR2 op u v && plainL tail then ∀ (t : Ty), R (B (0 == 0)) else False else bif op == 16 then bif okR2 op u v && plainL tail then ∀ (t : Ty), R (B (0 == 0)) else False else bif op == 17 then bif okR2 op u v && plainL tail then ∀ (t : Ty), R (B (0 == 0)) else False else bif op == 18 then bif Ty.k u != Ty.k v || true then bif Ty.k u != Ty.k v || Ty.k u == 5 then R (B false) else R (B (0 == 0)) else False else R (B (Prod.snd (rsO op u v) == 0))) else False) else False else False else False) := by kernel_rfl
theorem w17_x (op : Int) (len : Nat) (cap : Nat) (c : List Value) (R : Value → Prop) : (bodyQ Tryz.prog E9x noL Tryz.f17 [I op, .slice (some ⟨1, 0, some 1⟩) len cap] (vwT c) 2 (fun v _ _ => R v)) = ( bif decide (Int.ofNat len > 2) && true then bif decide (Int.ofNat len > 2) && true then R (B true) else False else False) := by kernel_rfl
theorem op1_sz {op : Int} {a : Ty} (h : sz63 a) : sz63 (op1 op a).2 := by
 unfold op1 opF
 repeat' split
 all_goals first | exact e0_sz | exact bit_sz | exact cha_sz h | exact ari_sz h
theorem bin_sz {a : Ty} (h : sz63 a) : sz63 (Fx.binT a) := by
 unfold Fx.binT
 repeat' split
 all_goals first | exact e0_sz | exact h
theorem opF_sz {op : Int} {n b : Bool} {a : Ty} (h : sz63 a) : sz63 (opF op n b a) := by
 unfold opF
 repeat' split
 all_goals first | exact bit_sz | exact cha_sz h | exact ari_sz h
theorem op2_sz {op : Int} {a b : Ty} (h : sz63 a) (h2 : sz63 b) : sz63 (op2 op a b).2.1 ∧ sz63 (op2 op a b).2.2 := by
 unfold op2 bo2
 repeat' split
 all_goals first | exact ⟨e0_sz, e0_sz⟩ | exact ⟨h, h2⟩ | exact ⟨opF_sz h, opF_sz h2⟩ | exact ⟨bin_sz (opF_sz h), bin_sz (opF_sz h2)⟩
theorem opx1_0 {op : Int} {a : Ty} (h : (opx1 op a).1 = 0) : cntO op = 1 ∧ opx1 op a = op1 op a := by
 unfold opx1 at *
 split at h
 ·rename_i hc; exact ⟨hc, if_pos hc⟩
 ·cases h
theorem opx2_0 {op : Int} {a b : Ty} (h : (opx2 op a b).1 = 0) : cntO op = 2 ∧ opx2 op a b = op2 op a b := by
 unfold opx2 at *
 split at h
 ·rename_i hc; exact ⟨hc, if_pos hc⟩
 ·cases h
theorem tail_plain {tail : List Value} {cap n w : Nat} (h : tailOK tail cap n w = true) : plainL tail = true := by
 unfold tailOK at h
 simp only [Bool.and_eq_true] at h
 exact h.1.1.1
section
variable {op : Int} {a b : Ty} {cap : Nat}
theorem q17_n : bodyQ Tryz.prog E9 noL Tryz.f17 [I op, .slice none 0 0] (fun _ => none) 2 (fun v _ _ => v = B true) := by
 rw [w17_n _ (fun v => v = B true)]
 rfl
theorem q17_0 : bodyQ Tryz.prog E9 noL Tryz.f17 [I op, .slice (some ⟨1, 0, some 1⟩) 0 cap] (vwT []) 2 (fun v _ _ => v = B true) := by
 rw [w17_0 _ _ (fun v => v = B true)]
 rfl
theorem q17_1 (ha : sz63 a) : bodyQ Tryz.prog E9 noL Tryz.f17 [I op, .slice (some ⟨1, 0, some 1⟩) 1 cap] (vwT [.int .i64 a.k, .int .i64 a.p, .int .i64 a.q, .bool a.v, .string a.s]) 2 (fun v _ _ => v = B true) := by
 rw [w17_1 _ _ _ (fun v => v = B true)]
 refine c_t (by rw [decide_eq_true ha]; simp) (cond_intro (fun _ => rfl) fun _ => c_t (by rw [decide_eq_true ha]; rfl) ⟨fun h e he => ?_, fun h u cap tail hu ht => ?_⟩)
 ·rw [← he]
  exact c_t (by simpa using h) rfl
 ·obtain ⟨hc, e⟩ := opx1_0 h
  have hsz := op1_sz (op := op) ha
  rw [← e, hu] at hsz
  have e1 : op1 op a = (0, u) := by rw [← e]; exact Prod.ext h hu
  obtain ⟨e2, b17, v5⟩ := op1_id hc e1
  have e3 : opx1 op u = (0, u) := by unfold opx1; rw [if_pos hc]; exact e2
  have hp := tail_plain ht
  rw [e3, decide_eq_true hsz, hp]
  refine c_t rfl ⟨fun h => absurd rfl h, fun _ u1 _ _ hu1 _ => ?_⟩
  have hu1 : u = u1 := hu1
  rw [← hu1]
  refine c_f (by simp [eqT_refl]) ?_
  have hop := cn1 hc
  refine cond_intro (fun q => absurd (nn q) (by omega)) fun _ => cond_intro (fun q => absurd (nn q) (by omega)) fun _ => cond_intro (fun q => absurd (nn q) (by omega)) fun _ => cond_intro (fun q => ?_) fun q17 => cond_intro (fun q => absurd (nn q) (by omega)) fun _ => ?_
  ·have q' := nn q
   rw [q, b17 q']
   exact c_t rfl fun _ => rfl
  ·have q17 : op ≠ 17 := by simpa using q17
   have v := v5 (by omega)
   rw [rsO_eq, res_ok (by omega) v v rfl]
   rfl
theorem q17_2 (ha : sz63 a) (hb : sz63 b) : bodyQ Tryz.prog E9 noL Tryz.f17 [I op, .slice (some ⟨1, 0, some 1⟩) 2 cap] (vwT [.int .i64 a.k, .int .i64 a.p, .int .i64 a.q, .bool a.v, .string a.s, .int .i64 b.k, .int .i64 b.p, .int .i64 b.q, .bool b.v, .string b.s]) 2 (fun v _ _ => v = B true) := by
 rw [w17_2 _ _ _ _ (fun v => v = B true)]
 refine c_t (by rw [decide_eq_true ha]; simp) (cond_intro (fun _ => rfl) fun _ => c_t (by rw [decide_eq_true hb]; simp) (cond_intro (fun _ => rfl) fun _ => c_t (by rw [decide_eq_true ha, decide_eq_true hb]; rfl) ⟨fun h e he => ?_, fun h u v cap tail hu hv ht => ?_⟩))
 ·rw [← he]
  exact c_t (by simpa using h) rfl
 ·obtain ⟨hc, e⟩ := opx2_0 h
  have hsz := op2_sz (op := op) ha hb
  rw [← e, hu, hv] at hsz
  have e1 : op2 op a b = (0, u, v) := by rw [← e]; exact Prod.ext h (Prod.ext hu hv)
  obtain ⟨e2, hk, k5, okr, vv⟩ := op2_id hc e1
  have e3 : opx2 op u v = (0, u, v) := by unfold opx2; rw [if_pos hc]; exact e2
  have hp := tail_plain ht
  rw [e3, decide_eq_true hsz.1, decide_eq_true hsz.2, hp]
  refine c_t rfl ⟨fun h => absurd rfl h, fun _ u1 v1 _ _ hu1 hv1 _ => ?_⟩
  have hu1 : u = u1 := hu1
  have hv1 : v = v1 := hv1
  rw [← hu1, ← hv1]
  refine c_f (by simp [eqT_refl]) (c_f (by simp [eqT_refl]) ?_)
  have hop := cn2 hc
  refine cond_intro (fun q => ?_) fun q14 => cond_intro (fun q => ?_) fun q15 => cond_intro (fun q => ?_) fun q16 => cond_intro (fun q => absurd (nn q) (by omega)) fun _ => cond_intro (fun q => ?_) fun q18 => ?_
  ·rw [okr (.inl (nn q))]
   exact c_t rfl fun _ => rfl
  ·rw [okr (.inr (.inl (nn q)))]
   exact c_t rfl fun _ => rfl
  ·rw [okr (.inr (.inr (nn q)))]
   exact c_t rfl fun _ => rfl
  ·exact c_t (Bool.or_true _) (c_f (by simp [hk]; omega) rfl)
  ·have q14 : op ≠ 14 := by simpa using q14
   have q15 : op ≠ 15 := by simpa using q15
   have q16 : op ≠ 16 := by simpa using q16
   have q18 : op ≠ 18 := by simpa using q18
   obtain ⟨v1, v2⟩ := vv (by omega)
   rw [rsO_eq, res_ok (by omega) v1 v2 hk]
   rfl
theorem q17_x {len : Nat} {c : List Value} (h : 2 < len) : bodyQ Tryz.prog E9x noL Tryz.f17 [I op, .slice (some ⟨1, 0, some 1⟩) len cap] (vwT c) 2 (fun v _ _ => v = B true) := by
 rw [w17_x _ _ _ _ (fun v => v = B true)]
 have e : decide (Int.ofNat len > 2) = true := decide_eq_true (by show (2 : Int) < (len : Int); omega)
 rw [e]
 exact c_t rfl (c_t rfl rfl)
end
end Go.Cx
end
noncomputable section
namespace Go.Px
open Go Go.Ab Go.Proofs Go.Shelf Go.Cx Go.RowKit
section
variable {W : World}
theorem at17 {G : Env} (hG : @EnvOK Cs.tabsC Tryz.prog G) (ht : @TabsIn tabs W.heap.size W) (op : Int) {b off n cap : Nat} {c : List Value} (hb : b < W.heap.size) (hc : ∀ i x, c[i]? = some x → W.cell? ⟨b, off + i, none⟩ = some x ∧ plain x = true)
  (h : @bodyQ Cs.tabsC Tryz.prog G noL Tryz.f17 [I op, .slice (some ⟨1, 0, some 1⟩) n cap] (vwT c) 2 (fun v _ _ => v = B true)) :
  Calls Tryz.prog 17 [I op, .slice (some ⟨b, off, none⟩) n cap].toArray W fun e w' => e = .returned (.bool true) ∧ Below W.heap.size W w' := by
 have q := @calls_top Cs.tabsC Tryz.prog G noL 17 Tryz.f17 hG hmix fn17 lokf_none [I op, .slice (some ⟨1, 0, some 1⟩) n cap] (vwT c) (B true) (Nat.le_of_ble_eq_true (by kernel_rfl)) (by rw [DoesT]; exact h) rfl W (fun _ => (b, off)) (tabsC_of ht) (vwT_lk hb hc)
  (fun v hv j hj => by simp only [List.mem_cons, List.not_mem_nil, or_false] at hv; rcases hv with rfl | rfl <;> first | (rw [ids_I] at hj; cases hj) | (rw [ids_tv] at hj; cases hj) | (simp [ids] at hj; omega))
 have e : ([I op, .slice (some ⟨1, 0, some 1⟩) n cap].map (ren fun _ => (b, off))).toArray = [I op, .slice (some ⟨b, off, none⟩) n cap].toArray := by
  simp only [List.map_cons, List.map_nil, ren_I]
  simp [ren, ren1]
 rw [e] at q
 exact q
theorem key17 (ht : @TabsIn tabs W.heap.size W) (op : Int) {v : Value} (hv : v = .slice none 0 0 ∨ ∃ (b off n cap : Nat) (T : Nat → Fx.Ty), v = .slice (some ⟨b, off, none⟩) n cap ∧ b < W.heap.size ∧ n ≤ 9223372036854775807 ∧ (∀ i, i < n → okT (T i)) ∧ ∀ i x, (tcN T 0 n)[i]? = some x → W.cell? ⟨b, off + i, none⟩ = some x ∧ plain x = true) :
  Calls Tryz.prog 17 [I op, v].toArray W fun e w' => e = .returned (.bool true) ∧ Below W.heap.size W w' := by
 rcases hv with rfl | ⟨b, off, n, cap, T, rfl, hb, hn, hT, hcell⟩
 ·have q := @calls_top Cs.tabsC Tryz.prog E9 noL 17 Tryz.f17 ok_E9 hmix fn17 lokf_none [I op, .slice none 0 0] (fun _ => none) (B true) (Nat.le_of_ble_eq_true (by kernel_rfl)) (by rw [DoesT]; with_reducible exact q17_n) rfl W (fun _ => (0, 0)) (tabsC_of ht) (fun _ _ h => by cases h)
   (fun v hv j hj => by simp only [List.mem_cons, List.not_mem_nil, or_false] at hv; rcases hv with rfl | rfl <;> first | (rw [ids_I] at hj; cases hj) | (rw [ids_tv] at hj; cases hj) | (simp [ids] at hj))
  have e : ([I op, .slice none 0 0].map (ren fun _ => (0, 0))).toArray = [I op, .slice none 0 0].toArray := by
   simp only [List.map_cons, List.map_nil, ren_I]
   simp [ren]
  rw [e] at q
  exact q
 ·by_cases h0 : n = 0
  ·subst h0
   have e : tcN T 0 0 = [] := rfl
   rw [e] at hcell
   refine at17 ok_E9 ht op hb hcell ?_
   with_reducible exact q17_0
  by_cases h1 : n = 1
  ·subst h1
   have e : tcN T 0 1 = [.int .i64 (T 0).k, .int .i64 (T 0).p, .int .i64 (T 0).q, .bool (T 0).v, .string (T 0).s] := rfl
   rw [e] at hcell
   refine at17 ok_E9 ht op hb hcell ?_
   with_reducible exact q17_1 (rsz (hT 0 (by omega)))
  by_cases h2 : n = 2
  ·subst h2
   have e : tcN T 0 2 = [.int .i64 (T 0).k, .int .i64 (T 0).p, .int .i64 (T 0).q, .bool (T 0).v, .string (T 0).s, .int .i64 (T 1).k, .int .i64 (T 1).p, .int .i64 (T 1).q, .bool (T 1).v, .string (T 1).s] := rfl
   rw [e] at hcell
   refine at17 ok_E9 ht op hb hcell ?_
   with_reducible exact q17_2 (rsz (hT 0 (by omega))) (rsz (hT 1 (by omega)))
  refine at17 ok_E9x ht op hb hcell ?_
  with_reducible exact q17_x (by omega)
end
end Go.Px
end
section

end
