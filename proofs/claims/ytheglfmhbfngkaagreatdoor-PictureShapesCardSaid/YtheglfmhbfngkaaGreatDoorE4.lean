/-
  The walks of the picture functions and their plain laws, in parts. (part 4)
-/
import Derived.Test.YtheglfmhbfngkaaGreatDoorE3
set_option linter.unusedVariables false
set_option linter.unusedSimpArgs false
noncomputable section
set_option maxHeartbeats 3200000
namespace Go.Px
open Go Go.Ab Go.Proofs Go.Shelf
def vwN (p : List Value) : Lk := fun j => match Nat.beq j 0 with | true => some ⟨p, 109, false⟩ | false => none
theorem sub_N {m : Lk} {a x : Nat} {nu : ByteArray} {mi : Bool} {us at0 ld : Int} {own : Bool} (hp : m a = some ⟨pnL x nu mi us at0 ld, 109, own⟩) : SubM m (rho2 a x) (vwN (pnL 1 nu mi us at0 ld)) 2 := by
 have hget : ∀ j b, vwN (pnL 1 nu mi us at0 ld) j = some b → j = 0 ∧ b = ⟨pnL 1 nu mi us at0 ld, 109, false⟩ := fun j b h => by
  simp only [vwN] at h
  split at h
  ·rename_i h0; cases h; exact ⟨Nat.eq_of_beq_eq_true h0, rfl⟩
  ·cases h
 refine ⟨fun j b h => ?_, fun j b h => ?_⟩
 ·obtain ⟨rfl, rfl⟩ := hget j b h
  refine ⟨by omega, fun i hi => ?_⟩
  have : i = 1 := by simpa [pnL, idsL, ids] using hi
  omega
 ·obtain ⟨rfl, rfl⟩ := hget j b h
  refine ⟨rfl, ⟨pnL x nu mi us at0 ld, 109, own⟩, ?_, fun ι => ?_⟩
  ·show noIt (m a) = _
   rw [hp]
   simp only [noIt]
   have : (own && Nat.beq 109 itTy) = false := by cases own <;> rfl
   rw [this]
  ·simp [pnL, ren, ren1, rho2]
def sgC (c : Int) (m : Bool) : Int := bif c == 83 && m then 45 else bif c == 83 then 43 else bif (c == 43) == m then 32 else c
theorem v94 (nu : ByteArray) (mi : Bool) (us : Int) (at0 : Int) (ld : Int) (c : Int) (R : Value → Prop) : (bodyQ Tryz.prog G33 noL Tryz.f94 [.pointer (some ⟨0, 0, some 0⟩), .int .u8 c] (vwN (pnL 1 nu mi us at0 ld)) 2 (fun v _ _ => R v)) = ( bif c == 83 || true then bif c == 83 && mi then R (.int .u8 45) else bif c == 83 then R (.int .u8 43) else bif (c == 43) == mi then R (.int .u8 32) else R (.int .u8 c) else False) := by kernel_rfl
def h94 : List Value → Lk → Nat → (Value → Lk → Nat → Prop) → Prop := fun args m n K => match args with
 | [.pointer (some ⟨a, 0, some 0⟩), .int .u8 c] => match m a with
  | some ⟨[.pointer (some ⟨x, 0, some 0⟩), .string nu, .bool mi, .int .i64 us, .int .i64 at0, .int .i64 ld], 109, own⟩ => ∀ e, sgC c mi = e → K (.int .u8 e) m n
  | _ => False
 | _ => False
def h90h : List Value → Lk → Nat → (Value → Lk → Nat → Prop) → Prop := fun args m n K => h90 args m n fun v m' n' => match v with
 | .int .i64 x => ∀ e, x = e → K (.int .i64 e) m' n'
 | _ => False
def G36 : Env := (G35.addG 90 h90h).addG 94 h94
theorem w94 (nu : ByteArray) (mi : Bool) (us at0 ld c : Int) {R : Value → Prop} (h : R (.int .u8 (sgC c mi))) : DoesM Tryz.prog G33 noL Tryz.f94 [.pointer (some ⟨0, 0, some 0⟩), .int .u8 c] (vwN (pnL 1 nu mi us at0 ld)) 2 (fun v _ _ => R v) := by
 rw [DoesM, v94]
 rw [sgC] at h
 refine c_t (by simp) (cond_intro (fun q => ?_) (fun q => cond_intro (fun q2 => ?_) (fun q2 => cond_intro (fun q3 => ?_) (fun q3 => ?_))))
 ·rw [q] at h; exact h
 ·rw [q, q2] at h; exact h
 ·rw [q, q2, q3] at h; exact h
 ·rw [q, q2, q3] at h; exact h
theorem h94_ok : GenOK Tryz.prog 94 h94 := by
 refine gen_sub ok_G33 hmix fn94 lokf_none fun args m n K h => ?_
 unfold h94 at h
 split at h
 case h_2 => exact h.elim
 rename_i a c
 split at h
 case h_2 => exact h.elim
 rename_i x nu mi us at0 ld own hm
 refine ⟨[.pointer (some ⟨0, 0, some 0⟩), .int .u8 c], _, 2, rho2 a x, .int .u8 (sgC c mi), sub_N hm, fun ι => by simp [ren, ren1, rho2], Nat.le_of_ble_eq_true (by kernel_rfl), fun v hv j hj => ?_, rfl, w94 nu mi us at0 ld c (R := fun v => v = .int .u8 (sgC c mi)) rfl, h _ rfl⟩
 simp at hv
 rcases hv with rfl | rfl
 ·have : j = 0 := by simpa [ids] using hj
  omega
 ·simp [ids] at hj
theorem gen_imp {P : Program} {f : FuncId} {h h' : List Value → Lk → Nat → (Value → Lk → Nat → Prop) → Prop} (hh : ∀ args m n K, h' args m n K → h args m n K) (hg : GenOK P f h) : GenOK P f h' :=
 ⟨hg.1, fun args m n K hk => hg.2 args m n K (hh args m n K hk)⟩
theorem h90h_ok : GenOK Tryz.prog 90 h90h := by
 refine gen_imp (fun args m n K h => ?_) h90_ok
 unfold h90h h90 at h
 unfold h90
 split at h
 case h_2 => exact h.elim
 split at h
 case h_2 => exact h.elim
 split at h
 case h_2 => exact h.elim
 split at h
 case h_2 => exact h.elim
 split at h
 case h_2 => exact h.elim
 rename_i hm _ _ _ _ _ _ _ _ _ _ _ _ _ _ _ _ _ hx _ _ hy hc
 simp only [*]
theorem ok_G36 : EnvOK Tryz.prog G36 := env_addG (env_addG ok_G35 h90h_ok) h94_ok
theorem lok64 : LOKf Tryz.prog (oneL 0 S64_0.hA) Tryz.f64 := l64_0
theorem v64 (s : ByteArray) (nb : Bool) (w : Int) (dg : Int) (sc : Int) (sg : Bool) (k : Nat) (cap : Nat) (dr : Int) (f : Int) (cr : Bool) (fl : Int) (fm : Int) (nu : ByteArray) (mi : Bool) (d : List Value) (R : Value → Prop) : (bodyQ Tryz.prog G36 (oneL 0 S64_0.hA) Tryz.f64 [.pointer (some ⟨0, 0, some 0⟩), .string nu, .bool mi] (vwF2 (fmL s nb w dg sc sg 1 k cap dr f cr fl fm) d) 2 (fun v _ _ => R v)) = ( bif rowIOK d k cap && decide (k ≤ 1000 ∧ ByteArray.size nu ≤ 1000 ∧ cn1 (zc d k) ≤ (↑(ByteArray.size nu) : Int)) then ∀ (e : Int), enV (bz nu) fm (zc d k) = e → bif decide (e < 0) then bif decide (0 ≤ w ∧ w ≤ 1000 ∧ ByteArray.size (Utf8.encode fl) ≤ 1000) then R (.tuple (.mk [.string (sz (repZ (bz (Utf8.encode fl)) (Int.toNat w))), .int .i64 w])) else False else bif goodL [] d && true && true && (idsLt 210 (rlbL [] d) && true) then bif LSpec.pre (LSpecA.toLSpec S64_0) (mi, ByteArray.mk #[], 0, Rw.nil, k, cap, natO k, 0, s, nb, w, dg, sc, sg, k, cap, dr, f, cr, fl, fm, nu, mi, 0, 0, e, rlbL [] d) then (Rw.is Rw.nil = false → wrGo f cr (↑(ByteArray.size s) : Int) mi e fl (List.drop (Int.toNat 0) (zc (rlbL [] d) k)) (List.drop (Int.toNat 0) (bz s)) (List.drop (Int.toNat 0) (bz nu)) 0 0 = [] → ∀ (us' at' i' : Int), bif idsLt 210 (rlbL [] d) && true then ∀ (x : Tmps), bif dr == 36 || true then bif dr == 36 && decide (e > 0) then False else bif dr != 0 || true then bif dr != 0 && decide (e > 0) then ((((((∀ (e : Int), sgC dr mi = e → False) ∧ ∀ (e : Int), sgC dr mi = e → False) ∧ ∀ (e : Int), sgC dr mi = e → False) ∧ ∀ (e : Int), sgC dr mi = e → False) ∧ ∀ (e : Int), sgC dr mi = e → False) ∧ ∀ (e : Int), sgC dr mi = e → False) ∧ ((((((∀ (e : Int), sgC dr mi = e → False) ∧ ∀ (e : Int), sgC dr mi = e → False) ∧ ∀ (e : Int), sgC dr mi = e → False) ∧ ∀ (e : Int), sgC dr mi = e → False) ∧ ∀ (e : Int), sgC dr mi = e → False) ∧ (((((∀ (e : Int), sgC dr mi = e → False) ∧ ∀ (e : Int), sgC dr mi = e → False) ∧ ∀ (e : Int), sgC dr mi = e → False) ∧ ∀ (e : Int), sgC dr mi = e → False) ∧ ((((∀ (e : Int), sgC dr mi = e → False) ∧ ∀ (e : Int), sgC dr mi = e → False) ∧ ∀ (e : Int), sgC dr mi = e → False) ∧ (((∀ (e : Int), sgC dr mi = e → False) ∧ ∀ (e : Int), sgC dr mi = e → False) ∧ ((∀ (e : Int), sgC dr mi = e → False) ∧ ∀ (e : Int), sgC dr mi = e → False) ∧ ∀ (e : Int), sgC dr mi = e → False) ∧ ∀ (e : Int), sgC dr mi = e → False) ∧ ∀ (e : Int), sgC dr mi = e → False) ∧ ∀ (e : Int), sgC dr mi = e → False) ∧ ∀ (e : Int), sgC dr mi = e → False else R (.tuple (.mk [.string ByteArray.empty, .int .i64 e])) else False else False else False) ∧ ∀ (us' at' i' : Int) (od' : List Value) (om' oc' : Nat), rowOK od' om' oc' = true → zc od' om' = Rw.z Rw.nil ++ wrGo f cr (↑(ByteArray.size s) : Int) mi e fl (List.drop (Int.toNat 0) (zc (rlbL [] d) k)) (List.drop (Int.toNat 0) (bz s)) (List.drop (Int.toNat 0) (bz nu)) 0 0 → bif idsLt 210 (rlbL [] d) && (idsLt 210 od' && true) then ∀ (x : Tmps), bif dr == 36 || true then bif dr == 36 && decide (e > 0) then bif decide (0 ≤ IntKind.wrap .i64 (e - 1) ∧ IntKind.wrap .i64 (e - 1) < (↑om' : Int)) then bif Nat.ble (0 + Int.toNat (IntKind.wrap .i64 (e - 1)) * 1 + 1) (List.length od') then bif bytesOK (setL od' (0 + Int.toNat (IntKind.wrap .i64 (e - 1)) * 1) [.int .u8 36]) 0 om' then R (.tuple (.mk [.string (bytesOf (setL od' (0 + Int.toNat (IntKind.wrap .i64 (e - 1)) * 1) [.int .u8 36]) 0 om'), .int .i64 e])) else False else False else False else bif dr != 0 || true then bif dr != 0 && decide (e > 0) then ((((((∀ (e_1 : Int), sgC dr mi = e_1 → bif decide (0 ≤ IntKind.wrap .i64 (e - 1) ∧ IntKind.wrap .i64 (e - 1) < (↑om' : Int)) then bif Nat.ble (0 + Int.toNat (IntKind.wrap .i64 (e - 1)) * 1 + 1) (List.length od') then bif bytesOK (setL od' (0 + Int.toNat (IntKind.wrap .i64 (e - 1)) * 1) [.int .u8 e_1]) 0 om' then R (.tuple (.mk [.string (bytesOf (setL od' (0 + Int.toNat (IntKind.wrap .i64 (e - 1)) * 1) [.int .u8 e_1]) 0 om'), .int .i64 e])) else False else False else False) ∧ ∀ (e_1 : Int), sgC dr mi = e_1 → bif decide (0 ≤ IntKind.wrap .i64 (e - 1) ∧ IntKind.wrap .i64 (e - 1) < (↑om' : Int)) then bif Nat.ble (0 + Int.toNat (IntKind.wrap .i64 (e - 1)) * 1 + 1) (List.length od') then bif bytesOK (setL od' (0 + Int.toNat (IntKind.wrap .i64 (e - 1)) * 1) [.int .u8 e_1]) 0 om' then R (.tuple (.mk [.string (bytesOf (setL od' (0 + Int.toNat (IntKind.wrap .i64 (e - 1)) * 1) [.int .u8 e_1]) 0 om'), .int .i64 e])) else False else False else False) ∧ ∀ (e_1 : Int), sgC dr mi = e_1 → bif decide (0 ≤ IntKind.wrap .i64 (e - 1) ∧ IntKind.wrap .i64 (e - 1) < (↑om' : Int)) then bif Nat.ble (0 + Int.toNat (IntKind.wrap .i64 (e - 1)) * 1 + 1) (List.length od') then bif bytesOK (setL od' (0 + Int.toNat (IntKind.wrap .i64 (e - 1)) * 1) [.int .u8 e_1]) 0 om' then R (.tuple (.mk [.string (bytesOf (setL od' (0 + Int.toNat (IntKind.wrap .i64 (e - 1)) * 1) [.int .u8 e_1]) 0 om'), .int .i64 e])) else False else False else False) ∧ ∀ (e_1 : Int), sgC dr mi = e_1 → bif decide (0 ≤ IntKind.wrap .i64 (e - 1) ∧ IntKind.wrap .i64 (e - 1) < (↑om' : Int)) then bif Nat.ble (0 + Int.toNat (IntKind.wrap .i64 (e - 1)) * 1 + 1) (List.length od') then bif bytesOK (setL od' (0 + Int.toNat (IntKind.wrap .i64 (e - 1)) * 1) [.int .u8 e_1]) 0 om' then R (.tuple (.mk [.string (bytesOf (setL od' (0 + Int.toNat (IntKind.wrap .i64 (e - 1)) * 1) [.int .u8 e_1]) 0 om'), .int .i64 e])) else False else False else False) ∧ ∀ (e_1 : Int), sgC dr mi = e_1 → bif decide (0 ≤ IntKind.wrap .i64 (e - 1) ∧ IntKind.wrap .i64 (e - 1) < (↑om' : Int)) then bif Nat.ble (0 + Int.toNat (IntKind.wrap .i64 (e - 1)) * 1 + 1) (List.length od') then bif bytesOK (setL od' (0 + Int.toNat (IntKind.wrap .i64 (e - 1)) * 1) [.int .u8 e_1]) 0 om' then R (.tuple (.mk [.string (bytesOf (setL od' (0 + Int.toNat (IntKind.wrap .i64 (e - 1)) * 1) [.int .u8 e_1]) 0 om'), .int .i64 e])) else False else False else False) ∧ ∀ (e_1 : Int), sgC dr mi = e_1 → bif decide (0 ≤ IntKind.wrap .i64 (e - 1) ∧ IntKind.wrap .i64 (e - 1) < (↑om' : Int)) then bif Nat.ble (0 + Int.toNat (IntKind.wrap .i64 (e - 1)) * 1 + 1) (List.length od') then bif bytesOK (setL od' (0 + Int.toNat (IntKind.wrap .i64 (e - 1)) * 1) [.int .u8 e_1]) 0 om' then R (.tuple (.mk [.string (bytesOf (setL od' (0 + Int.toNat (IntKind.wrap .i64 (e - 1)) * 1) [.int .u8 e_1]) 0 om'), .int .i64 e])) else False else False else False) ∧ ((((((∀ (e_1 : Int), sgC dr mi = e_1 → bif decide (0 ≤ IntKind.wrap .i64 (e - 1) ∧ IntKind.wrap .i64 (e - 1) < (↑om' : Int)) then bif Nat.ble (0 + Int.toNat (IntKind.wrap .i64 (e - 1)) * 1 + 1) (List.length od') then bif bytesOK (setL od' (0 + Int.toNat (IntKind.wrap .i64 (e - 1)) * 1) [.int .u8 e_1]) 0 om' then R (.tuple (.mk [.string (bytesOf (setL od' (0 + Int.toNat (IntKind.wrap .i64 (e - 1)) * 1) [.int .u8 e_1]) 0 om'), .int .i64 e])) else False else False else False) ∧ ∀ (e_1 : Int), sgC dr mi = e_1 → bif decide (0 ≤ IntKind.wrap .i64 (e - 1) ∧ IntKind.wrap .i64 (e - 1) < (↑om' : Int)) then bif Nat.ble (0 + Int.toNat (IntKind.wrap .i64 (e - 1)) * 1 + 1) (List.length od') then bif bytesOK (setL od' (0 + Int.toNat (IntKind.wrap .i64 (e - 1)) * 1) [.int .u8 e_1]) 0 om' then R (.tuple (.mk [.string (bytesOf (setL od' (0 + Int.toNat (IntKind.wrap .i64 (e - 1)) * 1) [.int .u8 e_1]) 0 om'), .int .i64 e])) else False else False else False) ∧ ∀ (e_1 : Int), sgC dr mi = e_1 → bif decide (0 ≤ IntKind.wrap .i64 (e - 1) ∧ IntKind.wrap .i64 (e - 1) < (↑om' : Int)) then bif Nat.ble (0 + Int.toNat (IntKind.wrap .i64 (e - 1)) * 1 + 1) (List.length od') then bif bytesOK (setL od' (0 + Int.toNat (IntKind.wrap .i64 (e - 1)) * 1) [.int .u8 e_1]) 0 om' then R (.tuple (.mk [.string (bytesOf (setL od' (0 + Int.toNat (IntKind.wrap .i64 (e - 1)) * 1) [.int .u8 e_1]) 0 om'), .int .i64 e])) else False else False else False) ∧ ∀ (e_1 : Int), sgC dr mi = e_1 → bif decide (0 ≤ IntKind.wrap .i64 (e - 1) ∧ IntKind.wrap .i64 (e - 1) < (↑om' : Int)) then bif Nat.ble (0 + Int.toNat (IntKind.wrap .i64 (e - 1)) * 1 + 1) (List.length od') then bif bytesOK (setL od' (0 + Int.toNat (IntKind.wrap .i64 (e - 1)) * 1) [.int .u8 e_1]) 0 om' then R (.tuple (.mk [.string (bytesOf (setL od' (0 + Int.toNat (IntKind.wrap .i64 (e - 1)) * 1) [.int .u8 e_1]) 0 om'), .int .i64 e])) else False else False else False) ∧ ∀ (e_1 : Int), sgC dr mi = e_1 → bif decide (0 ≤ IntKind.wrap .i64 (e - 1) ∧ IntKind.wrap .i64 (e - 1) < (↑om' : Int)) then bif Nat.ble (0 + Int.toNat (IntKind.wrap .i64 (e - 1)) * 1 + 1) (List.length od') then bif bytesOK (setL od' (0 + Int.toNat (IntKind.wrap .i64 (e - 1)) * 1) [.int .u8 e_1]) 0 om' then R (.tuple (.mk [.string (bytesOf (setL od' (0 + Int.toNat (IntKind.wrap .i64 (e - 1)) * 1) [.int .u8 e_1]) 0 om'), .int .i64 e])) else False else False else False) ∧ (((((∀ (e_1 : Int), sgC dr mi = e_1 → bif decide (0 ≤ IntKind.wrap .i64 (e - 1) ∧ IntKind.wrap .i64 (e - 1) < (↑om' : Int)) then bif Nat.ble (0 + Int.toNat (IntKind.wrap .i64 (e - 1)) * 1 + 1) (List.length od') then bif bytesOK (setL od' (0 + Int.toNat (IntKind.wrap .i64 (e - 1)) * 1) [.int .u8 e_1]) 0 om' then R (.tuple (.mk [.string (bytesOf (setL od' (0 + Int.toNat (IntKind.wrap .i64 (e - 1)) * 1) [.int .u8 e_1]) 0 om'), .int .i64 e])) else False else False else False) ∧ ∀ (e_1 : Int), sgC dr mi = e_1 → bif decide (0 ≤ IntKind.wrap .i64 (e - 1) ∧ IntKind.wrap .i64 (e - 1) < (↑om' : Int)) then bif Nat.ble (0 + Int.toNat (IntKind.wrap .i64 (e - 1)) * 1 + 1) (List.length od') then bif bytesOK (setL od' (0 + Int.toNat (IntKind.wrap .i64 (e - 1)) * 1) [.int .u8 e_1]) 0 om' then R (.tuple (.mk [.string (bytesOf (setL od' (0 + Int.toNat (IntKind.wrap .i64 (e - 1)) * 1) [.int .u8 e_1]) 0 om'), .int .i64 e])) else False else False else False) ∧ ∀ (e_1 : Int), sgC dr mi = e_1 → bif decide (0 ≤ IntKind.wrap .i64 (e - 1) ∧ IntKind.wrap .i64 (e - 1) < (↑om' : Int)) then bif Nat.ble (0 + Int.toNat (IntKind.wrap .i64 (e - 1)) * 1 + 1) (List.length od') then bif bytesOK (setL od' (0 + Int.toNat (IntKind.wrap .i64 (e - 1)) * 1) [.int .u8 e_1]) 0 om' then R (.tuple (.mk [.string (bytesOf (setL od' (0 + Int.toNat (IntKind.wrap .i64 (e - 1)) * 1) [.int .u8 e_1]) 0 om'), .int .i64 e])) else False else False else False) ∧ ∀ (e_1 : Int), sgC dr mi = e_1 → bif decide (0 ≤ IntKind.wrap .i64 (e - 1) ∧ IntKind.wrap .i64 (e - 1) < (↑om' : Int)) then bif Nat.ble (0 + Int.toNat (IntKind.wrap .i64 (e - 1)) * 1 + 1) (List.length od') then bif bytesOK (setL od' (0 + Int.toNat (IntKind.wrap .i64 (e - 1)) * 1) [.int .u8 e_1]) 0 om' then R (.tuple (.mk [.string (bytesOf (setL od' (0 + Int.toNat (IntKind.wrap .i64 (e - 1)) * 1) [.int .u8 e_1]) 0 om'), .int .i64 e])) else False else False else False) ∧ ((((∀ (e_1 : Int), sgC dr mi = e_1 → bif decide (0 ≤ IntKind.wrap .i64 (e - 1) ∧ IntKind.wrap .i64 (e - 1) < (↑om' : Int)) then bif Nat.ble (0 + Int.toNat (IntKind.wrap .i64 (e - 1)) * 1 + 1) (List.length od') then bif bytesOK (setL od' (0 + Int.toNat (IntKind.wrap .i64 (e - 1)) * 1) [.int .u8 e_1]) 0 om' then R (.tuple (.mk [.string (bytesOf (setL od' (0 + Int.toNat (IntKind.wrap .i64 (e - 1)) * 1) [.int .u8 e_1]) 0 om'), .int .i64 e])) else False else False else False) ∧ ∀ (e_1 : Int), sgC dr mi = e_1 → bif decide (0 ≤ IntKind.wrap .i64 (e - 1) ∧ IntKind.wrap .i64 (e - 1) < (↑om' : Int)) then bif Nat.ble (0 + Int.toNat (IntKind.wrap .i64 (e - 1)) * 1 + 1) (List.length od') then bif bytesOK (setL od' (0 + Int.toNat (IntKind.wrap .i64 (e - 1)) * 1) [.int .u8 e_1]) 0 om' then R (.tuple (.mk [.string (bytesOf (setL od' (0 + Int.toNat (IntKind.wrap .i64 (e - 1)) * 1) [.int .u8 e_1]) 0 om'), .int .i64 e])) else False else False else False) ∧ ∀ (e_1 : Int), sgC dr mi = e_1 → bif decide (0 ≤ IntKind.wrap .i64 (e - 1) ∧ IntKind.wrap .i64 (e - 1) < (↑om' : Int)) then bif Nat.ble (0 + Int.toNat (IntKind.wrap .i64 (e - 1)) * 1 + 1) (List.length od') then bif bytesOK (setL od' (0 + Int.toNat (IntKind.wrap .i64 (e - 1)) * 1) [.int .u8 e_1]) 0 om' then R (.tuple (.mk [.string (bytesOf (setL od' (0 + Int.toNat (IntKind.wrap .i64 (e - 1)) * 1) [.int .u8 e_1]) 0 om'), .int .i64 e])) else False else False else False) ∧ (((∀ (e_1 : Int), sgC dr mi = e_1 → bif decide (0 ≤ IntKind.wrap .i64 (e - 1) ∧ IntKind.wrap .i64 (e - 1) < (↑om' : Int)) then bif Nat.ble (0 + Int.toNat (IntKind.wrap .i64 (e - 1)) * 1 + 1) (List.length od') then bif bytesOK (setL od' (0 + Int.toNat (IntKind.wrap .i64 (e - 1)) * 1) [.int .u8 e_1]) 0 om' then R (.tuple (.mk [.string (bytesOf (setL od' (0 + Int.toNat (IntKind.wrap .i64 (e - 1)) * 1) [.int .u8 e_1]) 0 om'), .int .i64 e])) else False else False else False) ∧ ∀ (e_1 : Int), sgC dr mi = e_1 → bif decide (0 ≤ IntKind.wrap .i64 (e - 1) ∧ IntKind.wrap .i64 (e - 1) < (↑om' : Int)) then bif Nat.ble (0 + Int.toNat (IntKind.wrap .i64 (e - 1)) * 1 + 1) (List.length od') then bif bytesOK (setL od' (0 + Int.toNat (IntKind.wrap .i64 (e - 1)) * 1) [.int .u8 e_1]) 0 om' then R (.tuple (.mk [.string (bytesOf (setL od' (0 + Int.toNat (IntKind.wrap .i64 (e - 1)) * 1) [.int .u8 e_1]) 0 om'), .int .i64 e])) else False else False else False) ∧ ((∀ (e_1 : Int), sgC dr mi = e_1 → bif decide (0 ≤ IntKind.wrap .i64 (e - 1) ∧ IntKind.wrap .i64 (e - 1) < (↑om' : Int)) then bif Nat.ble (0 + Int.toNat (IntKind.wrap .i64 (e - 1)) * 1 + 1) (List.length od') then bif bytesOK (setL od' (0 + Int.toNat (IntKind.wrap .i64 (e - 1)) * 1) [.int .u8 e_1]) 0 om' then R (.tuple (.mk [.string (bytesOf (setL od' (0 + Int.toNat (IntKind.wrap .i64 (e - 1)) * 1) [.int .u8 e_1]) 0 om'), .int .i64 e])) else False else False else False) ∧ ∀ (e_1 : Int), sgC dr mi = e_1 → bif decide (0 ≤ IntKind.wrap .i64 (e - 1) ∧ IntKind.wrap .i64 (e - 1) < (↑om' : Int)) then bif Nat.ble (0 + Int.toNat (IntKind.wrap .i64 (e - 1)) * 1 + 1) (List.length od') then bif bytesOK (setL od' (0 + Int.toNat (IntKind.wrap .i64 (e - 1)) * 1) [.int .u8 e_1]) 0 om' then R (.tuple (.mk [.string (bytesOf (setL od' (0 + Int.toNat (IntKind.wrap .i64 (e - 1)) * 1) [.int .u8 e_1]) 0 om'), .int .i64 e])) else False else False else False) ∧ ∀ (e_1 : Int), sgC dr mi = e_1 → bif decide (0 ≤ IntKind.wrap .i64 (e - 1) ∧ IntKind.wrap .i64 (e - 1) < (↑om' : Int)) then bif Nat.ble (0 + Int.toNat (IntKind.wrap .i64 (e - 1)) * 1 + 1) (List.length od') then bif bytesOK (setL od' (0 + Int.toNat (IntKind.wrap .i64 (e - 1)) * 1) [.int .u8 e_1]) 0 om' then R (.tuple (.mk [.string (bytesOf (setL od' (0 + Int.toNat (IntKind.wrap .i64 (e - 1)) * 1) [.int .u8 e_1]) 0 om'), .int .i64 e])) else False else False else False) ∧ ∀ (e_1 : Int), sgC dr mi = e_1 → bif decide (0 ≤ IntKind.wrap .i64 (e - 1) ∧ IntKind.wrap .i64 (e - 1) < (↑om' : Int)) then bif Nat.ble (0 + Int.toNat (IntKind.wrap .i64 (e - 1)) * 1 + 1) (List.length od') then bif bytesOK (setL od' (0 + Int.toNat (IntKind.wrap .i64 (e - 1)) * 1) [.int .u8 e_1]) 0 om' then R (.tuple (.mk [.string (bytesOf (setL od' (0 + Int.toNat (IntKind.wrap .i64 (e - 1)) * 1) [.int .u8 e_1]) 0 om'), .int .i64 e])) else False else False else False) ∧ ∀ (e_1 : Int), sgC dr mi = e_1 → bif decide (0 ≤ IntKind.wrap .i64 (e - 1) ∧ IntKind.wrap .i64 (e - 1) < (↑om' : Int)) then bif Nat.ble (0 + Int.toNat (IntKind.wrap .i64 (e - 1)) * 1 + 1) (List.length od') then bif bytesOK (setL od' (0 + Int.toNat (IntKind.wrap .i64 (e - 1)) * 1) [.int .u8 e_1]) 0 om' then R (.tuple (.mk [.string (bytesOf (setL od' (0 + Int.toNat (IntKind.wrap .i64 (e - 1)) * 1) [.int .u8 e_1]) 0 om'), .int .i64 e])) else False else False else False) ∧ ∀ (e_1 : Int), sgC dr mi = e_1 → bif decide (0 ≤ IntKind.wrap .i64 (e - 1) ∧ IntKind.wrap .i64 (e - 1) < (↑om' : Int)) then bif Nat.ble (0 + Int.toNat (IntKind.wrap .i64 (e - 1)) * 1 + 1) (List.length od') then bif bytesOK (setL od' (0 + Int.toNat (IntKind.wrap .i64 (e - 1)) * 1) [.int .u8 e_1]) 0 om' then R (.tuple (.mk [.string (bytesOf (setL od' (0 + Int.toNat (IntKind.wrap .i64 (e - 1)) * 1) [.int .u8 e_1]) 0 om'), .int .i64 e])) else False else False else False) ∧ ∀ (e_1 : Int), sgC dr mi = e_1 → bif decide (0 ≤ IntKind.wrap .i64 (e - 1) ∧ IntKind.wrap .i64 (e - 1) < (↑om' : Int)) then bif Nat.ble (0 + Int.toNat (IntKind.wrap .i64 (e - 1)) * 1 + 1) (List.length od') then bif bytesOK (setL od' (0 + Int.toNat (IntKind.wrap .i64 (e - 1)) * 1) [.int .u8 e_1]) 0 om' then R (.tuple (.mk [.string (bytesOf (setL od' (0 + Int.toNat (IntKind.wrap .i64 (e - 1)) * 1) [.int .u8 e_1]) 0 om'), .int .i64 e])) else False else False else False else bif bytesOK od' 0 om' then R (.tuple (.mk [.string (bytesOf od' 0 om'), .int .i64 e])) else False else False else False else False else False else False else False) := by kernel_rfl
def wrV (sp : List Int) (w f : Int) (cr : Bool) (dr fl fm : Int) (ro nu : List Int) (mi : Bool) : List Int × Int :=
 bif decide (enV nu fm ro < 0) then (repZ [fl] w.toNat, w)
 else (bif dr != 0 && decide (enV nu fm ro > 0) then (wrGo f cr sp.length mi (enV nu fm ro) fl ro sp nu 0 0).set (enV nu fm ro - 1).toNat (bif dr == 36 then 36 else sgC dr mi)
  else wrGo f cr sp.length mi (enV nu fm ro) fl ro sp nu 0 0, enV nu fm ro)
def wrR (x : List Int × Int) : Value := .tuple ⟨[.string (sz x.1), .int .i64 x.2]⟩
def cN : List Int → Int
 | [] => 0
 | r :: rs => (bif r == 2 then 0 else 1) + cN rs
theorem cN_nn : ∀ l, 0 ≤ cN l
 | [] => by simp [cN]
 | r :: rs => by have := cN_nn rs; rw [cN]; cases r == 2 <;> simp <;> omega
theorem cn1_cdg : ∀ l, cn1 l ≤ cdg l
 | [] => by simp [cn1, cdg]
 | r :: rs => by
  have := cn1_cdg rs
  rw [cn1, cdg]
  by_cases h1 : r = 1
  ·subst h1
   show 1 + _ ≤ 1 + _
   omega
  ·have e : (r == 1) = false := by simpa using h1
   rw [e]
   cases decide (r = 0) || decide (r = 1) <;> simp <;> omega
theorem wrGo_len {f : Int} {cr : Bool} {n : Int} {mi : Bool} {ld fl : Int} : ∀ (rs cs ds : List Int) (i a : Int), ((wrGo f cr n mi ld fl rs cs ds i a).length : Int) = cN rs
 | [], _, _, _, _ => rfl
 | r :: rs, cs, ds, i, a => by
  rw [wrGo, cN]
  cases r == 2
  ·simp only [cond_false, List.length_cons]
   have := wrGo_len (f := f) (cr := cr) (n := n) (mi := mi) (ld := ld) (fl := fl) rs cs.tail (bif wrT f cr n r i then ds.tail else ds) (i + 1) (a + 1)
   omega
  ·simp only [cond_true]
   rw [wrGo_len]
   omega
theorem enGo_le {ze : Bool} {fm : Int} : ∀ (ro ds : List Int) (a : Int), -1 ≤ a → enGo ze fm ro ds a ≤ a + cN ro
 | [], _, a, h => by rw [enGo, cN]; omega
 | r :: rs, ds, a, h => by
  have h0 := cN_nn rs
  rw [enGo, cN]
  by_cases h2 : r = 2
  ·subst h2
   have e0 : ((2 : Int) == 0) = false := rfl
   have e1 : ((2 : Int) == 1) = false := rfl
   have e2 : ((2 : Int) == 2) = true := rfl
   rw [e0, e1, e2]
   simp only [cond_true, cond_false]
   have := enGo_le (ze := ze) (fm := fm) rs ds a h
   cases decide (fm > 0) || !ze <;> simp <;> omega
  ·have e2 : (r == 2) = false := by simpa using h2
   rw [e2]
   have h1 := enGo_le (ze := ze) (fm := fm) rs ds (a + 1) (by omega)
   have h3 := enGo_le (ze := ze) (fm := fm) rs ds.tail (a + 1) (by omega)
   cases r == 0
   ·cases r == 1
    ·simp only [cond_false]
     omega
    ·simp only [cond_true, cond_false]
     cases ds.headD 0 != 48 <;> simp <;> omega
   ·simp only [cond_true, cond_false]
    omega
theorem enV_le {nu : List Int} {fm : Int} {ro : List Int} : enV nu fm ro ≤ cN ro := by
 rw [enV]
 have := cN_nn ro
 have := enGo_le (ze := (trimZ nu [48]).isEmpty) (fm := fm) ro nu 0 (by omega)
 cases enOn ro <;> simp <;> omega
theorem enc_fl {fl : Int} (h : fl = 32 ∨ fl = 42) : bz (Utf8.encode fl) = [fl] := by
 rcases h with rfl | rfl <;> kernel_rfl
theorem w_64 (s : ByteArray) (nb : Bool) (w : Int) (dg : Int) (sc : Int) (sg : Bool) (k : Nat) (cap : Nat) (dr : Int) (f : Int) (cr : Bool) (fl : Int) (fm : Int) (nu : ByteArray) (mi : Bool) (d : List Value) (hR : rowIOK d k cap = true) (hO : roOK (zc d k) = true) (hD : dgL (bz nu) = true) (hk : k ≤ 1000 ∧ nu.size ≤ 1000 ∧ k ≤ s.size ∧ s.size ≤ 1000 ∧ 0 ≤ w ∧ w ≤ 1000) (hc : cdg (zc d k) ≤ nu.size) (hfl : fl = 32 ∨ fl = 42)
  {R : Value → Prop} (hV : R (wrR (wrV (bz s) w f cr dr fl fm (zc d k) (bz nu) mi))) :
  DoesM Tryz.prog G36 (oneL 0 S64_0.hA) Tryz.f64 [.pointer (some ⟨0, 0, some 0⟩), .string nu, .bool mi] (vwF2 (fmL s nb w dg sc sg 1 k cap dr f cr fl fm) d) 2 (fun v _ _ => R v) := by
 rw [DoesM, v64]
 have h := rowIOK_iff.1 hR
 have h1 := cn1_cdg (zc d k)
 have hl := @enV_le (bz nu) fm (zc d k)
 have z0 : Int.toNat 0 = 0 := rfl
 have hg : (goodL [] d && true && true && (idsLt 210 d && true)) = true := by rw [h.good]; simp [idsLt, idsL, ids_plainL h.plain]
 have hi : (idsLt 210 d && true) = true := by simp [idsLt, idsL, ids_plainL h.plain]
 have sl : ((bz s).length : Int) = s.size := by rw [bz_length]
 rw [wrV, wrR, sl] at hV
 simp only [h.rlb, z0, List.drop_zero]
 refine c_t (by rw [hR]; simp only [Bool.true_and, decide_eq_true_eq]; omega) fun e he => ?_
 rw [he] at hV hl
 have hw := fun a => @wrGo_len f cr s.size mi e fl (zc d k) (bz s) (bz nu) 0 a
 have hw := hw 0
 generalize wrGo f cr s.size mi e fl (zc d k) (bz s) (bz nu) 0 0 = W at *
 refine cond_intro (fun q => ?_) (fun q => ?_)
 ·rw [q, cond_true] at hV
  have eb := enc_fl hfl
  have es : (Utf8.encode fl).size = 1 := by rw [← bz_length, eb]; rfl
  rw [es, eb]
  exact c_t (decide_eq_true (by omega)) hV
 ·rw [q, cond_false] at hV
  refine c_t hg (c_t ?_ ⟨fun _ hn us' at' i' => c_t hi fun _ => c_t (by simp) ?_, fun us' at' i' od om oc g1 g2 => ?_⟩)
  ·show (Rw.nil.ok && (rowIOK d k cap && (roOK (zc d k) && (dgL (bz nu) && decide (mi = mi ∧ (0 : Int) ≤ 0 ∧ (0 : Int) ≤ k ∧ k ≤ 1000 ∧ natO k = k ∧ k ≤ s.size ∧ s.size ≤ 1000 ∧ (0 : Int) ≤ 0 ∧ (0 : Int) ≤ 0 ∧ (0 : Int) ≤ 0 ∧ (0 : Int) ≤ 0 ∧ 0 + cdg ((zc d k).drop (Int.toNat 0)) ≤ nu.size ∧ ((Rw.nil.z.length : Nat) : Int) ≤ 0))))) = true
   rw [hR, hO, hD, natO_eq, z0, List.drop_zero]
   simp only [Bool.true_and, Rw.ok, Rw.z, List.length_nil, decide_eq_true_eq]
   exact ⟨trivial, by omega, by omega, by omega, trivial, by omega, by omega, by omega, by omega, by omega, by omega, by omega, by omega⟩
  ·rw [hn, List.length_nil] at hw
   have e0 : decide (e > 0) = false := decide_eq_false (by omega)
   rw [e0, Bool.and_false, Bool.and_false, cond_false]
   rw [e0, Bool.and_false, cond_false, hn] at hV
   exact c_t (by simp) hV
  ·have ho := rowOK_iff.1 g1
   have hzl := zc_length ho
   rw [g2] at hzl
   have g3 : zc od om = W := by rw [g2]; rfl
   have hzl : W.length = om := hzl
   have hio : (idsLt 210 d && (idsLt 210 od && true)) = true := by simp [idsLt, idsL, ids_plainL h.plain, ids_plainL ho.plain]
   have hset : ∀ x : Int, e > 0 → R (.tuple ⟨[.string (sz (W.set (e - 1).toNat x)), .int .i64 e]⟩) →
     (bif decide (0 ≤ IntKind.wrap IntKind.i64 (e - 1) ∧ IntKind.wrap IntKind.i64 (e - 1) < (↑om : Int)) then
      bif Nat.ble (0 + Int.toNat (IntKind.wrap IntKind.i64 (e - 1)) * 1 + 1) (List.length od) then
       bif bytesOK (setL od (0 + Int.toNat (IntKind.wrap IntKind.i64 (e - 1)) * 1) [Value.int IntKind.u8 x]) 0 om then
        R (Value.tuple (Array.mk [Value.string (bytesOf (setL od (0 + Int.toNat (IntKind.wrap IntKind.i64 (e - 1)) * 1) [Value.int IntKind.u8 x]) 0 om), Value.int IntKind.i64 e]))
       else False
      else False
     else False) := fun x h0 hx => by
    have hb : (W.length : Int) ≤ 1000 := by
     have := hw
     have h2 : cN (zc d k) ≤ k := by
      have : ∀ l : List Int, cN l ≤ l.length := fun l => by
       induction l with
       | nil => simp [cN]
       | cons r rs ih => rw [cN, List.length_cons]; cases r == 2 <;> simp <;> omega
      have := this (zc d k)
      rw [zi_length h] at this
      exact this
     omega
    rw [w64 (n := e - 1) (by omega)]
    obtain ⟨s1, s2, s4⟩ := ho.set x (i := (e - 1).toNat) (by omega)
    have s3 := s1.str
    rw [s2, g3] at s3
    exact c_t (decide_eq_true (by omega)) (c_t s4 (c_t s3.1 (by rw [s3.2]; exact hx)))
   refine c_t hio fun _ => c_t (by simp) (cond_intro (fun p => ?_) (fun p => c_t (by simp) (cond_intro (fun p2 => ?_) (fun p2 => ?_))))
   ·obtain ⟨p1, p3⟩ := Bool.and_eq_true_iff.1 p
    have pe : dr = 36 := by simpa using p1
    have pn : (dr != 0) = true := by rw [pe]; rfl
    rw [pn, p3, p1, Bool.true_and, cond_true, cond_true] at hV
    exact hset 36 (of_decide_eq_true p3) hV
   ·obtain ⟨p1, p3⟩ := Bool.and_eq_true_iff.1 p2
    have pe : (dr == 36) = false := by
     rw [p3, Bool.and_true] at p
     exact p
    rw [p1, p3, pe, Bool.true_and, cond_true, cond_false] at hV
    have hX : ∀ e_1 : Int, sgC dr mi = e_1 → _ := fun e_1 h1 => hset e_1 (of_decide_eq_true p3) (by rw [← h1]; exact hV)
    repeat' (first | exact hX | apply And.intro)
   ·rw [p2, cond_false] at hV
    have s3 := ho.str
    rw [g3] at s3
    exact c_t s3.1 (by rw [s3.2]; exact hV)
def w64C (s nu : ByteArray) (k cap : Nat) (w fl : Int) (d : List Value) : Bool := rowIOK d k cap && (roOK (zc d k) && (dgL (bz nu) && decide ((k ≤ 1000 ∧ nu.size ≤ 1000 ∧ k ≤ s.size ∧ s.size ≤ 1000 ∧ 0 ≤ w ∧ w ≤ 1000) ∧ cdg (zc d k) ≤ nu.size ∧ (fl = 32 ∨ fl = 42))))
def h64 : List Value → Lk → Nat → (Value → Lk → Nat → Prop) → Prop := fun args m n K => match args with
 | [.pointer (some ⟨a, 0, some 0⟩), .string nu, .bool mi] => match m a with
  | some ⟨[.string s, .bool nb, .int .i64 w, .int .i64 dg, .int .i64 sc, .bool sg, .slice (some ⟨y, 0, some 1⟩) k cap, .int .u8 dr, .int .i64 f, .bool cr, .int .u8 fl, .int .i64 fm], 84, own⟩ => match m y with
   | some ⟨d, 102, own2⟩ => match cnd (w64C s nu k cap w fl d) with
    | true => ∀ (t : ByteArray) (l : Int), sz (wrV (bz s) w f cr dr fl fm (zc d k) (bz nu) mi).1 = t → (wrV (bz s) w f cr dr fl fm (zc d k) (bz nu) mi).2 = l → K (.tuple ⟨[.string t, .int .i64 l]⟩) m n
    | false => False
   | _ => False
  | _ => False
 | _ => False
theorem h64_ok : GenOK Tryz.prog 64 h64 := by
 refine gen_sub ok_G36 hmix fn64 lok64 fun args m n K h => ?_
 unfold h64 at h
 split at h
 case h_2 => exact h.elim
 rename_i a nu mi
 split at h
 case h_2 => exact h.elim
 rename_i s nb w dg sc sg y k cap dr f cr fl fm own hm
 split at h
 case h_2 => exact h.elim
 rename_i d own2 hy
 split at h
 case h_2 => exact h.elim
 rename_i hc
 simp only [cnd, w64C, Bool.and_eq_true, decide_eq_true_eq] at hc
 obtain ⟨h1, h2, h3, h4, h5, h6⟩ := hc
 refine ⟨[.pointer (some ⟨0, 0, some 0⟩), .string nu, .bool mi], _, 2, rho2 a y, wrR (wrV (bz s) w f cr dr fl fm (zc d k) (bz nu) mi), sub_F2 (rowIOK_iff.1 h1).plain hm hy, fun ι => by simp [ren, ren1, rho2], Nat.le_of_ble_eq_true (by kernel_rfl), fun v hv j hj => ?_, rfl,
  w_64 s nb w dg sc sg k cap dr f cr fl fm nu mi d h1 h2 h3 h4 h5 h6 (R := fun v => v = wrR (wrV (bz s) w f cr dr fl fm (zc d k) (bz nu) mi)) rfl, h _ _ rfl rfl⟩
 simp at hv
 rcases hv with rfl | rfl | rfl
 ·have : j = 0 := by simpa [ids] using hj
  omega
 ·simp [ids] at hj
 ·simp [ids] at hj
def G37 : Env := G36.addG 64 h64
theorem ok_G37 : EnvOK Tryz.prog G37 := env_addG ok_G36 h64_ok
end Go.Px
end
noncomputable section
namespace Go.Px
open Go Go.Ab Go.Proofs Go.Shelf
theorem en_stop {ze : Bool} {fm : Int} : ∀ (rs : List Int) (ds : List Int) (a : Int), okR rs → 0 ≤ a → (decide (fm > 0) || !ze) = true →
  enGo ze fm rs ds a = endGo (rs.map rmk) ds a ∨ (enGo ze fm rs ds a = -1 ∧ 0 ∉ rs ∧ ∀ c ∈ ds.take (cn1 rs).toNat, c = 48)
 | [], ds, a, _, _, _ => .inr ⟨rfl, by simp, by simp [cn1]⟩
 | r :: rs, ds, a, hok, ha, hz => by
  have hok' : okR rs := fun x hx => hok x (List.mem_cons_of_mem _ hx)
  have h0 := cn1_nn rs
  rw [enGo, List.map_cons, endGo]
  rcases rmk_cases (hok r List.mem_cons_self) with rfl | rfl | rfl | rfl | rfl | rfl
  ·exact .inl rfl
  ·show (bif ds.headD 0 != 48 then a else enGo ze fm rs ds.tail (a + 1)) = (bif ds.headD 0 != 48 then a else endGo (rs.map rmk) ds.tail (a + 1)) ∨ ((bif ds.headD 0 != 48 then a else enGo ze fm rs ds.tail (a + 1)) = -1 ∧ _ ∧ ∀ c ∈ ds.take (1 + cn1 rs).toNat, c = 48)
   cases hd : ds.headD 0 != 48 with
   | true => exact .inl rfl
   | false =>
    simp only [cond_false]
    rcases en_stop rs ds.tail (a + 1) hok' (by omega) hz with h | ⟨h1, h2, h3⟩
    ·exact .inl h
    ·refine .inr ⟨h1, by simpa using h2, fun c hc => ?_⟩
     have e : (1 + cn1 rs).toNat = (cn1 rs).toNat + 1 := by omega
     rw [e] at hc
     cases ds with
     | nil => simp at hc
     | cons x xs =>
      rw [List.take_succ_cons] at hc
      rcases List.mem_cons.1 hc with rfl | hc
      ·simpa using hd
      ·exact h3 c hc
  ·show (bif decide (fm > 0) || !ze then a else enGo ze fm rs ds a) = a ∨ _
   rw [hz]
   exact .inl rfl
  ·rcases en_stop rs ds (a + 1) hok' (by omega) hz with h | ⟨h1, h2, h3⟩
   ·exact .inl h
   ·exact .inr ⟨h1, by simpa using h2, by simpa [cn1] using h3⟩
  ·rcases en_stop rs ds (a + 1) hok' (by omega) hz with h | ⟨h1, h2, h3⟩
   ·exact .inl h
   ·exact .inr ⟨h1, by simpa using h2, by simpa [cn1] using h3⟩
  ·rcases en_stop rs ds (a + 1) hok' (by omega) hz with h | ⟨h1, h2, h3⟩
   ·exact .inl h
   ·exact .inr ⟨h1, by simpa using h2, by simpa [cn1] using h3⟩
theorem en_none {fm : Int} (hf : decide (fm > 0) = false) : ∀ (rs : List Int) (ds : List Int) (a : Int), okR rs → 0 ∉ rs → (∀ c ∈ ds, c = 48) → cn1 rs ≤ ds.length → enGo true fm rs ds a = -1
 | [], _, _, _, _, _, _ => rfl
 | r :: rs, ds, a, hok, hr, hd, hl => by
  have hok' : okR rs := fun x hx => hok x (List.mem_cons_of_mem _ hx)
  have hr' : 0 ∉ rs := fun h => hr (List.mem_cons_of_mem _ h)
  rw [cn1] at hl
  have h0 := cn1_nn rs
  rw [enGo]
  rcases rmk_cases (hok r List.mem_cons_self) with rfl | rfl | rfl | rfl | rfl | rfl
  ·exact absurd List.mem_cons_self hr
  ·have hl : 1 + cn1 rs ≤ ds.length := hl
   cases ds with
   | nil => simp at hl; omega
   | cons x xs =>
    have : x = 48 := hd x List.mem_cons_self
    subst this
    exact en_none hf rs xs (a + 1) hok' hr' (fun c hc => hd c (List.mem_cons_of_mem _ hc)) (by simp at hl; omega)
  ·show (bif decide (fm > 0) || !true then a else enGo true fm rs ds a) = -1
   rw [hf]
   exact en_none hf rs ds a hok' hr' hd (by simpa using hl)
  ·exact en_none hf rs ds (a + 1) hok' hr' hd (by simpa using hl)
  ·exact en_none hf rs ds (a + 1) hok' hr' hd (by simpa using hl)
  ·exact en_none hf rs ds (a + 1) hok' hr' hd (by simpa using hl)
theorem en_on : ∀ (rs : List Int), okR rs → (∀ bh pt dg, (ldGo (rs.map rmk) false bh pt dg).1 = true → enOn rs = hasZ (rs.map rmk) 99)
 | [], _, _, _, _, _ => rfl
 | r :: rs, hok, bh, pt, dg, h => by
  have hok' : okR rs := fun x hx => hok x (List.mem_cons_of_mem _ hx)
  rw [List.map_cons, ldGo] at h
  rw [enOn, List.map_cons, has_cons]
  rcases rmk_cases (hok r List.mem_cons_self) with rfl | rfl | rfl | rfl | rfl | rfl
  ·show false = (false || hasZ (rs.map rmk) 99)
   rw [Bool.false_or]
   cases hq : hasZ (rs.map rmk) 99 with
   | false => rfl
   | true =>
    have h : (ldGo (rs.map rmk) true bh pt (dg + 1)).1 = true := h
    rw [ld_firm _ _ _ _ (hasZ_iff.1 hq)] at h
    cases h
  ·rfl
  ·exact (en_on rs hok' _ _ _ h).trans (Bool.false_or _).symm
  ·exact (en_on rs hok' _ _ _ h).trans (Bool.false_or _).symm
  ·exact (en_on rs hok' _ _ _ h).trans (Bool.false_or _).symm
  ·exact (en_on rs hok' _ _ _ h).trans (Bool.false_or _).symm
theorem cdg_pd : ∀ (rs : List Int), okR rs → cdg rs = pdGo (rs.map rmk)
 | [], _ => rfl
 | r :: rs, hok => by
  have hok' : okR rs := fun x hx => hok x (List.mem_cons_of_mem _ hx)
  rw [cdg, List.map_cons, pdGo, cdg_pd rs hok']
  rcases rmk_cases (hok r List.mem_cons_self) with rfl | rfl | rfl | rfl | rfl | rfl <;> rfl
theorem cn1_cdg_eq : ∀ (rs : List Int), 0 ∉ rs → cn1 rs = cdg rs
 | [], _ => rfl
 | r :: rs, h => by
  have h1 : r ≠ 0 := fun e => h (by rw [e]; exact List.mem_cons_self)
  rw [cn1, cdg, cn1_cdg_eq rs fun q => h (List.mem_cons_of_mem _ q), decide_eq_false h1, Bool.false_or]
  by_cases e : r = 1
  ·subst e; rfl
  ·rw [decide_eq_false e]
   have : (r == 1) = false := by simpa using e
   rw [this]
theorem has_100 : ∀ (rs : List Int), okR rs → hasZ (rs.map rmk) 100 = decide (0 ∈ rs)
 | [], _ => rfl
 | r :: rs, hok => by
  have hok' : okR rs := fun x hx => hok x (List.mem_cons_of_mem _ hx)
  rw [List.map_cons, has_cons, has_100 rs hok']
  rcases rmk_cases (hok r List.mem_cons_self) with rfl | rfl | rfl | rfl | rfl | rfl <;> simp [rmk]
theorem ld_115 : ∀ (a : List Int) (fm bh pt : Bool) (dg : Int), (ldGo (a ++ [115, 115]) fm bh pt dg).1 = (ldGo a fm bh pt dg).1
 | [], _, _, _, _ => rfl
 | m :: r, fm, bh, pt, dg => by
  rw [List.cons_append, ldGo, ldGo]
  cases m == 118
  ·cases m == 100
   ·cases m == 99
    ·exact ld_115 r _ _ _ _
    ·cases fm
     ·exact ld_115 r _ _ _ _
     ·rfl
   ·exact ld_115 r _ _ _ _
  ·exact ld_115 r _ _ _ _
theorem cnt_has {l : List Int} {c : Int} : decide ((cntZ l c : Int) > 0) = hasZ l c := by
 rw [Bool.eq_iff_iff, decide_eq_true_eq, hasZ_iff]
 induction l with
 | nil => simp [cntZ]
 | cons x l ih =>
  rw [cnt_cons]
  by_cases e : x = c
  ·subst e
   simp
   omega
  ·rw [if_neg e, Int.zero_add, ih]
   simp [Ne.symm e]
theorem rep48 : ∀ {l : List Int} {k : Nat}, l.length = k → (l = rep1 48 k ↔ ∀ c ∈ l, c = 48)
 | l, k, h => by
  rw [rep1, List.eq_replicate_iff]
  exact ⟨fun q => q.2, fun q => ⟨h, q⟩⟩
theorem pic_facts {l : List Int} (hl : IsB (pS l) ∧ (pS l).length ≤ 32) (h : pN l = true) : okR (rolF (pS l)) ∧ (rolF (pS l)).map rmk = marksZ (pS l) ∧ cdg (rolF (pS l)) = pD l ∧ enOn (rolF (pS l)) = hasZ (marksZ (pS l)) 99 ∧
  decide ((cntZ (mkGo (drZ (bodyZ (pS l))) false (bodyZ (pS l))) 100 : Int) > 0) = hasZ (marksZ (pS l)) 100 ∧ hasZ (marksZ (pS l)) 100 = decide (0 ∈ rolF (pS l)) ∧ (hasZ (marksZ (pS l)) 99 = true → pW l > 0) := by
 obtain ⟨h1, h2, h3⟩ := rol_marks h
 have hv := pN_vOK h
 have hS : pS l = exZ l := by rw [pS, if_pos hv]
 have hnp := pN_num h
 obtain ⟨_, _, p3, _⟩ := pN_ok hl h 0
 have hW : pW l = (pS l).length - cntZ (pS l) 86 := by rw [pW, if_pos hv, hnp.nch, hS]; rfl
 refine ⟨h2, h3, by rw [cdg_pd _ h2, h3, p3], ?_, ?_, by rw [← h3, has_100 _ h2], fun h9 => ?_⟩
 ·have hld := hnp.ld
  rw [← hS] at hld
  unfold leadsZ at hld
  have hL : (ldGo (mkGo (drZ (bodyZ (pS l))) false (bodyZ (pS l))) false false false 0).1 = true := by
   revert hld
   cases hasZ (bodyZ (pS l)) 90 && hasZ (bodyZ (pS l)) 42
   ·cases (hasZ (bodyZ (pS l)) 90 || hasZ (bodyZ (pS l)) 42) && drZ (bodyZ (pS l)) != 0
    ·intro q
     have q : ((ldGo (mkGo (drZ (bodyZ (pS l))) false (bodyZ (pS l))) false false false 0).1 && _) = true := q
     exact (Bool.and_eq_true_iff.1 q).1
    ·intro q; cases q
   ·intro q; cases q
  have hL2 : (ldGo (marksZ (pS l)) false false false 0).1 = true := by
   unfold marksZ
   split
   ·rw [ld_115]; exact hL
   ·rw [List.append_nil]; exact hL
  rw [← h3] at hL2 ⊢
  exact en_on _ h2 _ _ _ hL2
 ·rw [cnt_has, marksZ]
  have : ∀ a : List Int, hasZ (a ++ (if crZ (pS l) = true then [115, 115] else [])) 100 = hasZ a 100 := fun a => by
   split <;> simp [hasZ]
  rw [this]
 ·have hm := marks_nv (pS l)
  have : 0 < nv (marksZ (pS l)) := by
   have := hasZ_iff.1 h9
   unfold nv
   exact List.length_pos_of_mem (List.mem_filter.2 ⟨this, by decide⟩)
  omega
theorem dig_zero {n : Int} {k : Nat} (hn : (n.natAbs : Int) < tenZ k) : (∀ c ∈ digZ n.natAbs k, c = 48) ↔ n = 0 := by
 have h1 := digZ_dg k n.natAbs
 have h2 := all48 h1
 have h3 := dval_dig k n.natAbs (by omega)
 rw [Int.emod_eq_of_lt (by omega) hn] at h3
 rw [h3] at h2
 have : (∀ c ∈ digZ n.natAbs k, c = 48) ↔ (∀ c ∈ digZ n.natAbs k, hasZ [48] c = true) :=
  ⟨fun q c hc => by rw [q c hc]; rfl, fun q c hc => by have := hasZ_iff.1 (q c hc); simpa using this⟩
 rw [this, h2]
 omega
theorem en_law {l : List Int} (hl : IsB (pS l) ∧ (pS l).length ≤ 32) (h : pN l = true) {n : Int} (hn : (n.natAbs : Int) < tenZ (pD l).toNat) :
  enV (digZ n.natAbs (pD l).toNat) (cntZ (mkGo (drZ (bodyZ (pS l))) false (bodyZ (pS l))) 100) (rolF (pS l)) = (bif fdBl (pS l) (pW l) (pD l).toNat n then -1 else fdLe (pS l) (pW l) (pD l).toNat n) ∧
  (fdBl (pS l) (pW l) (pD l).toNat n = true → fdLe (pS l) (pW l) (pD l).toNat n = pW l) := by
 obtain ⟨f1, f2, f3, f4, f5, f6, f7⟩ := pic_facts hl h
 have hz := dig_zero hn
 have hlen := digZ_len (pD l).toNat n.natAbs
 have hp := pD_rng h
 have hze : (trimZ (digZ n.natAbs (pD l).toNat) [48]).isEmpty = decide (n = 0) := by
  rw [Bool.eq_iff_iff, List.isEmpty_iff, trim_nil, decide_eq_true_eq, ← hz]
  exact ⟨fun q c hc => by have := hasZ_iff.1 (q c hc); simpa using this, fun q c hc => by rw [q c hc]; rfl⟩
 rw [enV, f4, hze, fdBl, fdLe, endZ]
 have hrep : decide (digZ n.natAbs (pD l).toNat = rep1 48 (pD l).toNat) = decide (n = 0) := by
  rw [Bool.eq_iff_iff, decide_eq_true_eq, decide_eq_true_eq, rep48 hlen, hz]
 rw [hrep]
 generalize hds : digZ n.natAbs (pD l).toNat = ds at *
 cases h9 : hasZ (marksZ (pS l)) 99 with
 | false => exact ⟨rfl, fun q => by cases q⟩
 | true =>
  have hW := f7 h9
  have e0 : (n == 0) = decide (n = 0) := by rw [Bool.eq_iff_iff]; simp
  rw [e0]
  simp only [Bool.not_true, cond_false, cond_true]
  cases hq : (!hasZ (marksZ (pS l)) 100 && decide (n = 0)) with
  | true =>
   obtain ⟨q1, q2⟩ := Bool.and_eq_true_iff.1 hq
   rw [q1, q2]
   have q0 : hasZ (marksZ (pS l)) 100 = false := by simpa using q1
   rw [q0] at f5 f6
   have h0 : 0 ∉ rolF (pS l) := of_decide_eq_false f6.symm
   have hcn := cn1_cdg_eq _ h0
   rw [en_none f5 _ _ _ f1 h0 (hz.2 (of_decide_eq_true q2)) (by omega)]
   simp [hW]
  | false =>
   have hst : (decide ((cntZ (mkGo (drZ (bodyZ (pS l))) false (bodyZ (pS l))) 100 : Int) > 0) || !decide (n = 0)) = true := by
    rw [f5]
    cases q1 : hasZ (marksZ (pS l)) 100 with
    | true => rfl
    | false =>
     rw [q1] at hq
     have : decide (n = 0) = false := by simpa using hq
     rw [this]
     rfl
   have hB : (decide ((bif false then pW l else endGo (marksZ (pS l)) ds 0) > 0) && ((bif false then pW l else endGo (marksZ (pS l)) ds 0) == pW l && (decide (n = 0) && !hasZ (marksZ (pS l)) 100))) = false := by
    rw [Bool.and_comm (decide (n = 0)), hq, Bool.and_false, Bool.and_false]
   rw [hB]
   refine ⟨?_, fun q => by cases q⟩
   rcases en_stop (rolF (pS l)) ds 0 f1 (by omega) hst with q | ⟨q1, q2, q3⟩
   ·rw [q, f2]
    rfl
   ·exfalso
    have hcn := cn1_cdg_eq _ q2
    rw [f6, decide_eq_false q2] at f5
    rw [f5, Bool.false_or] at hst
    have hn0 : n ≠ 0 := by simpa using hst
    refine hn0 (hz.1 fun c hc => q3 c ?_)
    rw [hcn, f3, List.take_of_length_le (by omega)]
    exact hc
end Go.Px
end
noncomputable section
namespace Go.Px
open Go Go.Ab Go.Proofs Go.Shelf
theorem ro_cases {b pre r : List Int} {c d f : Int} (h : DrP b d f) (hb : b = pre ++ c :: r) :
  ((pre.length : Int) = f ∧ c = d ∧ d ≠ 0 ∧ (roP d f c pre.length = 4 ∨ roP d f c pre.length = 5)) ∨
  ((pre.length : Int) ≠ f ∧ (roP d f c pre.length = 0 ∨ roP d f c pre.length = 1 ∨ roP d f c pre.length = 2 ∨ roP d f c pre.length = 3 ∨
   (c ≠ d ∧ (roP d f c pre.length = 4 ∧ (c = 83 ∨ c = 43 ∨ c = 45) ∨ roP d f c pre.length = 5 ∧ c = 36)))) := by
 have he := h.eq hb
 have hc0 := h.zero c (by rw [hb]; simp)
 by_cases hf : (pre.length : Int) = f
 ·obtain ⟨h1, h2⟩ := he.2.1 hf
  have hd : d ≠ 0 := by rw [← h1]; exact hc0
  refine .inl ⟨hf, h1, hd, ?_⟩
  have hm : d = 36 ∨ d = 83 ∨ d = 43 ∨ d = 45 := by
   rcases h.at_ with ⟨q, _⟩ | ⟨_, _, _, q⟩
   ·exact absurd q hd
   ·simpa using q
  have hne : ((pre.length : Int) != f) = false := by simpa using hf
  unfold roP
  rw [hne, h1]
  rcases hm with rfl | rfl | rfl | rfl <;> simp [hasZ]
 ·refine .inr ⟨hf, ?_⟩
  have hne : ((pre.length : Int) != f) = true := by simpa using hf
  unfold roP
  rw [hne, Bool.and_true]
  cases q1 : hasZ [57, 89, 84, 73, 82] c with
  | true => exact .inl rfl
  | false =>
   cases q2 : (c == 90 || (c == 42 || c == d)) with
   | true => exact .inr (.inl rfl)
   | false =>
    have hcd : c ≠ d := fun e => by rw [e] at q2; simp at q2
    cases q3 : c == 86 with
    | true => exact .inr (.inr (.inl rfl))
    | false =>
     cases q4 : c == 36 with
     | true => exact .inr (.inr (.inr (.inr ⟨hcd, .inr ⟨rfl, by simpa using q4⟩⟩)))
     | false =>
      cases q5 : (c == 83 || (c == 43 || c == 45)) with
      | true => exact .inr (.inr (.inr (.inr ⟨hcd, .inl ⟨rfl, by simpa using q5⟩⟩)))
      | false => exact .inr (.inr (.inr (.inl rfl)))
theorem sg_eq {c : Int} {m : Bool} (h : c = 83 ∨ c = 43 ∨ c = 45) : sgC c m = sgZ c m := by
 rcases h with rfl | rfl | rfl <;> cases m <;> rfl
theorem wr_body {b t : List Int} {d f n ld fl dr' : Int} {cr mi : Bool} (h : DrP b d f) (hdr : d ≠ 0 → dr' = d ∧ fl = 32) (hdr0 : d = 0 → dr' = 0) (hn : n = b.length + (bif cr then 2 else 0)) :
  ∀ (r pre ds : List Int) (a : Int) (X : List Int → List Int → Int → List Int) (rs' ms' : List Int), b = pre ++ r →
   (∀ ds a, wrGo f cr n mi ld fl rs' t ds b.length a = fdGo ld fl dr' mi ms' t ds a) →
   wrGo f cr n mi ld fl (rolesP d f r pre.length ++ rs') (r ++ t) ds pre.length a = fdGo ld fl dr' mi ((rolesP d f r pre.length).map rmk ++ ms') (r ++ t) ds a
 | [], pre, ds, a, X, rs', ms', hb, ht => by
  rw [List.append_nil] at hb
  rw [← hb]
  exact ht ds a
 | c :: r, pre, ds, a, X, rs', ms', hb, ht => by
  have ih := fun ds a => wr_body h hdr hdr0 hn r (pre ++ [c]) ds a X rs' ms' (by rw [hb]; simp) ht
  have e : ((pre ++ [c]).length : Int) = pre.length + 1 := by simp
  rw [e] at ih
  have hcr : (cr && decide ((pre.length : Int) ≥ n - 2)) = false := by
   cases cr with
   | false => rfl
   | true =>
    have : (b.length : Int) = pre.length + (r.length + 1) := by rw [hb]; simp
    rw [Bool.true_and, decide_eq_false_iff_not]
    simp only [cond_true] at hn
    omega
  rw [rolesP, List.cons_append, List.cons_append, List.map_cons, List.cons_append, wrGo, fdGo]
  simp only [List.headD_cons, List.tail_cons]
  rcases ro_cases h hb with ⟨h1, h2, h3, h4⟩ | ⟨h1, h4⟩
  ·obtain ⟨g1, g2⟩ := hdr h3
   have hf : ((pre.length : Int) == f) = true := by simpa using h1
   have e1 : wrC f cr n mi ld fl (roP d f c pre.length) c (ds.headD 0) pre.length a = 32 := by rw [wrC, hf, cond_true, g2]
   have e2 : wrT f cr n (roP d f c pre.length) pre.length = false := by rw [wrT, hf]; rfl
   have e3 : ssZ c dr' mi = 32 := by
    rw [ssZ, g1, h2]
    have : (d != 0 && d == d) = true := by simp [h3]
    rw [this]; rfl
   rw [e1, e2, e3, ih, ih]
   rcases h4 with h4 | h4 <;> rw [h4] <;> rfl
  ·have hf : ((pre.length : Int) == f) = false := by simpa using h1
   rcases h4 with h4 | h4 | h4 | h4 | ⟨h5, h4⟩
   ·rw [h4]
    have e1 : wrC f cr n mi ld fl 0 c (ds.headD 0) pre.length a = fmZ c (ds.headD 0) mi := by rw [wrC, hf, hcr]; rfl
    have e2 : wrT f cr n 0 pre.length = true := by rw [wrT, hf, hcr]; rfl
    rw [e1, e2, ih, ih]
    rfl
   ·rw [h4]
    have e1 : wrC f cr n mi ld fl 1 c (ds.headD 0) pre.length a = bif decide (a < ld) then fl else ds.headD 0 := by rw [wrC, hf, hcr]; rfl
    have e2 : wrT f cr n 1 pre.length = true := by rw [wrT, hf, hcr]; rfl
    rw [e1, e2, ih, ih]
    rfl
   ·rw [h4, ih]
    rfl
   ·rw [h4]
    have e1 : wrC f cr n mi ld fl 3 c (ds.headD 0) pre.length a = bif c == 66 then 32 else bif decide (a < ld) then fl else c := by rw [wrC, hf, hcr]; rfl
    have e2 : wrT f cr n 3 pre.length = false := by rw [wrT, hf, hcr]; rfl
    rw [e1, e2, ih, ih]
    rfl
   ·have hss : ssZ c dr' mi = bif hasZ [67, 82, 68, 66] c then (bif mi then c else 32) else sgZ c mi := by
     have : (dr' != 0 && c == dr') = false := by
      by_cases hd : d = 0
      ·rw [hdr0 hd]; rfl
      ·rw [(hdr hd).1]
       have : (c == d) = false := by simpa using h5
       rw [this, Bool.and_false]
     rw [ssZ, this]
     rfl
    rcases h4 with ⟨h4, h6⟩ | ⟨h4, h6⟩
    ·rw [h4]
     have e1 : wrC f cr n mi ld fl 4 c (ds.headD 0) pre.length a = sgC c mi := by rw [wrC, hf, hcr]; rfl
     have e2 : wrT f cr n 4 pre.length = false := by rw [wrT, hf, hcr]; rfl
     have e3 : ssZ c dr' mi = sgC c mi := by
      rw [hss, sg_eq h6]
      rcases h6 with rfl | rfl | rfl <;> rfl
     rw [e1, e2, ih, ih, ← e3]
     rfl
    ·rw [h4]
     have e1 : wrC f cr n mi ld fl 5 c (ds.headD 0) pre.length a = c := by rw [wrC, hf, hcr]; rfl
     have e2 : wrT f cr n 5 pre.length = false := by rw [wrT, hf, hcr]; rfl
     have e3 : ssZ c dr' mi = c := by rw [hss, h6]; rfl
     rw [e1, e2, ih, ih]
     show c :: _ = (ssZ c dr' mi :: _)
     rw [e3]
     rfl
theorem mk_99a {d : Int} (hd : d ≠ 0) (h4 : d ∈ [36, 83, 43, (45 : Int)]) : ∀ r : List Int, d ∈ r → 99 ∈ mkGo d true r
 | c :: r, h => by
  rw [mkGo]
  have hs : ∀ y : Bool, mkGo d (true || y) r = mkGo d true r := fun y => by rw [Bool.true_or]
  rw [hs]
  rcases List.mem_cons.1 h with e | h
  ·subst e
   have : mk1 d true d = 99 := by
    have : d = 36 ∨ d = 83 ∨ d = 43 ∨ d = 45 := by simpa using h4
    rcases this with rfl | rfl | rfl | rfl <;> rfl
   rw [this]
   exact List.mem_cons_self
  ·exact List.mem_cons_of_mem _ (mk_99a hd h4 r h)
theorem mk_99 {d : Int} (hd : d ≠ 0) (h4 : d ∈ [36, 83, 43, (45 : Int)]) : ∀ (r : List Int) (seen : Bool), ¬ (cntZ r d : Int) < 2 → 99 ∈ mkGo d seen r
 | [], _, h => by simp [cntZ] at h
 | c :: r, seen, h => by
  rw [mkGo]
  rw [cnt_cons] at h
  by_cases e : c = d
  ·subst e
   rw [if_pos rfl] at h
   have hs : (seen || (c != 0 && c == c)) = true := by
    have : (c != 0) = true := by simpa using hd
    rw [this]; simp
   rw [hs]
   refine List.mem_cons_of_mem _ (mk_99a hd h4 r ?_)
   have : (cntZ r c : Int) > 0 := by omega
   exact hasZ_iff.1 (cnt_has.symm.trans (decide_eq_true this))
  ·rw [if_neg e] at h
   exact List.mem_cons_of_mem _ (mk_99 hd h4 r _ (by omega))
theorem wr_2 (f n : Int) (mi : Bool) (ld fl x y : Int) (ds : List Int) (i a : Int) : ∃ D, wrGo f true n mi ld fl [4, 4] [x, y] ds i a = [wrC f true n mi ld fl 4 x (ds.headD 0) i a, wrC f true n mi ld fl 4 y D (i + 1) (a + 1)] := ⟨_, rfl⟩
theorem fd_2 (le fl dr : Int) (mi : Bool) (x y : Int) (ds : List Int) (a : Int) : fdGo le fl dr mi [115, 115] [x, y] ds a = [ssZ x dr mi, ssZ y dr mi] := rfl
theorem rep_one (c : Int) : ∀ k : Nat, repZ [c] k = rep1 c k
 | 0 => rfl
 | k + 1 => by rw [repZ, rep_one c k]; rfl
theorem dr_facts {s : List Int} (h : NumP s) : (drZ (bodyZ s) ≠ 0 → fdDr s = drZ (bodyZ s) ∧ fdFl s = 32) ∧ (drZ (bodyZ s) = 0 → fdDr s = 0) := by
 have e := dr_body s
 constructor
 ·intro hd
  have hld := h.ld
  unfold leadsZ at hld
  have h1 : ((hasZ (bodyZ s) 90 || hasZ (bodyZ s) 42) && drZ (bodyZ s) != 0) = false := by
   revert hld
   cases hasZ (bodyZ s) 90 && hasZ (bodyZ s) 42
   ·cases (hasZ (bodyZ s) 90 || hasZ (bodyZ s) 42) && drZ (bodyZ s) != 0
    ·exact fun _ => rfl
    ·intro q; cases q
   ·intro q; cases q
  have hdn : (drZ (bodyZ s) != 0) = true := by simpa using hd
  rw [hdn, Bool.and_true, Bool.or_eq_false_iff] at h1
  obtain ⟨t, ht, hc⟩ := body_app s
  have ha : ∀ c : Int, (c = 90 ∨ c = 42) → hasZ (bodyZ s) c = false → hasZ s c = false := fun c h0 h1 => by
   have : hasZ s c = hasZ (bodyZ s ++ t) c := congrArg (hasZ · c) ht
   rw [this]
   unfold hasZ at h1 ⊢
   rw [List.any_append, h1, Bool.false_or]
   rcases hc with ⟨rfl, _⟩ | ⟨rfl | rfl, _⟩ <;> rcases h0 with rfl | rfl <;> rfl
  have a1 := ha 90 (.inl rfl) h1.1
  have a2 := ha 42 (.inr rfl) h1.2
  obtain ⟨f1, f2⟩ := (drGo_spec (bodyZ s) (bodyZ s)).resolve_left hd
  obtain ⟨f3, f4⟩ := flg_mem f1
  have h9 : hasZ (marksZ s) 99 = true := hasZ_iff.2 (by
   unfold marksZ
   exact List.mem_append_left _ (mk_99 hd f3 _ _ f4))
  rw [fdDr, fdFl, a1, a2, h9, e]
  exact ⟨rfl, rfl⟩
 ·intro hd
  rw [fdDr, e, hd]
  cases !hasZ s 90 && (!hasZ s 42 && hasZ (marksZ s) 99) <;> rfl
theorem fdLe_nn {sp : List Int} {w : Int} {k : Nat} {n : Int} (hw : 0 ≤ w) : 0 ≤ fdLe sp w k n := by
 rw [fdLe, endZ]
 have := (end_ge (marksZ sp) (digZ n.natAbs k) 0).1
 cases !hasZ (marksZ sp) 99
 ·cases !hasZ (marksZ sp) 100 && decide (digZ n.natAbs k = rep1 48 k)
  ·exact this
  ·exact hw
 ·exact Int.le_refl 0
theorem out_law {l : List Int} (h : pN l = true) (ds : List Int) (ld : Int) (mi : Bool) :
  wrGo (nD (bodyZ (pS l))).2.2 (crZ (pS l)) (pS l).length mi ld (fdFl (pS l)) (rolF (pS l)) (pS l) ds 0 0 = fdGo ld (fdFl (pS l)) (fdDr (pS l)) mi (marksZ (pS l)) (pS l) ds 0 := by
 obtain ⟨h1, h2, h3⟩ := rol_marks h
 have hv := pN_vOK h
 have hS : pS l = exZ l := by rw [pS, if_pos hv]
 have hnp : NumP (pS l) := by rw [hS]; exact pN_num h
 obtain ⟨d1, d2⟩ := dr_facts hnp
 obtain ⟨t, ht, hc⟩ := body_app (pS l)
 have hP := h1.drP
 have hfl : (nD (bodyZ (pS l))).2.2 < (bodyZ (pS l)).length := by
  rcases hP.at_ with ⟨_, q⟩ | ⟨_, q1, q2, _⟩
  ·rw [q]; omega
  ·rw [q2]; exact (idx_lt _ q1).2
 have hdr' : fdDr (pS l) ≠ 67 ∧ fdDr (pS l) ≠ 82 ∧ fdDr (pS l) ≠ 68 ∧ fdDr (pS l) ≠ 66 := by
  by_cases q : drZ (bodyZ (pS l)) = 0
  ·rw [d2 q]; decide
  ·rw [(d1 q).1]
   rcases hP.at_ with ⟨q1, _⟩ | ⟨_, _, _, q4⟩
   ·exact absurd q1 q
   ·have : drZ (bodyZ (pS l)) = 36 ∨ drZ (bodyZ (pS l)) = 83 ∨ drZ (bodyZ (pS l)) = 43 ∨ drZ (bodyZ (pS l)) = 45 := by simpa using q4
    omega
 have hlen : ((pS l).length : Int) = (bodyZ (pS l)).length + (bif crZ (pS l) then 2 else 0) := by
  have := congrArg List.length ht
  rw [List.length_append] at this
  rcases hc with ⟨rfl, hc⟩ | ⟨rfl | rfl, hc⟩ <;> rw [hc] <;> simp at this ⊢ <;> omega
 have hrol : rolF (pS l) = rolesP (drZ (bodyZ (pS l))) (nD (bodyZ (pS l))).2.2 (bodyZ (pS l)) 0 ++ (bif crZ (pS l) then [4, 4] else []) := by
  rw [rolF, nR, h1.d]
 have hmk : marksZ (pS l) = (rolesP (drZ (bodyZ (pS l))) (nD (bodyZ (pS l))).2.2 (bodyZ (pS l)) 0).map rmk ++ (bif crZ (pS l) then [115, 115] else []) := by
  rw [← h3, hrol, List.map_append]
  congr 1
  cases crZ (pS l) <;> rfl
 have key := wr_body (t := t) (n := (pS l).length) (ld := ld) (mi := mi) hP d1 d2 hlen (bodyZ (pS l)) [] ds 0 (fun _ _ _ => []) (bif crZ (pS l) then [4, 4] else []) (bif crZ (pS l) then [115, 115] else []) rfl
 have key := key fun ds a => by
  rcases hc with ⟨rfl, hc⟩ | ⟨ht', hc⟩
  ·rw [hc]; rfl
  ·rw [hc] at hlen
   simp only [cond_true] at hlen
   have f1 : (((bodyZ (pS l)).length : Int) == (nD (bodyZ (pS l))).2.2) = false := by simp; omega
   have f2 : (((bodyZ (pS l)).length : Int) + 1 == (nD (bodyZ (pS l))).2.2) = false := by simp; omega
   have g1 : (true && decide (((bodyZ (pS l)).length : Int) ≥ ((pS l).length : Int) - 2)) = true := by simp; omega
   have g2 : (true && decide (((bodyZ (pS l)).length : Int) + 1 ≥ ((pS l).length : Int) - 2)) = true := by simp; omega
   have ss : ∀ c : Int, c = 67 ∨ c = 82 ∨ c = 68 ∨ c = 66 → ssZ c (fdDr (pS l)) mi = bif !mi then 32 else c := fun c hcc => by
    have : (fdDr (pS l) != 0 && c == fdDr (pS l)) = false := by
     have : (c == fdDr (pS l)) = false := by simp; omega
     rw [this, Bool.and_false]
    rw [ssZ, this]
    have h5 : hasZ [67, 82, 68, 66] c = true := by rcases hcc with rfl | rfl | rfl | rfl <;> rfl
    rw [h5]
    cases mi <;> rfl
   have wc : ∀ (r c d a : Int) (i : Int), (i == (nD (bodyZ (pS l))).2.2) = false → (true && decide (i ≥ ((pS l).length : Int) - 2)) = true → wrC (nD (bodyZ (pS l))).2.2 true (pS l).length mi ld (fdFl (pS l)) r c d i a = bif !mi then 32 else c := fun r c d a i q1 q2 => by
    rw [wrC, q1, q2]; rfl
   rw [hc]
   simp only [cond_true]
   rcases ht' with rfl | rfl
   ·obtain ⟨D, e⟩ := wr_2 (nD (bodyZ (pS l))).2.2 (pS l).length mi ld (fdFl (pS l)) 67 82 ds (bodyZ (pS l)).length a
    rw [e, fd_2, wc _ _ _ _ _ f1 g1, wc _ _ _ _ _ f2 g2, ss 67 (by decide), ss 82 (by decide)]
   ·obtain ⟨D, e⟩ := wr_2 (nD (bodyZ (pS l))).2.2 (pS l).length mi ld (fdFl (pS l)) 68 66 ds (bodyZ (pS l)).length a
    rw [e, fd_2, wc _ _ _ _ _ f1 g1, wc _ _ _ _ _ f2 g2, ss 68 (by decide), ss 66 (by decide)]
 rw [hrol, hmk]
 have e0 : ((([] : List Int).length : Nat) : Int) = 0 := rfl
 rw [e0, ← ht] at key
 exact key
theorem wr_law {l : List Int} (hl : IsB (pS l) ∧ (pS l).length ≤ 32) (h : pN l = true) {n : Int} (hn : (n.natAbs : Int) < tenZ (pD l).toNat) :
  wrV (pS l) (pW l) (nD (bodyZ (pS l))).2.2 (crZ (pS l)) (drZ (bodyZ (pS l))) (fdFl (pS l)) (cntZ (mkGo (drZ (bodyZ (pS l))) false (bodyZ (pS l))) 100) (rolF (pS l)) (digZ n.natAbs (pD l).toNat) (decide (n < 0)) =
   (fieldZ (pS l) (pW l) (pD l).toNat n, fdLe (pS l) (pW l) (pD l).toNat n) := by
 obtain ⟨e1, e2⟩ := en_law hl h hn
 obtain ⟨_, _, _, p4, _, p6⟩ := pN_ok hl h n
 have hv := pN_vOK h
 have hS : pS l = exZ l := by rw [pS, if_pos hv]
 have hnp : NumP (pS l) := by rw [hS]; exact pN_num h
 obtain ⟨d1, d2⟩ := dr_facts hnp
 have hP := (rol_marks h).1.drP
 rw [wrV, e1, fieldZ]
 cases hb : fdBl (pS l) (pW l) (pD l).toNat n with
 | true =>
  rw [e2 hb, ← rep_one]
  rfl
 | false =>
  simp only [cond_false]
  have h0 : decide (fdLe (pS l) (pW l) (pD l).toNat n < 0) = false := decide_eq_false (by have := @fdLe_nn (pS l) (pW l) (pD l).toNat n p4; omega)
  rw [h0, cond_false, out_law h]
  rw [fdOK, hb, Bool.false_or] at p6
  by_cases q : drZ (bodyZ (pS l)) = 0
  ·have q1 := d2 q
   have hO : fdOut (pS l) (pW l) (pD l).toNat n = fdGo (fdLe (pS l) (pW l) (pD l).toNat n) (fdFl (pS l)) 0 (decide (n < 0)) (marksZ (pS l)) (pS l) (digZ n.natAbs (pD l).toNat) 0 := by rw [fdOut, q1]
   rw [q, q1, hO]
   have z : ((0 : Int) != 0) = false := rfl
   rw [z, Bool.false_and]
   rfl
  ·have q1 := (d1 q).1
   rw [q1] at p6 ⊢
   have hq : (drZ (bodyZ (pS l)) != 0) = true := by simpa using q
   have hq2 : (drZ (bodyZ (pS l)) == 0) = false := by simpa using q
   rw [hq2, Bool.false_or, decide_eq_true_eq] at p6
   have h1 : decide (fdLe (pS l) (pW l) (pD l).toNat n > 0) = true := decide_eq_true (by omega)
   rw [hq, h1]
   have hs : (bif drZ (bodyZ (pS l)) == 36 then 36 else sgC (drZ (bodyZ (pS l))) (decide (n < 0))) = sgZ (drZ (bodyZ (pS l))) (decide (n < 0)) := by
    rcases hP.at_ with ⟨z, _⟩ | ⟨_, _, _, q4⟩
    ·exact absurd z q
    ·have : drZ (bodyZ (pS l)) = 36 ∨ drZ (bodyZ (pS l)) = 83 ∨ drZ (bodyZ (pS l)) = 43 ∨ drZ (bodyZ (pS l)) = 45 := by simpa using q4
     rcases this with e | e | e | e <;> rw [e] <;> cases decide (n < 0) <;> rfl
   rw [hs]
   have : fdOut (pS l) (pW l) (pD l).toNat n = fdGo (fdLe (pS l) (pW l) (pD l).toNat n) (fdFl (pS l)) (drZ (bodyZ (pS l))) (decide (n < 0)) (marksZ (pS l)) (pS l) (digZ n.natAbs (pD l).toNat) 0 := by rw [fdOut, q1]
   rw [this]
   rfl
end Go.Px
end
noncomputable section
set_option maxHeartbeats 3200000
namespace Go.Px
open Go Go.Ab Go.Proofs Go.Shelf
theorem cuN_lt (n q sc d : Int) (sg : Bool) : ((cuN n q sc d sg).natAbs : Int) < tenZ d.toNat := by
 have hm := Int.emod_nonneg (cuM n q sc) (b := tenZ d.toNat) (by have := tenZ_pos d.toNat; omega)
 have hl := Int.emod_lt_of_pos (cuM n q sc) (tenZ_pos d.toNat)
 unfold cuN cuV
 split <;> omega
theorem wr_use {s : ByteArray} (h : pN (bz s) = true) {k cap : Nat} {d : List Value} (hR : rowIOK d k cap = true) (hz : zc d k = rolF (pS (bz s))) {m : Int} (hm : (m.natAbs : Int) < tenZ (pD (bz s)).toNat) :
  w64C (sz (pS (bz s))) (sz (digZ m.natAbs (pD (bz s)).toNat)) k cap (pW (bz s)) (fdFl (pS (bz s))) d = true ∧
  wrV (bz (sz (pS (bz s)))) (pW (bz s)) (nD (bodyZ (pS (bz s)))).2.2 (crZ (pS (bz s))) (drZ (bodyZ (pS (bz s)))) (fdFl (pS (bz s))) (cntZ (mkGo (drZ (bodyZ (pS (bz s)))) false (bodyZ (pS (bz s)))) 100) (zc d k) (bz (sz (digZ m.natAbs (pD (bz s)).toNat))) (decide (m < 0)) =
   (fieldZ (pS (bz s)) (pW (bz s)) (pD (bz s)).toNat m, fdLe (pS (bz s)) (pW (bz s)) (pD (bz s)).toNat m) := by
 have hl := pS_len s
 have hr := rowIOK_iff.1 hR
 have hk : k = (pS (bz s)).length := by rw [← rol_len h, ← hz, zi_length hr]
 have b1 : bz (sz (pS (bz s))) = pS (bz s) := bz_sz hl.1
 have hdd := digZ_dg (pD (bz s)).toNat m.natAbs
 have b2 : bz (sz (digZ m.natAbs (pD (bz s)).toNat)) = digZ m.natAbs (pD (bz s)).toNat := bz_sz (dg_isB hdd)
 have z1 : (sz (pS (bz s))).size = (pS (bz s)).length := by rw [← bz_length, b1]
 have z2 : (sz (digZ m.natAbs (pD (bz s)).toNat)).size = (pD (bz s)).toNat := by rw [← bz_length, b2, digZ_len]
 obtain ⟨f1, _, f3, _⟩ := pic_facts hl h
 have hp := pD_rng h
 have hw := pN_ok hl h 0
 refine ⟨?_, by rw [b1, b2, hz]; exact wr_law hl h hm⟩
 simp only [w64C, Bool.and_eq_true, decide_eq_true_eq]
 rw [hz, b2, z1, z2, f3]
 refine ⟨hR, ?_, hdd, ⟨by omega, by omega, by omega, by omega, hw.2.2.2.1, by omega⟩, by omega, ?_⟩
 ·simp only [roOK, List.all_eq_true, decide_eq_true_eq]
  exact fun r hr => by have := f1 r hr; omega
 ·unfold fdFl
  split
  ·exact .inr rfl
  ·exact .inl rfl
def s20 (n : Int) (q : Int) (s : ByteArray) : Bool × Value := (decide (s.size ≤ 9223372036854775807 ∧ -9223372036854775808 ≤ n ∧ n ≤ 9223372036854775807), .tuple ⟨[.string (sz (edS (bz s) n q)), .bool (edF (bz s) n q), .int .i64 (edE (bz s) q)]⟩)
theorem fn20 : Fn1 Tryz.prog 20 Tryz.f20 := ⟨Tryz.func20, by kernel_rfl, by kernel_rfl, by kernel_rfl⟩
theorem v20 (n : Int) (q : Int) (s : ByteArray) (R : Value → Prop) : bodyQ Tryz.prog G37 noL Tryz.f20 [Enc.enc n, Enc.enc q, Enc.enc s] (fun _ => none) 0 (fun v _ _ => R v) = ( bif decide (ByteArray.size s ≤ 9223372036854775807) then bif pN (bz s) then ∀ (k cap : Nat) (d : List Value), rowIOK d k cap = true → zc d k = rolF (pS (bz s)) → bif decide (q < 0) || true then bif decide (q < 0) || decide (q > 9) then R (.tuple (.mk [.string (ByteArray.mk #[]), .bool false, .int .i64 1])) else bif i64B n && (decide (0 ≤ q ∧ q ≤ 9) && (decide (0 ≤ pQ (bz s) ∧ pQ (bz s) ≤ 9) && decide (0 ≤ pD (bz s) ∧ pD (bz s) ≤ 9))) then bif rowIOK d k cap && (roOK (zc d k) && (dgL (bz (sz (digZ (↑(Int.natAbs (cuN n q (pQ (bz s)) (pD (bz s)) (pG (bz s)))) : Int) (Int.toNat (pD (bz s)))))) && decide ((k ≤ 1000 ∧ ByteArray.size (sz (digZ (↑(Int.natAbs (cuN n q (pQ (bz s)) (pD (bz s)) (pG (bz s)))) : Int) (Int.toNat (pD (bz s))))) ≤ 1000 ∧ k ≤ ByteArray.size (sz (pS (bz s))) ∧ ByteArray.size (sz (pS (bz s))) ≤ 1000 ∧ 0 ≤ pW (bz s) ∧ pW (bz s) ≤ 1000) ∧ cdg (zc d k) ≤ (↑(ByteArray.size (sz (digZ (↑(Int.natAbs (cuN n q (pQ (bz s)) (pD (bz s)) (pG (bz s)))) : Int) (Int.toNat (pD (bz s)))))) : Int) ∧ (fdFl (pS (bz s)) = 32 ∨ fdFl (pS (bz s)) = 42)))) then ∀ (t : ByteArray) (l : Int), sz (Prod.fst (wrV (bz (sz (pS (bz s)))) (pW (bz s)) (Prod.snd (Prod.snd (nD (bodyZ (pS (bz s)))))) (crZ (pS (bz s))) (drZ (bodyZ (pS (bz s)))) (fdFl (pS (bz s))) (↑(cntZ (mkGo (drZ (bodyZ (pS (bz s)))) false (bodyZ (pS (bz s)))) 100) : Int) (zc d k) (bz (sz (digZ (↑(Int.natAbs (cuN n q (pQ (bz s)) (pD (bz s)) (pG (bz s)))) : Int) (Int.toNat (pD (bz s)))))) (decide (cuN n q (pQ (bz s)) (pD (bz s)) (pG (bz s)) < 0)))) = t → Prod.snd (wrV (bz (sz (pS (bz s)))) (pW (bz s)) (Prod.snd (Prod.snd (nD (bodyZ (pS (bz s)))))) (crZ (pS (bz s))) (drZ (bodyZ (pS (bz s)))) (fdFl (pS (bz s))) (↑(cntZ (mkGo (drZ (bodyZ (pS (bz s)))) false (bodyZ (pS (bz s)))) 100) : Int) (zc d k) (bz (sz (digZ (↑(Int.natAbs (cuN n q (pQ (bz s)) (pD (bz s)) (pG (bz s)))) : Int) (Int.toNat (pD (bz s)))))) (decide (cuN n q (pQ (bz s)) (pD (bz s)) (pG (bz s)) < 0))) = l → R (.tuple (.mk [.string t, .bool (cuF n q (pQ (bz s)) (pD (bz s)) (pG (bz s))), .int .i64 0])) else False else False else False else R (.tuple (.mk [.string (ByteArray.mk #[]), .bool false, .int .i64 30])) else False) := by kernel_rfl
theorem ok20 : PureOK Tryz.prog 20 (sp3 s20) := by
 refine qure3 ok_G37 hmix fn20 lokf_none (Nat.le_of_ble_eq_true (by kernel_rfl)) fun n q s hc => ?_
 rw [DoesQ, v20]
 have hc : (s.size ≤ 9223372036854775807 ∧ -9223372036854775808 ≤ n ∧ n ≤ 9223372036854775807) := of_decide_eq_true hc
 try dsimp only [s20]
 refine c_t (decide_eq_true hc.1) (cond_intro (fun h => ?_) (fun h => ?_))
 ·intro k cap d hR hz
  refine c_t (by simp) (cond_intro (fun hq => ?_) (fun hq => ?_))
  ·have hq : q < 0 ∨ q > 9 := by simpa using hq
   have h1 : ¬ (0 ≤ q ∧ q ≤ 9) := by omega
   rw [edS, edF, edE, if_neg (fun e => h1 ⟨e.2.1, e.2.2⟩), if_neg (fun e => h1 ⟨e.2.1, e.2.2⟩), if_pos h, if_neg h1, sz_nil]
  ·have hq : 0 ≤ q ∧ q ≤ 9 := by
    simp only [Bool.or_eq_false_iff, decide_eq_false_iff_not] at hq
    omega
   have hp := pD_rng h
   obtain ⟨g1, g2⟩ := wr_use h hR hz (cuN_lt n q (pQ (bz s)) (pD (bz s)) (pG (bz s)))
   refine c_t (by simp only [i64B, Bool.and_eq_true, decide_eq_true_eq]; omega) (c_t g1 fun t l h1 h2 => ?_)
   rw [g2] at h1 h2
   rw [edS, edF, edE, if_pos ⟨h, hq⟩, if_pos ⟨h, hq⟩, if_pos h, if_pos hq, ← h1]
 ·have h1 : ¬ pN (bz s) = true := by rw [h]; simp
  rw [edS, edF, edE, if_neg (fun e => h1 e.1), if_neg (fun e => h1 e.1), if_neg h1, sz_nil]
def s36 (n : Int) (s : ByteArray) : Bool × Value := (decide (s.size ≤ 9223372036854775807 ∧ -9223372036854775808 ≤ n ∧ n ≤ 9223372036854775807), .tuple ⟨[.int .i64 (leZ (bz s) n), .int .i64 (nE (bz s))]⟩)
theorem fn36 : Fn1 Tryz.prog 36 Tryz.f36 := ⟨Tryz.func36, by kernel_rfl, by kernel_rfl, by kernel_rfl⟩
theorem v36 (n : Int) (s : ByteArray) (R : Value → Prop) : bodyQ Tryz.prog G37 noL Tryz.f36 [Enc.enc n, Enc.enc s] (fun _ => none) 0 (fun v _ _ => R v) = ( bif decide (ByteArray.size s ≤ 9223372036854775807) then bif pN (bz s) then ∀ (k cap : Nat) (d : List Value), rowIOK d k cap = true → zc d k = rolF (pS (bz s)) → bif i64B n && (decide (0 ≤ pQ (bz s) ∧ pQ (bz s) ≤ 9) && (decide (0 ≤ pQ (bz s) ∧ pQ (bz s) ≤ 9) && decide (0 ≤ pD (bz s) ∧ pD (bz s) ≤ 9))) then bif rowIOK d k cap && (roOK (zc d k) && (dgL (bz (sz (digZ (↑(Int.natAbs (cuN n (pQ (bz s)) (pQ (bz s)) (pD (bz s)) (pG (bz s)))) : Int) (Int.toNat (pD (bz s)))))) && decide ((k ≤ 1000 ∧ ByteArray.size (sz (digZ (↑(Int.natAbs (cuN n (pQ (bz s)) (pQ (bz s)) (pD (bz s)) (pG (bz s)))) : Int) (Int.toNat (pD (bz s))))) ≤ 1000 ∧ k ≤ ByteArray.size (sz (pS (bz s))) ∧ ByteArray.size (sz (pS (bz s))) ≤ 1000 ∧ 0 ≤ pW (bz s) ∧ pW (bz s) ≤ 1000) ∧ cdg (zc d k) ≤ (↑(ByteArray.size (sz (digZ (↑(Int.natAbs (cuN n (pQ (bz s)) (pQ (bz s)) (pD (bz s)) (pG (bz s)))) : Int) (Int.toNat (pD (bz s)))))) : Int) ∧ (fdFl (pS (bz s)) = 32 ∨ fdFl (pS (bz s)) = 42)))) then ∀ (t : ByteArray) (l : Int), sz (Prod.fst (wrV (bz (sz (pS (bz s)))) (pW (bz s)) (Prod.snd (Prod.snd (nD (bodyZ (pS (bz s)))))) (crZ (pS (bz s))) (drZ (bodyZ (pS (bz s)))) (fdFl (pS (bz s))) (↑(cntZ (mkGo (drZ (bodyZ (pS (bz s)))) false (bodyZ (pS (bz s)))) 100) : Int) (zc d k) (bz (sz (digZ (↑(Int.natAbs (cuN n (pQ (bz s)) (pQ (bz s)) (pD (bz s)) (pG (bz s)))) : Int) (Int.toNat (pD (bz s)))))) (decide (cuN n (pQ (bz s)) (pQ (bz s)) (pD (bz s)) (pG (bz s)) < 0)))) = t → Prod.snd (wrV (bz (sz (pS (bz s)))) (pW (bz s)) (Prod.snd (Prod.snd (nD (bodyZ (pS (bz s)))))) (crZ (pS (bz s))) (drZ (bodyZ (pS (bz s)))) (fdFl (pS (bz s))) (↑(cntZ (mkGo (drZ (bodyZ (pS (bz s)))) false (bodyZ (pS (bz s)))) 100) : Int) (zc d k) (bz (sz (digZ (↑(Int.natAbs (cuN n (pQ (bz s)) (pQ (bz s)) (pD (bz s)) (pG (bz s)))) : Int) (Int.toNat (pD (bz s)))))) (decide (cuN n (pQ (bz s)) (pQ (bz s)) (pD (bz s)) (pG (bz s)) < 0))) = l → R (.tuple (.mk [.int .i64 l, .int .i64 0])) else False else False else R (.tuple (.mk [.int .i64 0, .int .i64 30])) else False) := by kernel_rfl
theorem ok36 : PureOK Tryz.prog 36 (sp2 s36) := by
 refine qure2 ok_G37 hmix fn36 lokf_none (Nat.le_of_ble_eq_true (by kernel_rfl)) fun n s hc => ?_
 rw [DoesQ, v36]
 have hc : (s.size ≤ 9223372036854775807 ∧ -9223372036854775808 ≤ n ∧ n ≤ 9223372036854775807) := of_decide_eq_true hc
 try dsimp only [s36]
 refine c_t (decide_eq_true hc.1) (cond_intro (fun h => ?_) (fun h => ?_))
 ·intro k cap d hR hz
  have hp := pD_rng h
  obtain ⟨g1, g2⟩ := wr_use h hR hz (cuN_lt n (pQ (bz s)) (pQ (bz s)) (pD (bz s)) (pG (bz s)))
  refine c_t (by simp only [i64B, Bool.and_eq_true, decide_eq_true_eq]; omega) (c_t g1 fun t l h1 h2 => ?_)
  rw [g2] at h1 h2
  rw [leZ, nE, if_pos h, if_pos h, ← h2]
  rfl
 ·have h1 : ¬ pN (bz s) = true := by rw [h]; simp
  rw [leZ, nE, if_neg h1, if_neg h1]
end Go.Px
end
noncomputable section
set_option maxHeartbeats 3200000
namespace Go.Px
open Go Go.Ab Go.Proofs Go.Shelf
theorem unK_dig {c : Int} (h1 : c ≥ 48) (h2 : c ≤ 57) : unK c = false := by
 cases h : unK c with
 | false => rfl
 | true =>
  have := hasZ_iff.1 h
  simp only [punchedZ, List.mem_cons, List.not_mem_nil, or_false] at this
  omega
def gsGo : List Int → List Int → List Int
 | [], _ => []
 | r :: rs, cs => bif r == 2 then gsGo rs cs else bif r != 0 && r != 1 then gsGo rs cs.tail else (48 + rdD (cs.headD 0)) :: gsGo rs cs.tail
def V67_0 : ByteArray × ByteArray × Rw × Int × Nat × Nat × Int × Int × List Value → List Value := fun (t, r4, o, aa, k2, cap2, L, i, d) => [.string t, .string r4, o.v 200, .int .i64 aa, .slice (some ⟨1, 0, some 1⟩) k2 cap2, .int .i64 L, .int .i64 i]
def B67_0 : ByteArray × ByteArray × Rw × Int × Nat × Nat × Int × Int × List Value → List (Option Blk) := fun (t, r4, o, aa, k2, cap2, L, i, d) => [some ⟨d, 102, false⟩, o.b]
def S67_0 : LSpecA (ByteArray × ByteArray × Rw × Int × Nat × Nat × Int × Int × List Value) where
 live := [1, 4, 5, 6, 16, 17, 18]
 mid := [1, 200]
 n := 210
 ap := [(.tmp 5, 200)]
 dec vs bs := match vs, bs with | [.string t, .string r4, .slice none 0 0, .int .i64 aa, .slice (some ⟨1, 0, some 1⟩) k2 cap2, .int .i64 L, .int .i64 i], [some ⟨d, 102, false⟩, none] => some (t, r4, .nil, aa, k2, cap2, L, i, d) | [.string t, .string r4, .slice (some ⟨200, 0, some 1⟩) om oc, .int .i64 aa, .slice (some ⟨1, 0, some 1⟩) k2 cap2, .int .i64 L, .int .i64 i], [some ⟨d, 102, false⟩, some ⟨od, 5, true⟩] => some (t, r4, .own od om oc, aa, k2, cap2, L, i, d) | _, _ => none
 pre := fun (t, r4, o, aa, k2, cap2, L, i, d) => o.ok && (rowIOK d k2 cap2 && decide (0 ≤ i ∧ i ≤ k2 ∧ k2 ≤ 1000 ∧ L = k2 ∧ 0 ≤ aa ∧ aa ≤ i ∧ aa + cN ((zc d k2).drop i.toNat) ≤ t.size ∧ o.z.length ≤ i))
 fin := fun (t, r4, o, aa, k2, cap2, L, i, d) Z => (o.is = false → gsGo ((zc d k2).drop i.toNat) ((bz t).drop aa.toNat) = [] → ∀ a' i', Z (.exit 0) [.string t, .string r4, .slice none 0 0, .int .i64 a', .slice (some ⟨1, 0, some 1⟩) k2 cap2, .int .i64 L, .int .i64 i'] [some ⟨d, 102, false⟩, none]) ∧ (∀ a' i' od' om' oc', rowOK od' om' oc' = true → zc od' om' = o.z ++ gsGo ((zc d k2).drop i.toNat) ((bz t).drop aa.toNat) → Z (.exit 0) [.string t, .string r4, .slice (some ⟨200, 0, some 1⟩) om' oc', .int .i64 a', .slice (some ⟨1, 0, some 1⟩) k2 cap2, .int .i64 L, .int .i64 i'] [some ⟨d, 102, false⟩, some ⟨od', 5, true⟩])
theorem r67_0n (t : ByteArray) (r4 : ByteArray) (aa : Int) (k2 : Nat) (cap2 : Nat) (L : Int) (i : Int) (d : List Value) (jk : Tmps) (R : Exit → List Value → List (Option Blk) → Prop) : (codeQ Tryz.prog G37 noL Tryz.f67.ntmps (loopOf Tryz.f67 0) (tl S67_0.live (V67_0 (t, r4, .nil, aa, k2, cap2, L, i, d)) jk) (ml S67_0.mid (B67_0 (t, r4, .nil, aa, k2, cap2, L, i, d))) S67_0.n fun e t' m' _ => S67_0.out R e t' m') = ( bif decide (i < L) then bif decide (0 ≤ i ∧ i < (↑k2 : Int)) then bif isIntAt IntKind.i64 d (0 + Int.toNat i * 1) then bif intAt d (0 + Int.toNat i * 1) == 2 then bif goodL [] d && true && true then R Exit.normal [.string t, .string r4, .slice none 0 0, .int .i64 aa, .slice (some (.mk 1 0 (some 1))) k2 cap2, .int .i64 L, .int .i64 (IntKind.wrap .i64 (i + 1))] [some (.mk (rlbL [] d) 102 false), none] else False else bif decide (0 ≤ aa ∧ aa < (↑(ByteArray.size t) : Int)) then bif intAt d (0 + Int.toNat i * 1) != 0 || true then bif intAt d (0 + Int.toNat i * 1) != 0 && intAt d (0 + Int.toNat i * 1) != 1 then bif goodL [] d && true && true then R Exit.normal [.string t, .string r4, .slice none 0 0, .int .i64 (IntKind.wrap .i64 (aa + 1)), .slice (some (.mk 1 0 (some 1))) k2 cap2, .int .i64 L, .int .i64 (IntKind.wrap .i64 (i + 1))] [some (.mk (rlbL [] d) 102 false), none] else False else bif decide (byteAt t (Int.toNat aa) ≥ 48) || true then bif decide (byteAt t (Int.toNat aa) ≥ 48) && decide (byteAt t (Int.toNat aa) ≤ 57) then ∀ (cap : Nat) (tail : List Value), tailOK tail cap 1 1 = true → bif goodL [(248, 200)] d && (goodL [(248, 200)] (.int .u8 (byteAt t (Int.toNat aa)) :: tail) && true) && true then R Exit.normal [.string t, .string r4, .slice (some (.mk 200 0 (some 1))) 1 cap, .int .i64 (IntKind.wrap .i64 (aa + 1)), .slice (some (.mk 1 0 (some 1))) k2 cap2, .int .i64 L, .int .i64 (IntKind.wrap .i64 (i + 1))] [some (.mk (rlbL [(248, 200)] d) 102 false), some (.mk (rlbL [(248, 200)] (.int .u8 (byteAt t (Int.toNat aa)) :: tail)) 5 true)] else False else bif unK (byteAt t (Int.toNat aa)) then ∀ (cap : Nat) (tail : List Value), tailOK tail cap 1 1 = true → bif goodL [(252, 200)] d && (goodL [(252, 200)] (.int .u8 (IntKind.wrap .u8 (48 + IntKind.wrap .u8 (unD (byteAt t (Int.toNat aa))))) :: tail) && true) && true then R Exit.normal [.string t, .string r4, .slice (some (.mk 200 0 (some 1))) 1 cap, .int .i64 (IntKind.wrap .i64 (aa + 1)), .slice (some (.mk 1 0 (some 1))) k2 cap2, .int .i64 L, .int .i64 (IntKind.wrap .i64 (i + 1))] [some (.mk (rlbL [(252, 200)] d) 102 false), some (.mk (rlbL [(252, 200)] (.int .u8 (IntKind.wrap .u8 (48 + IntKind.wrap .u8 (unD (byteAt t (Int.toNat aa))))) :: tail)) 5 true)] else False else ∀ (cap : Nat) (tail : List Value), tailOK tail cap 1 1 = true → bif goodL [(249, 200)] d && (goodL [(249, 200)] (.int .u8 48 :: tail) && true) && true then R Exit.normal [.string t, .string r4, .slice (some (.mk 200 0 (some 1))) 1 cap, .int .i64 (IntKind.wrap .i64 (aa + 1)), .slice (some (.mk 1 0 (some 1))) k2 cap2, .int .i64 L, .int .i64 (IntKind.wrap .i64 (i + 1))] [some (.mk (rlbL [(249, 200)] d) 102 false), some (.mk (rlbL [(249, 200)] (.int .u8 48 :: tail)) 5 true)] else False else False else False else False else False else False else bif goodL [] d && true && true then R (Exit.exit 0) [.string t, .string r4, .slice none 0 0, .int .i64 aa, .slice (some (.mk 1 0 (some 1))) k2 cap2, .int .i64 L, .int .i64 i] [some (.mk (rlbL [] d) 102 false), none] else False) := by kernel_rfl
theorem r67_0o (t : ByteArray) (r4 : ByteArray) (od : List Value) (om : Nat) (oc : Nat) (aa : Int) (k2 : Nat) (cap2 : Nat) (L : Int) (i : Int) (d : List Value) (jk : Tmps) (R : Exit → List Value → List (Option Blk) → Prop) : (codeQ Tryz.prog G37 noL Tryz.f67.ntmps (loopOf Tryz.f67 0) (tl S67_0.live (V67_0 (t, r4, (.own od om oc), aa, k2, cap2, L, i, d)) jk) (ml S67_0.mid (B67_0 (t, r4, (.own od om oc), aa, k2, cap2, L, i, d))) S67_0.n fun e t' m' _ => S67_0.out R e t' m') = ( bif decide (i < L) then bif decide (0 ≤ i ∧ i < (↑k2 : Int)) then bif isIntAt IntKind.i64 d (0 + Int.toNat i * 1) then bif intAt d (0 + Int.toNat i * 1) == 2 then bif goodL [(200, 200)] d && (goodL [(200, 200)] od && true) && true then R Exit.normal [.string t, .string r4, .slice (some (.mk 200 0 (some 1))) om oc, .int .i64 aa, .slice (some (.mk 1 0 (some 1))) k2 cap2, .int .i64 L, .int .i64 (IntKind.wrap .i64 (i + 1))] [some (.mk (rlbL [(200, 200)] d) 102 false), some (.mk (rlbL [(200, 200)] od) 5 true)] else False else bif decide (0 ≤ aa ∧ aa < (↑(ByteArray.size t) : Int)) then bif intAt d (0 + Int.toNat i * 1) != 0 || true then bif intAt d (0 + Int.toNat i * 1) != 0 && intAt d (0 + Int.toNat i * 1) != 1 then bif goodL [(200, 200)] d && (goodL [(200, 200)] od && true) && true then R Exit.normal [.string t, .string r4, .slice (some (.mk 200 0 (some 1))) om oc, .int .i64 (IntKind.wrap .i64 (aa + 1)), .slice (some (.mk 1 0 (some 1))) k2 cap2, .int .i64 L, .int .i64 (IntKind.wrap .i64 (i + 1))] [some (.mk (rlbL [(200, 200)] d) 102 false), some (.mk (rlbL [(200, 200)] od) 5 true)] else False else bif decide (byteAt t (Int.toNat aa) ≥ 48) || true then bif decide (byteAt t (Int.toNat aa) ≥ 48) && decide (byteAt t (Int.toNat aa) ≤ 57) then bif Nat.beq (List.length od) (oc * 1) && Nat.ble om oc && Nat.ble oc 9223372036854775807 && true && fitsA (om + 1) 1 then ∀ (cap : Nat) (tail : List Value), tailOK tail cap (om + 1) 1 = true → bif goodL [(248, 200)] d && (goodL [(248, 200)] (List.take (om * 1) od ++ [.int .u8 (byteAt t (Int.toNat aa))] ++ tail) && true) && true then R Exit.normal [.string t, .string r4, .slice (some (.mk 200 0 (some 1))) (om + 1) cap, .int .i64 (IntKind.wrap .i64 (aa + 1)), .slice (some (.mk 1 0 (some 1))) k2 cap2, .int .i64 L, .int .i64 (IntKind.wrap .i64 (i + 1))] [some (.mk (rlbL [(248, 200)] d) 102 false), some (.mk (rlbL [(248, 200)] (List.take (om * 1) od ++ [.int .u8 (byteAt t (Int.toNat aa))] ++ tail)) 5 true)] else False else False else bif unK (byteAt t (Int.toNat aa)) then bif Nat.beq (List.length od) (oc * 1) && Nat.ble om oc && Nat.ble oc 9223372036854775807 && true && fitsA (om + 1) 1 then ∀ (cap : Nat) (tail : List Value), tailOK tail cap (om + 1) 1 = true → bif goodL [(252, 200)] d && (goodL [(252, 200)] (List.take (om * 1) od ++ [.int .u8 (IntKind.wrap .u8 (48 + IntKind.wrap .u8 (unD (byteAt t (Int.toNat aa)))))] ++ tail) && true) && true then R Exit.normal [.string t, .string r4, .slice (some (.mk 200 0 (some 1))) (om + 1) cap, .int .i64 (IntKind.wrap .i64 (aa + 1)), .slice (some (.mk 1 0 (some 1))) k2 cap2, .int .i64 L, .int .i64 (IntKind.wrap .i64 (i + 1))] [some (.mk (rlbL [(252, 200)] d) 102 false), some (.mk (rlbL [(252, 200)] (List.take (om * 1) od ++ [.int .u8 (IntKind.wrap .u8 (48 + IntKind.wrap .u8 (unD (byteAt t (Int.toNat aa)))))] ++ tail)) 5 true)] else False else False else bif Nat.beq (List.length od) (oc * 1) && Nat.ble om oc && Nat.ble oc 9223372036854775807 && true && fitsA (om + 1) 1 then ∀ (cap : Nat) (tail : List Value), tailOK tail cap (om + 1) 1 = true → bif goodL [(249, 200)] d && (goodL [(249, 200)] (List.take (om * 1) od ++ [.int .u8 48] ++ tail) && true) && true then R Exit.normal [.string t, .string r4, .slice (some (.mk 200 0 (some 1))) (om + 1) cap, .int .i64 (IntKind.wrap .i64 (aa + 1)), .slice (some (.mk 1 0 (some 1))) k2 cap2, .int .i64 L, .int .i64 (IntKind.wrap .i64 (i + 1))] [some (.mk (rlbL [(249, 200)] d) 102 false), some (.mk (rlbL [(249, 200)] (List.take (om * 1) od ++ [.int .u8 48] ++ tail)) 5 true)] else False else False else False else False else False else False else False else bif goodL [(200, 200)] d && (goodL [(200, 200)] od && true) && true then R (Exit.exit 0) [.string t, .string r4, .slice (some (.mk 200 0 (some 1))) om oc, .int .i64 aa, .slice (some (.mk 1 0 (some 1))) k2 cap2, .int .i64 L, .int .i64 i] [some (.mk (rlbL [(200, 200)] d) 102 false), some (.mk (rlbL [(200, 200)] od) 5 true)] else False) := by kernel_rfl
theorem l67_0 : LOKf Tryz.prog (oneL 0 S67_0.hA) Tryz.f67 := by
 refine lokf_one (h := S67_0.hA) (by kernel_rfl) (loop_specA ok_G37 hmix (by kernel_rfl) (lok_none _) S67_0 V67_0 B67_0 (fun (t, r4, o, aa, k2, cap2, L, i, d) => (k2 - i).toNat) ?_ ?_ ?_)
 ·intro vs bs s h
  simp only [S67_0] at h
  split at h
  all_goals first | (cases h; exact ⟨rfl, rfl⟩) | cases h | (split at h <;> first | (rename_i hq; cases h; have hq := Nat.eq_of_beq_eq_true hq; subst hq; exact ⟨rfl, rfl⟩) | cases h)
 ·exact fun ⟨t, r4, o, aa, k2, cap2, L, i, d⟩ hp => by
   simp only [S67_0, Bool.and_eq_true] at hp
   have hr := rowIOK_iff.1 hp.2.1
   cases o with
   | nil => simp [V67_0, B67_0, S67_0, idsLt, idsLtB, idsL, ids, Rw.v, Rw.b, ids_plainL hr.plain]
   | own od om oc => simp [V67_0, B67_0, S67_0, idsLt, idsLtB, idsL, ids, Rw.v, Rw.b, ids_plainL hr.plain, ids_plainL (rowOK_iff.1 hp.1).plain]
 ·intro ⟨t, r4, o, aa, k2, cap2, L, i, d⟩ jk Z hp hf
  simp only [S67_0] at hp hf
  cases o with
  | nil =>
   rw [r67_0n]
   simp only [Bool.and_eq_true, decide_eq_true_eq] at hp
   obtain ⟨-, hR, hp⟩ := hp
   have hr := rowIOK_iff.1 hR
   simp only [Rw.z, List.length_nil] at hp hf
   have e0 : 0 + i.toNat * 1 = i.toNat := by omega
   rw [e0]
   refine cond_intro (fun h => ?_) (fun h => ?_)
   ·have h := of_decide_eq_true h
    obtain ⟨a1, a3⟩ := hr.at hp.1 (by omega)
    rw [a3, gsGo] at hf
    rw [a3, cN] at hp
    have hc := cN_nn ((zc d k2).drop (i + 1).toNat)
    rw [a1, w64 (n := i + 1) (by omega), w64 (n := aa + 1) (by omega)]
    generalize intAt d i.toNat = r at *
    refine c_t (decide_eq_true (by omega)) (c_t rfl (cond_intro (fun q => ?_) (fun q => ?_)))
    ·rw [q, cond_true] at hf hp
     refine c_t (by rw [hr.good]; rfl) ?_
     rw [hr.rlb]
     exact ⟨(t, r4, .nil, aa, k2, cap2, L, i + 1, d), rfl, rfl, by simp only [S67_0, Bool.and_eq_true, decide_eq_true_eq]; exact ⟨rfl, hR, by simp only [Rw.z, List.length_nil]; omega⟩, by simp only; omega, hf⟩
    ·rw [q, cond_false] at hf hp
     obtain ⟨p1, p2, p3, p4, p5, p6, p7, p8⟩ := hp
     rw [bz_at p5 (by omega), List.headD_cons, List.tail_cons] at hf
     have hB := byte_rng t aa.toNat
     generalize byteAt t aa.toNat = c at *
     have hu : 0 ≤ unD c ∧ unD c ≤ 9 := by unfold unD; split <;> omega
     rw [w8 (n := unD c) (by omega), w8 (n := 48 + unD c) (by omega)]
     refine c_t (decide_eq_true (by omega)) (c_t (by simp) (cond_intro (fun q2 => ?_) (fun q2 => c_t (by simp) (cond_intro (fun q3 => ?_) (fun q3 => cond_intro (fun q4 => ?_) (fun q4 => ?_))))))
     ·rw [q2, cond_true] at hf
      refine c_t (by rw [hr.good]; rfl) ?_
      rw [hr.rlb]
      exact ⟨(t, r4, .nil, aa + 1, k2, cap2, L, i + 1, d), rfl, rfl, by simp only [S67_0, Bool.and_eq_true, decide_eq_true_eq]; exact ⟨rfl, hR, by simp only [Rw.z, List.length_nil]; omega⟩, by simp only; omega, hf⟩
     ·rw [q2, cond_false] at hf
      intro cap1 tail ht
      obtain ⟨h1, h2⟩ : RowP (Value.int IntKind.u8 (c) :: tail) 1 cap1 ∧ zc (Value.int IntKind.u8 (c) :: tail) 1 = [c] := row_new [c] ht
      have hl1 := zc_length h1
      generalize Value.int IntKind.u8 (c) :: tail = od' at *
      have e : 48 + rdD c = c := by
       have q := q3
       simp only [Bool.and_eq_true, decide_eq_true_eq] at q
       unfold rdD
       rw [unK_dig q.1 q.2, q3]
       simp only [cond_true, cond_false]
       omega
      rw [e] at hf
      refine c_t (by rw [hr.good, h1.good]; rfl) ?_
      rw [hr.rlb, h1.rlb]
      exact ⟨(t, r4, .own od' (1) cap1, aa + 1, k2, cap2, L, i + 1, d), rfl, rfl, by simp only [S67_0, Bool.and_eq_true, decide_eq_true_eq]; exact ⟨rowOK_iff.2 h1, hR, by simp only [Rw.z, hl1]; omega⟩, by simp only; omega, ⟨fun q => (by cases q), fun a' i' od'' om'' oc'' g1 g2 => hf.2 a' i' od'' om'' oc'' g1 (by rw [g2]; simp only [Rw.z, h2, List.append_assoc, List.cons_append, List.nil_append])⟩⟩
     ·rw [q2, cond_false] at hf
      intro cap1 tail ht
      obtain ⟨h1, h2⟩ : RowP (Value.int IntKind.u8 (48 + unD c) :: tail) 1 cap1 ∧ zc (Value.int IntKind.u8 (48 + unD c) :: tail) 1 = [48 + unD c] := row_new [48 + unD c] ht
      have hl1 := zc_length h1
      generalize Value.int IntKind.u8 (48 + unD c) :: tail = od' at *
      have e : 48 + rdD c = 48 + unD c := by
       unfold rdD
       rw [q4]
       rfl
      rw [e] at hf
      refine c_t (by rw [hr.good, h1.good]; rfl) ?_
      rw [hr.rlb, h1.rlb]
      exact ⟨(t, r4, .own od' (1) cap1, aa + 1, k2, cap2, L, i + 1, d), rfl, rfl, by simp only [S67_0, Bool.and_eq_true, decide_eq_true_eq]; exact ⟨rowOK_iff.2 h1, hR, by simp only [Rw.z, hl1]; omega⟩, by simp only; omega, ⟨fun q => (by cases q), fun a' i' od'' om'' oc'' g1 g2 => hf.2 a' i' od'' om'' oc'' g1 (by rw [g2]; simp only [Rw.z, h2, List.append_assoc, List.cons_append, List.nil_append])⟩⟩
     ·rw [q2, cond_false] at hf
      intro cap1 tail ht
      obtain ⟨h1, h2⟩ : RowP (Value.int IntKind.u8 (48) :: tail) 1 cap1 ∧ zc (Value.int IntKind.u8 (48) :: tail) 1 = [48] := row_new [48] ht
      have hl1 := zc_length h1
      generalize Value.int IntKind.u8 (48) :: tail = od' at *
      have e : 48 + rdD c = 48 := by
       unfold rdD
       rw [q4, q3]
       rfl
      rw [e] at hf
      refine c_t (by rw [hr.good, h1.good]; rfl) ?_
      rw [hr.rlb, h1.rlb]
      exact ⟨(t, r4, .own od' (1) cap1, aa + 1, k2, cap2, L, i + 1, d), rfl, rfl, by simp only [S67_0, Bool.and_eq_true, decide_eq_true_eq]; exact ⟨rowOK_iff.2 h1, hR, by simp only [Rw.z, hl1]; omega⟩, by simp only; omega, ⟨fun q => (by cases q), fun a' i' od'' om'' oc'' g1 g2 => hf.2 a' i' od'' om'' oc'' g1 (by rw [g2]; simp only [Rw.z, h2, List.append_assoc, List.cons_append, List.nil_append])⟩⟩
   ·have h := of_decide_eq_false h
    rw [hr.end (by omega), gsGo] at hf
    refine c_t (by rw [hr.good]; rfl) ?_
    rw [hr.rlb]
    exact hf.1 rfl rfl aa i
  | own od om oc =>
   rw [r67_0o]
   simp only [Bool.and_eq_true, decide_eq_true_eq] at hp
   obtain ⟨ho, hR, hp⟩ := hp
   have hr := rowIOK_iff.1 hR
   have ho := rowOK_iff.1 ho
   have hzl := zc_length ho
   simp only [Rw.z, hzl] at hp hf
   have e0 : 0 + i.toNat * 1 = i.toNat := by omega
   rw [e0]
   refine cond_intro (fun h => ?_) (fun h => ?_)
   ·have h := of_decide_eq_true h
    obtain ⟨a1, a3⟩ := hr.at hp.1 (by omega)
    rw [a3, gsGo] at hf
    rw [a3, cN] at hp
    have hc := cN_nn ((zc d k2).drop (i + 1).toNat)
    rw [a1, w64 (n := i + 1) (by omega), w64 (n := aa + 1) (by omega)]
    generalize intAt d i.toNat = r at *
    refine c_t (decide_eq_true (by omega)) (c_t rfl (cond_intro (fun q => ?_) (fun q => ?_)))
    ·rw [q, cond_true] at hf hp
     refine c_t (by rw [hr.good, ho.good]; rfl) ?_
     rw [hr.rlb, ho.rlb]
     exact ⟨(t, r4, .own od om oc, aa, k2, cap2, L, i + 1, d), rfl, rfl, by simp only [S67_0, Bool.and_eq_true, decide_eq_true_eq]; exact ⟨rowOK_iff.2 ho, hR, by simp only [Rw.z, hzl]; omega⟩, by simp only; omega, hf⟩
    ·rw [q, cond_false] at hf hp
     obtain ⟨p1, p2, p3, p4, p5, p6, p7, p8⟩ := hp
     rw [bz_at p5 (by omega), List.headD_cons, List.tail_cons] at hf
     have hB := byte_rng t aa.toNat
     generalize byteAt t aa.toNat = c at *
     have hu : 0 ≤ unD c ∧ unD c ≤ 9 := by unfold unD; split <;> omega
     rw [w8 (n := unD c) (by omega), w8 (n := 48 + unD c) (by omega)]
     refine c_t (decide_eq_true (by omega)) (c_t (by simp) (cond_intro (fun q2 => ?_) (fun q2 => c_t (by simp) (cond_intro (fun q3 => ?_) (fun q3 => cond_intro (fun q4 => ?_) (fun q4 => ?_))))))
     ·rw [q2, cond_true] at hf
      refine c_t (by rw [hr.good, ho.good]; rfl) ?_
      rw [hr.rlb, ho.rlb]
      exact ⟨(t, r4, .own od om oc, aa + 1, k2, cap2, L, i + 1, d), rfl, rfl, by simp only [S67_0, Bool.and_eq_true, decide_eq_true_eq]; exact ⟨rowOK_iff.2 ho, hR, by simp only [Rw.z, hzl]; omega⟩, by simp only; omega, hf⟩
     ·rw [q2, cond_false] at hf
      refine c_t (ho.ask (k := 1) (by omega)) (fun cap1 tail ht => ?_)
      obtain ⟨h1, h2⟩ := ho.app1 (c) ht
      have hl1 := zc_length h1
      generalize List.take (om * 1) od ++ [Value.int IntKind.u8 (c)] ++ tail = od' at *
      have e : 48 + rdD c = c := by
       have q := q3
       simp only [Bool.and_eq_true, decide_eq_true_eq] at q
       unfold rdD
       rw [unK_dig q.1 q.2, q3]
       simp only [cond_true, cond_false]
       omega
      rw [e] at hf
      refine c_t (by rw [hr.good, h1.good]; rfl) ?_
      rw [hr.rlb, h1.rlb]
      exact ⟨(t, r4, .own od' (om + 1) cap1, aa + 1, k2, cap2, L, i + 1, d), rfl, rfl, by simp only [S67_0, Bool.and_eq_true, decide_eq_true_eq]; exact ⟨rowOK_iff.2 h1, hR, by simp only [Rw.z, hl1]; omega⟩, by simp only; omega, ⟨fun q => (by cases q), fun a' i' od'' om'' oc'' g1 g2 => hf.2 a' i' od'' om'' oc'' g1 (by rw [g2]; simp only [Rw.z, h2, List.append_assoc, List.cons_append, List.nil_append])⟩⟩
     ·rw [q2, cond_false] at hf
      refine c_t (ho.ask (k := 1) (by omega)) (fun cap1 tail ht => ?_)
      obtain ⟨h1, h2⟩ := ho.app1 (48 + unD c) ht
      have hl1 := zc_length h1
      generalize List.take (om * 1) od ++ [Value.int IntKind.u8 (48 + unD c)] ++ tail = od' at *
      have e : 48 + rdD c = 48 + unD c := by
       unfold rdD
       rw [q4]
       rfl
      rw [e] at hf
      refine c_t (by rw [hr.good, h1.good]; rfl) ?_
      rw [hr.rlb, h1.rlb]
      exact ⟨(t, r4, .own od' (om + 1) cap1, aa + 1, k2, cap2, L, i + 1, d), rfl, rfl, by simp only [S67_0, Bool.and_eq_true, decide_eq_true_eq]; exact ⟨rowOK_iff.2 h1, hR, by simp only [Rw.z, hl1]; omega⟩, by simp only; omega, ⟨fun q => (by cases q), fun a' i' od'' om'' oc'' g1 g2 => hf.2 a' i' od'' om'' oc'' g1 (by rw [g2]; simp only [Rw.z, h2, List.append_assoc, List.cons_append, List.nil_append])⟩⟩
     ·rw [q2, cond_false] at hf
      refine c_t (ho.ask (k := 1) (by omega)) (fun cap1 tail ht => ?_)
      obtain ⟨h1, h2⟩ := ho.app1 (48) ht
      have hl1 := zc_length h1
      generalize List.take (om * 1) od ++ [Value.int IntKind.u8 (48)] ++ tail = od' at *
      have e : 48 + rdD c = 48 := by
       unfold rdD
       rw [q4, q3]
       rfl
      rw [e] at hf
      refine c_t (by rw [hr.good, h1.good]; rfl) ?_
      rw [hr.rlb, h1.rlb]
      exact ⟨(t, r4, .own od' (om + 1) cap1, aa + 1, k2, cap2, L, i + 1, d), rfl, rfl, by simp only [S67_0, Bool.and_eq_true, decide_eq_true_eq]; exact ⟨rowOK_iff.2 h1, hR, by simp only [Rw.z, hl1]; omega⟩, by simp only; omega, ⟨fun q => (by cases q), fun a' i' od'' om'' oc'' g1 g2 => hf.2 a' i' od'' om'' oc'' g1 (by rw [g2]; simp only [Rw.z, h2, List.append_assoc, List.cons_append, List.nil_append])⟩⟩
   ·have h := of_decide_eq_false h
    rw [hr.end (by omega), gsGo] at hf
    refine c_t (by rw [hr.good, ho.good]; rfl) ?_
    rw [hr.rlb, ho.rlb]
    exact hf.2 aa i od om oc (rowOK_iff.2 ho) (by simp)
end Go.Px
end
noncomputable section
set_option maxHeartbeats 3200000
namespace Go.Px
open Go Go.Ab Go.Proofs Go.Shelf
theorem v67 (s : ByteArray) (nb : Bool) (w : Int) (dg : Int) (sc : Int) (sg : Bool) (k : Nat) (cap : Nat) (dr : Int) (f : Int) (cr : Bool) (fl : Int) (fm : Int) (t : ByteArray) (d : List Value) (R : Value → Prop) : (bodyQ Tryz.prog G37 (oneL 0 S67_0.hA) Tryz.f67 [.pointer (some ⟨0, 0, some 0⟩), .string t] (vwF2 (fmL s nb w dg sc sg 1 k cap dr f cr fl fm) d) 2 (fun v _ _ => R v)) = ( bif goodL [] d && true && true && (idsLt 210 (rlbL [] d) && true) then bif LSpec.pre (LSpecA.toLSpec S67_0) (t, ByteArray.mk #[], Rw.nil, 0, k, cap, natO k, 0, rlbL [] d) then (Rw.is Rw.nil = false → gsGo (List.drop (Int.toNat 0) (zc (rlbL [] d) k)) (List.drop (Int.toNat 0) (bz t)) = [] → ∀ (a' i' : Int), bif idsLt 210 (rlbL [] d) && true then ∀ (x : Tmps), R (.string ByteArray.empty) else False) ∧ ∀ (a' i' : Int) (od' : List Value) (om' oc' : Nat), rowOK od' om' oc' = true → zc od' om' = Rw.z Rw.nil ++ gsGo (List.drop (Int.toNat 0) (zc (rlbL [] d) k)) (List.drop (Int.toNat 0) (bz t)) → bif idsLt 210 (rlbL [] d) && (idsLt 210 od' && true) then ∀ (x : Tmps), bif bytesOK od' 0 om' then R (.string (bytesOf od' 0 om')) else False else False else False else False) := by kernel_rfl
theorem fn67 : Fn1 Tryz.prog 67 Tryz.f67 := ⟨Tryz.func67, by kernel_rfl, by kernel_rfl, by kernel_rfl⟩
theorem w_67 (s : ByteArray) (nb : Bool) (w : Int) (dg : Int) (sc : Int) (sg : Bool) (k : Nat) (cap : Nat) (dr : Int) (f : Int) (cr : Bool) (fl : Int) (fm : Int) (t : ByteArray) (d : List Value) (hR : rowIOK d k cap = true) (hk : k ≤ 1000) (hc : cN (zc d k) ≤ t.size)
  {R : Value → Prop} (hV : R (.string (sz (gsGo (zc d k) (bz t))))) :
  DoesM Tryz.prog G37 (oneL 0 S67_0.hA) Tryz.f67 [.pointer (some ⟨0, 0, some 0⟩), .string t] (vwF2 (fmL s nb w dg sc sg 1 k cap dr f cr fl fm) d) 2 (fun v _ _ => R v) := by
 rw [DoesM, v67]
 have h := rowIOK_iff.1 hR
 have z0 : Int.toNat 0 = 0 := rfl
 have hg : (goodL [] d && true && true && (idsLt 210 d && true)) = true := by rw [h.good]; simp [idsLt, idsL, ids_plainL h.plain]
 have hg' : (goodL [] d && true && (idsLt 210 d && true)) = true := by rw [h.good]; simp [idsLt, idsL, ids_plainL h.plain]
 have hi : (idsLt 210 d && true) = true := by simp [idsLt, idsL, ids_plainL h.plain]
 simp only [h.rlb, z0, List.drop_zero]
 refine c_t (by first | exact hg | exact hg') (c_t ?_ ⟨fun _ hn a' i' => c_t hi fun _ => ?_, fun a' i' od om oc g1 g2 => ?_⟩)
 ·show (Rw.nil.ok && (rowIOK d k cap && decide ((0 : Int) ≤ 0 ∧ (0 : Int) ≤ k ∧ k ≤ 1000 ∧ natO k = k ∧ (0 : Int) ≤ 0 ∧ (0 : Int) ≤ 0 ∧ 0 + cN ((zc d k).drop (Int.toNat 0)) ≤ t.size ∧ ((Rw.nil.z.length : Nat) : Int) ≤ 0))) = true
  rw [hR, natO_eq, z0, List.drop_zero]
  simp only [Bool.true_and, Rw.ok, Rw.z, List.length_nil, decide_eq_true_eq]
  exact ⟨by omega, by omega, by omega, trivial, by omega, by omega, by omega, by omega⟩
 ·rw [hn] at hV
  exact hV
 ·have ho := rowOK_iff.1 g1
  have hio : (idsLt 210 d && (idsLt 210 od && true)) = true := by simp [idsLt, idsL, ids_plainL h.plain, ids_plainL ho.plain]
  have s3 := ho.str
  have g3 : zc od om = gsGo (zc d k) (bz t) := by rw [g2]; rfl
  rw [g3] at s3
  exact c_t hio fun _ => c_t s3.1 (by rw [s3.2]; exact hV)
def h67 : List Value → Lk → Nat → (Value → Lk → Nat → Prop) → Prop := fun args m n K => match args with
 | [.pointer (some ⟨a, 0, some 0⟩), .string t] => match m a with
  | some ⟨[.string s, .bool nb, .int .i64 w, .int .i64 dg, .int .i64 sc, .bool sg, .slice (some ⟨y, 0, some 1⟩) k cap, .int .u8 dr, .int .i64 f, .bool cr, .int .u8 fl, .int .i64 fm], 84, own⟩ => match m y with
   | some ⟨d, 102, own2⟩ => match cnd (rowIOK d k cap && decide (k ≤ 1000 ∧ cN (zc d k) ≤ t.size)) with
    | true => ∀ e : ByteArray, sz (gsGo (zc d k) (bz t)) = e → K (.string e) m n
    | false => False
   | _ => False
  | _ => False
 | _ => False
theorem h67_ok : GenOK Tryz.prog 67 h67 := by
 refine gen_sub ok_G37 hmix fn67 l67_0 fun args m n K h => ?_
 unfold h67 at h
 split at h
 case h_2 => exact h.elim
 rename_i a t
 split at h
 case h_2 => exact h.elim
 rename_i s nb w dg sc sg y k cap dr f cr fl fm own hm
 split at h
 case h_2 => exact h.elim
 rename_i d own2 hy
 split at h
 case h_2 => exact h.elim
 rename_i hc
 simp only [cnd, Bool.and_eq_true, decide_eq_true_eq] at hc
 obtain ⟨h1, h2, h3⟩ := hc
 refine ⟨[.pointer (some ⟨0, 0, some 0⟩), .string t], _, 2, rho2 a y, .string (sz (gsGo (zc d k) (bz t))), sub_F2 (rowIOK_iff.1 h1).plain hm hy, fun ι => by simp [ren, ren1, rho2], Nat.le_of_ble_eq_true (by kernel_rfl), fun v hv j hj => ?_, rfl,
  w_67 s nb w dg sc sg k cap dr f cr fl fm t d h1 h2 h3 (R := fun v => v = .string (sz (gsGo (zc d k) (bz t)))) rfl, h _ rfl⟩
 simp at hv
 rcases hv with rfl | rfl
 ·have : j = 0 := by simpa [ids] using hj
  omega
 ·simp [ids] at hj
end Go.Px
end
noncomputable section
set_option maxHeartbeats 3200000
namespace Go.Px
open Go Go.Ab Go.Proofs Go.Shelf
def V71_0 : ByteArray × Bool × List Value × Nat × Nat × Int × Int → List Value := fun (s, r, d, m, cap, L, i) => [S s, B r, .slice (some ⟨300, 0, some 1⟩) m cap, I L, I i]
def B71_0 : ByteArray × Bool × List Value × Nat × Nat × Int × Int → List (Option Blk) := fun (s, r, d, m, cap, L, i) => [some ⟨d, 5, false⟩]
def S71_0 : LSpecA (ByteArray × Bool × List Value × Nat × Nat × Int × Int) where
 live := [0, 4, 15, 16, 17]
 mid := [300]
 n := 310
 ap := [(.tmp 15, 300)]
 dec vs bs := match vs, bs with | [.string s, .bool r, .slice (some ⟨300, 0, some 1⟩) m cap, .int .i64 L, .int .i64 i], [some ⟨d, 5, false⟩] => some (s, r, d, m, cap, L, i) | _, _ => none
 pre := fun (s, r, d, m, cap, L, i) => vwOK d m && ((bz s).all (hasZ [65, 88, 57]) && decide (0 ≤ i ∧ i ≤ m ∧ L = m ∧ s.size = m ∧ m ≤ 1000))
 fin := fun (s, r, d, m, cap, L, i) Z => (bif onGo ((bz s).drop i.toNat) ((zc d m).drop i.toNat) then ∀ i', Z (.exit 0) [S s, B r, .slice (some ⟨300, 0, some 1⟩) m cap, I L, I i'] [some ⟨d, 5, false⟩] else ∀ i', Z .ret [S s, B false, .slice (some ⟨300, 0, some 1⟩) m cap, I L, I i'] [some ⟨d, 5, false⟩])
theorem r71_0 (s : ByteArray) (r : Bool) (d : List Value) (m : Nat) (cap : Nat) (L : Int) (i : Int) (jk : Tmps) (R : Exit → List Value → List (Option Blk) → Prop) : (codeQ Tryz.prog G37 noL Tryz.f71.ntmps (loopOf Tryz.f71 0) (tl S71_0.live (V71_0 (s, r, d, m, cap, L, i)) jk) (ml S71_0.mid (B71_0 (s, r, d, m, cap, L, i))) S71_0.n fun e t' m' _ => S71_0.out R e t' m') = ( bif decide (i < L) then bif decide (0 ≤ i ∧ i < (↑m : Int)) then bif isIntAt IntKind.u8 d (0 + Int.toNat i * 1) then bif decide (intAt d (0 + Int.toNat i * 1) ≥ 48) || true then bif bif decide (intAt d (0 + Int.toNat i * 1) ≥ 65) then decide (intAt d (0 + Int.toNat i * 1) ≤ 90) || (decide (intAt d (0 + Int.toNat i * 1) ≥ 97) || true) else decide (intAt d (0 + Int.toNat i * 1) ≥ 97) || true then bif decide (0 ≤ i ∧ i < (↑(ByteArray.size s) : Int)) && bif byteAt s (Int.toNat i) == 65 then bif !bif decide (intAt d (0 + Int.toNat i * 1) ≥ 65) then decide (intAt d (0 + Int.toNat i * 1) ≤ 90) || decide (intAt d (0 + Int.toNat i * 1) ≥ 97) && decide (intAt d (0 + Int.toNat i * 1) ≤ 122) else decide (intAt d (0 + Int.toNat i * 1) ≥ 97) && decide (intAt d (0 + Int.toNat i * 1) ≤ 122) then intAt d (0 + Int.toNat i * 1) != 32 || decide (0 ≤ i ∧ i < (↑(ByteArray.size s) : Int)) && bif byteAt s (Int.toNat i) == 57 then !(decide (intAt d (0 + Int.toNat i * 1) ≥ 48) && decide (intAt d (0 + Int.toNat i * 1) ≤ 57)) || true else true else decide (0 ≤ i ∧ i < (↑(ByteArray.size s) : Int)) && bif byteAt s (Int.toNat i) == 57 then !(decide (intAt d (0 + Int.toNat i * 1) ≥ 48) && decide (intAt d (0 + Int.toNat i * 1) ≤ 57)) || true else true else decide (0 ≤ i ∧ i < (↑(ByteArray.size s) : Int)) && bif byteAt s (Int.toNat i) == 57 then !(decide (intAt d (0 + Int.toNat i * 1) ≥ 48) && decide (intAt d (0 + Int.toNat i * 1) ≤ 57)) || true else true then bif bif byteAt s (Int.toNat i) == 65 then bif !bif decide (intAt d (0 + Int.toNat i * 1) ≥ 65) then decide (intAt d (0 + Int.toNat i * 1) ≤ 90) || decide (intAt d (0 + Int.toNat i * 1) ≥ 97) && decide (intAt d (0 + Int.toNat i * 1) ≤ 122) else decide (intAt d (0 + Int.toNat i * 1) ≥ 97) && decide (intAt d (0 + Int.toNat i * 1) ≤ 122) then intAt d (0 + Int.toNat i * 1) != 32 || byteAt s (Int.toNat i) == 57 && (!(decide (intAt d (0 + Int.toNat i * 1) ≥ 48) && decide (intAt d (0 + Int.toNat i * 1) ≤ 57)) && intAt d (0 + Int.toNat i * 1) != 32) else byteAt s (Int.toNat i) == 57 && (!(decide (intAt d (0 + Int.toNat i * 1) ≥ 48) && decide (intAt d (0 + Int.toNat i * 1) ≤ 57)) && intAt d (0 + Int.toNat i * 1) != 32) else byteAt s (Int.toNat i) == 57 && (!(decide (intAt d (0 + Int.toNat i * 1) ≥ 48) && decide (intAt d (0 + Int.toNat i * 1) ≤ 57)) && intAt d (0 + Int.toNat i * 1) != 32) then bif goodL [(300, 300)] d && true && true then R Exit.ret [.string s, .bool false, .slice (some (.mk 300 0 (some 1))) m cap, .int .i64 L, .int .i64 i] [some (.mk (rlbL [(300, 300)] d) 5 false)] else False else bif goodL [(300, 300)] d && true && true then R Exit.normal [.string s, .bool r, .slice (some (.mk 300 0 (some 1))) m cap, .int .i64 L, .int .i64 (IntKind.wrap .i64 (i + 1))] [some (.mk (rlbL [(300, 300)] d) 5 false)] else False else False else False else False else False else False else bif goodL [(300, 300)] d && true && true then R (Exit.exit 0) [.string s, .bool r, .slice (some (.mk 300 0 (some 1))) m cap, .int .i64 L, .int .i64 i] [some (.mk (rlbL [(300, 300)] d) 5 false)] else False) := by kernel_rfl
theorem l71_0 : LOKf Tryz.prog (oneL 0 S71_0.hA) Tryz.f71 := by
 refine lokf_one (h := S71_0.hA) (by kernel_rfl) (loop_specA ok_G37 hmix (by kernel_rfl) (lok_none _) S71_0 V71_0 B71_0 (fun (s, r, d, m, cap, L, i) => (m - i).toNat) ?_ ?_ ?_)
 ·intro vs bs s h
  simp only [S71_0] at h
  split at h
  all_goals first | (cases h; exact ⟨rfl, rfl⟩) | cases h | (split at h <;> first | (rename_i hq; cases h; have hq := Nat.eq_of_beq_eq_true hq; subst hq; exact ⟨rfl, rfl⟩) | cases h)
 ·exact fun ⟨s, r, d, m, cap, L, i⟩ hp => by
   simp only [S71_0, Bool.and_eq_true] at hp
   have hv := vwOK_iff.1 hp.1
   simp [V71_0, B71_0, S71_0, idsLt, idsLtB, idsL, ids, ids_plainL hv.plain]
 ·intro ⟨s, r, d, m, cap, L, i⟩ jk Z hp hf
  rw [r71_0]
  simp only [S71_0] at hp hf
  simp only [Bool.and_eq_true, decide_eq_true_eq] at hp
  obtain ⟨hV, hA, hp⟩ := hp
  have hv := vwOK_iff.1 hV
  have e0 : 0 + i.toNat * 1 = i.toNat := by omega
  rw [e0]
  simp only [hv.rlb]
  have hg : ∀ ps, (goodL ps d && true && true) = true := fun ps => by rw [goodL_plain hv.plain]; rfl
  refine cond_intro (fun h => ?_) (fun h => ?_)
  ·have h := of_decide_eq_true h
   obtain ⟨a1, a2, a3⟩ := hv.at hp.1 (by omega)
   have hcb : byteAt s i.toNat = 65 ∨ byteAt s i.toNat = 88 ∨ byteAt s i.toNat = 57 := by
    have hm : byteAt s i.toNat ∈ bz s := List.drop_subset i.toNat (bz s) (by rw [bz_at hp.1 (by omega)]; exact List.mem_cons_self)
    have := List.all_eq_true.1 hA _ hm
    have := hasZ_iff.1 this
    simp only [List.mem_cons, List.not_mem_nil, or_false] at this
    omega
   rw [bz_at hp.1 (by omega), a3, onGo] at hf
   rw [a1, w64 (n := i + 1) (by omega), decide_eq_true (show 0 ≤ i ∧ i < (m : Int) by omega), decide_eq_true (show 0 ≤ i ∧ i < (s.size : Int) by omega)]
   generalize intAt d i.toNat = b at *
   generalize byteAt s i.toNat = c at *
   have el : (bif decide (b ≥ 65) then decide (b ≤ 90) || decide (b ≥ 97) && decide (b ≤ 122) else decide (b ≥ 97) && decide (b ≤ 122)) = letZ b := by
    unfold letZ
    rw [Bool.eq_iff_iff]
    by_cases h1 : b ≥ 65 <;> simp [h1] <;> omega
   have ed : (decide (b ≥ 48) && decide (b ≤ 57)) = isDig b := by
    rw [Bool.eq_iff_iff]
    simp [isDig]
   rw [el, ed]
   have key : (bif c == 65 then bif !letZ b then b != 32 || c == 57 && (!isDig b && b != 32) else c == 57 && (!isDig b && b != 32) else c == 57 && (!isDig b && b != 32)) = !oneZ c b := by
    unfold oneZ
    rcases hcb with rfl | rfl | rfl <;> by_cases h2 : b = 32 <;> simp [h2] <;> cases letZ b <;> cases isDig b <;> simp
   rw [key]
   refine c_t rfl (c_t rfl (c_t (by simp) (c_t (by cases decide (b ≥ 65) <;> simp) (c_t (by cases c == 65 <;> cases !letZ b <;> cases c == 57 <;> simp) (cond_intro (fun q => c_t (hg _) ?_) (fun q => c_t (hg _) ?_))))))
   ·have q : oneZ c b = false := by simpa using q
    rw [q, Bool.false_and, cond_false] at hf
    exact hf i
   ·have q : oneZ c b = true := by simpa using q
    rw [q, Bool.true_and] at hf
    exact ⟨(s, r, d, m, cap, L, i + 1), rfl, rfl, by simp only [S71_0, Bool.and_eq_true, decide_eq_true_eq]; exact ⟨hV, hA, by omega⟩, by simp only; omega, hf⟩
  ·have h := of_decide_eq_false h
   have hz : (bz s).drop i.toNat = [] := List.drop_eq_nil_of_le (by rw [bz_length]; omega)
   rw [hv.end (by omega), hz] at hf
   exact c_t (hg _) (hf i)
end Go.Px
end
noncomputable section
set_option maxHeartbeats 3200000
namespace Go.Px
open Go Go.Ab Go.Proofs Go.Shelf
def s71 (s : ByteArray) (t : ByteArray) : Bool × Value := ((bz s).all (hasZ [65, 88, 57]) && decide (s.size ≤ 1000 ∧ t.size ≤ 9223372036854775807), .bool (decide ((t.size : Int) = s.size) && onGo (bz s) (bz t)))
theorem fn71 : Fn1 Tryz.prog 71 Tryz.f71 := ⟨Tryz.func71, by kernel_rfl, by kernel_rfl, by kernel_rfl⟩
theorem v71 (s : ByteArray) (t : ByteArray) (R : Value → Prop) : bodyQ Tryz.prog G37 (oneL 0 S71_0.hA) Tryz.f71 [Enc.enc s, Enc.enc t] (fun _ => none) 0 (fun v _ _ => R v) = ( bif (↑(ByteArray.size t) : Int) != (↑(ByteArray.size s) : Int) then R (.bool false) else ∀ (cap : Nat), Nat.ble (ByteArray.size t) cap = true → bif goodL [(7, 300)] (Lib.strCells t) && true && true && (idsLt 310 (rlbL [(7, 300)] (Lib.strCells t)) && true) then bif LSpec.pre (LSpecA.toLSpec S71_0) (s, false, rlbL [(7, 300)] (Lib.strCells t), ByteArray.size t, cap, natO (ByteArray.size t), 0) then bif onGo (List.drop (Int.toNat 0) (bz s)) (List.drop (Int.toNat 0) (zc (rlbL [(7, 300)] (Lib.strCells t)) (ByteArray.size t))) then ∀ (i' : Int), bif idsLt 310 (rlbL [(7, 300)] (Lib.strCells t)) && true then ∀ (x : Tmps), R (.bool true) else False else ∀ (i' : Int), bif idsLt 310 (rlbL [(7, 300)] (Lib.strCells t)) && true then ∀ (x : Tmps), R (.bool false) else False else False else False) := by kernel_rfl
theorem ok71 : PureOK Tryz.prog 71 (sp2 s71) := by
 refine qure2 ok_G37 hmix fn71 l71_0 (Nat.le_of_ble_eq_true (by kernel_rfl)) fun s t hc => ?_
 rw [DoesQ, v71]
 try dsimp only [s71]
 obtain ⟨hA, hc⟩ := Bool.and_eq_true_iff.1 hc
 have hc := of_decide_eq_true hc
 obtain ⟨hv, hz⟩ := vw_str t
 have hV := vwOK_iff.2 hv
 refine cond_intro (fun h => ?_) (fun h => fun cap _ => ?_)
 ·have h : ¬ (t.size : Int) = s.size := by simpa using h
  rw [decide_eq_false h]
  rfl
 ·have h : (t.size : Int) = s.size := by simpa using h
  have hg : (goodL [(7, 300)] (Lib.strCells t) && true && true && (idsLt 310 (Lib.strCells t) && true)) = true := by rw [goodL_plain hv.plain]; simp [idsLt, idsL, ids_plainL hv.plain]
  have hi : (idsLt 310 (Lib.strCells t) && true) = true := by simp [idsLt, idsL, ids_plainL hv.plain]
  have z0 : Int.toNat 0 = 0 := rfl
  simp only [hv.rlb, z0, List.drop_zero, hz]
  refine c_t hg (c_t ?_ ?_)
  ·show (vwOK (Lib.strCells t) t.size && ((bz s).all (hasZ [65, 88, 57]) && decide ((0 : Int) ≤ 0 ∧ (0 : Int) ≤ t.size ∧ natO t.size = t.size ∧ s.size = t.size ∧ t.size ≤ 1000))) = true
   rw [hV, hA, natO_eq]
   simp only [Bool.true_and, decide_eq_true_eq]
   exact ⟨by omega, by omega, trivial, by omega, by omega⟩
  ·rw [decide_eq_true h, Bool.true_and]
   refine cond_intro (fun q _ => c_t hi fun _ => by rw [q]) (fun q _ => c_t hi fun _ => by rw [q])
end Go.Px
end
noncomputable section
namespace Go.Px
open Go Go.Ab Go.Proofs Go.Shelf
theorem dec_from : ∀ (l : List UInt8) (a : Nat), dgL (zl l) = true → Lib.decFrom a l = some (numZ (zl l) a).toNat ∧ 0 ≤ numZ (zl l) a
 | [], a, _ => ⟨rfl, Int.natCast_nonneg a⟩
 | b :: r, a, h => by
  have h : dgL ((b.toNat : Int) :: zl r) = true := h
  have h1 : 48 ≤ b.toNat ∧ b.toNat ≤ 57 := by
   simp only [dgL, List.all_cons, Bool.and_eq_true, decide_eq_true_eq] at h
   omega
  have h2 : dgL (zl r) = true := by
   simp only [dgL, List.all_cons, Bool.and_eq_true] at h
   exact h.2
  obtain ⟨e1, e2⟩ := dec_from r (a * 10 + (b.toNat - 48)) h2
  have e : ((a * 10 + (b.toNat - 48) : Nat) : Int) = (a : Int) * 10 + ((b.toNat : Int) - 48) := by omega
  rw [e] at e1 e2
  have hd : Lib.digitVal b = some (b.toNat - 48) := by rw [Lib.digitVal, if_pos h1]
  refine ⟨?_, e2⟩
  rw [Lib.decFrom, hd]
  exact e1
theorem atoi_dig {s : ByteArray} (h0 : 1 ≤ s.size) (h : dgL (bz s) = true) : Lib.atoi s.data.toList = some (dval (bz s)) := by
 have hb : bz s = zl s.data.toList := rfl
 have hl : s.data.toList.length = s.size := rfl
 rw [hb] at h ⊢
 generalize s.data.toList = l at *
 cases l with
 | nil => simp at hl; omega
 | cons b r =>
  have h1 : 48 ≤ b.toNat ∧ b.toNat ≤ 57 := by
   have h : dgL ((b.toNat : Int) :: zl r) = true := h
   simp only [dgL, List.all_cons, Bool.and_eq_true, decide_eq_true_eq] at h
   omega
  have n45 : (b == 45) = false := by
   cases q : b == 45 with
   | false => rfl
   | true => have := eq_of_beq q; rw [this] at h1; revert h1; decide
  have n43 : (b == 43) = false := by
   cases q : b == 43 with
   | false => rfl
   | true => have := eq_of_beq q; rw [this] at h1; revert h1; decide
  obtain ⟨e1, e2⟩ := dec_from (b :: r) 0 h
  rw [Lib.atoi, n45, n43]
  show (Lib.decNat (b :: r)).map (fun m : Nat => (m : Int)) = _
  have : Lib.decNat (b :: r) = Lib.decFrom 0 (b :: r) := rfl
  rw [this, e1, Option.map_some, dval]
  congr 1
  exact Int.toNat_of_nonneg e2
def s68 (s : ByteArray) : Bool × Value := (decide (1 ≤ s.size ∧ s.size ≤ 18) && dgL (bz s), .tuple ⟨[.int .i64 (dval (bz s)), .nilIface]⟩)
theorem ok68 : PureOK Tryz.prog 68 (sp1 s68) := shelf1 c68 fun s hc w _ => by
 simp only [s68, Bool.and_eq_true, decide_eq_true_eq] at hc
 refine (Any.strconv_Atoi (ρ := Tryz.lays172_ren) Tryz.lays172 s (dval (bz s)) hc.1.2 (atoi_dig hc.1.1 hc.2) w).mono fun e w' ⟨h1, t, h2⟩ => ⟨h1, ?_⟩
 subst h2
 exact Lib.bytesWorld_below _ _ _
end Go.Px
end
noncomputable section
namespace Go.Px
open Go Go.Ab Go.Proofs Go.Shelf
theorem gs_law : ∀ (ro cs : List Int) (a : Int), okR ro → ((gsGo ro cs).length : Int) = cdg ro ∧ dgL (gsGo ro cs) = true ∧ numZ (gsGo ro cs) a = rdGo (ro.map rmk) cs a
 | [], _, _, _ => ⟨rfl, rfl, rfl⟩
 | r :: rs, cs, a, hok => by
  have hok' : okR rs := fun x hx => hok x (List.mem_cons_of_mem _ hx)
  rw [gsGo, cdg, List.map_cons, rdGo]
  have hr := rd_rng (cs.headD 0)
  have dig : ∀ l, dgL l = true → dgL ((48 + rdD (cs.headD 0)) :: l) = true := fun l h => by
   simp only [dgL, List.all_cons, Bool.and_eq_true, decide_eq_true_eq] at h ⊢
   exact ⟨by omega, h⟩
  have e : a * 10 + (48 + rdD (cs.headD 0) - 48) = a * 10 + rdD (cs.headD 0) := by omega
  rcases rmk_cases (hok r List.mem_cons_self) with rfl | rfl | rfl | rfl | rfl | rfl
  ·obtain ⟨h1, h2, h3⟩ := gs_law rs cs.tail (a * 10 + rdD (cs.headD 0)) hok'
   refine ⟨?_, dig _ h2, ?_⟩
   ·show (((_ :: gsGo rs cs.tail).length : Nat) : Int) = 1 + cdg rs
    rw [List.length_cons]; omega
   ·show numZ (_ :: gsGo rs cs.tail) a = rdGo (rs.map rmk) cs.tail (a * 10 + rdD (cs.headD 0))
    rw [numZ, e]; exact h3
  ·obtain ⟨h1, h2, h3⟩ := gs_law rs cs.tail (a * 10 + rdD (cs.headD 0)) hok'
   refine ⟨?_, dig _ h2, ?_⟩
   ·show (((_ :: gsGo rs cs.tail).length : Nat) : Int) = 1 + cdg rs
    rw [List.length_cons]; omega
   ·show numZ (_ :: gsGo rs cs.tail) a = rdGo (rs.map rmk) cs.tail (a * 10 + rdD (cs.headD 0))
    rw [numZ, e]; exact h3
  ·obtain ⟨h1, h2, h3⟩ := gs_law rs cs a hok'
   exact ⟨by simpa using h1, h2, h3⟩
  ·obtain ⟨h1, h2, h3⟩ := gs_law rs cs.tail a hok'
   exact ⟨by simpa using h1, h2, h3⟩
  ·obtain ⟨h1, h2, h3⟩ := gs_law rs cs.tail a hok'
   exact ⟨by simpa using h1, h2, h3⟩
  ·obtain ⟨h1, h2, h3⟩ := gs_law rs cs.tail a hok'
   exact ⟨by simpa using h1, h2, h3⟩
end Go.Px
end
noncomputable section
set_option maxHeartbeats 3200000
namespace Go.Px
open Go Go.Ab Go.Proofs Go.Shelf
def G38 : Env := ((G37.addG 67 h67).add 68 (sp1 s68)).add 71 (sp2 s71)
theorem ok_G38 : EnvOK Tryz.prog G38 := env_add (env_add (env_addG ok_G37 h67_ok) ok68) ok71
theorem cN_nv : ∀ (rs : List Int), okR rs → cN rs = nv (rs.map rmk)
 | [], _ => rfl
 | r :: rs, hok => by
  have hok' : okR rs := fun x hx => hok x (List.mem_cons_of_mem _ hx)
  have ih := cN_nv rs hok'
  rw [cN, List.map_cons, nv_cons]
  rcases rmk_cases (hok r List.mem_cons_self) with rfl | rfl | rfl | rfl | rfl | rfl <;> simp [rmk] <;> omega
theorem gs_use {s t : ByteArray} (h : pN (bz s) = true) : digZ (rdA (bz s) (bz t)) (pD (bz s)).toNat = gsGo (rolF (pS (bz s))) (bz t) ∧ 0 ≤ rdA (bz s) (bz t) ∧ rdA (bz s) (bz t) < tenZ (pD (bz s)).toNat ∧ dval (gsGo (rolF (pS (bz s))) (bz t)) = rdA (bz s) (bz t) ∧ cN (rolF (pS (bz s))) = pW (bz s) := by
 have hl := pS_len s
 obtain ⟨f1, f2, f3, _⟩ := pic_facts hl h
 obtain ⟨g1, g2, g3⟩ := gs_law (rolF (pS (bz s))) (bz t) 0 f1
 have hp := pD_rng h
 have hv : dval (gsGo (rolF (pS (bz s))) (bz t)) = rdA (bz s) (bz t) := by rw [dval, g3, f2, rdA]
 have hlen : (gsGo (rolF (pS (bz s))) (bz t)).length = (pD (bz s)).toNat := by omega
 have hr := dval_rng _ g2
 rw [hv, hlen] at hr
 refine ⟨by rw [← hv]; exact digZ_val' _ _ hlen g2, hr.1, hr.2, hv, by rw [cN_nv _ f1, f2, pN_nv h]⟩
def s22 (s : ByteArray) (t : ByteArray) : Bool × Value := (decide (s.size ≤ 9223372036854775807 ∧ t.size ≤ 9223372036854775807), .tuple ⟨[.int .i64 (rdV (bz s) (bz t)).1, .int .i64 (rdV (bz s) (bz t)).2]⟩)
theorem fn22 : Fn1 Tryz.prog 22 Tryz.f22 := ⟨Tryz.func22, by kernel_rfl, by kernel_rfl, by kernel_rfl⟩
theorem v22 (s : ByteArray) (t : ByteArray) (R : Value → Prop) : bodyQ Tryz.prog G38 noL Tryz.f22 [Enc.enc s, Enc.enc t] (fun _ => none) 0 (fun v _ _ => R v) = ( bif decide (ByteArray.size s ≤ 9223372036854775807) then bif pN (bz s) then ∀ (k cap : Nat) (d : List Value), rowIOK d k cap = true → zc d k = rolF (pS (bz s)) → bif (↑(ByteArray.size t) : Int) != pW (bz s) then R (.tuple (.mk [.int .i64 0, .int .i64 31])) else bif rowIOK d k cap && decide (k ≤ 1000 ∧ cN (zc d k) ≤ (↑(ByteArray.size t) : Int)) then ∀ (e : ByteArray), sz (gsGo (zc d k) (bz t)) = e → bif decide (1 ≤ ByteArray.size e ∧ ByteArray.size e ≤ 18) && dgL (bz e) then bif rowIOK d k cap && (roOK (zc d k) && (dgL (bz e) && decide ((k ≤ 1000 ∧ ByteArray.size e ≤ 1000 ∧ k ≤ ByteArray.size (sz (pS (bz s))) ∧ ByteArray.size (sz (pS (bz s))) ≤ 1000 ∧ 0 ≤ pW (bz s) ∧ pW (bz s) ≤ 1000) ∧ cdg (zc d k) ≤ (↑(ByteArray.size e) : Int) ∧ (fdFl (pS (bz s)) = 32 ∨ fdFl (pS (bz s)) = 42)))) then ∀ (t_1 : ByteArray) (l : Int), sz (Prod.fst (wrV (bz (sz (pS (bz s)))) (pW (bz s)) (Prod.snd (Prod.snd (nD (bodyZ (pS (bz s)))))) (crZ (pS (bz s))) (drZ (bodyZ (pS (bz s)))) (fdFl (pS (bz s))) (↑(cntZ (mkGo (drZ (bodyZ (pS (bz s)))) false (bodyZ (pS (bz s)))) 100) : Int) (zc d k) (bz e) false)) = t_1 → Prod.snd (wrV (bz (sz (pS (bz s)))) (pW (bz s)) (Prod.snd (Prod.snd (nD (bodyZ (pS (bz s)))))) (crZ (pS (bz s))) (drZ (bodyZ (pS (bz s)))) (fdFl (pS (bz s))) (↑(cntZ (mkGo (drZ (bodyZ (pS (bz s)))) false (bodyZ (pS (bz s)))) 100) : Int) (zc d k) (bz e) false) = l → bif ByteArray.toList t_1 == ByteArray.toList t then R (.tuple (.mk [.int .i64 (dval (bz e)), .int .i64 0])) else bif rowIOK d k cap && (roOK (zc d k) && (dgL (bz e) && decide ((k ≤ 1000 ∧ ByteArray.size e ≤ 1000 ∧ k ≤ ByteArray.size (sz (pS (bz s))) ∧ ByteArray.size (sz (pS (bz s))) ≤ 1000 ∧ 0 ≤ pW (bz s) ∧ pW (bz s) ≤ 1000) ∧ cdg (zc d k) ≤ (↑(ByteArray.size e) : Int) ∧ (fdFl (pS (bz s)) = 32 ∨ fdFl (pS (bz s)) = 42)))) then ∀ (t_2 : ByteArray) (l : Int), sz (Prod.fst (wrV (bz (sz (pS (bz s)))) (pW (bz s)) (Prod.snd (Prod.snd (nD (bodyZ (pS (bz s)))))) (crZ (pS (bz s))) (drZ (bodyZ (pS (bz s)))) (fdFl (pS (bz s))) (↑(cntZ (mkGo (drZ (bodyZ (pS (bz s)))) false (bodyZ (pS (bz s)))) 100) : Int) (zc d k) (bz e) true)) = t_2 → Prod.snd (wrV (bz (sz (pS (bz s)))) (pW (bz s)) (Prod.snd (Prod.snd (nD (bodyZ (pS (bz s)))))) (crZ (pS (bz s))) (drZ (bodyZ (pS (bz s)))) (fdFl (pS (bz s))) (↑(cntZ (mkGo (drZ (bodyZ (pS (bz s)))) false (bodyZ (pS (bz s)))) 100) : Int) (zc d k) (bz e) true) = l → bif bif ByteArray.toList t_2 == ByteArray.toList t then pG (bz s) || true else true then bif ByteArray.toList t_2 == ByteArray.toList t && (pG (bz s) && decide (dval (bz e) > 0)) then R (.tuple (.mk [.int .i64 (IntKind.wrap .i64 (0 - dval (bz e))), .int .i64 0])) else R (.tuple (.mk [.int .i64 0, .int .i64 31])) else False else False else False else False else False else R (.tuple (.mk [.int .i64 0, .int .i64 30])) else False) := by kernel_rfl
theorem ok22 : PureOK Tryz.prog 22 (sp2 s22) := by
 refine qure2 ok_G38 hmix fn22 lokf_none (Nat.le_of_ble_eq_true (by kernel_rfl)) fun s t hc => ?_
 rw [DoesQ, v22]
 have hc : (s.size ≤ 9223372036854775807 ∧ t.size ≤ 9223372036854775807) := of_decide_eq_true hc
 try dsimp only [s22]
 refine c_t (decide_eq_true hc.1) (cond_intro (fun h => ?_) (fun h => ?_))
 ·intro k cap d hR hz
  obtain ⟨u1, u2, u3, u4, u5⟩ := gs_use (t := t) h
  have hl := pS_len s
  have hr := rowIOK_iff.1 hR
  have hk : k = (pS (bz s)).length := by rw [← rol_len h, ← hz, zi_length hr]
  have hp := pD_rng h
  have bl : ((bz t).length : Int) = t.size := by rw [bz_length]
  refine cond_intro (fun hw => ?_) (fun hw => ?_)
  ·have hw : ¬ (t.size : Int) = pW (bz s) := by simpa using hw
   rw [rdV, if_pos h, bl, if_neg hw]
  ·have hw : (t.size : Int) = pW (bz s) := by simpa using hw
   refine c_t (by rw [hR, hz, u5]; simp only [Bool.true_and, decide_eq_true_eq]; omega) fun e he => ?_
   rw [hz, ← u1] at he
   have hdd := digZ_dg (pD (bz s)).toNat (rdA (bz s) (bz t))
   have be : bz e = digZ (rdA (bz s) (bz t)) (pD (bz s)).toNat := by rw [← he, bz_sz (dg_isB hdd)]
   have ze : e.size = (pD (bz s)).toNat := by rw [← bz_length, be, digZ_len]
   have hv : dval (bz e) = rdA (bz s) (bz t) := by rw [be, u1, u4]
   rw [hv, rdV, if_pos h, bl, if_pos hw]
   generalize rdA (bz s) (bz t) = m at *
   have hm : ((m.natAbs : Nat) : Int) = m := by omega
   have hm' : (((0 - m).natAbs : Nat) : Int) = m := by omega
   obtain ⟨g1, g2⟩ := wr_use h hR hz (m := m) (by omega)
   obtain ⟨k1, k2⟩ := wr_use h hR hz (m := 0 - m) (by omega)
   rw [hm, he] at g1 g2
   rw [hm', he] at k2
   have d0 : decide (m < 0) = false := decide_eq_false (by omega)
   rw [d0] at g2
   have ht : tenZ (pD (bz s)).toNat ≤ 1000000000 := tenZ_le9 (by omega)
   have hF : ∀ (a : ByteArray) (n : Int), sz (fieldZ (pS (bz s)) (pW (bz s)) (pD (bz s)).toNat n) = a → (a.toList == t.toList) = decide (fdN (bz s) n = bz t) := fun a n e => by
    rw [toList_beq, ← e, bz_sz (field_isB hl.1 _ _ _)]
    rfl
   refine c_t (by rw [be, hdd, ze, Bool.and_true, decide_eq_true_eq]; omega) (c_t g1 fun a1 l1 q1 q2 => cond_intro (fun p => ?_) (fun p => c_t g1 fun a2 l2 q3 q4 => ?_))
   ·rw [hF _ _ (by rw [← q1, g2])] at p
    rw [if_pos (of_decide_eq_true p)]
   ·rw [hF _ _ (by rw [← q1, g2])] at p
    have p := of_decide_eq_false p
    rw [if_neg p]
    refine c_t (by cases ByteArray.toList a2 == ByteArray.toList t <;> simp) ?_
    by_cases m0 : m > 0
    ·have d1 : decide (0 - m < 0) = true := decide_eq_true (by omega)
     rw [d1] at k2
     rw [hF _ _ (by rw [← q3, k2]), w64 (n := 0 - m) (by omega)]
     by_cases r1 : fdN (bz s) (0 - m) = bz t
     ·cases hG : pG (bz s) with
      | true =>
       have : (decide (fdN (bz s) (0 - m) = bz t) && (true && decide (m > 0))) = true := by rw [decide_eq_true r1, decide_eq_true m0]; rfl
       rw [this, if_pos ⟨rfl, m0, r1⟩]
       rfl
      | false =>
       rw [Bool.false_and, Bool.and_false, if_neg (fun q => by cases q.1)]
       rfl
     ·rw [decide_eq_false r1, Bool.false_and, if_neg (fun q => r1 q.2.2)]
      rfl
    ·rw [decide_eq_false m0, Bool.and_false, Bool.and_false, if_neg (fun q => m0 q.2.1)]
     rfl
 ·have h1 : ¬ pN (bz s) = true := by rw [h]; simp
  rw [rdV, if_neg h1]
end Go.Px
end
noncomputable section
set_option maxHeartbeats 3200000
namespace Go.Px
open Go Go.Ab Go.Proofs Go.Shelf
def G39 : Env := (G38.add 22 (sp2 s22))
theorem ok_G39 : EnvOK Tryz.prog G39 := env_add (ok_G38) ok22
theorem ch_all {l : List Int} (h : vOK l = true) (hn : pN l = false) : (pS l).all (hasZ [65, 88, 57]) = true := by
 have hc : charZ (exZ l) = true := by
  simp only [vOK, Bool.and_eq_true, Bool.or_eq_true] at h
  simp only [pN] at hn
  rcases h.2 with q | q
  ·exact q
  ·rw [h.1, q] at hn; cases hn
 rw [pS, if_pos h]
 simp only [charZ, Bool.and_eq_true] at hc
 exact hc.1
theorem digZ_0 {k : Nat} : digZ (((0 : Int).natAbs : Nat) : Int) k = rep1 48 k := (rep48 (digZ_len _ _)).2 ((dig_zero (n := 0) (by have := tenZ_pos k; omega)).2 rfl)
def s24 (s : ByteArray) (t : ByteArray) : Bool × Value := (decide (s.size ≤ 9223372036854775807 ∧ t.size ≤ 9223372036854775807), .bool (hoZ (bz s) (bz t)))
theorem fn24 : Fn1 Tryz.prog 24 Tryz.f24 := ⟨Tryz.func24, by kernel_rfl, by kernel_rfl, by kernel_rfl⟩
theorem v24 (s : ByteArray) (t : ByteArray) (R : Value → Prop) : bodyQ Tryz.prog G39 noL Tryz.f24 [Enc.enc s, Enc.enc t] (fun _ => none) 0 (fun v _ _ => R v) = ( bif decide (ByteArray.size s ≤ 9223372036854775807) then bif vOK (bz s) then bif pN (bz s) then ∀ (k cap : Nat) (d : List Value), rowIOK d k cap = true → zc d k = rolF (pS (bz s)) → bif decide (ByteArray.size s ≤ 9223372036854775807 ∧ ByteArray.size t ≤ 9223372036854775807) then R (.bool (Prod.snd (rdV (bz s) (bz t)) == 0)) else False else bif List.all (bz (sz (pS (bz s)))) (hasZ [65, 88, 57]) && decide (ByteArray.size (sz (pS (bz s))) ≤ 1000 ∧ ByteArray.size t ≤ 9223372036854775807) then R (.bool (decide ((↑(ByteArray.size t) : Int) = (↑(ByteArray.size (sz (pS (bz s)))) : Int)) && onGo (bz (sz (pS (bz s)))) (bz t))) else False else R (.bool false) else False) := by kernel_rfl
theorem ok24 : PureOK Tryz.prog 24 (sp2 s24) := by
 refine qure2 ok_G39 hmix fn24 lokf_none (Nat.le_of_ble_eq_true (by kernel_rfl)) fun s t hc => ?_
 rw [DoesQ, v24]
 have hc : (s.size ≤ 9223372036854775807 ∧ t.size ≤ 9223372036854775807) := of_decide_eq_true hc
 try dsimp only [s24]
 refine c_t (decide_eq_true hc.1) (cond_intro (fun h => cond_intro (fun hn => ?_) (fun hn => ?_)) (fun h => ?_))
 ·intro k cap d _ _
  refine c_t (decide_eq_true hc) ?_
  rw [hoZ, if_pos h, if_pos hn]
  rfl
 ·have hl := pS_len s
  have b1 : bz (sz (pS (bz s))) = pS (bz s) := bz_sz hl.1
  have z1 : (sz (pS (bz s))).size = (pS (bz s)).length := by rw [← bz_length, b1]
  have hn' : ¬ pN (bz s) = true := by rw [hn]; simp
  rw [b1, z1, ch_all h hn]
  refine c_t (by simp only [Bool.true_and, decide_eq_true_eq]; omega) ?_
  rw [hoZ, if_pos h, if_neg hn', pCh h hn, bz_length]
 ·have h1 : ¬ vOK (bz s) = true := by rw [h]; simp
  rw [hoZ, if_neg h1]
def s42 (s : ByteArray) (t : ByteArray) : Bool × Value := (decide (s.size ≤ 9223372036854775807 ∧ t.size ≤ 9223372036854775807), .tuple ⟨[.string (sz (fiS (bz s) (bz t))), .bool (fiF (bz s) (bz t)), .int .i64 (fiE (bz s))]⟩)
theorem fn42 : Fn1 Tryz.prog 42 Tryz.f42 := ⟨Tryz.func42, by kernel_rfl, by kernel_rfl, by kernel_rfl⟩
theorem v42 (s : ByteArray) (t : ByteArray) (R : Value → Prop) : bodyQ Tryz.prog G39 noL Tryz.f42 [Enc.enc s, Enc.enc t] (fun _ => none) 0 (fun v _ _ => R v) = ( bif decide (ByteArray.size s ≤ 9223372036854775807) then bif vOK (bz s) then bif pN (bz s) then ∀ (k cap : Nat) (d : List Value), rowIOK d k cap = true → zc d k = rolF (pS (bz s)) → R (.tuple (.mk [.string (ByteArray.mk #[]), .bool false, .int .i64 30])) else bif decide (0 ≤ imax 0 (IntKind.wrap .i64 (pW (bz s) - (↑(ByteArray.size t) : Int))) ∧ imax 0 (IntKind.wrap .i64 (pW (bz s) - (↑(ByteArray.size t) : Int))) ≤ 1000 ∧ ByteArray.size (ByteArray.mk #[32]) ≤ 1000) then bif strFit (ByteArray.size t + ByteArray.size (sz (repZ (bz (ByteArray.mk #[32])) (Int.toNat (imax 0 (IntKind.wrap .i64 (pW (bz s) - (↑(ByteArray.size t) : Int)))))))) then bif decide ((0 : Int) ≤ 0 ∧ 0 ≤ pW (bz s) ∧ pW (bz s) ≤ (↑(ByteArray.size (t ++ sz (repZ (bz (ByteArray.mk #[32])) (Int.toNat (imax 0 (IntKind.wrap .i64 (pW (bz s) - (↑(ByteArray.size t) : Int)))))))) : Int)) then bif List.all (bz (sz (pS (bz s)))) (hasZ [65, 88, 57]) && decide (ByteArray.size (sz (pS (bz s))) ≤ 1000 ∧ ByteArray.size (ByteArray.extract (t ++ sz (repZ (bz (ByteArray.mk #[32])) (Int.toNat (imax 0 (IntKind.wrap .i64 (pW (bz s) - (↑(ByteArray.size t) : Int))))))) 0 (Int.toNat (pW (bz s)))) ≤ 9223372036854775807) then R (.tuple (.mk [.string (ByteArray.extract (t ++ sz (repZ (bz (ByteArray.mk #[32])) (Int.toNat (imax 0 (IntKind.wrap .i64 (pW (bz s) - (↑(ByteArray.size t) : Int))))))) 0 (Int.toNat (pW (bz s)))), .bool (decide ((↑(ByteArray.size (ByteArray.extract (t ++ sz (repZ (bz (ByteArray.mk #[32])) (Int.toNat (imax 0 (IntKind.wrap .i64 (pW (bz s) - (↑(ByteArray.size t) : Int))))))) 0 (Int.toNat (pW (bz s))))) : Int) = (↑(ByteArray.size (sz (pS (bz s)))) : Int)) && onGo (bz (sz (pS (bz s)))) (bz (ByteArray.extract (t ++ sz (repZ (bz (ByteArray.mk #[32])) (Int.toNat (imax 0 (IntKind.wrap .i64 (pW (bz s) - (↑(ByteArray.size t) : Int))))))) 0 (Int.toNat (pW (bz s)))))), .int .i64 0])) else False else False else False else False else R (.tuple (.mk [.string (ByteArray.mk #[]), .bool false, .int .i64 30])) else False) := by kernel_rfl
theorem ok42 : PureOK Tryz.prog 42 (sp2 s42) := by
 refine qure2 ok_G39 hmix fn42 lokf_none (Nat.le_of_ble_eq_true (by kernel_rfl)) fun s t hc => ?_
 rw [DoesQ, v42]
 have hc : (s.size ≤ 9223372036854775807 ∧ t.size ≤ 9223372036854775807) := of_decide_eq_true hc
 try dsimp only [s42]
 refine c_t (decide_eq_true hc.1) (cond_intro (fun h => cond_intro (fun hn => ?_) (fun hn => ?_)) (fun h => ?_))
 ·intro k cap d _ _
  have h1 : ¬ (vOK (bz s) = true ∧ pN (bz s) = false) := by rw [hn]; simp
  rw [fiS, fiF, fiE, if_neg h1, if_neg h1, if_neg h1, sz_nil]
 ·have hl := pS_len s
  have hw := @pW_rng s
  have b1 : bz (sz (pS (bz s))) = pS (bz s) := bz_sz hl.1
  have z1 : (sz (pS (bz s))).size = (pS (bz s)).length := by rw [← bz_length, b1]
  have hn' : ¬ pN (bz s) = true := by rw [hn]; simp
  have hk : ∃ k : Nat, (imax 0 (pW (bz s) - (t.size : Int))).toNat = k ∧ k ≤ 32 ∧ (k : Int) = imax 0 (pW (bz s) - (t.size : Int)) ∧ (pW (bz s) ≤ t.size → k = 0) ∧ (t.size ≤ pW (bz s) → (k : Int) = pW (bz s) - t.size) := by
   refine ⟨_, rfl, ?_⟩
   unfold imax
   split <;> omega
  obtain ⟨k, e1, e2, e3, e4, e5⟩ := hk
  have e32 : bz (ByteArray.mk #[32]) = [32] := rfl
  rw [w64 (by omega), e1, ← e3, e32, rep_one]
  have hR := rep_isB 32 k (by omega)
  have hlr : (rep1 32 k).length = k := by simp [rep1]
  have zr : (sz (rep1 32 k)).size = k := by rw [sz_size, hlr]
  have zt : (t ++ sz (rep1 32 k)).size = t.size + k := by rw [ByteArray.size_append, zr]
  have ex : bz ((t ++ sz (rep1 32 k)).extract 0 (pW (bz s)).toNat) = flZ (bz s) (bz t) := by
   rw [bz_extract, bz_append, bz_sz hR, List.drop_zero, flZ, bz_length]
   by_cases a : (t.size : Int) > pW (bz s)
   ·rw [if_pos a, e4 (by omega)]
    show (bz t ++ []).take _ = _
    rw [List.append_nil]
   ·rw [if_neg a, ← e5 (by omega), Int.toNat_natCast, List.take_of_length_le]
    rw [List.length_append, bz_length, hlr]
    have := e5 (by omega)
    omega
  have exs : ((t ++ sz (rep1 32 k)).extract 0 (pW (bz s)).toNat).size ≤ 32 := by
   rw [ByteArray.size_extract]
   omega
  rw [b1, z1, ch_all h hn, zr, zt]
  refine c_t (decide_eq_true ⟨by omega, by omega, by decide⟩) (c_t (by simp only [strFit, Nat.ble_eq]; omega) (c_t (decide_eq_true ?_) (c_t ?_ ?_)))
  ·by_cases a : (t.size : Int) ≥ pW (bz s)
   ·omega
   ·have := e5 (by omega)
    omega
  ·simp only [Bool.true_and, decide_eq_true_eq]
   omega
  ·rw [fiS, fiF, fiE, if_pos ⟨h, hn⟩, if_pos ⟨h, hn⟩, if_pos ⟨h, hn⟩, hoZ, if_pos h, if_neg hn', ← ex, sz_bz, bz_length, pCh h hn]
 ·have h1 : ¬ (vOK (bz s) = true ∧ pN (bz s) = false) := by rw [h]; simp
  rw [fiS, fiF, fiE, if_neg h1, if_neg h1, if_neg h1, sz_nil]
def s54 (s : ByteArray) : Bool × Value := (decide (s.size ≤ 9223372036854775807), .tuple ⟨[.string (sz (zeS (bz s))), .int .i64 (pE (bz s))]⟩)
theorem fn54 : Fn1 Tryz.prog 54 Tryz.f54 := ⟨Tryz.func54, by kernel_rfl, by kernel_rfl, by kernel_rfl⟩
theorem v54 (s : ByteArray) (R : Value → Prop) : bodyQ Tryz.prog G39 noL Tryz.f54 [Enc.enc s] (fun _ => none) 0 (fun v _ _ => R v) = ( bif decide (ByteArray.size s ≤ 9223372036854775807) then bif vOK (bz s) then bif pN (bz s) then ∀ (k cap : Nat) (d : List Value), rowIOK d k cap = true → zc d k = rolF (pS (bz s)) → bif decide (0 ≤ pD (bz s) ∧ pD (bz s) ≤ 1000 ∧ ByteArray.size (ByteArray.mk #[48]) ≤ 1000) then bif rowIOK d k cap && (roOK (zc d k) && (dgL (bz (sz (repZ (bz (ByteArray.mk #[48])) (Int.toNat (pD (bz s)))))) && decide ((k ≤ 1000 ∧ ByteArray.size (sz (repZ (bz (ByteArray.mk #[48])) (Int.toNat (pD (bz s))))) ≤ 1000 ∧ k ≤ ByteArray.size (sz (pS (bz s))) ∧ ByteArray.size (sz (pS (bz s))) ≤ 1000 ∧ 0 ≤ pW (bz s) ∧ pW (bz s) ≤ 1000) ∧ cdg (zc d k) ≤ (↑(ByteArray.size (sz (repZ (bz (ByteArray.mk #[48])) (Int.toNat (pD (bz s)))))) : Int) ∧ (fdFl (pS (bz s)) = 32 ∨ fdFl (pS (bz s)) = 42)))) then ∀ (t : ByteArray) (l : Int), sz (Prod.fst (wrV (bz (sz (pS (bz s)))) (pW (bz s)) (Prod.snd (Prod.snd (nD (bodyZ (pS (bz s)))))) (crZ (pS (bz s))) (drZ (bodyZ (pS (bz s)))) (fdFl (pS (bz s))) (↑(cntZ (mkGo (drZ (bodyZ (pS (bz s)))) false (bodyZ (pS (bz s)))) 100) : Int) (zc d k) (bz (sz (repZ (bz (ByteArray.mk #[48])) (Int.toNat (pD (bz s)))))) false)) = t → Prod.snd (wrV (bz (sz (pS (bz s)))) (pW (bz s)) (Prod.snd (Prod.snd (nD (bodyZ (pS (bz s)))))) (crZ (pS (bz s))) (drZ (bodyZ (pS (bz s)))) (fdFl (pS (bz s))) (↑(cntZ (mkGo (drZ (bodyZ (pS (bz s)))) false (bodyZ (pS (bz s)))) 100) : Int) (zc d k) (bz (sz (repZ (bz (ByteArray.mk #[48])) (Int.toNat (pD (bz s)))))) false) = l → R (.tuple (.mk [.string t, .int .i64 0])) else False else False else bif decide (0 ≤ pW (bz s) ∧ pW (bz s) ≤ 1000 ∧ ByteArray.size (ByteArray.mk #[32]) ≤ 1000) then R (.tuple (.mk [.string (sz (repZ (bz (ByteArray.mk #[32])) (Int.toNat (pW (bz s))))), .int .i64 0])) else False else R (.tuple (.mk [.string (ByteArray.mk #[]), .int .i64 30])) else False) := by kernel_rfl
theorem ok54 : PureOK Tryz.prog 54 (sp1 s54) := by
 refine qure1 ok_G39 hmix fn54 lokf_none (Nat.le_of_ble_eq_true (by kernel_rfl)) fun s hc => ?_
 rw [DoesQ, v54]
 have hc : (s.size ≤ 9223372036854775807) := of_decide_eq_true hc
 try dsimp only [s54]
 refine c_t (decide_eq_true hc) (cond_intro (fun h => cond_intro (fun hn => ?_) (fun hn => ?_)) (fun h => ?_))
 ·intro k cap d hR hz
  have hp := pD_rng hn
  have e48 : repZ (bz (ByteArray.mk #[48])) (pD (bz s)).toNat = digZ (((0 : Int).natAbs : Nat) : Int) (pD (bz s)).toNat := by
   rw [digZ_0]
   exact rep_one 48 _
  obtain ⟨g1, g2⟩ := wr_use hn hR hz (m := 0) (by have := tenZ_pos (pD (bz s)).toNat; omega)
  have d0 : decide ((0 : Int) < 0) = false := rfl
  rw [d0] at g2
  rw [e48]
  refine c_t (decide_eq_true ⟨by omega, by omega, by decide⟩) (c_t g1 fun t l h1 h2 => ?_)
  rw [g2] at h1
  rw [zeS, if_pos h, if_pos hn, pE, if_pos h, ← h1]
  rfl
 ·have hw := @pW_rng s
  have hn' : ¬ pN (bz s) = true := by rw [hn]; simp
  refine c_t (decide_eq_true ⟨by omega, by omega, by decide⟩) ?_
  have e32 : bz (ByteArray.mk #[32]) = [32] := rfl
  rw [zeS, if_pos h, if_neg hn', pE, if_pos h, e32, rep_one]
 ·have h1 : ¬ vOK (bz s) = true := by rw [h]; simp
  rw [zeS, if_neg h1, pE, if_neg h1, sz_nil]
end Go.Px
end
noncomputable section
namespace Go.Px
open Go Go.Ab Go.Proofs
end Go.Px
end
noncomputable section
namespace Go.Px
open Go Go.Ab Go.Proofs
end Go.Px
end
noncomputable section
namespace Go.Px
open Go Go.Ab Go.Proofs
end Go.Px
end
noncomputable section
set_option maxHeartbeats 3200000
namespace Go.Px
open Go Go.Ab Go.Proofs Go.Shelf
def L19 : Env := (((((((Env.nil.add 20 (sp3 s20)).add 22 (sp2 s22)).add 24 (sp2 s24)).add 31 (sp1 s31)).add 33 (sp1 s33)).add 35 (sp1 s35)).add 44 (sp1 s44))
theorem ok_L19 : EnvOK Tryz.prog L19 := env_add (env_add (env_add (env_add (env_add (env_add (env_add (env_nil) ok20) ok22) ok24) ok31) ok33) ok35) ok44
def s19 : Bool × Value := (true, .bool true)
theorem fn19 : Fn1 Tryz.prog 19 Tryz.f19 := ⟨Tryz.func19, by kernel_rfl, by kernel_rfl, by kernel_rfl⟩
theorem v19  (R : Value → Prop) : bodyQ Tryz.prog L19 noL Tryz.f19 [] (fun _ => none) 0 (fun v _ _ => R v) = ( R (.bool (Prod.snd (rdV (bz (ByteArray.mk #[83, 57, 57])) (bz (ByteArray.mk #[45, 48, 48]))) == 31 && (pN (bz (ByteArray.mk #[90, 86, 57])) && (!pN (bz (ByteArray.mk #[65, 88])) && (hoZ (bz (ByteArray.mk #[65, 57])) (bz (ByteArray.mk #[120, 32])) && pE (bz (ByteArray.mk #[57, 90])) == 30)))))) := by kernel_rfl
theorem ok19 : PureOK Tryz.prog 19 (sp0 s19) := by
 refine qure0 ok_L19 hmix fn19 lokf_none fun hc => ?_
 rw [DoesQ, v19]
 try dsimp only [s19]
 have e : ∀ b : Bool, b = true → Value.bool b = Value.bool true := fun b h => by rw [h]
 exact e _ (by kernel_rfl)
theorem pu_un {d : Int} {m : Bool} (h : 0 ≤ d ∧ d ≤ 9) : unD (puZ d m) = d ∧ unM (puZ d m) = m ∧ unK (puZ d m) = true := by
 rcases dig_cases h with rfl | rfl | rfl | rfl | rfl | rfl | rfl | rfl | rfl | rfl <;> cases m <;> decide
theorem un_pu {c : Int} (h : unK c = true) : puZ (unD c) (unM c) = c ∧ 0 ≤ unD c ∧ unD c ≤ 9 := by
 have : c ∈ punchedZ := hasZ_iff.1 h
 simp only [punchedZ, List.mem_cons, List.not_mem_nil, or_false] at this
 rcases this with rfl | rfl | rfl | rfl | rfl | rfl | rfl | rfl | rfl | rfl | rfl | rfl | rfl | rfl | rfl | rfl | rfl | rfl | rfl | rfl <;> decide
def L13 : Env := (((((((((((Env.nil.add 19 (sp0 s19)).add 44 (sp1 s44)).add 45 (sp1 s45)).add 35 (sp1 s35)).add 30 (sp1 s30)).add 46 (sp1 s46)).add 47 (sp1 s47)).add 33 (sp1 s33)).add 48 (sp1 s48)).add 31 (sp1 s31)).add 49 (sp1 s49))
theorem ok_L13 : EnvOK Tryz.prog L13 := env_add (env_add (env_add (env_add (env_add (env_add (env_add (env_add (env_add (env_add (env_add (env_nil) ok19) ok44) ok45) ok35) ok30) ok46) ok47) ok33) ok48) ok31) ok49
def s13 (s : ByteArray) : Bool × Value := (decide (s.size ≤ 9223372036854775807), .bool true)
theorem fn13 : Fn1 Tryz.prog 13 Tryz.f13 := ⟨Tryz.func13, by kernel_rfl, by kernel_rfl, by kernel_rfl⟩
theorem v13 (s : ByteArray) (R : Value → Prop) : bodyQ Tryz.prog L13 noL Tryz.f13 [Enc.enc s] (fun _ => none) 0 (fun v _ _ => R v) = ( bif decide (ByteArray.size s ≤ 9223372036854775807) then bif decide (ByteArray.size s ≤ 9223372036854775807) then bif decide (ByteArray.size s ≤ 9223372036854775807) then bif decide (ByteArray.size s ≤ 9223372036854775807) then bif decide (ByteArray.size s ≤ 9223372036854775807) then bif decide (ByteArray.size s ≤ 9223372036854775807) then bif bif ByteArray.toList (sz (exZ (bz s))) == ByteArray.toList (sz (exZ (bz s))) then bif eE (bz s) == eE (bz s) then bif ByteArray.toList (sz (pS (bz s))) == ByteArray.toList (sz (pS (bz s))) && (pN (bz s) == pN (bz s) && (pW (bz s) == pW (bz s) && (pD (bz s) == pD (bz s) && (pQ (bz s) == pQ (bz s) && (pG (bz s) == pG (bz s) && true))))) then bif pE (bz s) == pE (bz s) then bif tyK (bz s) == tyK (bz s) && (tyP (bz s) == tyP (bz s) && (pQ (bz s) == pQ (bz s) && (false == false && (ByteArray.toList (ByteArray.mk #[]) == ByteArray.toList (ByteArray.mk #[]) && true)))) then bif pE (bz s) == pE (bz s) then decide (ByteArray.size s ≤ 9223372036854775807) && (decide (ByteArray.size s ≤ 9223372036854775807) && bif pE (bz s) == pE (bz s) then decide (ByteArray.size s ≤ 9223372036854775807) && (decide (ByteArray.size s ≤ 9223372036854775807) && true) else true) else true else true else true else true else true else true then R (.bool (ByteArray.toList (sz (exZ (bz s))) == ByteArray.toList (sz (exZ (bz s))) && (eE (bz s) == eE (bz s) && (ByteArray.toList (sz (pS (bz s))) == ByteArray.toList (sz (pS (bz s))) && (pN (bz s) == pN (bz s) && (pW (bz s) == pW (bz s) && (pD (bz s) == pD (bz s) && (pQ (bz s) == pQ (bz s) && (pG (bz s) == pG (bz s) && true))))) && (pE (bz s) == pE (bz s) && (tyK (bz s) == tyK (bz s) && (tyP (bz s) == tyP (bz s) && (pQ (bz s) == pQ (bz s) && (false == false && (ByteArray.toList (ByteArray.mk #[]) == ByteArray.toList (ByteArray.mk #[]) && true)))) && (pE (bz s) == pE (bz s) && (pE (bz s) == pE (bz s) && pN (bz s) == pN (bz s))))))))) else False else False else False else False else False else False else False) := by kernel_rfl
theorem ok13 : PureOK Tryz.prog 13 (sp1 s13) := by
 refine qure1 ok_L13 hmix fn13 lokf_none (Nat.le_of_ble_eq_true (by kernel_rfl)) fun s hc => ?_
 rw [DoesQ, v13]
 have hc : (s.size ≤ 9223372036854775807) := of_decide_eq_true hc
 try dsimp only [s13]
 simp [hc]
def L3 : Env := (((Env.nil.add 19 (sp0 s19)).add 20 (sp3 s20)).add 21 (sp3 s21))
theorem ok_L3 : EnvOK Tryz.prog L3 := env_add (env_add (env_add (env_nil) ok19) ok20) ok21
def s3 (s : ByteArray) (n : Int) (q : Int) : Bool × Value := (decide (s.size ≤ 9223372036854775807 ∧ -9223372036854775808 ≤ n ∧ n ≤ 9223372036854775807), .bool true)
theorem fn3 : Fn1 Tryz.prog 3 Tryz.f3 := ⟨Tryz.func3, by kernel_rfl, by kernel_rfl, by kernel_rfl⟩
theorem v3 (s : ByteArray) (n : Int) (q : Int) (R : Value → Prop) : bodyQ Tryz.prog L3 noL Tryz.f3 [Enc.enc s, Enc.enc n, Enc.enc q] (fun _ => none) 0 (fun v _ _ => R v) = ( bif decide (ByteArray.size s ≤ 9223372036854775807 ∧ -9223372036854775808 ≤ n ∧ n ≤ 9223372036854775807) then bif decide (ByteArray.size s ≤ 9223372036854775807 ∧ -9223372036854775808 ≤ n ∧ n ≤ 9223372036854775807) then bif bif ByteArray.toList (sz (edS (bz s) n q)) == ByteArray.toList (sz (edS (bz s) n q)) then edF (bz s) n q == edF (bz s) n q || true else true then R (.bool (ByteArray.toList (sz (edS (bz s) n q)) == ByteArray.toList (sz (edS (bz s) n q)) && (edF (bz s) n q == edF (bz s) n q && edE (bz s) q == edE (bz s) q))) else False else False else False) := by kernel_rfl
theorem ok3 : PureOK Tryz.prog 3 (sp3 s3) := by
 refine qure3 ok_L3 hmix fn3 lokf_none (Nat.le_of_ble_eq_true (by kernel_rfl)) fun s n q hc => ?_
 rw [DoesQ, v3]
 have hc : (s.size ≤ 9223372036854775807 ∧ -9223372036854775808 ≤ n ∧ n ≤ 9223372036854775807) := of_decide_eq_true hc
 try dsimp only [s3]
 simp [hc]
def L4 : Env := (((((Env.nil.add 19 (sp0 s19)).add 22 (sp2 s22)).add 23 (sp2 s23)).add 24 (sp2 s24)).add 25 (sp2 s25))
theorem ok_L4 : EnvOK Tryz.prog L4 := env_add (env_add (env_add (env_add (env_add (env_nil) ok19) ok22) ok23) ok24) ok25
def s4 (s : ByteArray) (t : ByteArray) : Bool × Value := (decide (s.size ≤ 9223372036854775807 ∧ t.size ≤ 9223372036854775807), .bool true)
theorem fn4 : Fn1 Tryz.prog 4 Tryz.f4 := ⟨Tryz.func4, by kernel_rfl, by kernel_rfl, by kernel_rfl⟩
theorem v4 (s : ByteArray) (t : ByteArray) (R : Value → Prop) : bodyQ Tryz.prog L4 noL Tryz.f4 [Enc.enc s, Enc.enc t] (fun _ => none) 0 (fun v _ _ => R v) = ( bif decide (ByteArray.size s ≤ 9223372036854775807 ∧ ByteArray.size t ≤ 9223372036854775807) then bif decide (ByteArray.size s ≤ 9223372036854775807 ∧ ByteArray.size t ≤ 9223372036854775807) then bif bif Prod.fst (rdV (bz s) (bz t)) == Prod.fst (rdV (bz s) (bz t)) then bif Prod.snd (rdV (bz s) (bz t)) == Prod.snd (rdV (bz s) (bz t)) then decide (ByteArray.size s ≤ 9223372036854775807 ∧ ByteArray.size t ≤ 9223372036854775807) && (decide (ByteArray.size s ≤ 9223372036854775807 ∧ ByteArray.size t ≤ 9223372036854775807) && true) else true else true then R (.bool (Prod.fst (rdV (bz s) (bz t)) == Prod.fst (rdV (bz s) (bz t)) && (Prod.snd (rdV (bz s) (bz t)) == Prod.snd (rdV (bz s) (bz t)) && hoZ (bz s) (bz t) == hoZ (bz s) (bz t)))) else False else False else False) := by kernel_rfl
theorem ok4 : PureOK Tryz.prog 4 (sp2 s4) := by
 refine qure2 ok_L4 hmix fn4 lokf_none (Nat.le_of_ble_eq_true (by kernel_rfl)) fun s t hc => ?_
 rw [DoesQ, v4]
 have hc : (s.size ≤ 9223372036854775807 ∧ t.size ≤ 9223372036854775807) := of_decide_eq_true hc
 try dsimp only [s4]
 simp [hc]
def L16 : Env := (((((Env.nil.add 19 (sp0 s19)).add 42 (sp2 s42)).add 53 (sp2 s53)).add 54 (sp1 s54)).add 55 (sp1 s55))
theorem ok_L16 : EnvOK Tryz.prog L16 := env_add (env_add (env_add (env_add (env_add (env_nil) ok19) ok42) ok53) ok54) ok55
def s16 (s : ByteArray) (t : ByteArray) : Bool × Value := (decide (s.size ≤ 9223372036854775807 ∧ t.size ≤ 9223372036854775807), .bool true)
theorem fn16 : Fn1 Tryz.prog 16 Tryz.f16 := ⟨Tryz.func16, by kernel_rfl, by kernel_rfl, by kernel_rfl⟩
theorem v16 (s : ByteArray) (t : ByteArray) (R : Value → Prop) : bodyQ Tryz.prog L16 noL Tryz.f16 [Enc.enc s, Enc.enc t] (fun _ => none) 0 (fun v _ _ => R v) = ( bif decide (ByteArray.size s ≤ 9223372036854775807 ∧ ByteArray.size t ≤ 9223372036854775807) then bif decide (ByteArray.size s ≤ 9223372036854775807 ∧ ByteArray.size t ≤ 9223372036854775807) then bif decide (ByteArray.size s ≤ 9223372036854775807) then bif decide (ByteArray.size s ≤ 9223372036854775807) then bif bif ByteArray.toList (sz (fiS (bz s) (bz t))) == ByteArray.toList (sz (fiS (bz s) (bz t))) then bif fiF (bz s) (bz t) == fiF (bz s) (bz t) then bif fiE (bz s) == fiE (bz s) then ByteArray.toList (sz (zeS (bz s))) == ByteArray.toList (sz (zeS (bz s))) || true else true else true else true then R (.bool (ByteArray.toList (sz (fiS (bz s) (bz t))) == ByteArray.toList (sz (fiS (bz s) (bz t))) && (fiF (bz s) (bz t) == fiF (bz s) (bz t) && (fiE (bz s) == fiE (bz s) && (ByteArray.toList (sz (zeS (bz s))) == ByteArray.toList (sz (zeS (bz s))) && pE (bz s) == pE (bz s)))))) else False else False else False else False else False) := by kernel_rfl
theorem ok16 : PureOK Tryz.prog 16 (sp2 s16) := by
 refine qure2 ok_L16 hmix fn16 lokf_none (Nat.le_of_ble_eq_true (by kernel_rfl)) fun s t hc => ?_
 rw [DoesQ, v16]
 have hc : (s.size ≤ 9223372036854775807 ∧ t.size ≤ 9223372036854775807) := of_decide_eq_true hc
 try dsimp only [s16]
 simp [hc]
def L18 : Env := (((((((Env.nil.add 19 (sp0 s19)).add 56 (sp1 s56)).add 37 (sp1 s37)).add 50 (sp1 s50)).add 60 (sp1 s60)).add 36 (sp2 s36)).add 61 (sp2 s61))
theorem ok_L18 : EnvOK Tryz.prog L18 := env_add (env_add (env_add (env_add (env_add (env_add (env_add (env_nil) ok19) ok56) ok37) ok50) ok60) ok36) ok61
def s18 (s : ByteArray) (n : Int) : Bool × Value := (decide (s.size ≤ 9223372036854775807 ∧ -9223372036854775808 ≤ n ∧ n ≤ 9223372036854775807), .bool true)
theorem fn18 : Fn1 Tryz.prog 18 Tryz.f18 := ⟨Tryz.func18, by kernel_rfl, by kernel_rfl, by kernel_rfl⟩
theorem v18 (s : ByteArray) (n : Int) (R : Value → Prop) : bodyQ Tryz.prog L18 noL Tryz.f18 [Enc.enc s, Enc.enc n] (fun _ => none) 0 (fun v _ _ => R v) = ( bif decide (ByteArray.size s ≤ 9223372036854775807) then bif decide (ByteArray.size s ≤ 9223372036854775807) then bif decide (ByteArray.size s ≤ 9223372036854775807) then bif decide (ByteArray.size s ≤ 9223372036854775807) then bif decide (ByteArray.size s ≤ 9223372036854775807 ∧ -9223372036854775808 ≤ n ∧ n ≤ 9223372036854775807) then bif decide (ByteArray.size s ≤ 9223372036854775807 ∧ -9223372036854775808 ≤ n ∧ n ≤ 9223372036854775807) then bif bif ByteArray.toList (sz (roZ (bz s))) == ByteArray.toList (sz (roZ (bz s))) then bif nE (bz s) == nE (bz s) then bif raL (bz s) == raL (bz s) then bif raH (bz s) == raH (bz s) then bif nE (bz s) == nE (bz s) then leZ (bz s) n == leZ (bz s) n || true else true else true else true else true else true then R (.bool (ByteArray.toList (sz (roZ (bz s))) == ByteArray.toList (sz (roZ (bz s))) && (nE (bz s) == nE (bz s) && (raL (bz s) == raL (bz s) && (raH (bz s) == raH (bz s) && (nE (bz s) == nE (bz s) && (leZ (bz s) n == leZ (bz s) n && nE (bz s) == nE (bz s)))))))) else False else False else False else False else False else False else False) := by kernel_rfl
theorem ok18 : PureOK Tryz.prog 18 (sp2 s18) := by
 refine qure2 ok_L18 hmix fn18 lokf_none (Nat.le_of_ble_eq_true (by kernel_rfl)) fun s n hc => ?_
 rw [DoesQ, v18]
 have hc : (s.size ≤ 9223372036854775807 ∧ -9223372036854775808 ≤ n ∧ n ≤ 9223372036854775807) := of_decide_eq_true hc
 try dsimp only [s18]
 simp [hc]
def L5 : Env := (((((Env.nil.add 19 (sp0 s19)).add 26 (sp2 s26)).add 27 (sp2 s27)).add 28 (sp1 s28)).add 29 (sp1 s29))
theorem ok_L5 : EnvOK Tryz.prog L5 := env_add (env_add (env_add (env_add (env_add (env_nil) ok19) ok26) ok27) ok28) ok29
def s5 (d : Int) (m : Bool) (c : U8) : Bool × Value := (true, .bool true)
theorem fn5 : Fn1 Tryz.prog 5 Tryz.f5 := ⟨Tryz.func5, by kernel_rfl, by kernel_rfl, by kernel_rfl⟩
theorem v5 (d : Int) (m : Bool) (c : U8) (R : Value → Prop) : bodyQ Tryz.prog L5 noL Tryz.f5 [Enc.enc d, Enc.enc m, Enc.enc c] (fun _ => none) 0 (fun v _ _ => R v) = ( bif puZ d m != puZ d m || (!decide (0 ≤ d ∧ d ≤ 9) == decide (0 ≤ d ∧ d ≤ 9) || (unD (U8.n c) != unD (U8.n c) || (!unM (U8.n c) == unM (U8.n c) || true))) then bif puZ d m != puZ d m || (!decide (0 ≤ d ∧ d ≤ 9) == decide (0 ≤ d ∧ d ≤ 9) || (unD (U8.n c) != unD (U8.n c) || (!unM (U8.n c) == unM (U8.n c) || !unK (U8.n c) == unK (U8.n c)))) then R (.bool false) else bif decide (0 ≤ d ∧ d ≤ 9) then bif unD (puZ d m) != d || (!unM (puZ d m) == m || true) then bif unD (puZ d m) != d || (!unM (puZ d m) == m || !unK (puZ d m)) then R (.bool false) else bif unK (U8.n c) then bif puZ (unD (U8.n c)) (unM (U8.n c)) == U8.n c || true then R (.bool (puZ (unD (U8.n c)) (unM (U8.n c)) == U8.n c && decide (0 ≤ unD (U8.n c) ∧ unD (U8.n c) ≤ 9))) else False else R (.bool true) else False else bif unK (U8.n c) then bif puZ (unD (U8.n c)) (unM (U8.n c)) == U8.n c || true then R (.bool (puZ (unD (U8.n c)) (unM (U8.n c)) == U8.n c && decide (0 ≤ unD (U8.n c) ∧ unD (U8.n c) ≤ 9))) else False else R (.bool true) else False) := by kernel_rfl
theorem ok5 : PureOK Tryz.prog 5 (sp3 s5) := by
 refine qure3 ok_L5 hmix fn5 lokf_none (Nat.le_of_ble_eq_true (by kernel_rfl)) fun d m c hc => ?_
 rw [DoesQ, v5]
 try dsimp only [s5]
 obtain ⟨c⟩ := c
 dsimp only
 by_cases h : 0 ≤ d ∧ d ≤ 9
 ·obtain ⟨e1, e2, e3⟩ := pu_un (m := m) h
  cases hk : unK c with
  | true =>
   obtain ⟨f1, f2⟩ := un_pu hk
   simp [e1, e2, e3, f1, f2, h]
  | false => simp [e1, e2, e3, h]
 ·cases hk : unK c with
  | true =>
   obtain ⟨f1, f2⟩ := un_pu hk
   simp [f1, f2, h]
  | false => simp [h]
end Go.Px
end
noncomputable section
namespace Go.Px
open Go Go.Ab Go.Proofs Go.Shelf Go.ChangeMaps Go.ChangeShapes Go.WideShapes Go.ChangeAt Go.RowKit Go.Joins
open Go.Proofs.YtheglfmhbfngkaaGreatDoor
theorem own : ownKnob Tryz.prog.godebug = none := by kernel_rfl
def laidL : List (String × DataW Unit) := Rows.pictureEditsRow.laid
theorem tab_is {P : Program} {W : World} {name : String} {k : IntKind} {zs : List Int} {g : Nat} {t e : TypeId} {n : Nat} (hr : Lib.VarReads P W name (Lib.tabData k zs))
  (hg : P.globalNamed name = some g) (hty : (P.globals[g]?).map (·.type) = some t) (ht : P.underlying t = some (.array n e)) (he : P.underlying e = some (.int k)) (hce : P.cellsOf e = 1) (hct : P.cellsOf t = n) :
  g < W.heap.size ∧ ∃ ty fr, W.heap[g]? = some (.cells ⟨zs.map fun z => Value.int k z⟩ ty fr) := by
 obtain ⟨g', t', cs, fuel, p, h1, h2, h3, h4⟩ := hr
 obtain rfl := Option.some.inj (hg.symm.trans h1)
 obtain rfl := Option.some.inj (hty.symm.trans h2)
 have hc := Lib.cells_of_tab ht he hce hct h4
 unfold World.var? at h3
 rw [hg, Option.bind_some] at h3
 split at h3
 case h_2 => cases h3
 rename_i cs' ty fr hh
 have h3 := Option.some.inj h3
 refine ⟨(Array.getElem?_eq_some_iff.1 hh).1, ty, fr, ?_⟩
 rw [hh, h3]
 congr 2
 rw [← hc]
set_option maxRecDepth 100000 in
theorem tabs_of_laid {W : World} (h : laidMetH Tryz.prog laidL W) : TabsIn W.heap.size W := by
 rw [MakeChecks.laidMetH_plain _ _ _ (by kernel_rfl)] at h
 intro b r hb
 have key : ∀ b : Nat, rowsT b = some r → b = 0 ∧ r = punchedZ.map (fun n => Value.int .u8 n) ∨ b = 3 ∧ r = pow10Z.map (fun n => Value.int .u64 n) := by
  intro b hb
  unfold rowsT at hb
  split at hb
  ·cases hb; exact .inl ⟨rfl, rfl⟩
  ·cases hb; exact .inr ⟨rfl, rfl⟩
  ·cases hb
 have t5 : Tryz.prog.cellsOf 5 = 1 := by kernel_rfl
 rcases key b hb with ⟨rfl, rfl⟩ | ⟨rfl, rfl⟩
 ·have hr : Lib.VarReads Tryz.prog W "pliant/picture.punched" (Lib.tabData .u8 punchedZ) := Lib.laidMet.reads h (by unfold laidL Rows.pictureEditsRow; exact .tail _ (.tail _ (.tail _ (.tail _ (.tail _ (.tail _ (.head _)))))))
  exact tab_is hr (g := 0) (t := 91) (n := 20) (e := 5) (by kernel_rfl) (by kernel_rfl) (by kernel_rfl) (by kernel_rfl) t5 (by kernel_rfl)
 ·have hr : Lib.VarReads Tryz.prog W "internal/strconv.uint64pow10" (Lib.tabData .u64 pow10Z) := Lib.laidMet.reads h (by unfold laidL Rows.pictureEditsRow; exact .tail _ (.tail _ (.head _)))
  exact tab_is hr (g := 3) (t := 168) (n := 20) (e := 94) (by kernel_rfl) (by kernel_rfl) (by kernel_rfl) (by kernel_rfl) (by kernel_rfl) (by kernel_rfl)
def OpensP (P : Program) (t : TypeId) (α : Type) [Enc α] (Q : α → Prop) : Prop :=
 ∀ {H : Type} {enc : TypeId × Value → H} {w : World} {base : Nat} {spare : Nat → Bool} {held : Bool} {r : Reach} {b0 : Nat} {v : Value} {d : DataW H} {p : List MemPlace}, Value.okWide P w r b0 t v → DataW.Trod enc P w base spare held t v d p →
  ∃ a : α, v = Enc.enc a ∧ Q a ∧ p = [] ∧ ∀ (w' : World) (b' : Nat) (sp' : Nat → Bool) (hd' : Bool), DataW.Trod enc P w' b' sp' hd' t v d []
theorem opensP_string {P : Program} {t : TypeId} (ht : P.underlying t = some .string) : OpensP P t ByteArray fun s => s.size ≤ 9223372036854775807 := by
 intro H enc w base spare held r b0 v d p hv h
 obtain ⟨n, rfl, rfl, rfl, hw⟩ := open_string ht hv h
 exact ⟨n, rfl, Nat.le_trans hw (by decide), rfl, fun w' b' sp' hd' => shut_string ht hw⟩
theorem oS : OpensP Tryz.prog 9 ByteArray fun s => s.size ≤ 9223372036854775807 := opensP_string Tryz.underlying9
theorem opensP_int {P : Program} {t : TypeId} (ht : P.underlying t = some (.int .i64)) : OpensP P t Int fun n => -9223372036854775808 ≤ n ∧ n ≤ 9223372036854775807 := by
 intro H enc w base spare held r b0 v d p hv h
 obtain ⟨n, rfl, rfl, rfl, hw⟩ := open_int ht hv h
 exact ⟨n, rfl, by simpa [Lit.wf, IntKind.min, IntKind.max, IntKind.signed, IntKind.bits] using hw, rfl, fun w' b' sp' hd' => shut_int ht hw⟩
theorem oI : OpensP Tryz.prog 3 Int fun n => -9223372036854775808 ≤ n ∧ n ≤ 9223372036854775807 := opensP_int Tryz.underlying3
theorem opensP_bool {P : Program} {t : TypeId} (ht : P.underlying t = some .bool) : OpensP P t Bool fun _ => True := by
 intro H enc w base spare held r b0 v d p hv h
 obtain ⟨n, rfl, rfl, rfl⟩ := open_bool ht hv h
 exact ⟨n, rfl, trivial, rfl, fun w' b' sp' hd' => shut_bool ht n⟩
theorem oB : OpensP Tryz.prog 4 Bool fun _ => True := opensP_bool Tryz.underlying4
theorem opensP_u8 {P : Program} {t : TypeId} (ht : P.underlying t = some (.int .u8)) : OpensP P t U8 fun c => 0 ≤ c.n ∧ c.n ≤ 255 := by
 intro H enc w base spare held r b0 v d p hv h
 obtain ⟨n, rfl, rfl, rfl, hw⟩ := open_int ht hv h
 exact ⟨⟨n⟩, rfl, by simpa [Lit.wf, IntKind.min, IntKind.max, IntKind.signed, IntKind.bits] using hw, rfl, fun w' b' sp' hd' => shut_int ht hw⟩
theorem oC : OpensP Tryz.prog 5 U8 fun c => 0 ≤ c.n ∧ c.n ≤ 255 := opensP_u8 Tryz.underlying5
theorem plain_laid : ∀ w, laidMetH Tryz.prog laidL w = laidMet Tryz.prog laidL w := fun w => MakeChecks.laidMetH_plain _ _ _ (by kernel_rfl)
theorem jf_mk {P : Program} {f : FuncId} {fn : Func} {s : ChangeSpec} {c : OpenClaim} (hA : (c.wf (OpenSpec.ofChange s) && laidOutB P && mapsRowed P && fn.params.all (P.readableRec ·) && namedTie P c.named s.vars && (c.stops == []) && (P.stops == []) && (c.knobs == []) && (P.stopKnobs == [])) = true)
  (h1 : (c.inPlace == P.inPlace f) = true) (h2 : (c.unfollowed == P.unfollowed f) = true) (h3 : (c.recurses == P.recurses f) = true) (h4 : (c.named == P.varsNamed f) = true)
  (hR : ((c.maps == (fn.params.toList ++ s.plain.varTypes P).any (P.mapsRec ·)) && (c.ifaces == (fn.params.toList ++ s.plain.varTypes P).any (P.ifacesRec ·)) && (c.mapsOut == P.mapsAmong fn.resultTypes.toList) && (c.loops == (fn.params.toList ++ s.plain.varTypes P).any (P.loopsFrom ·)) && (c.wideKeys == (fn.params.toList ++ s.plain.varTypes P ++ fn.resultTypes.toList).any (P.wideKeysFrom ·)) && s.vars.all (P.varReadable ·) && fn.resultTypes.all (fun t => P.readableRec t && decide (t < P.types.size)) && (c.ifacesOut == fn.resultTypes.toList.any (P.ifacesRec ·)) && (c.loopsOut == fn.resultTypes.toList.any (P.loopsFrom ·)) && (c.plainKeys == P.plainKeys) && c.shortTexts.isNone && P.stopsHeard && P.mayEnter && (c.lifted == P.liftsFinal) && (P.make == some c.make) && (c.kinds == (if c.domain.isEmpty then [] else fn.params.toList.map fun t => match P.underlying t with | some (.int k) => some k | _ => none)) && (c.pinned == c.pinnedBy) && (c.veiled == (fn.params.toList ++ s.plain.varTypes P ++ fn.resultTypes.toList).any (P.veiledRec ·)) && c.veiledFits P fn.params.toList (fn.params.toList ++ s.plain.varTypes P ++ fn.resultTypes.toList)) = true) : joinedFacts P f fn s c = true := by
 unfold joinedFacts
 rw [hA, h1, h2, h3, h4]
 simp only [Bool.true_and]
 exact hR
theorem main_is : Tryz.pinned.checked.prog.mainIs = some (true, ("1071b1b82e10af2d54fdefa34d8f8e5a24ee595ac523bd215b5ede5d74a6a811" : String).toList) := by kernel_rfl
theorem looks_is : true = Tryz.pinned.checked.prog.looks [] := by kernel_rfl
end Go.Px
end
section

end
