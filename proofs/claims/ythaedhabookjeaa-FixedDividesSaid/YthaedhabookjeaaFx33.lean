/-
  The law of quotients.
-/
import Derived.Test.YthaedhabookjeaaFx31
set_option linter.unusedVariables false
set_option linter.unusedSimpArgs false
namespace Go.Fx
open Go Go.Ab Go.Proofs

def twoL (i : Nat) (h : LoopH) (j : Nat) (h' : LoopH) : Nat → Option LoopH := fun k => match Nat.beq k i with | true => some h | false => match Nat.beq k j with | true => some h' | false => none

theorem lokf_two {P : Program} {fn : Func} {i j : Nat} {h h' : LoopH} (hij : Nat.beq j i = false) (hb : (match fn.body with | some c => blks (twoL i h j h') c | none => []) = [(i, .loop (loopOf fn i)), (j, .loop (loopOf fn j))])
    (hs : ∀ t m n K, h t m n K → Ab.Sem P fn.ntmps (.loop (loopOf fn i)) t m n K) (hs' : ∀ t m n K, h' t m n K → Ab.Sem P fn.ntmps (.loop (loopOf fn j)) t m n K) : LOKf P (twoL i h j h') fn := by
  unfold LOKf
  split
  · rename_i c hc
    simp only [hc] at hb
    refine lok_of c fun p hp k hk => ?_
    rw [hb] at hp
    simp only [List.mem_cons, List.not_mem_nil, or_false] at hp
    have e : Nat.beq i i = true := by simp
    have e' : Nat.beq j j = true := by simp
    rcases hp with rfl | rfl
    · simp only [twoL, e, Option.some.injEq] at hk
      subst hk
      exact hs
    · simp only [twoL, hij, e', Option.some.injEq] at hk
      subst hk
      exact hs'
  · trivial
def pv (n : Int) : Bool := decide (0 ≤ n ∧ n ≤ 4611686018427387904)

def V11_0 : Int × ByteArray × Int × Int × Int × Bool × ByteArray × Int × ByteArray × Int × Int × Int × Bool × ByteArray × Int × ByteArray × Bool × Int × Int × Int × Int × Int × Int → List Value := fun (an, az, tk, tp, tq, tv, ts, bn, bz, rk, rp, rq, rv, rs, vn, vz, z, c, up, x, y, m, i) => [.pointer (some ⟨0, 0, some 0⟩), .pointer (some ⟨1, 0, some 0⟩), .pointer (some ⟨2, 0, some 0⟩), .pointer (some ⟨19, 0, some 0⟩), .pointer (some ⟨31, 0, some 0⟩), B z, I c, I up, I x, I y, I m, I i]
def B11_0 : Int × ByteArray × Int × Int × Int × Bool × ByteArray × Int × ByteArray × Int × Int × Int × Bool × ByteArray × Int × ByteArray × Bool × Int × Int × Int × Int × Int × Int → List (Option Blk) := fun (an, az, tk, tp, tq, tv, ts, bn, bz, rk, rp, rq, rv, rs, vn, vz, z, c, up, x, y, m, i) => [some ⟨[I an, .string az], 25, true⟩, some ⟨[I tk, I tp, I tq, B tv, .string ts], 23, true⟩, some ⟨[I bn, .string bz], 25, true⟩, some ⟨[I rk, I rp, I rq, B rv, .string rs], 23, true⟩, some ⟨[I vn, .string vz], 25, true⟩]
def S11_0 : LSpec (Int × ByteArray × Int × Int × Int × Bool × ByteArray × Int × ByteArray × Int × Int × Int × Bool × ByteArray × Int × ByteArray × Bool × Int × Int × Int × Int × Int × Int) where
  live := [4, 5, 6, 9, 11, 8, 12, 14, 15, 16, 108, 109]
  mid := [0, 1, 2, 19, 31]
  n := 200
  dec vs bs := match vs, bs with | [.pointer (some ⟨0, 0, some 0⟩), .pointer (some ⟨1, 0, some 0⟩), .pointer (some ⟨2, 0, some 0⟩), .pointer (some ⟨19, 0, some 0⟩), .pointer (some ⟨31, 0, some 0⟩), .bool z, .int .i64 c, .int .i64 up, .int .i64 x, .int .i64 y, .int .i64 m, .int .i64 i], [some ⟨[.int .i64 an, .string az], 25, true⟩, some ⟨[.int .i64 tk, .int .i64 tp, .int .i64 tq, .bool tv, .string ts], 23, true⟩, some ⟨[.int .i64 bn, .string bz], 25, true⟩, some ⟨[.int .i64 rk, .int .i64 rp, .int .i64 rq, .bool rv, .string rs], 23, true⟩, some ⟨[.int .i64 vn, .string vz], 25, true⟩] => some (an, az, tk, tp, tq, tv, ts, bn, bz, rk, rp, rq, rv, rs, vn, vz, z, c, up, x, y, m, i) | _, _ => none
  pre := fun (an, az, tk, tp, tq, tv, ts, bn, bz, rk, rp, rq, rv, rs, vn, vz, z, c, up, x, y, m, i) => decide (0 ≤ i ∧ m ≤ 18 ∧ i ≤ 18 ∧ 0 ≤ x ∧ x * pw 10 (max 0 (m - i)) ≤ 4611686018427387904)
  fin := fun (an, az, tk, tp, tq, tv, ts, bn, bz, rk, rp, rq, rv, rs, vn, vz, z, c, up, x, y, m, i) Z => Z (.exit 0) [.pointer (some ⟨0, 0, some 0⟩), .pointer (some ⟨1, 0, some 0⟩), .pointer (some ⟨2, 0, some 0⟩), .pointer (some ⟨19, 0, some 0⟩), .pointer (some ⟨31, 0, some 0⟩), B z, I c, I up, I (x * pw 10 (max 0 (m - i))), I y, I m, I (i + max 0 (m - i))] [some ⟨[I an, .string az], 25, true⟩, some ⟨[I tk, I tp, I tq, B tv, .string ts], 23, true⟩, some ⟨[I bn, .string bz], 25, true⟩, some ⟨[I rk, I rp, I rq, B rv, .string rs], 23, true⟩, some ⟨[I vn, .string vz], 25, true⟩]
theorem r11_0 (an : Int) (az : ByteArray) (tk : Int) (tp : Int) (tq : Int) (tv : Bool) (ts : ByteArray) (bn : Int) (bz : ByteArray) (rk : Int) (rp : Int) (rq : Int) (rv : Bool) (rs : ByteArray) (vn : Int) (vz : ByteArray) (z : Bool) (c : Int) (up : Int) (x : Int) (y : Int) (m : Int) (i : Int) (jk : Tmps) (R : Exit → List Value → List (Option Blk) → Prop) : (codeQ Try.prog G19 noL Try.f11.ntmps (loopOf Try.f11 0) (tl S11_0.live (V11_0 (an, az, tk, tp, tq, tv, ts, bn, bz, rk, rp, rq, rv, rs, vn, vz, z, c, up, x, y, m, i)) jk) (ml S11_0.mid (B11_0 (an, az, tk, tp, tq, tv, ts, bn, bz, rk, rp, rq, rv, rs, vn, vz, z, c, up, x, y, m, i))) S11_0.n fun e t' m' _ => R e (List.map t' S11_0.live) (List.map m' S11_0.mid)) = (
    bif decide (i < m) then
      R Exit.normal
        [Value.pointer (some (Addr.mk 0 0 (some 0))), Value.pointer (some (Addr.mk 1 0 (some 0))), Value.pointer (some (Addr.mk 2 0 (some 0))),
          Value.pointer (some (Addr.mk 19 0 (some 0))), Value.pointer (some (Addr.mk 31 0 (some 0))), Value.bool z, Value.int IntKind.i64 c, Value.int IntKind.i64 up,
          Value.int IntKind.i64 (IntKind.wrap IntKind.i64 (x * 10)), Value.int IntKind.i64 y, Value.int IntKind.i64 m, Value.int IntKind.i64 (IntKind.wrap IntKind.i64 (i + 1))]
        [some (Blk.mk [I an, Value.string az] 25 true), some (Blk.mk [I tk, I tp, I tq, B tv, Value.string ts] 23 true), some (Blk.mk [I bn, Value.string bz] 25 true),
          some (Blk.mk [I rk, I rp, I rq, B rv, Value.string rs] 23 true), some (Blk.mk [I vn, Value.string vz] 25 true)]
    else
      R (Exit.exit 0)
        [Value.pointer (some (Addr.mk 0 0 (some 0))), Value.pointer (some (Addr.mk 1 0 (some 0))), Value.pointer (some (Addr.mk 2 0 (some 0))),
          Value.pointer (some (Addr.mk 19 0 (some 0))), Value.pointer (some (Addr.mk 31 0 (some 0))), Value.bool z, Value.int IntKind.i64 c, Value.int IntKind.i64 up,
          Value.int IntKind.i64 x, Value.int IntKind.i64 y, Value.int IntKind.i64 m, Value.int IntKind.i64 i]
        [some (Blk.mk [I an, Value.string az] 25 true), some (Blk.mk [I tk, I tp, I tq, B tv, Value.string ts] 23 true), some (Blk.mk [I bn, Value.string bz] 25 true),
          some (Blk.mk [I rk, I rp, I rq, B rv, Value.string rs] 23 true), some (Blk.mk [I vn, Value.string vz] 25 true)]) := by kernel_rfl
theorem l11_0 : ∀ t m n K, S11_0.h t m n K → Ab.Sem Try.prog Try.f11.ntmps (.loop (loopOf Try.f11 0)) t m n K := by
  refine loop_specQ ok_G19 hmix (by kernel_rfl) (lok_none _) S11_0 V11_0 B11_0 (fun (an, az, tk, tp, tq, tv, ts, bn, bz, rk, rp, rq, rv, rs, vn, vz, z, c, up, x, y, m, i) => (m - i).toNat) ?_ ?_ ?_
  · intro vs bs s h
    simp only [S11_0] at h
    split at h
    · cases h
      exact ⟨rfl, rfl⟩
    · cases h
  · exact fun _ _ _ h => h
  · intro ⟨an, az, tk, tp, tq, tv, ts, bn, bz, rk, rp, rq, rv, rs, vn, vz, z, c, up, x, y, m, i⟩ jk Z hp hf
    rw [r11_0]
    simp only [S11_0] at hp hf
    refine cond_intro (fun h => ?_) (fun h => ?_)
    · have h := of_decide_eq_true h
      have hp := of_decide_eq_true hp
      have e : pw 10 (max 0 (m - i)) = 10 * pw 10 (max 0 (m - (i + 1))) := by
        rw [show max 0 (m - i) = max 0 (m - (i + 1)) + 1 by omega, pw_succ 10 (by omega), Int.mul_comm]
      have p := pw_pos (b := 10) (by omega) (max 0 (m - (i + 1)))
      have e2 : x * pw 10 (max 0 (m - i)) = x * 10 * pw 10 (max 0 (m - (i + 1))) := by rw [e, Int.mul_assoc]
      have l := Int.mul_le_mul_of_nonneg_left p (show 0 ≤ x * 10 by omega)
      rw [e2] at hp
      have hw : IntKind.i64.wrap (x * 10) = x * 10 := w64 (by omega)
      have hw2 : IntKind.i64.wrap (i + 1) = i + 1 := w64 (by omega)
      refine ⟨(an, az, tk, tp, tq, tv, ts, bn, bz, rk, rp, rq, rv, rs, vn, vz, z, c, up, x * 10, y, m, i + 1), by rw [hw, hw2]; rfl, rfl, decide_eq_true (by omega), by simp only; omega, ?_⟩
      simp only [S11_0]
      rw [e2, show i + max 0 (m - i) = i + 1 + max 0 (m - (i + 1)) by omega] at hf
      exact hf
    · have h := of_decide_eq_false h
      show Z _ _ _
      rw [show max 0 (m - i) = 0 by omega, pw_0, Int.mul_one, Int.add_zero] at hf
      exact hf

def V11_2 : Int × ByteArray × Int × Int × Int × Bool × ByteArray × Int × ByteArray × Int × Int × Int × Bool × ByteArray × Int × ByteArray × Bool × Int × Int × Int × Int × Int → List Value := fun (an, az, tk, tp, tq, tv, ts, bn, bz, rk, rp, rq, rv, rs, vn, vz, z, c, x, y, m, i) => [.pointer (some ⟨0, 0, some 0⟩), .pointer (some ⟨1, 0, some 0⟩), .pointer (some ⟨2, 0, some 0⟩), .pointer (some ⟨19, 0, some 0⟩), .pointer (some ⟨31, 0, some 0⟩), B z, I c, I x, I y, I m, I i]
def B11_2 : Int × ByteArray × Int × Int × Int × Bool × ByteArray × Int × ByteArray × Int × Int × Int × Bool × ByteArray × Int × ByteArray × Bool × Int × Int × Int × Int × Int → List (Option Blk) := fun (an, az, tk, tp, tq, tv, ts, bn, bz, rk, rp, rq, rv, rs, vn, vz, z, c, x, y, m, i) => [some ⟨[I an, .string az], 25, true⟩, some ⟨[I tk, I tp, I tq, B tv, .string ts], 23, true⟩, some ⟨[I bn, .string bz], 25, true⟩, some ⟨[I rk, I rp, I rq, B rv, .string rs], 23, true⟩, some ⟨[I vn, .string vz], 25, true⟩]
def S11_2 : LSpec (Int × ByteArray × Int × Int × Int × Bool × ByteArray × Int × ByteArray × Int × Int × Int × Bool × ByteArray × Int × ByteArray × Bool × Int × Int × Int × Int × Int) where
  live := [4, 5, 6, 9, 11, 8, 12, 15, 16, 115, 116]
  mid := [0, 1, 2, 19, 31]
  n := 300
  dec vs bs := match vs, bs with | [.pointer (some ⟨0, 0, some 0⟩), .pointer (some ⟨1, 0, some 0⟩), .pointer (some ⟨2, 0, some 0⟩), .pointer (some ⟨19, 0, some 0⟩), .pointer (some ⟨31, 0, some 0⟩), .bool z, .int .i64 c, .int .i64 x, .int .i64 y, .int .i64 m, .int .i64 i], [some ⟨[.int .i64 an, .string az], 25, true⟩, some ⟨[.int .i64 tk, .int .i64 tp, .int .i64 tq, .bool tv, .string ts], 23, true⟩, some ⟨[.int .i64 bn, .string bz], 25, true⟩, some ⟨[.int .i64 rk, .int .i64 rp, .int .i64 rq, .bool rv, .string rs], 23, true⟩, some ⟨[.int .i64 vn, .string vz], 25, true⟩] => some (an, az, tk, tp, tq, tv, ts, bn, bz, rk, rp, rq, rv, rs, vn, vz, z, c, x, y, m, i) | _, _ => none
  pre := fun (an, az, tk, tp, tq, tv, ts, bn, bz, rk, rp, rq, rv, rs, vn, vz, z, c, x, y, m, i) => decide (0 ≤ i ∧ m ≤ 18 ∧ i ≤ 18 ∧ 0 ≤ y ∧ y * pw 10 (max 0 (m - i)) ≤ 4611686018427387904)
  fin := fun (an, az, tk, tp, tq, tv, ts, bn, bz, rk, rp, rq, rv, rs, vn, vz, z, c, x, y, m, i) Z => Z (.exit 2) [.pointer (some ⟨0, 0, some 0⟩), .pointer (some ⟨1, 0, some 0⟩), .pointer (some ⟨2, 0, some 0⟩), .pointer (some ⟨19, 0, some 0⟩), .pointer (some ⟨31, 0, some 0⟩), B z, I c, I x, I (y * pw 10 (max 0 (m - i))), I m, I (i + max 0 (m - i))] [some ⟨[I an, .string az], 25, true⟩, some ⟨[I tk, I tp, I tq, B tv, .string ts], 23, true⟩, some ⟨[I bn, .string bz], 25, true⟩, some ⟨[I rk, I rp, I rq, B rv, .string rs], 23, true⟩, some ⟨[I vn, .string vz], 25, true⟩]
theorem r11_2 (an : Int) (az : ByteArray) (tk : Int) (tp : Int) (tq : Int) (tv : Bool) (ts : ByteArray) (bn : Int) (bz : ByteArray) (rk : Int) (rp : Int) (rq : Int) (rv : Bool) (rs : ByteArray) (vn : Int) (vz : ByteArray) (z : Bool) (c : Int) (x : Int) (y : Int) (m : Int) (i : Int) (jk : Tmps) (R : Exit → List Value → List (Option Blk) → Prop) : (codeQ Try.prog G19 noL Try.f11.ntmps (loopOf Try.f11 2) (tl S11_2.live (V11_2 (an, az, tk, tp, tq, tv, ts, bn, bz, rk, rp, rq, rv, rs, vn, vz, z, c, x, y, m, i)) jk) (ml S11_2.mid (B11_2 (an, az, tk, tp, tq, tv, ts, bn, bz, rk, rp, rq, rv, rs, vn, vz, z, c, x, y, m, i))) S11_2.n fun e t' m' _ => R e (List.map t' S11_2.live) (List.map m' S11_2.mid)) = (
    bif decide (i < m) then
      R Exit.normal
        [Value.pointer (some (Addr.mk 0 0 (some 0))), Value.pointer (some (Addr.mk 1 0 (some 0))), Value.pointer (some (Addr.mk 2 0 (some 0))),
          Value.pointer (some (Addr.mk 19 0 (some 0))), Value.pointer (some (Addr.mk 31 0 (some 0))), Value.bool z, Value.int IntKind.i64 c, Value.int IntKind.i64 x,
          Value.int IntKind.i64 (IntKind.wrap IntKind.i64 (y * 10)), Value.int IntKind.i64 m, Value.int IntKind.i64 (IntKind.wrap IntKind.i64 (i + 1))]
        [some (Blk.mk [I an, Value.string az] 25 true), some (Blk.mk [I tk, I tp, I tq, B tv, Value.string ts] 23 true), some (Blk.mk [I bn, Value.string bz] 25 true),
          some (Blk.mk [I rk, I rp, I rq, B rv, Value.string rs] 23 true), some (Blk.mk [I vn, Value.string vz] 25 true)]
    else
      R (Exit.exit 2)
        [Value.pointer (some (Addr.mk 0 0 (some 0))), Value.pointer (some (Addr.mk 1 0 (some 0))), Value.pointer (some (Addr.mk 2 0 (some 0))),
          Value.pointer (some (Addr.mk 19 0 (some 0))), Value.pointer (some (Addr.mk 31 0 (some 0))), Value.bool z, Value.int IntKind.i64 c, Value.int IntKind.i64 x,
          Value.int IntKind.i64 y, Value.int IntKind.i64 m, Value.int IntKind.i64 i]
        [some (Blk.mk [I an, Value.string az] 25 true), some (Blk.mk [I tk, I tp, I tq, B tv, Value.string ts] 23 true), some (Blk.mk [I bn, Value.string bz] 25 true),
          some (Blk.mk [I rk, I rp, I rq, B rv, Value.string rs] 23 true), some (Blk.mk [I vn, Value.string vz] 25 true)]) := by kernel_rfl
theorem l11_2 : ∀ t m n K, S11_2.h t m n K → Ab.Sem Try.prog Try.f11.ntmps (.loop (loopOf Try.f11 2)) t m n K := by
  refine loop_specQ ok_G19 hmix (by kernel_rfl) (lok_none _) S11_2 V11_2 B11_2 (fun (an, az, tk, tp, tq, tv, ts, bn, bz, rk, rp, rq, rv, rs, vn, vz, z, c, x, y, m, i) => (m - i).toNat) ?_ ?_ ?_
  · intro vs bs s h
    simp only [S11_2] at h
    split at h
    · cases h
      exact ⟨rfl, rfl⟩
    · cases h
  · exact fun _ _ _ h => h
  · intro ⟨an, az, tk, tp, tq, tv, ts, bn, bz, rk, rp, rq, rv, rs, vn, vz, z, c, x, y, m, i⟩ jk Z hp hf
    rw [r11_2]
    simp only [S11_2] at hp hf
    refine cond_intro (fun h => ?_) (fun h => ?_)
    · have h := of_decide_eq_true h
      have hp := of_decide_eq_true hp
      have e : pw 10 (max 0 (m - i)) = 10 * pw 10 (max 0 (m - (i + 1))) := by
        rw [show max 0 (m - i) = max 0 (m - (i + 1)) + 1 by omega, pw_succ 10 (by omega), Int.mul_comm]
      have p := pw_pos (b := 10) (by omega) (max 0 (m - (i + 1)))
      have e2 : y * pw 10 (max 0 (m - i)) = y * 10 * pw 10 (max 0 (m - (i + 1))) := by rw [e, Int.mul_assoc]
      have l := Int.mul_le_mul_of_nonneg_left p (show 0 ≤ y * 10 by omega)
      rw [e2] at hp
      have hw : IntKind.i64.wrap (y * 10) = y * 10 := w64 (by omega)
      have hw2 : IntKind.i64.wrap (i + 1) = i + 1 := w64 (by omega)
      refine ⟨(an, az, tk, tp, tq, tv, ts, bn, bz, rk, rp, rq, rv, rs, vn, vz, z, c, x, y * 10, m, i + 1), by rw [hw, hw2]; rfl, rfl, decide_eq_true (by omega), by simp only; omega, ?_⟩
      simp only [S11_2]
      rw [e2, show i + max 0 (m - i) = i + 1 + max 0 (m - (i + 1)) by omega] at hf
      exact hf
    · have h := of_decide_eq_false h
      show Z _ _ _
      rw [show max 0 (m - i) = 0 by omega, pw_0, Int.mul_one, Int.add_zero] at hf
      exact hf

theorem lok11 : LOKf Try.prog (twoL 0 S11_0.h 2 S11_2.h) Try.f11 := lokf_two rfl (by kernel_rfl) l11_0 l11_2

structure DivP (a : Vl) (ta : Ty) (b : Vl) (tb : Ty) (X Y up : Int) : Prop where
  e : resE 9 ta tb = 0
  d : doE 9 a ta b tb = 0
  q : 0 ≤ (resT 9 ta tb).q ∧ (resT 9 ta tb).q ≤ 9
  u : (resT 9 ta tb).q + tb.q - ta.q = up
  p : (resT 9 ta tb).p = most ta.k
  z : b.n = 0 → doC 9 a ta b tb = 3 ∧ doN 9 a ta b tb = 0
  u2 : ta.k = 2 → up = 0
  u1 : ta.k = 1 → up ≤ 18 - ta.p ∧ -up ≤ 18 - tb.p
  x : 0 ≤ X ∧ X ≤ 1000000000000000000
  y : b.n ≠ 0 → 1 ≤ Y ∧ Y ≤ 1000000000000000000
  c : b.n ≠ 0 → (doC 9 a ta b tb = 0 ∧ max (doN 9 a ta b tb) (-doN 9 a ta b tb) = X / Y ∧ fits ⟨doN 9 a ta b tb, e0⟩ (resT 9 ta tb) = 0 ∧ (doN 9 a ta b tb = 0 ∨ (doN 9 a ta b tb < 0 ↔ ((a.n < 0) ≠ (b.n < 0))))) ∨
    (doC 9 a ta b tb = 2 ∧ pw (base ta.k) (most ta.k) ≤ X / Y)
theorem abs_pw {n u : Int} {t : Ty} (ht : Valid t) (hn : -bnd t < n ∧ n < bnd t) (h1 : t.k = 1 → u ≤ 18 - t.p) (h2 : t.k = 2 → u ≤ 0) : 0 ≤ max n (-n) * pw 10 (max 0 u) ∧ max n (-n) * pw 10 (max 0 u) ≤ 1000000000000000000 := by
  have b := bnd_range ht
  have r := valid_r ht
  have p1 := pw_pos (b := 10) (by omega) (max 0 u)
  refine ⟨Int.mul_nonneg (by omega) (by omega), ?_⟩
  rcases ht.1 with k | k
  · have e : bnd t = pw 10 t.p := by unfold bnd; rw [k]; rfl
    have l := Int.mul_le_mul_of_nonneg_right (show max n (-n) ≤ pw 10 t.p by omega) (show 0 ≤ pw 10 (max 0 u) by omega)
    have m9 := most_q ht
    have hp : t.p ≤ most t.k := ht.2.2.1
    have u1 := h1 k
    rw [← pw_add 10 (by omega) (by omega)] at l
    have := pw_le (b := 10) (by omega) (show t.p + max 0 u ≤ 18 by omega)
    have := pw10_18
    omega
  · have := h2 k
    rw [show max 0 u = 0 by omega, pw_0]; omega
theorem tdiv_abs {A B : Int} (hB : B ≠ 0) : max (A.tdiv B) (-A.tdiv B) = max A (-A) / max B (-B) ∧ (A.tdiv B = 0 ∨ (A.tdiv B < 0 ↔ ((A < 0) ≠ (B < 0)))) := by
  have key : ∀ m z : Int, 0 ≤ m → 0 < z → m.tdiv z = m / z ∧ 0 ≤ m / z := fun m z hm hz => ⟨Int.tdiv_eq_ediv_of_nonneg hm, Int.ediv_nonneg hm (by omega)⟩
  rcases Int.lt_or_le A 0 with hA | hA
  · rcases Int.lt_or_le B 0 with hb | hb
    · have k := key (-A) (-B) (by omega) (by omega)
      rw [Int.neg_tdiv, Int.tdiv_neg, Int.neg_neg] at k
      rw [show max A (-A) = -A by omega, show max B (-B) = -B by omega, ← k.1]
      refine ⟨by omega, ?_⟩
      have : (A < 0) = (B < 0) := by simp [hA, hb]
      simp only [this, ne_eq, eq_self, not_true_eq_false, iff_false]
      omega
    · have k := key (-A) B (by omega) (by omega)
      rw [Int.neg_tdiv] at k
      rw [show max A (-A) = -A by omega, show max B (-B) = B by omega, ← k.1]
      refine ⟨by omega, ?_⟩
      have : ¬ (B < 0) := by omega
      simp only [hA, this, ne_eq, eq_iff_iff, true_iff, not_false_eq_true, iff_true]
      omega
  · rcases Int.lt_or_le B 0 with hb | hb
    · have k := key A (-B) (by omega) (by omega)
      rw [Int.tdiv_neg] at k
      rw [show max A (-A) = A by omega, show max B (-B) = -B by omega, ← k.1]
      refine ⟨by omega, ?_⟩
      have : ¬ (A < 0) := by omega
      simp only [hb, this, ne_eq, eq_iff_iff, false_iff, not_true_eq_false, not_false_eq_true, iff_true]
      omega
    · have k := key A B (by omega) (by omega)
      rw [show max A (-A) = A by omega, show max B (-B) = B by omega, ← k.1]
      refine ⟨by omega, ?_⟩
      have h1 : ¬ (A < 0) := by omega
      have h2 : ¬ (B < 0) := by omega
      simp only [h1, h2, ne_eq, not_true_eq_false, iff_false]
      omega
theorem quo_one {a b up : Int} : quoN a b up = (a * pw 10 (max 0 up)).tdiv (b * pw 10 (max 0 (-up))) := by
  unfold quoN
  split
  · rw [show max 0 up = up by omega, show max 0 (-up) = 0 by omega, pw_0, Int.mul_one]
  · rw [show max 0 up = 0 by omega, show max 0 (-up) = -up by omega, pw_0, Int.mul_one]
theorem abs_mul2 {a u : Int} (hu : 1 ≤ u) : max (a * u) (-(a * u)) = max a (-a) * u ∧ (a * u < 0 ↔ a < 0) := by
  rcases Int.lt_or_le a 0 with h | h
  · have := Int.mul_le_mul_of_nonneg_right (show a ≤ -1 by omega) (show 0 ≤ u by omega)
    rw [show max a (-a) = -a by omega, Int.neg_mul]
    omega
  · have := Int.mul_nonneg h (show 0 ≤ u by omega)
    rw [show max a (-a) = a by omega]
    omega
theorem divP {a b : Vl} {ta tb : Ty} (ha : Gd a ta) (hb : Gd b tb) (hk : ta.k = tb.k) :
    DivP a ta b tb (max a.n (-a.n) * pw 10 (max 0 (resQ 9 ta tb + tb.q - ta.q))) (max b.n (-b.n) * pw 10 (max 0 (-(resQ 9 ta tb + tb.q - ta.q)))) (resQ 9 ta tb + tb.q - ta.q) := by
  have ho : (5 : Int) ≤ 9 ∧ (9 : Int) ≤ 13 := by omega
  obtain ⟨h1, h2, h3⟩ := do_two ho (by omega) ha hb hk
  obtain ⟨h4, h5⟩ := resT_bin ho (by omega) ha.1 hb.1 hk
  have ra := valid_r ha.1
  have rb := valid_r hb.1
  have ma := most_q ha.1
  have mb := most_q hb.1
  have pa : ta.p ≤ most ta.k := ha.1.2.2.1
  have pb : tb.p ≤ most tb.k := hb.1.2.2.1
  have rq : ta.k = 2 → resQ 9 ta tb = 0 := fun k => by simp [resQ, k]
  have rq1 : ta.k = 1 → resQ 9 ta tb = max 0 (9 - (ta.p - ta.q) - tb.q) := fun k => by simp [resQ, k]
  have e1 : ta.k = 2 → resQ 9 ta tb + tb.q - ta.q = 0 := fun k => by have := rq k; omega
  have e2 : ta.k = 1 → resQ 9 ta tb + tb.q - ta.q ≤ 18 - ta.p ∧ -(resQ 9 ta tb + tb.q - ta.q) ≤ 18 - tb.p := fun k => by have := rq1 k; omega
  have eq9 : 0 ≤ resQ 9 ta tb ∧ resQ 9 ta tb ≤ 9 := by
    rcases ha.1.1 with k | k
    · have := rq1 k; omega
    · have := rq k; omega
  have ep : (rty 9 ta tb).p = most ta.k := by
    rw [rty_p, show resD 9 ta tb = most ta.k from rfl]; omega
  have X := abs_pw ha.1 (gd_rng ha) (u := resQ 9 ta tb + tb.q - ta.q) (fun k => (e2 k).1) (fun k => by have := e1 k; omega)
  have Y := abs_pw hb.1 (gd_rng hb) (u := -(resQ 9 ta tb + tb.q - ta.q)) (fun k => (e2 (by omega)).2) (fun k => by have := e1 (by omega); omega)
  have p1 := pw_pos (b := 10) (by omega) (max 0 (resQ 9 ta tb + tb.q - ta.q))
  have p2 := pw_pos (b := 10) (by omega) (max 0 (-(resQ 9 ta tb + tb.q - ta.q)))
  obtain ⟨x1, x2⟩ := abs_mul2 (a := a.n) p1
  obtain ⟨y1, y2⟩ := abs_mul2 (a := b.n) p2
  refine ⟨h5, h1, by rw [h4]; exact eq9, by rw [h4]; rfl, by rw [h4]; exact ep, fun hz => ?_, e1, e2, X, fun hz => ⟨?_, Y.2⟩, fun hz => ?_⟩
  · have : zer 9 b.n := ⟨.inl rfl, hz⟩
    rw [h2, h3]
    simp [doN1, doC1, this]
  · have := Int.mul_le_mul (show 1 ≤ max b.n (-b.n) by omega) p2 (by omega) (by omega)
    omega
  · have hz' : ¬ zer 9 b.n := fun h => hz h.2
    have g := do_gd ho (by omega) ha hb hk
    obtain ⟨h6, h7⟩ := do_nz (a := a.n) (ta := ta) (tb := tb) hz'
    have y0 : b.n * pw 10 (max 0 (-(resQ 9 ta tb + tb.q - ta.q))) ≠ 0 := Int.mul_ne_zero hz (by omega)
    obtain ⟨t1, t2⟩ := tdiv_abs (A := a.n * pw 10 (max 0 (resQ 9 ta tb + tb.q - ta.q))) y0
    rw [x1, y1] at t1
    simp only [x2, y2] at t2
    have hN : opN 9 a.n ta b.n tb = (a.n * pw 10 (max 0 (resQ 9 ta tb + tb.q - ta.q))).tdiv (b.n * pw 10 (max 0 (-(resQ 9 ta tb + tb.q - ta.q)))) := by
      rw [opN_9, quo_one, show tb.q + resQ 9 ta tb - ta.q = resQ 9 ta tb + tb.q - ta.q by omega]
    rw [← hN] at t1 t2
    rw [h4, h2, h3, h6, h7]
    rw [h2, h6] at g
    by_cases hi : InB (opN 9 a.n ta b.n tb) (rty 9 ta tb)
    · rw [cutN_in hi] at g ⊢
      exact .inl ⟨(cutC0 (by decide)).2 hi, t1, gd_iff.2 g, t2⟩
    · refine .inr ⟨by rw [cutC, if_neg hi], ?_⟩
      have hbd : bnd (rty 9 ta tb) = pw (base ta.k) (most ta.k) := by unfold bnd; rw [ep, rty_k]
      unfold InB at hi
      rw [hbd] at hi
      rw [← t1]
      omega

def s11 (a : Vl) (ta : Ty) (b : Vl) (tb : Ty) : Bool × Value := (true, B true)
theorem fn11 : Fn1 Try.prog 11 Try.f11 := ⟨Try.func11, by kernel_rfl, by kernel_rfl, by kernel_rfl⟩
theorem v11 (a : Vl) (ta : Ty) (b : Vl) (tb : Ty) (R : Value → Prop) : bodyQ Try.prog G19 (twoL 0 S11_0.h 2 S11_2.h) Try.f11 [Enc.enc a, Enc.enc ta, Enc.enc b, Enc.enc tb] (fun _ => none) 0 (fun v _ _ => R v) = (
    bif !(fits a ta == 0 && fits b tb == 0 && Ty.k ta == Ty.k tb) then R (Value.bool true)
    else
      bif resE 9 ta tb != 0 || (doE 9 a ta b tb != 0 || (decide (Ty.q (resT 9 ta tb) < 0) || true)) then
        bif resE 9 ta tb != 0 || (doE 9 a ta b tb != 0 || (decide (Ty.q (resT 9 ta tb) < 0) || decide (Ty.q (resT 9 ta tb) > 9))) then R (Value.bool false)
        else
          bif Vl.n b == 0 then
            bif doC 9 a ta b tb == 3 || true then R (Value.bool (doC 9 a ta b tb == 3 && (doN 9 a ta b tb == 0 && (ByteArray.toList e0 == ByteArray.toList e0 && true)))) else False
          else
            bif
                bif Ty.k ta == 2 then
                  IntKind.wrap IntKind.i64 (IntKind.wrap IntKind.i64 (Ty.q (resT 9 ta tb) + Ty.q tb) - Ty.q ta) != 0 ||
                    bif Ty.k ta == 1 then
                      decide (IntKind.wrap IntKind.i64 (IntKind.wrap IntKind.i64 (Ty.q (resT 9 ta tb) + Ty.q tb) - Ty.q ta) > IntKind.wrap IntKind.i64 (18 - Ty.p ta)) || true
                    else true
                else
                  bif Ty.k ta == 1 then
                    decide (IntKind.wrap IntKind.i64 (IntKind.wrap IntKind.i64 (Ty.q (resT 9 ta tb) + Ty.q tb) - Ty.q ta) > IntKind.wrap IntKind.i64 (18 - Ty.p ta)) || true
                  else true then
              bif
                  bif Ty.k ta == 2 then
                    IntKind.wrap IntKind.i64 (IntKind.wrap IntKind.i64 (Ty.q (resT 9 ta tb) + Ty.q tb) - Ty.q ta) != 0 ||
                      Ty.k ta == 1 &&
                        (decide (IntKind.wrap IntKind.i64 (IntKind.wrap IntKind.i64 (Ty.q (resT 9 ta tb) + Ty.q tb) - Ty.q ta) > IntKind.wrap IntKind.i64 (18 - Ty.p ta)) ||
                          decide
                            (IntKind.wrap IntKind.i64 (0 - IntKind.wrap IntKind.i64 (IntKind.wrap IntKind.i64 (Ty.q (resT 9 ta tb) + Ty.q tb) - Ty.q ta)) >
                              IntKind.wrap IntKind.i64 (18 - Ty.p tb)))
                  else
                    Ty.k ta == 1 &&
                      (decide (IntKind.wrap IntKind.i64 (IntKind.wrap IntKind.i64 (Ty.q (resT 9 ta tb) + Ty.q tb) - Ty.q ta) > IntKind.wrap IntKind.i64 (18 - Ty.p ta)) ||
                        decide
                          (IntKind.wrap IntKind.i64 (0 - IntKind.wrap IntKind.i64 (IntKind.wrap IntKind.i64 (Ty.q (resT 9 ta tb) + Ty.q tb) - Ty.q ta)) >
                            IntKind.wrap IntKind.i64 (18 - Ty.p tb))) then
                R (Value.bool false)
              else
                bif decide (R63 (Vl.n a)) then
                  bif decide (R63 (Vl.n b)) then
                    bif
                        LSpec.pre S11_0
                          (Vl.n a, Vl.s a, Ty.k ta, Ty.p ta, Ty.q ta, Ty.v ta, Ty.s ta, Vl.n b, Vl.s b, Ty.k (resT 9 ta tb), Ty.p (resT 9 ta tb), Ty.q (resT 9 ta tb),
                            Ty.v (resT 9 ta tb), Ty.s (resT 9 ta tb), doN 9 a ta b tb, e0, false, doC 9 a ta b tb,
                            IntKind.wrap IntKind.i64 (IntKind.wrap IntKind.i64 (Ty.q (resT 9 ta tb) + Ty.q tb) - Ty.q ta), max (Vl.n a) (-Vl.n a), max (Vl.n b) (-Vl.n b),
                            IntKind.wrap IntKind.i64 (IntKind.wrap IntKind.i64 (Ty.q (resT 9 ta tb) + Ty.q tb) - Ty.q ta), 0) then
                      ∀ (x : Tmps),
                        bif
                            LSpec.pre S11_2
                              (Vl.n a, Vl.s a, Ty.k ta, Ty.p ta, Ty.q ta, Ty.v ta, Ty.s ta, Vl.n b, Vl.s b, Ty.k (resT 9 ta tb), Ty.p (resT 9 ta tb), Ty.q (resT 9 ta tb),
                                Ty.v (resT 9 ta tb), Ty.s (resT 9 ta tb), doN 9 a ta b tb, e0, false, doC 9 a ta b tb,
                                max (Vl.n a) (-Vl.n a) * pw 10 (max 0 (IntKind.wrap IntKind.i64 (IntKind.wrap IntKind.i64 (Ty.q (resT 9 ta tb) + Ty.q tb) - Ty.q ta) - 0)),
                                max (Vl.n b) (-Vl.n b), IntKind.wrap IntKind.i64 (0 - IntKind.wrap IntKind.i64 (IntKind.wrap IntKind.i64 (Ty.q (resT 9 ta tb) + Ty.q tb) - Ty.q ta)),
                                0) then
                          ∀ (x : Tmps),
                            bif doC 9 a ta b tb != 0 then
                              bif
                                  bif doC 9 a ta b tb == 2 then
                                    decide
                                        (max (Vl.n b) (-Vl.n b) *
                                            pw 10
                                              (max 0
                                                (IntKind.wrap IntKind.i64 (0 - IntKind.wrap IntKind.i64 (IntKind.wrap IntKind.i64 (Ty.q (resT 9 ta tb) + Ty.q tb) - Ty.q ta)) - 0)) ≠
                                          0) &&
                                      (decide (Ty.p (resT 9 ta tb) ≤ Ty.p ta ∧ Valid ta ∨ Ty.p (resT 9 ta tb) = most (Ty.k ta)) && true)
                                  else true then
                                R
                                  (Value.bool
                                    (doC 9 a ta b tb == 2 &&
                                      decide
                                        (IntKind.wrap IntKind.i64
                                            (Int.tdiv
                                              (max (Vl.n a) (-Vl.n a) *
                                                pw 10 (max 0 (IntKind.wrap IntKind.i64 (IntKind.wrap IntKind.i64 (Ty.q (resT 9 ta tb) + Ty.q tb) - Ty.q ta) - 0)))
                                              (max (Vl.n b) (-Vl.n b) *
                                                pw 10
                                                  (max 0
                                                    (IntKind.wrap IntKind.i64 (0 - IntKind.wrap IntKind.i64 (IntKind.wrap IntKind.i64 (Ty.q (resT 9 ta tb) + Ty.q tb) - Ty.q ta)) -
                                                      0)))) ≥
                                          pw (base (Ty.k ta)) (Ty.p (resT 9 ta tb)))))
                              else False
                            else
                              bif
                                  !fits (Vl.mk (doN 9 a ta b tb) e0) (resT 9 ta tb) == 0 ||
                                    decide (R63 (doN 9 a ta b tb)) &&
                                      (decide
                                          (max (Vl.n b) (-Vl.n b) *
                                              pw 10
                                                (max 0
                                                  (IntKind.wrap IntKind.i64 (0 - IntKind.wrap IntKind.i64 (IntKind.wrap IntKind.i64 (Ty.q (resT 9 ta tb) + Ty.q tb) - Ty.q ta)) - 0)) ≠
                                            0) &&
                                        true) then
                                bif
                                    !fits (Vl.mk (doN 9 a ta b tb) e0) (resT 9 ta tb) == 0 ||
                                      decide
                                        (max (doN 9 a ta b tb) (-doN 9 a ta b tb) >
                                          IntKind.wrap IntKind.i64
                                            (Int.tdiv
                                              (max (Vl.n a) (-Vl.n a) *
                                                pw 10 (max 0 (IntKind.wrap IntKind.i64 (IntKind.wrap IntKind.i64 (Ty.q (resT 9 ta tb) + Ty.q tb) - Ty.q ta) - 0)))
                                              (max (Vl.n b) (-Vl.n b) *
                                                pw 10
                                                  (max 0
                                                    (IntKind.wrap IntKind.i64 (0 - IntKind.wrap IntKind.i64 (IntKind.wrap IntKind.i64 (Ty.q (resT 9 ta tb) + Ty.q tb) - Ty.q ta)) -
                                                      0))))) then
                                  R (Value.bool false)
                                else
                                  bif decide (R63 (doN 9 a ta b tb)) then
                                    bif
                                        bif
                                            decide
                                              (IntKind.wrap IntKind.i64
                                                  (max (Vl.n a) (-Vl.n a) *
                                                      pw 10 (max 0 (IntKind.wrap IntKind.i64 (IntKind.wrap IntKind.i64 (Ty.q (resT 9 ta tb) + Ty.q tb) - Ty.q ta) - 0)) -
                                                    IntKind.wrap IntKind.i64
                                                      (max (doN 9 a ta b tb) (-doN 9 a ta b tb) *
                                                        (max (Vl.n b) (-Vl.n b) *
                                                          pw 10
                                                            (max 0
                                                              (IntKind.wrap IntKind.i64
                                                                  (0 - IntKind.wrap IntKind.i64 (IntKind.wrap IntKind.i64 (Ty.q (resT 9 ta tb) + Ty.q tb) - Ty.q ta)) -
                                                                0))))) ≥
                                                0) then
                                          bif
                                              decide
                                                (IntKind.wrap IntKind.i64
                                                    (max (Vl.n a) (-Vl.n a) *
                                                        pw 10 (max 0 (IntKind.wrap IntKind.i64 (IntKind.wrap IntKind.i64 (Ty.q (resT 9 ta tb) + Ty.q tb) - Ty.q ta) - 0)) -
                                                      IntKind.wrap IntKind.i64
                                                        (max (doN 9 a ta b tb) (-doN 9 a ta b tb) *
                                                          (max (Vl.n b) (-Vl.n b) *
                                                            pw 10
                                                              (max 0
                                                                (IntKind.wrap IntKind.i64
                                                                    (0 - IntKind.wrap IntKind.i64 (IntKind.wrap IntKind.i64 (Ty.q (resT 9 ta tb) + Ty.q tb) - Ty.q ta)) -
                                                                  0))))) <
                                                  max (Vl.n b) (-Vl.n b) *
                                                    pw 10
                                                      (max 0
                                                        (IntKind.wrap IntKind.i64 (0 - IntKind.wrap IntKind.i64 (IntKind.wrap IntKind.i64 (Ty.q (resT 9 ta tb) + Ty.q tb) - Ty.q ta)) -
                                                          0))) then
                                            doN 9 a ta b tb == 0 || true
                                          else true
                                        else true then
                                      R
                                        (Value.bool
                                          (decide
                                              (IntKind.wrap IntKind.i64
                                                  (max (Vl.n a) (-Vl.n a) *
                                                      pw 10 (max 0 (IntKind.wrap IntKind.i64 (IntKind.wrap IntKind.i64 (Ty.q (resT 9 ta tb) + Ty.q tb) - Ty.q ta) - 0)) -
                                                    IntKind.wrap IntKind.i64
                                                      (max (doN 9 a ta b tb) (-doN 9 a ta b tb) *
                                                        (max (Vl.n b) (-Vl.n b) *
                                                          pw 10
                                                            (max 0
                                                              (IntKind.wrap IntKind.i64
                                                                  (0 - IntKind.wrap IntKind.i64 (IntKind.wrap IntKind.i64 (Ty.q (resT 9 ta tb) + Ty.q tb) - Ty.q ta)) -
                                                                0))))) ≥
                                                0) &&
                                            (decide
                                                (IntKind.wrap IntKind.i64
                                                    (max (Vl.n a) (-Vl.n a) *
                                                        pw 10 (max 0 (IntKind.wrap IntKind.i64 (IntKind.wrap IntKind.i64 (Ty.q (resT 9 ta tb) + Ty.q tb) - Ty.q ta) - 0)) -
                                                      IntKind.wrap IntKind.i64
                                                        (max (doN 9 a ta b tb) (-doN 9 a ta b tb) *
                                                          (max (Vl.n b) (-Vl.n b) *
                                                            pw 10
                                                              (max 0
                                                                (IntKind.wrap IntKind.i64
                                                                    (0 - IntKind.wrap IntKind.i64 (IntKind.wrap IntKind.i64 (Ty.q (resT 9 ta tb) + Ty.q tb) - Ty.q ta)) -
                                                                  0))))) <
                                                  max (Vl.n b) (-Vl.n b) *
                                                    pw 10
                                                      (max 0
                                                        (IntKind.wrap IntKind.i64 (0 - IntKind.wrap IntKind.i64 (IntKind.wrap IntKind.i64 (Ty.q (resT 9 ta tb) + Ty.q tb) - Ty.q ta)) -
                                                          0))) &&
                                              (doN 9 a ta b tb == 0 || decide (doN 9 a ta b tb < 0) == !decide (Vl.n a < 0) == decide (Vl.n b < 0)))))
                                    else False
                                  else False
                              else False
                        else False
                    else False
                  else False
                else False
            else False
      else False) := by kernel_rfl
theorem ok11 : PureOK Try.prog 11 (sp4 s11) := by
  refine qure4 ok_G19 hmix fn11 lok11 (Nat.le_of_ble_eq_true (by kernel_rfl)) fun a ta b tb hc => ?_
  rw [DoesQ, v11]
  refine cond_intro (fun _ => rfl) (fun h => ?_)
  obtain ⟨ha, hb, hk⟩ := both_of h
  have P := divP ha hb hk
  have ra := valid_r ha.1
  have rb := valid_r hb.1
  have q := P.q
  have na := gd_rng ha
  have nb := gd_rng hb
  have ba := bnd_range ha.1
  have bb := bnd_range hb.1
  refine c_t (by simp) (c_f ?_ ?_)
  · rw [P.e, P.d, decide_eq_false (show ¬ ((resT 9 ta tb).q < 0) by omega), decide_eq_false (show ¬ ((resT 9 ta tb).q > 9) by omega)]; rfl
  refine cond_intro (fun bz => ?_) (fun bz => ?_)
  · obtain ⟨z1, z2⟩ := P.z (by simpa using bz)
    refine c_t (by simp) ?_
    rw [z1, z2]
    simp [s11]
  have bz : b.n ≠ 0 := by simpa using bz
  have Y := P.y bz
  have C := P.c bz
  have X := P.x
  have u1 := P.u1
  have u2 := P.u2
  have up1 : -18 ≤ (resT 9 ta tb).q + tb.q - ta.q ∧ (resT 9 ta tb).q + tb.q - ta.q ≤ 18 := by
    rw [P.u]
    rcases ha.1.1 with k | k
    · have := u1 k; omega
    · have := u2 k; omega
  rw [w64 (n := (resT 9 ta tb).q + tb.q) (by omega), w64 (n := (resT 9 ta tb).q + tb.q - ta.q) (by omega), w64 (n := 0 - ((resT 9 ta tb).q + tb.q - ta.q)) (by omega), w64 (n := 18 - ta.p) (by omega), w64 (n := 18 - tb.p) (by omega), P.u]
  rw [P.u] at up1
  refine c_t ?_ (c_f ?_ (c_t (decide_eq_true (by unfold R63; omega)) (c_t (decide_eq_true (by unfold R63; omega)) ?_)))
  · cases decide (ta.k = 1) <;> cases (ta.k == 1) <;> cases (ta.k == 2) <;> simp
  · rcases ha.1.1 with k | k
    · have := u1 k
      rw [k, decide_eq_false (show ¬ (resQ 9 ta tb + tb.q - ta.q > 18 - ta.p) by omega), decide_eq_false (show ¬ (0 - (resQ 9 ta tb + tb.q - ta.q) > 18 - tb.p) by omega)]; rfl
    · have := u2 k
      rw [k, this]; rfl
  have hX0 : max a.n (-a.n) * pw 10 (max 0 (resQ 9 ta tb + tb.q - ta.q - 0)) = max a.n (-a.n) * pw 10 (max 0 (resQ 9 ta tb + tb.q - ta.q)) := by rw [Int.sub_zero]
  have hY0 : max b.n (-b.n) * pw 10 (max 0 (0 - (resQ 9 ta tb + tb.q - ta.q) - 0)) = max b.n (-b.n) * pw 10 (max 0 (-(resQ 9 ta tb + tb.q - ta.q))) := by rw [Int.sub_zero, Int.zero_sub]
  refine c_t (decide_eq_true ⟨by omega, by omega, by omega, by omega, by rw [hX0]; omega⟩) (fun _ => ?_)
  refine c_t (decide_eq_true ⟨by omega, by omega, by omega, by omega, by rw [hY0]; omega⟩) (fun _ => ?_)
  rw [hX0, hY0]
  generalize max a.n (-a.n) * pw 10 (max 0 (resQ 9 ta tb + tb.q - ta.q)) = x at *
  generalize max b.n (-b.n) * pw 10 (max 0 (-(resQ 9 ta tb + tb.q - ta.q))) = y at *
  have f0 : 0 ≤ x / y := Int.ediv_nonneg (by omega) (by omega)
  have f1 : x / y ≤ x := Int.ediv_le_self _ (by omega)
  have md := Int.mul_ediv_add_emod x y
  have m0 := Int.emod_nonneg x (show y ≠ 0 by omega)
  have m1 := Int.emod_lt_of_pos x (show 0 < y by omega)
  have y0 : decide (y ≠ 0) = true := decide_eq_true (by omega)
  rw [Int.mul_comm] at md
  rw [Int.tdiv_eq_ediv_of_nonneg (by omega), w64 (n := x / y) (by omega), y0, P.p]
  rcases C with ⟨c, n, f, s⟩ | ⟨c, l⟩
  · rw [n, w64 (n := x / y * y) (by omega), w64 (n := x - x / y * y) (by omega), decide_eq_true (show x - x / y * y ≥ 0 by omega), decide_eq_true (show x - x / y * y < y by omega), f, c]
    have rN : decide (R63 (doN 9 a ta b tb)) = true := decide_eq_true (by unfold R63; omega)
    rw [rN]
    refine c_f rfl (c_t rfl (c_f (by simp) (c_t rfl (c_t (by simp) ?_))))
    have hs : (doN 9 a ta b tb == 0 || decide (doN 9 a ta b tb < 0) == !decide (a.n < 0) == decide (b.n < 0)) = true := by
      rcases s with s | s
      · rw [s]; rfl
      · by_cases h1 : doN 9 a ta b tb < 0 <;> by_cases h2 : a.n < 0 <;> by_cases h3 : b.n < 0 <;> simp [h1, h2, h3] at s ⊢
    rw [hs]
    rfl
  · rw [c, decide_eq_true (show x / y ≥ pw (base ta.k) (most ta.k) from l)]
    exact c_t rfl (c_t (by simp) rfl)

end Go.Fx
