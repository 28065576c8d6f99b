/-
  The run and the laws that serve these rows (part 3)
-/
import Derived.Test.YtpflidodnhbeoaaGreatDoorX2
set_option linter.unusedVariables false
set_option linter.unusedSimpArgs false
noncomputable section
namespace Go.Px
open Go Go.Ab Go.Proofs Go.Shelf
def enOn : List Int → Bool
 | [] => false
 | r :: rs => bif r == 0 || r == 1 then r == 1 else enOn rs
def enGo (ze : Bool) (fm : Int) : List Int → List Int → Int → Int
 | [], _, _ => -1
 | r :: rs, ds, at_ => bif r == 0 then at_ else bif r == 1 then (bif ds.headD 0 != 48 then at_ else enGo ze fm rs ds.tail (at_ + 1))
  else bif r == 2 then (bif decide (fm > 0) || !ze then at_ else enGo ze fm rs ds at_) else enGo ze fm rs ds (at_ + 1)
def cn1 : List Int → Int
 | [] => 0
 | r :: rs => (bif r == 1 then 1 else 0) + cn1 rs
theorem jis : ∀ l, 0 ≤ cn1 l
 | [] => by simp [cn1]
 | r :: rs => by have := jis rs; rw [cn1]; cases r == 1 <;> simp <;> omega
def V90_0 : Int × Int × Int × Bool × Bool × Nat × Nat × Int × Int × ByteArray × Bool × Int × Int × Int × Bool × Nat × Nat × Int × Int × Bool × Int × Int × ByteArray × Bool × Int × Int × Int × List Value → List Value := fun (r2, r3, r4, ze, on, k2, cap2, L, i, s, nb, w, dg, sc, sg, k, cap, dr, f, cr, fl, fm, nu, mi, us, at0, ld, d) => [.pointer (some ⟨0, 0, some 0⟩), I r2, I r3, I r4, B ze, B on, .slice (some ⟨2, 0, some 1⟩) k2 cap2, I L, I i]
def B90_0 : Int × Int × Int × Bool × Bool × Nat × Nat × Int × Int × ByteArray × Bool × Int × Int × Int × Bool × Nat × Nat × Int × Int × Bool × Int × Int × ByteArray × Bool × Int × Int × Int × List Value → List (Option Blk) := fun (r2, r3, r4, ze, on, k2, cap2, L, i, s, nb, w, dg, sc, sg, k, cap, dr, f, cr, fl, fm, nu, mi, us, at0, ld, d) => [some ⟨[.pointer (some ⟨1, 0, some 0⟩), .string nu, .bool mi, .int .i64 us, .int .i64 at0, .int .i64 ld], 255, false⟩, some ⟨[.string s, .bool nb, .int .i64 w, .int .i64 dg, .int .i64 sc, .bool sg, .slice (some ⟨2, 0, some 1⟩) k cap, .int .u8 dr, .int .i64 f, .bool cr, .int .u8 fl, .int .i64 fm], 156, false⟩, some ⟨d, 251, false⟩]
def S90_0 : LSpecA (Int × Int × Int × Bool × Bool × Nat × Nat × Int × Int × ByteArray × Bool × Int × Int × Int × Bool × Nat × Nat × Int × Int × Bool × Int × Int × ByteArray × Bool × Int × Int × Int × List Value) where
 live := [0, 2, 3, 4, 5, 6, 23, 24, 25]
 mid := [0, 1, 2]
 n := 100
 ap := []
 dec vs bs := match vs, bs with | [.pointer (some ⟨0, 0, some 0⟩), .int .i64 r2, .int .i64 r3, .int .i64 r4, .bool ze, .bool on, .slice (some ⟨2, 0, some 1⟩) k2 cap2, .int .i64 L, .int .i64 i], [some ⟨[.pointer (some ⟨1, 0, some 0⟩), .string nu, .bool mi, .int .i64 us, .int .i64 at0, .int .i64 ld], 255, false⟩, some ⟨[.string s, .bool nb, .int .i64 w, .int .i64 dg, .int .i64 sc, .bool sg, .slice (some ⟨2, 0, some 1⟩) k cap, .int .u8 dr, .int .i64 f, .bool cr, .int .u8 fl, .int .i64 fm], 156, false⟩, some ⟨d, 251, false⟩] => some (r2, r3, r4, ze, on, k2, cap2, L, i, s, nb, w, dg, sc, sg, k, cap, dr, f, cr, fl, fm, nu, mi, us, at0, ld, d) | _, _ => none
 pre := fun (r2, r3, r4, ze, on, k2, cap2, L, i, s, nb, w, dg, sc, sg, k, cap, dr, f, cr, fl, fm, nu, mi, us, at0, ld, d) => jbn d k2 cap2 && decide (0 ≤ i ∧ i ≤ k2 ∧ k2 ≤ 1000 ∧ L = k2 ∧ on = false)
 fin := fun (r2, r3, r4, ze, on, k2, cap2, L, i, s, nb, w, dg, sc, sg, k, cap, dr, f, cr, fl, fm, nu, mi, us, at0, ld, d) Z => ∀ i', Z (.exit 0) [.pointer (some ⟨0, 0, some 0⟩), I r2, I r3, I r4, B ze, B (enOn ((zc d k2).drop i.toNat)), .slice (some ⟨2, 0, some 1⟩) k2 cap2, I L, I i'] [some ⟨[.pointer (some ⟨1, 0, some 0⟩), .string nu, .bool mi, .int .i64 us, .int .i64 at0, .int .i64 ld], 255, false⟩, some ⟨[.string s, .bool nb, .int .i64 w, .int .i64 dg, .int .i64 sc, .bool sg, .slice (some ⟨2, 0, some 1⟩) k cap, .int .u8 dr, .int .i64 f, .bool cr, .int .u8 fl, .int .i64 fm], 156, false⟩, some ⟨d, 251, false⟩]
def z90_0a (r2 : Int) (r3 : Int) (r4 : Int) (ze : Bool) (k2 : Nat) (cap2 : Nat) (L : Int) (x0 : Bool) (x1 : Int) : List Value := [.pointer (some (.mk 0 0 (some 0))), I r2, I r3, I r4, B ze, B x0, .slice (some (.mk 2 0 (some 1))) k2 cap2, I L, I x1]
def z90_0b (s : ByteArray) (nb : Bool) (w : Int) (dg : Int) (sc : Int) (sg : Bool) (k : Nat) (cap : Nat) (dr : Int) (f : Int) (cr : Bool) (fl : Int) (fm : Int) (nu : ByteArray) (mi : Bool) (us : Int) (at0 : Int) (ld : Int) (d : List Value) : List (Option Blk) := [some (.mk [.pointer (some (.mk 1 0 (some 0))), S nu, B mi, I us, I at0, I ld] 255 false), some (.mk [S s, B nb, I w, I dg, I sc, B sg, .slice (some (.mk 2 0 (some 1))) k cap, .int .u8 dr, I f, B cr, .int .u8 fl, I fm] 156 false), some (.mk (rlbL [] d) 251 false)]
theorem r90_0 (r2 : Int) (r3 : Int) (r4 : Int) (ze : Bool) (on : Bool) (k2 : Nat) (cap2 : Nat) (L : Int) (i : Int) (s : ByteArray) (nb : Bool) (w : Int) (dg : Int) (sc : Int) (sg : Bool) (k : Nat) (cap : Nat) (dr : Int) (f : Int) (cr : Bool) (fl : Int) (fm : Int) (nu : ByteArray) (mi : Bool) (us : Int) (at0 : Int) (ld : Int) (d : List Value) (jk : Tmps) (R : Exit → List Value → List (Option Blk) → Prop) : (jbr Tryz.prog G32 noL Tryz.f251.ntmps (jbb Tryz.f251 0) (tl S90_0.live (V90_0 (r2, r3, r4, ze, on, k2, cap2, L, i, s, nb, w, dg, sc, sg, k, cap, dr, f, cr, fl, fm, nu, mi, us, at0, ld, d)) jk) (ml S90_0.mid (B90_0 (r2, r3, r4, ze, on, k2, cap2, L, i, s, nb, w, dg, sc, sg, k, cap, dr, f, cr, fl, fm, nu, mi, us, at0, ld, d))) S90_0.n fun e t' m' _ => S90_0.out R e t' m') = ( bif decide (i < L) then bif decide (0 ≤ i ∧ i < (↑k2 : Int)) then bif jbo IntKind.i64 d (0 + i.toNat * 1) then bif jat d (0 + i.toNat * 1) == 0 || true then bif jat d (0 + i.toNat * 1) == 0 || jat d (0 + i.toNat * 1) == 1 then bif jau [] d && true && true then R (Exit.exit 0) (z90_0a r2 r3 r4 ze k2 cap2 L (jat d (0 + i.toNat * 1) == 1) i) (z90_0b s nb w dg sc sg k cap dr f cr fl fm nu mi us at0 ld d) else False else bif jau [] d && true && true then R Exit.normal (z90_0a r2 r3 r4 ze k2 cap2 L on (IntKind.wrap .i64 (i + 1))) (z90_0b s nb w dg sc sg k cap dr f cr fl fm nu mi us at0 ld d) else False else False else False else False else bif jau [] d && true && true then R (Exit.exit 0) (z90_0a r2 r3 r4 ze k2 cap2 L on i) (z90_0b s nb w dg sc sg k cap dr f cr fl fm nu mi us at0 ld d) else False) := by kernel_rfl
theorem l90_0 : ∀ t m n K, S90_0.hA t m n K → Ab.Sem Tryz.prog Tryz.f251.ntmps (.loop (jbb Tryz.f251 0)) t m n K := by
 refine jbm ok_G32 hmix (by kernel_rfl) (ja6 _) S90_0 V90_0 B90_0 (fun (r2, r3, r4, ze, on, k2, cap2, L, i, s, nb, w, dg, sc, sg, k, cap, dr, f, cr, fl, fm, nu, mi, us, at0, ld, d) => (k2 - i).toNat) ?_ ?_ ?_
 ·intro vs bs s h
  simp only [S90_0] at h
  split at h
  all_goals first | (cases h; exact ⟨rfl, rfl⟩) | cases h | (split at h <;> first | (rename_i hq; cases h; have hq := jah hq; subst hq; exact ⟨rfl, rfl⟩) | cases h)
 ·exact fun ⟨r2, r3, r4, ze, on, k2, cap2, L, i, s, nb, w, dg, sc, sg, k, cap, dr, f, cr, fl, fm, nu, mi, us, at0, ld, d⟩ hp => by
   simp only [S90_0, jaf] at hp
   have hr := jav.1 hp.1
   simp [V90_0, B90_0, S90_0, ja1, jbv, idsL, ids, jap hr.plain]
 ·intro ⟨r2, r3, r4, ze, on, k2, cap2, L, i, s, nb, w, dg, sc, sg, k, cap, dr, f, cr, fl, fm, nu, mi, us, at0, ld, d⟩ jk Z hp hf
  rw [r90_0]
  delta z90_0a z90_0b
  simp only [S90_0] at hp hf
  simp only [jaf, jae] at hp
  obtain ⟨hR, hp⟩ := hp
  have hr := jav.1 hR
  have hzl := jbc hr
  have e0 : 0 + i.toNat * 1 = i.toNat := by omega
  rw [e0]
  simp only [hr.rlb]
  have hg : (jau [] d && true && true) = true := by rw [hr.good]; rfl
  refine cond_intro (fun h => ?_) (fun h => ?_)
  ·have h := jab h
   obtain ⟨a1, a3⟩ := hr.at hp.1 (by omega)
   rw [a3, enOn] at hf
   rw [a1, w64 (n := i + 1) (by omega)]
   generalize jat d i.toNat = c at *
   refine c_t (jaa (by omega)) (c_t rfl (c_t (by simp) (cond_intro (fun z => c_t hg ?_) (fun z => c_t hg ?_))))
   ·rw [z, cond_true] at hf
    exact hf i
   ·rw [z, cond_false] at hf
    exact ⟨(r2, r3, r4, ze, on, k2, cap2, L, i + 1, s, nb, w, dg, sc, sg, k, cap, dr, f, cr, fl, fm, nu, mi, us, at0, ld, d), rfl, rfl, by simp only [S90_0, jaf, jae]; exact ⟨hR, by omega, by omega, by omega, by omega, hp.2.2.2.2⟩, by simp only; omega, hf⟩
  ·have h := jac h
   rw [hr.end (by omega), enOn] at hf
   rw [hp.2.2.2.2]
   exact c_t hg (hf i)
def V90_2 : Int × Int × Int × Bool × Nat × Nat × Int × Int × ByteArray × Bool × Int × Int × Int × Bool × Nat × Nat × Int × Int × Bool × Int × Int × ByteArray × Bool × Int × Int × Int × List Value → List Value := fun (r2, aa, kk, ze, k2, cap2, L, i, s, nb, w, dg, sc, sg, k, cap, dr, f, cr, fl, fm, nu, mi, us, at0, ld, d) => [.pointer (some ⟨0, 0, some 0⟩), I r2, I aa, I kk, B ze, .slice (some ⟨2, 0, some 1⟩) k2 cap2, I L, I i]
def B90_2 : Int × Int × Int × Bool × Nat × Nat × Int × Int × ByteArray × Bool × Int × Int × Int × Bool × Nat × Nat × Int × Int × Bool × Int × Int × ByteArray × Bool × Int × Int × Int × List Value → List (Option Blk) := fun (r2, aa, kk, ze, k2, cap2, L, i, s, nb, w, dg, sc, sg, k, cap, dr, f, cr, fl, fm, nu, mi, us, at0, ld, d) => [some ⟨[.pointer (some ⟨1, 0, some 0⟩), .string nu, .bool mi, .int .i64 us, .int .i64 at0, .int .i64 ld], 255, false⟩, some ⟨[.string s, .bool nb, .int .i64 w, .int .i64 dg, .int .i64 sc, .bool sg, .slice (some ⟨2, 0, some 1⟩) k cap, .int .u8 dr, .int .i64 f, .bool cr, .int .u8 fl, .int .i64 fm], 156, false⟩, some ⟨d, 251, false⟩]
def S90_2 : LSpecA (Int × Int × Int × Bool × Nat × Nat × Int × Int × ByteArray × Bool × Int × Int × Int × Bool × Nat × Nat × Int × Int × Bool × Int × Int × ByteArray × Bool × Int × Int × Int × List Value) where
 live := [0, 2, 3, 4, 5, 46, 47, 48]
 mid := [0, 1, 2]
 n := 140
 ap := []
 dec vs bs := match vs, bs with | [.pointer (some ⟨0, 0, some 0⟩), .int .i64 r2, .int .i64 aa, .int .i64 kk, .bool ze, .slice (some ⟨2, 0, some 1⟩) k2 cap2, .int .i64 L, .int .i64 i], [some ⟨[.pointer (some ⟨1, 0, some 0⟩), .string nu, .bool mi, .int .i64 us, .int .i64 at0, .int .i64 ld], 255, false⟩, some ⟨[.string s, .bool nb, .int .i64 w, .int .i64 dg, .int .i64 sc, .bool sg, .slice (some ⟨2, 0, some 1⟩) k cap, .int .u8 dr, .int .i64 f, .bool cr, .int .u8 fl, .int .i64 fm], 156, false⟩, some ⟨d, 251, false⟩] => some (r2, aa, kk, ze, k2, cap2, L, i, s, nb, w, dg, sc, sg, k, cap, dr, f, cr, fl, fm, nu, mi, us, at0, ld, d) | _, _ => none
 pre := fun (r2, aa, kk, ze, k2, cap2, L, i, s, nb, w, dg, sc, sg, k, cap, dr, f, cr, fl, fm, nu, mi, us, at0, ld, d) => jbn d k2 cap2 && decide (0 ≤ i ∧ i ≤ k2 ∧ k2 ≤ 1000 ∧ L = k2 ∧ 0 ≤ kk ∧ kk ≤ i ∧ 0 ≤ aa ∧ aa ≤ i ∧ kk + cn1 ((zc d k2).drop i.toNat) ≤ nu.size)
 fin := fun (r2, aa, kk, ze, k2, cap2, L, i, s, nb, w, dg, sc, sg, k, cap, dr, f, cr, fl, fm, nu, mi, us, at0, ld, d) Z => (∀ a' k' i', enGo ze fm ((zc d k2).drop i.toNat) ((bz nu).drop kk.toNat) aa = a' → 0 ≤ a' → Z .ret [.pointer (some ⟨0, 0, some 0⟩), I a', I a', I k', B ze, .slice (some ⟨2, 0, some 1⟩) k2 cap2, I L, I i'] [some ⟨[.pointer (some ⟨1, 0, some 0⟩), .string nu, .bool mi, .int .i64 us, .int .i64 at0, .int .i64 ld], 255, false⟩, some ⟨[.string s, .bool nb, .int .i64 w, .int .i64 dg, .int .i64 sc, .bool sg, .slice (some ⟨2, 0, some 1⟩) k cap, .int .u8 dr, .int .i64 f, .bool cr, .int .u8 fl, .int .i64 fm], 156, false⟩, some ⟨d, 251, false⟩]) ∧ (enGo ze fm ((zc d k2).drop i.toNat) ((bz nu).drop kk.toNat) aa = -1 → ∀ a' k' i', Z (.exit 2) [.pointer (some ⟨0, 0, some 0⟩), I r2, I a', I k', B ze, .slice (some ⟨2, 0, some 1⟩) k2 cap2, I L, I i'] [some ⟨[.pointer (some ⟨1, 0, some 0⟩), .string nu, .bool mi, .int .i64 us, .int .i64 at0, .int .i64 ld], 255, false⟩, some ⟨[.string s, .bool nb, .int .i64 w, .int .i64 dg, .int .i64 sc, .bool sg, .slice (some ⟨2, 0, some 1⟩) k cap, .int .u8 dr, .int .i64 f, .bool cr, .int .u8 fl, .int .i64 fm], 156, false⟩, some ⟨d, 251, false⟩])
def z90_2a (ze : Bool) (k2 : Nat) (cap2 : Nat) (L : Int) (x0 : Int) (x1 : Int) (x2 : Int) (x3 : Int) : List Value := [.pointer (some (.mk 0 0 (some 0))), I x0, I x1, I x2, B ze, .slice (some (.mk 2 0 (some 1))) k2 cap2, I L, I x3]
def z90_2b (s : ByteArray) (nb : Bool) (w : Int) (dg : Int) (sc : Int) (sg : Bool) (k : Nat) (cap : Nat) (dr : Int) (f : Int) (cr : Bool) (fl : Int) (fm : Int) (nu : ByteArray) (mi : Bool) (us : Int) (at0 : Int) (ld : Int) (d : List Value) : List (Option Blk) := [some (.mk [.pointer (some (.mk 1 0 (some 0))), S nu, B mi, I us, I at0, I ld] 255 false), some (.mk [S s, B nb, I w, I dg, I sc, B sg, .slice (some (.mk 2 0 (some 1))) k cap, .int .u8 dr, I f, B cr, .int .u8 fl, I fm] 156 false), some (.mk (rlbL [] d) 251 false)]
theorem r90_2 (r2 : Int) (aa : Int) (kk : Int) (ze : Bool) (k2 : Nat) (cap2 : Nat) (L : Int) (i : Int) (s : ByteArray) (nb : Bool) (w : Int) (dg : Int) (sc : Int) (sg : Bool) (k : Nat) (cap : Nat) (dr : Int) (f : Int) (cr : Bool) (fl : Int) (fm : Int) (nu : ByteArray) (mi : Bool) (us : Int) (at0 : Int) (ld : Int) (d : List Value) (jk : Tmps) (R : Exit → List Value → List (Option Blk) → Prop) : (jbr Tryz.prog G32 noL Tryz.f251.ntmps (jbb Tryz.f251 2) (tl S90_2.live (V90_2 (r2, aa, kk, ze, k2, cap2, L, i, s, nb, w, dg, sc, sg, k, cap, dr, f, cr, fl, fm, nu, mi, us, at0, ld, d)) jk) (ml S90_2.mid (B90_2 (r2, aa, kk, ze, k2, cap2, L, i, s, nb, w, dg, sc, sg, k, cap, dr, f, cr, fl, fm, nu, mi, us, at0, ld, d))) S90_2.n fun e t' m' _ => S90_2.out R e t' m') = ( bif decide (i < L) then bif decide (0 ≤ i ∧ i < (↑k2 : Int)) then bif jbo IntKind.i64 d (0 + i.toNat * 1) then bif jat d (0 + i.toNat * 1) == 0 then bif jau [] d && true && true then R Exit.ret (z90_2a ze k2 cap2 L aa aa kk i) (z90_2b s nb w dg sc sg k cap dr f cr fl fm nu mi us at0 ld d) else False else bif jat d (0 + i.toNat * 1) == 1 then bif decide (0 ≤ kk ∧ kk < (nu.size : Int)) then bif jak nu kk.toNat != 48 then bif jau [] d && true && true then R Exit.ret (z90_2a ze k2 cap2 L aa aa kk i) (z90_2b s nb w dg sc sg k cap dr f cr fl fm nu mi us at0 ld d) else False else bif jau [] d && true && true then R Exit.normal (z90_2a ze k2 cap2 L r2 (IntKind.wrap .i64 (aa + 1)) (IntKind.wrap .i64 (kk + 1)) (IntKind.wrap .i64 (i + 1))) (z90_2b s nb w dg sc sg k cap dr f cr fl fm nu mi us at0 ld d) else False else False else bif jat d (0 + i.toNat * 1) == 2 then bif decide (fm > 0) || true then bif decide (fm > 0) || !ze then bif jau [] d && true && true then R Exit.ret (z90_2a ze k2 cap2 L aa aa kk i) (z90_2b s nb w dg sc sg k cap dr f cr fl fm nu mi us at0 ld d) else False else bif jau [] d && true && true then R Exit.normal (z90_2a ze k2 cap2 L r2 aa kk (IntKind.wrap .i64 (i + 1))) (z90_2b s nb w dg sc sg k cap dr f cr fl fm nu mi us at0 ld d) else False else False else bif jau [] d && true && true then R Exit.normal (z90_2a ze k2 cap2 L r2 (IntKind.wrap .i64 (aa + 1)) kk (IntKind.wrap .i64 (i + 1))) (z90_2b s nb w dg sc sg k cap dr f cr fl fm nu mi us at0 ld d) else False else False else False else bif jau [] d && true && true then R (Exit.exit 2) (z90_2a ze k2 cap2 L r2 aa kk i) (z90_2b s nb w dg sc sg k cap dr f cr fl fm nu mi us at0 ld d) else False) := by kernel_rfl
theorem l90_2 : ∀ t m n K, S90_2.hA t m n K → Ab.Sem Tryz.prog Tryz.f251.ntmps (.loop (jbb Tryz.f251 2)) t m n K := by
 refine jbm ok_G32 hmix (by kernel_rfl) (ja6 _) S90_2 V90_2 B90_2 (fun (r2, aa, kk, ze, k2, cap2, L, i, s, nb, w, dg, sc, sg, k, cap, dr, f, cr, fl, fm, nu, mi, us, at0, ld, d) => (k2 - i).toNat) ?_ ?_ ?_
 ·intro vs bs s h
  simp only [S90_2] at h
  split at h
  all_goals first | (cases h; exact ⟨rfl, rfl⟩) | cases h | (split at h <;> first | (rename_i hq; cases h; have hq := jah hq; subst hq; exact ⟨rfl, rfl⟩) | cases h)
 ·exact fun ⟨r2, aa, kk, ze, k2, cap2, L, i, s, nb, w, dg, sc, sg, k, cap, dr, f, cr, fl, fm, nu, mi, us, at0, ld, d⟩ hp => by
   simp only [S90_2, jaf] at hp
   have hr := jav.1 hp.1
   simp [V90_2, B90_2, S90_2, ja1, jbv, idsL, ids, jap hr.plain]
 ·intro ⟨r2, aa, kk, ze, k2, cap2, L, i, s, nb, w, dg, sc, sg, k, cap, dr, f, cr, fl, fm, nu, mi, us, at0, ld, d⟩ jk Z hp hf
  rw [r90_2]
  delta z90_2a z90_2b
  simp only [S90_2] at hp hf
  simp only [jaf, jae] at hp
  obtain ⟨hR, hp⟩ := hp
  have hr := jav.1 hR
  have hzl := jbc hr
  have e0 : 0 + i.toNat * 1 = i.toNat := by omega
  rw [e0]
  simp only [hr.rlb]
  have hg : (jau [] d && true && true) = true := by rw [hr.good]; rfl
  refine cond_intro (fun h => ?_) (fun h => ?_)
  ·have h := jab h
   obtain ⟨a1, a3⟩ := hr.at hp.1 (by omega)
   rw [a3] at hp hf
   rw [enGo] at hf
   rw [cn1] at hp
   rw [a1, w64 (n := i + 1) (by omega)]
   have hc := jis ((zc d k2).drop (i + 1).toNat)
   generalize jat d i.toNat = c at *
   refine c_t (jaa (by omega)) (c_t rfl (cond_intro (fun z => c_t hg ?_) (fun z => ?_)))
   ·rw [z, cond_true] at hf
    exact hf.1 aa kk i rfl (by omega)
   ·rw [z, cond_false] at hf
    refine cond_intro (fun z => ?_) (fun z => ?_)
    ·rw [z, cond_true] at hf hp
     obtain ⟨hp1, hp2, hp3, hp4, hp5, hp6, hp7, hp8⟩ := hp
     rw [jb0 hp5 (by omega), List.headD_cons, List.tail_cons] at hf
     refine c_t (jaa (by omega)) (cond_intro (fun z => c_t hg ?_) (fun z => c_t hg ?_))
     ·rw [z, cond_true] at hf
      exact hf.1 aa kk i rfl (by omega)
     ·rw [z, cond_false] at hf
      rw [w64 (n := aa + 1) (by omega), w64 (n := kk + 1) (by omega)]
      exact ⟨(r2, aa + 1, kk + 1, ze, k2, cap2, L, i + 1, s, nb, w, dg, sc, sg, k, cap, dr, f, cr, fl, fm, nu, mi, us, at0, ld, d), rfl, rfl, by simp only [S90_2, jaf, jae]; exact ⟨hR, by omega⟩, by simp only; omega, hf⟩
    ·rw [z, cond_false] at hf hp
     refine cond_intro (fun z => c_t (by simp) (cond_intro (fun z2 => c_t hg ?_) (fun z2 => c_t hg ?_))) (fun z => c_t hg ?_)
     ·rw [z, cond_true, z2, cond_true] at hf
      exact hf.1 aa kk i rfl (by omega)
     ·rw [z, cond_true, z2, cond_false] at hf
      exact ⟨(r2, aa, kk, ze, k2, cap2, L, i + 1, s, nb, w, dg, sc, sg, k, cap, dr, f, cr, fl, fm, nu, mi, us, at0, ld, d), rfl, rfl, by simp only [S90_2, jaf, jae]; exact ⟨hR, by omega⟩, by simp only; omega, hf⟩
     ·rw [z, cond_false] at hf
      rw [w64 (n := aa + 1) (by omega)]
      exact ⟨(r2, aa + 1, kk, ze, k2, cap2, L, i + 1, s, nb, w, dg, sc, sg, k, cap, dr, f, cr, fl, fm, nu, mi, us, at0, ld, d), rfl, rfl, by simp only [S90_2, jaf, jae]; exact ⟨hR, by omega⟩, by simp only; omega, hf⟩
  ·have h := jac h
   rw [hr.end (by omega), enGo] at hf
   exact c_t hg (hf.2 rfl aa kk i)
def pnL (x : Nat) (nu : ByteArray) (mi : Bool) (us at0 ld : Int) : List Value := [.pointer (some ⟨x, 0, some 0⟩), .string nu, .bool mi, .int .i64 us, .int .i64 at0, .int .i64 ld]
def vwF3 (p c d : List Value) : Lk := fun j => match Nat.beq j 0 with | true => some ⟨p, 255, false⟩ | false => match Nat.beq j 1 with | true => some ⟨c, 156, false⟩ | false => match Nat.beq j 2 with | true => some ⟨d, 251, false⟩ | false => none
def rho3 (a x y : Nat) : Nat → Nat := fun j => match j with | 0 => a | 1 => x | _ => y
theorem sub_F3 {m : Lk} {a x y k cap : Nat} {nu : ByteArray} {mi : Bool} {us at0 ld : Int} {s : ByteArray} {nb : Bool} {w d sc : Int} {sg : Bool} {dr f : Int} {cr : Bool} {fl fm : Int} {own own2 own3 : Bool} {r : List Value} (hr : ja2 r = true)
  (hp : m a = some ⟨pnL x nu mi us at0 ld, 255, own⟩) (ha : m x = some ⟨fmL s nb w d sc sg y k cap dr f cr fl fm, 156, own2⟩) (hx : m y = some ⟨r, 251, own3⟩) :
  SubM m (rho3 a x y) (vwF3 (pnL 1 nu mi us at0 ld) (fmL s nb w d sc sg 2 k cap dr f cr fl fm) r) 3 := by
 have hget : ∀ j b, vwF3 (pnL 1 nu mi us at0 ld) (fmL s nb w d sc sg 2 k cap dr f cr fl fm) r j = some b → (j = 0 ∧ b = ⟨pnL 1 nu mi us at0 ld, 255, false⟩) ∨ (j = 1 ∧ b = ⟨fmL s nb w d sc sg 2 k cap dr f cr fl fm, 156, false⟩) ∨ (j = 2 ∧ b = ⟨r, 251, false⟩) := fun j b h => by
  simp only [vwF3] at h
  split at h
  ·rename_i h0; cases h; exact .inl ⟨jah h0, rfl⟩
  ·split at h
   ·rename_i h0; cases h; exact .inr (.inl ⟨jah h0, rfl⟩)
   ·split at h
    ·rename_i h0; cases h; exact .inr (.inr ⟨jah h0, rfl⟩)
    ·cases h
 refine ⟨fun j b h => ?_, fun j b h => ?_⟩
 ·rcases hget j b h with ⟨rfl, rfl⟩ | ⟨rfl, rfl⟩ | ⟨rfl, rfl⟩
  ·refine ⟨by omega, fun i hi => ?_⟩
   have : i = 1 := by simpa [pnL, idsL, ids] using hi
   omega
  ·refine ⟨by omega, fun i hi => ?_⟩
   have : i = 2 := by simpa [fmL, idsL, ids] using hi
   omega
  ·exact ⟨by omega, fun i hi => by rw [jap hr] at hi; cases hi⟩
 ·rcases hget j b h with ⟨rfl, rfl⟩ | ⟨rfl, rfl⟩ | ⟨rfl, rfl⟩
  ·refine ⟨rfl, ⟨pnL x nu mi us at0 ld, 255, own⟩, ?_, fun ι => ?_⟩
   ·show noIt (m a) = _
    rw [hp]
    simp only [noIt]
    have : (own && Nat.beq 255 itTy) = false := by cases own <;> rfl
    rw [this]
   ·simp [pnL, ren, ren1, rho3]
  ·refine ⟨rfl, ⟨fmL s nb w d sc sg y k cap dr f cr fl fm, 156, own2⟩, ?_, fun ι => ?_⟩
   ·show noIt (m x) = _
    rw [ha]
    simp only [noIt]
    have : (own2 && Nat.beq 156 itTy) = false := by cases own2 <;> rfl
    rw [this]
   ·simp [fmL, ren, ren1, rho3]
  ·refine ⟨rfl, ⟨r, 251, own3⟩, ?_, fun ι => renMap_congr fun k hk => by rw [jap hr] at hk; cases hk⟩
   show noIt (m y) = _
   rw [hx]
   simp only [noIt]
   have : (own3 && Nat.beq 251 itTy) = false := by cases own3 <;> rfl
   rw [this]
theorem fn90 : Fn1 Tryz.prog 251 Tryz.f251 := .m Tryz.func251 (by kernel_rfl)
theorem lok90 : LOKf Tryz.prog (twoL 0 S90_0.hA 2 S90_2.hA) Tryz.f251 := jg4 (by kernel_rfl) (by kernel_rfl) l90_0 l90_2
def enV (nu : List Int) (fm : Int) (ro : List Int) : Int := bif enOn ro then enGo (jct nu [48]).isEmpty fm ro nu 0 else 0
theorem v90 (s : ByteArray) (nb : Bool) (w : Int) (dg : Int) (sc : Int) (sg : Bool) (k : Nat) (cap : Nat) (dr : Int) (f : Int) (cr : Bool) (fl : Int) (fm : Int) (nu : ByteArray) (mi : Bool) (us : Int) (at0 : Int) (ld : Int) (d : List Value) (R : Value → Prop) : (ja4 Tryz.prog G32 (twoL 0 S90_0.hA 2 S90_2.hA) Tryz.f251 [.pointer (some ⟨0, 0, some 0⟩)] (vwF3 (pnL 1 nu mi us at0 ld) (fmL s nb w dg sc sg 2 k cap dr f cr fl fm) d) 3 (fun v _ _ => R v)) = ( bif decide (nu.size ≤ 1000) && (decide ((ByteArray.mk #[48]).size ≤ 1000) && asc (bz (ByteArray.mk #[48]))) then bif jau [] d && true && true && (ja1 100 (rlbL [] d) && true) then bif LSpec.pre (LSpecA.toLSpec S90_0) (0, 0, 0, (szO (jct (bz nu) (bz (ByteArray.mk #[48])))).toList == (ByteArray.mk #[]).toList, false, k, cap, natO k, 0, s, nb, w, dg, sc, sg, k, cap, dr, f, cr, fl, fm, nu, mi, us, at0, ld, rlbL [] d) then ∀ (i' : Int), bif ja1 100 (rlbL [] d) && true then ∀ (x : Tmps), bif !enOn (List.drop (Int.toNat 0) (zc (rlbL [] d) k)) then R (I 0) else bif jau [] (rlbL [] d) && true && true && (ja1 140 (rlbL [] (rlbL [] d)) && true) then bif LSpec.pre (LSpecA.toLSpec S90_2) (0, 0, 0, (szO (jct (bz nu) (bz (ByteArray.mk #[48])))).toList == (ByteArray.mk #[]).toList, k, cap, natO k, 0, s, nb, w, dg, sc, sg, k, cap, dr, f, cr, fl, fm, nu, mi, us, at0, ld, rlbL [] (rlbL [] d)) then (∀ (a' k' i' : Int), enGo ((szO (jct (bz nu) (bz (ByteArray.mk #[48])))).toList == (ByteArray.mk #[]).toList) fm (List.drop (Int.toNat 0) (zc (rlbL [] (rlbL [] d)) k)) (List.drop (Int.toNat 0) (bz nu)) 0 = a' → 0 ≤ a' → bif ja1 140 (rlbL [] (rlbL [] d)) && true then ∀ (x : Tmps), R (I a') else False) ∧ (enGo ((szO (jct (bz nu) (bz (ByteArray.mk #[48])))).toList == (ByteArray.mk #[]).toList) fm (List.drop (Int.toNat 0) (zc (rlbL [] (rlbL [] d)) k)) (List.drop (Int.toNat 0) (bz nu)) 0 = -1 → ∀ (a' k' i' : Int), bif ja1 140 (rlbL [] (rlbL [] d)) && true then ∀ (x : Tmps), R (I (-1)) else False) else False else False else False else False else False else False) := by kernel_rfl
theorem w90 (s : ByteArray) (nb : Bool) (w : Int) (dg : Int) (sc : Int) (sg : Bool) (k : Nat) (cap : Nat) (dr : Int) (f : Int) (cr : Bool) (fl : Int) (fm : Int) (nu : ByteArray) (mi : Bool) (us : Int) (at0 : Int) (ld : Int) (d : List Value) (hR : jbn d k cap = true) (hk : k ≤ 1000) (hn : nu.size ≤ 1000) (hc : cn1 (zc d k) ≤ nu.size) {R : Value → Prop} (hr : R (.int .i64 (enV (bz nu) fm (zc d k)))) :
  jdw Tryz.prog G32 (twoL 0 S90_0.hA 2 S90_2.hA) Tryz.f251 [.pointer (some ⟨0, 0, some 0⟩)] (vwF3 (pnL 1 nu mi us at0 ld) (fmL s nb w dg sc sg 2 k cap dr f cr fl fm) d) 3 (fun v _ _ => R v) := by
 rw [jdw, v90]
 have h := jav.1 hR
 have k1 : bz ⟨#[48]⟩ = [48] := rfl
 have e1 : (ByteArray.toList (szO (jct (bz nu) (bz (ByteArray.mk #[48])))) == ByteArray.toList (ByteArray.mk #[])) = (jct (bz nu) [48]).isEmpty := by
  rw [jc1, toList_nil, jc9 (trim_isB (jer nu)), k1]
 have z0 : Int.toNat 0 = 0 := rfl
 simp only [h.rlb, e1, z0, List.drop_zero]
 have hg : ∀ n, (jau [] d && true && true && (ja1 n d && true)) = true := fun n => by rw [h.good]; simp [ja1, idsL, jap h.plain]
 have hi : ∀ n, (ja1 n d && true) = true := fun n => by simp [ja1, idsL, jap h.plain]
 have c1 : (decide (ByteArray.size (ByteArray.mk #[48]) ≤ 1000) && asc (bz (ByteArray.mk #[48]))) = true := by kernel_rfl
 have c2 : (decide (nu.size ≤ 1000) && (decide (ByteArray.size (ByteArray.mk #[48]) ≤ 1000) && asc (bz (ByteArray.mk #[48])))) = true := by rw [c1, jaa hn]; rfl
 refine c_t c2 (c_t (hg _) (c_t ?_ fun i' => c_t (hi _) fun _ => cond_intro (fun ho => ?_) (fun ho => c_t (hg _) (c_t ?_ ⟨fun a' k' i' ha h0 => c_t (hi _) fun _ => ?_, fun ha a' k' i' => c_t (hi _) fun _ => ?_⟩))))
 ·simp only [S90_0, jaf, jae, jbz]
  exact ⟨hR, by omega, by omega, by omega, trivial, trivial⟩
 ·rw [Bool.not_eq_true'] at ho
  rw [enV, ho] at hr
  exact hr
 ·simp only [S90_2, jaf, jae, jbz, z0, List.drop_zero]
  exact ⟨hR, by omega, by omega, by omega, trivial, by omega, by omega, by omega, by omega, by omega⟩
 ·rw [Bool.not_eq_false'] at ho
  rw [enV, ho, cond_true, ha] at hr
  exact hr
 ·rw [Bool.not_eq_false'] at ho
  rw [enV, ho, cond_true, ha] at hr
  exact hr
def h90 : List Value → Lk → Nat → (Value → Lk → Nat → Prop) → Prop := fun args m n K => match args with
 | [.pointer (some ⟨a, 0, some 0⟩)] => match m a with
  | some ⟨[.pointer (some ⟨x, 0, some 0⟩), .string nu, .bool mi, .int .i64 us, .int .i64 at0, .int .i64 ld], 255, own⟩ => match m x with
   | some ⟨[.string s, .bool nb, .int .i64 w, .int .i64 dg, .int .i64 sc, .bool sg, .slice (some ⟨y, 0, some 1⟩) k cap, .int .u8 dr, .int .i64 f, .bool cr, .int .u8 fl, .int .i64 fm], 156, own2⟩ => match m y with
    | some ⟨d, 251, own3⟩ =>
     match cnd (jbn d k cap && decide (k ≤ 1000 ∧ nu.size ≤ 1000 ∧ cn1 (zc d k) ≤ nu.size)) with
     | true => K (.int .i64 (enV (bz nu) fm (zc d k))) m n
     | false => False
    | _ => False
   | _ => False
  | _ => False
 | _ => False
theorem h90_ok : jd1 Tryz.prog 251 h90 := by
 refine jha ok_G32 hmix fn90 lok90 fun args m n K h => ?_
 unfold h90 at h
 split at h
 case h_2 => exact h.elim
 rename_i a
 split at h
 case h_2 => exact h.elim
 rename_i x nu mi us at0 ld own hm
 split at h
 case h_2 => exact h.elim
 rename_i s nb w dg sc sg y k cap dr f cr fl fm own2 hx
 split at h
 case h_2 => exact h.elim
 rename_i d own3 hy
 split at h
 case h_2 => exact h.elim
 rename_i hc
 simp only [cnd, jaf, jae] at hc
 obtain ⟨h1, h2, h3, h4⟩ := hc
 refine ⟨[.pointer (some ⟨0, 0, some 0⟩)], _, 3, rho3 a x y, .int .i64 (enV (bz nu) fm (zc d k)), sub_F3 (jav.1 h1).plain hm hx hy, fun ι => by simp [ren, ren1, rho3], jag (by kernel_rfl), fun v hv j hj => ?_, rfl, w90 s nb w dg sc sg k cap dr f cr fl fm nu mi us at0 ld d h1 h2 h3 h4 (R := fun v => v = .int .i64 (enV (bz nu) fm (zc d k))) rfl, h⟩
 simp at hv
 subst hv
 have : j = 0 := by simpa [ids] using hj
 omega
end Go.Px
end
noncomputable section
set_option maxHeartbeats 3200000
namespace Go.Px
open Go Go.Ab Go.Proofs Go.Shelf
def G33 : Env := Env.nil
def G34 : Env := (Env.nil.add 288 (sp2 s26)).addG 287 (inlQ Tryz.prog G33 noL Tryz.f287)
def G35 : Env := ((((((Env.nil.add 30 (sp2 s78)).addG 251 h90).addG 252 (inlQ Tryz.prog G34 noL Tryz.f252)).addG 253 (inlQ Tryz.prog G34 noL Tryz.f253)).addG 254 (inlQ Tryz.prog G34 noL Tryz.f254)).addG 255 (inlQ Tryz.prog G34 noL Tryz.f255)).addG 256 (inlQ Tryz.prog G34 noL Tryz.f256)
theorem fn123 : Fn1 Tryz.prog 287 Tryz.f287 := .m Tryz.func287 (by kernel_rfl)
theorem fn91 : Fn1 Tryz.prog 252 Tryz.f252 := .m Tryz.func252 (by kernel_rfl)
theorem fn92 : Fn1 Tryz.prog 253 Tryz.f253 := .m Tryz.func253 (by kernel_rfl)
theorem fn93 : Fn1 Tryz.prog 254 Tryz.f254 := .m Tryz.func254 (by kernel_rfl)
theorem fn94 : Fn1 Tryz.prog 255 Tryz.f255 := .m Tryz.func255 (by kernel_rfl)
theorem fn95 : Fn1 Tryz.prog 256 Tryz.f256 := .m Tryz.func256 (by kernel_rfl)
theorem fn64 : Fn1 Tryz.prog 207 Tryz.f207 := .m Tryz.func207 (by kernel_rfl)
theorem ok_G33 : jax Tryz.prog G33 := jam
theorem ok_G34 : jax Tryz.prog G34 := jao (jaj jam ok26) (jas ok_G33 hmix fn123 jai)
theorem ok_G35 : jax Tryz.prog G35 := jao (jao (jao (jao (jao (jao (jaj jam ok78) h90_ok) (jas ok_G34 hmix fn91 jai)) (jas ok_G34 hmix fn92 jai)) (jas ok_G34 hmix fn93 jai)) (jas ok_G34 hmix fn94 jai)) (jas ok_G34 hmix fn95 jai)
def wrC (f : Int) (cr : Bool) (n : Int) (mi : Bool) (ld fl : Int) (r c d i a : Int) : Int :=
 bif i == f then fl else bif cr && decide (i ≥ n - 2) then (bif !mi then 32 else c)
 else bif decide (r = 0) then fmZ c d mi else bif decide (r = 1) then (bif decide (a < ld) then fl else d)
 else bif decide (r = 3) then (bif c == 66 then 32 else bif decide (a < ld) then fl else c)
 else bif decide (r = 4) then (bif c == 83 && mi then 45 else bif c == 83 then 43 else bif (c == 43) == mi then 32 else c) else c
def wrT (f : Int) (cr : Bool) (n : Int) (r i : Int) : Bool := !(i == f) && (!(cr && decide (i ≥ n - 2)) && (decide (r = 0) || decide (r = 1)))
def wrGo (f : Int) (cr : Bool) (n : Int) (mi : Bool) (ld fl : Int) : List Int → List Int → List Int → Int → Int → List Int
 | [], _, _, _, _ => []
 | r :: rs, cs, ds, i, a => bif r == 2 then wrGo f cr n mi ld fl rs cs.tail ds (i + 1) a
  else wrC f cr n mi ld fl r (cs.headD 0) (ds.headD 0) i a :: wrGo f cr n mi ld fl rs cs.tail (bif wrT f cr n r i then ds.tail else ds) (i + 1) (a + 1)
def cdg : List Int → Int
 | [] => 0
 | r :: rs => (bif decide (r = 0) || decide (r = 1) then 1 else 0) + cdg rs
def roOK (l : List Int) : Bool := l.all fun r => decide (0 ≤ r ∧ r < 6)
def jju : List Value → Bool
 | [.func (.func a) ⟨[]⟩ ⟨[]⟩, .func (.func b) ⟨[]⟩ ⟨[]⟩, .nilFunc, .func (.func c) ⟨[]⟩ ⟨[]⟩, .func (.func d) ⟨[]⟩ ⟨[]⟩, .func (.func e) ⟨[]⟩ ⟨[]⟩] => Nat.beq a 252 && (Nat.beq b 253 && (Nat.beq c 254 && (Nat.beq d 255 && Nat.beq e 256)))
 | _ => false
def how : List Value := [.func (.func 252) ⟨[]⟩ ⟨[]⟩, .func (.func 253) ⟨[]⟩ ⟨[]⟩, .nilFunc, .func (.func 254) ⟨[]⟩ ⟨[]⟩, .func (.func 255) ⟨[]⟩ ⟨[]⟩, .func (.func 256) ⟨[]⟩ ⟨[]⟩]
theorem isHow_eq {l : List Value} (h : jju l = true) : l = how := by
 unfold jju at h
 split at h
 ·simp only [jaf, Nat.beq_eq] at h
  obtain ⟨rfl, rfl, rfl, rfl, rfl⟩ := h
  rfl
 ·cases h
theorem jjl : ∀ l, 0 ≤ cdg l
 | [] => by simp [cdg]
 | r :: rs => by have := jjl rs; rw [cdg]; cases decide (r = 0) || decide (r = 1) <;> simp <;> omega
theorem cdg_c {r : Int} {rs : List Int} : cdg rs ≤ cdg (r :: rs) := by rw [cdg]; cases decide (r = 0) || decide (r = 1) <;> simp <;> omega
theorem jjy {r : Int} {rs : List Int} (h : r = 0 ∨ r = 1) : cdg (r :: rs) = 1 + cdg rs := by rw [cdg]; rcases h with rfl | rfl <;> rfl
theorem roOK_at {l : List Int} (h : roOK l = true) {j : Nat} {r : Int} {rs : List Int} (hj : l.drop j = r :: rs) : 0 ≤ r ∧ r < 6 := by
 simp only [roOK, List.all_eq_true, jae] at h
 exact h r (List.drop_subset j l (by rw [hj]; exact List.mem_cons_self))
theorem jiq {s : ByteArray} (h : dgL (bz s) = true) {j : Int} (h0 : 0 ≤ j) (hj : j < s.size) : 48 ≤ jak s j.toNat ∧ jak s j.toNat ≤ 57 := by
 simp only [dgL, List.all_eq_true, jae] at h
 exact h _ (List.drop_subset j.toNat (bz s) (by rw [jb0 h0 hj]; exact List.mem_cons_self))
theorem fm_a {c d : Int} {m : Bool} (h : (c == 89 && d == 48) = true) : fmZ c d m = 32 := by
 have : c = 89 ∧ d = 48 := by simpa using h
 rw [fmZ, if_pos this]
theorem fm_b {c d : Int} {m : Bool} (h : (c == 89 && d == 48) = false) (q : (c == 84 || bif c == 73 then !m || c == 82 && m else c == 82 && m) = true) : fmZ c d m = puZ (d - 48) m := by
 have h1 : ¬ (c = 89 ∧ d = 48) := fun e => by rw [e.1, e.2] at h; cases h
 rw [fmZ, if_neg h1, if_pos]
 cases m <;> by_cases a : c = 84 <;> by_cases b : c = 73 <;> by_cases e : c = 82 <;> simp_all
theorem fm_c {c d : Int} {m : Bool} (h : (c == 89 && d == 48) = false) (q : (c == 84 || bif c == 73 then !m || c == 82 && m else c == 82 && m) = false) : fmZ c d m = d := by
 have h1 : ¬ (c = 89 ∧ d = 48) := fun e => by rw [e.1, e.2] at h; cases h
 rw [fmZ, if_neg h1, if_neg]
 cases m <;> by_cases a : c = 84 <;> by_cases b : c = 73 <;> by_cases e : c = 82 <;> simp_all
def V64_0 : Bool × ByteArray × Int × Rw × Nat × Nat × Int × Int × ByteArray × Bool × Int × Int × Int × Bool × Nat × Nat × Int × Int × Bool × Int × Int × ByteArray × Bool × Int × Int × Int × List Value → List Value := fun (m2, r6, r7, o, k2, cap2, L, i, s, nb, w, dg, sc, sg, k, cap, dr, f, cr, fl, fm, nu, mi, us, at0, ld, d) => [.pointer (some ⟨0, 0, some 0⟩), .bool m2, .string r6, .int .i64 r7, .pointer (some ⟨8, 0, some 0⟩), .pointer (some ⟨22, 0, some 0⟩), o.v 200, .slice (some ⟨1, 0, some 1⟩) k2 cap2, .int .i64 L, .int .i64 i]
def B64_0 : Bool × ByteArray × Int × Rw × Nat × Nat × Int × Int × ByteArray × Bool × Int × Int × Int × Bool × Nat × Nat × Int × Int × Bool × Int × Int × ByteArray × Bool × Int × Int × Int × List Value → List (Option Blk) := fun (m2, r6, r7, o, k2, cap2, L, i, s, nb, w, dg, sc, sg, k, cap, dr, f, cr, fl, fm, nu, mi, us, at0, ld, d) => [some ⟨[.string s, .bool nb, .int .i64 w, .int .i64 dg, .int .i64 sc, .bool sg, .slice (some ⟨1, 0, some 1⟩) k cap, .int .u8 dr, .int .i64 f, .bool cr, .int .u8 fl, .int .i64 fm], 156, false⟩, some ⟨d, 251, false⟩, some ⟨[.pointer (some ⟨0, 0, some 0⟩), .string nu, .bool mi, .int .i64 us, .int .i64 at0, .int .i64 ld], 255, true⟩, some ⟨how, 257, true⟩, o.b]
def S64_0 : LSpecA (Bool × ByteArray × Int × Rw × Nat × Nat × Int × Int × ByteArray × Bool × Int × Int × Int × Bool × Nat × Nat × Int × Int × Bool × Int × Int × ByteArray × Bool × Int × Int × Int × List Value) where
 live := [0, 2, 6, 7, 8, 9, 10, 49, 50, 51]
 mid := [0, 1, 8, 22, 200]
 n := 210
 ap := [(.tmp 10, 200)]
 dec vs bs := match vs, bs with | [.pointer (some ⟨0, 0, some 0⟩), .bool m2, .string r6, .int .i64 r7, .pointer (some ⟨8, 0, some 0⟩), .pointer (some ⟨22, 0, some 0⟩), .slice none 0 0, .slice (some ⟨1, 0, some 1⟩) k2 cap2, .int .i64 L, .int .i64 i], [some ⟨[.string s, .bool nb, .int .i64 w, .int .i64 dg, .int .i64 sc, .bool sg, .slice (some ⟨1, 0, some 1⟩) k cap, .int .u8 dr, .int .i64 f, .bool cr, .int .u8 fl, .int .i64 fm], 156, false⟩, some ⟨d, 251, false⟩, some ⟨[.pointer (some ⟨0, 0, some 0⟩), .string nu, .bool mi, .int .i64 us, .int .i64 at0, .int .i64 ld], 255, true⟩, some ⟨hw, 257, true⟩, none] => (match jju hw with | true => some (m2, r6, r7, .nil, k2, cap2, L, i, s, nb, w, dg, sc, sg, k, cap, dr, f, cr, fl, fm, nu, mi, us, at0, ld, d) | false => none) | [.pointer (some ⟨0, 0, some 0⟩), .bool m2, .string r6, .int .i64 r7, .pointer (some ⟨8, 0, some 0⟩), .pointer (some ⟨22, 0, some 0⟩), .slice (some ⟨200, 0, some 1⟩) om oc, .slice (some ⟨1, 0, some 1⟩) k2 cap2, .int .i64 L, .int .i64 i], [some ⟨[.string s, .bool nb, .int .i64 w, .int .i64 dg, .int .i64 sc, .bool sg, .slice (some ⟨1, 0, some 1⟩) k cap, .int .u8 dr, .int .i64 f, .bool cr, .int .u8 fl, .int .i64 fm], 156, false⟩, some ⟨d, 251, false⟩, some ⟨[.pointer (some ⟨0, 0, some 0⟩), .string nu, .bool mi, .int .i64 us, .int .i64 at0, .int .i64 ld], 255, true⟩, some ⟨hw, 257, true⟩, some ⟨od, 5, true⟩] => (match jju hw with | true => some (m2, r6, r7, .own od om oc, k2, cap2, L, i, s, nb, w, dg, sc, sg, k, cap, dr, f, cr, fl, fm, nu, mi, us, at0, ld, d) | false => none) | _, _ => none
 pre := fun (m2, r6, r7, o, k2, cap2, L, i, s, nb, w, dg, sc, sg, k, cap, dr, f, cr, fl, fm, nu, mi, us, at0, ld, d) => o.ok && (jbn d k2 cap2 && (roOK (zc d k2) && (dgL (bz nu) && decide (m2 = mi ∧ 0 ≤ i ∧ i ≤ k2 ∧ k2 ≤ 1000 ∧ L = k2 ∧ k2 ≤ s.size ∧ s.size ≤ 1000 ∧ 0 ≤ us ∧ us ≤ i ∧ 0 ≤ at0 ∧ at0 ≤ i ∧ us + cdg ((zc d k2).drop i.toNat) ≤ nu.size ∧ o.z.length ≤ i))))
 fin := fun (m2, r6, r7, o, k2, cap2, L, i, s, nb, w, dg, sc, sg, k, cap, dr, f, cr, fl, fm, nu, mi, us, at0, ld, d) Z => (o.is = false → wrGo f cr s.size mi ld fl ((zc d k2).drop i.toNat) ((bz s).drop i.toNat) ((bz nu).drop us.toNat) i at0 = [] → ∀ us' at' i', Z (.exit 0) [.pointer (some ⟨0, 0, some 0⟩), .bool m2, .string r6, .int .i64 r7, .pointer (some ⟨8, 0, some 0⟩), .pointer (some ⟨22, 0, some 0⟩), .slice none 0 0, .slice (some ⟨1, 0, some 1⟩) k2 cap2, .int .i64 L, .int .i64 i'] [some ⟨[.string s, .bool nb, .int .i64 w, .int .i64 dg, .int .i64 sc, .bool sg, .slice (some ⟨1, 0, some 1⟩) k cap, .int .u8 dr, .int .i64 f, .bool cr, .int .u8 fl, .int .i64 fm], 156, false⟩, some ⟨d, 251, false⟩, some ⟨[.pointer (some ⟨0, 0, some 0⟩), .string nu, .bool mi, .int .i64 us', .int .i64 at', .int .i64 ld], 255, true⟩, some ⟨how, 257, true⟩, none]) ∧ (∀ us' at' i' od' om' oc', jcf od' om' oc' = true → zc od' om' = o.z ++ wrGo f cr s.size mi ld fl ((zc d k2).drop i.toNat) ((bz s).drop i.toNat) ((bz nu).drop us.toNat) i at0 → Z (.exit 0) [.pointer (some ⟨0, 0, some 0⟩), .bool m2, .string r6, .int .i64 r7, .pointer (some ⟨8, 0, some 0⟩), .pointer (some ⟨22, 0, some 0⟩), .slice (some ⟨200, 0, some 1⟩) om' oc', .slice (some ⟨1, 0, some 1⟩) k2 cap2, .int .i64 L, .int .i64 i'] [some ⟨[.string s, .bool nb, .int .i64 w, .int .i64 dg, .int .i64 sc, .bool sg, .slice (some ⟨1, 0, some 1⟩) k cap, .int .u8 dr, .int .i64 f, .bool cr, .int .u8 fl, .int .i64 fm], 156, false⟩, some ⟨d, 251, false⟩, some ⟨[.pointer (some ⟨0, 0, some 0⟩), .string nu, .bool mi, .int .i64 us', .int .i64 at', .int .i64 ld], 255, true⟩, some ⟨how, 257, true⟩, some ⟨od', 5, true⟩])
def e64 (m2 : Bool) (r6 : ByteArray) (r7 : Int) (k2 : Nat) (cap2 : Nat) (L : Int) (i : Int) (s : ByteArray) (nb : Bool) (w : Int) (dg : Int) (sc : Int) (sg : Bool) (k : Nat) (cap : Nat) (dr : Int) (f : Int) (cr : Bool) (fl : Int) (fm : Int) (nu : ByteArray) (mi : Bool) (us : Int) (at0 : Int) (ld : Int) (d : List Value) (pre : List Value) (ln N : Nat) (X U : Int) (R : Exit → List Value → List (Option Blk) → Prop) : Prop := ∀ (cap_1 : Nat) (tail : List Value), jay tail cap_1 ln 1 = true → bif jau [(N, 200)] d && (jau [(N, 200)] (pre ++ [.int .u8 X] ++ tail) && true) && true then R Exit.normal [.pointer (some (.mk 0 0 (some 0))), B m2, S r6, I r7, .pointer (some (.mk 8 0 (some 0))), .pointer (some (.mk 22 0 (some 0))), .slice (some (.mk 200 0 (some 1))) ln cap_1, .slice (some (.mk 1 0 (some 1))) k2 cap2, I L, I (IntKind.wrap .i64 (i + 1))] [some (.mk [S s, B nb, I w, I dg, I sc, B sg, .slice (some (.mk 1 0 (some 1))) k cap, .int .u8 dr, I f, B cr, .int .u8 fl, I fm] 156 false), some (.mk (rlbL [(N, 200)] d) 251 false), some (.mk [.pointer (some (.mk 0 0 (some 0))), S nu, B mi, I U, I (IntKind.wrap .i64 (at0 + 1)), I ld] 255 true), some (.mk [Value.func (Fn.func 252) ⟨[]⟩ ⟨[]⟩, Value.func (Fn.func 253) ⟨[]⟩ ⟨[]⟩, Value.nilFunc, Value.func (Fn.func 254) ⟨[]⟩ ⟨[]⟩, Value.func (Fn.func 255) ⟨[]⟩ ⟨[]⟩, Value.func (Fn.func 256) ⟨[]⟩ ⟨[]⟩] 257 true), some (.mk (rlbL [(N, 200)] (pre ++ [.int .u8 X] ++ tail)) 5 true)] else False
def z64_0na (s : ByteArray) (nb : Bool) (w : Int) (dg : Int) (sc : Int) (sg : Bool) (k : Nat) (cap : Nat) (dr : Int) (f : Int) (cr : Bool) (fl : Int) (fm : Int) (nu : ByteArray) (mi : Bool) (us : Int) (at0 : Int) (ld : Int) (d : List Value) : List (Option Blk) := [some (.mk [S s, B nb, I w, I dg, I sc, B sg, .slice (some (.mk 1 0 (some 1))) k cap, .int .u8 dr, I f, B cr, .int .u8 fl, I fm] 156 false), some (.mk (rlbL [] d) 251 false), some (.mk [.pointer (some (.mk 0 0 (some 0))), S nu, B mi, I us, I at0, I ld] 255 true), some (.mk [Value.func (Fn.func 252) (.mk []) (.mk []), Value.func (Fn.func 253) (.mk []) (.mk []), Value.nilFunc, Value.func (Fn.func 254) (.mk []) (.mk []), Value.func (Fn.func 255) (.mk []) (.mk []), Value.func (Fn.func 256) (.mk []) (.mk [])] 257 true), none]
theorem r64_0n (m2 : Bool) (r6 : ByteArray) (r7 : Int) (k2 : Nat) (cap2 : Nat) (L : Int) (i : Int) (s : ByteArray) (nb : Bool) (w : Int) (dg : Int) (sc : Int) (sg : Bool) (k : Nat) (cap : Nat) (dr : Int) (f : Int) (cr : Bool) (fl : Int) (fm : Int) (nu : ByteArray) (mi : Bool) (us : Int) (at0 : Int) (ld : Int) (d : List Value) (jk : Tmps) (R : Exit → List Value → List (Option Blk) → Prop) : (jbr Tryz.prog G35 noL Tryz.f207.ntmps (jbb Tryz.f207 0) (tl S64_0.live (V64_0 (m2, r6, r7, .nil, k2, cap2, L, i, s, nb, w, dg, sc, sg, k, cap, dr, f, cr, fl, fm, nu, mi, us, at0, ld, d)) jk) (ml S64_0.mid (B64_0 (m2, r6, r7, .nil, k2, cap2, L, i, s, nb, w, dg, sc, sg, k, cap, dr, f, cr, fl, fm, nu, mi, us, at0, ld, d))) S64_0.n fun e t' m' _ => S64_0.out R e t' m') = ( bif decide (i < L) then bif decide (0 ≤ i ∧ i < (↑k2 : Int)) then bif jbo IntKind.i64 d (0 + i.toNat * 1) then bif decide (0 ≤ i ∧ i < (s.size : Int)) then bif jat d (0 + i.toNat * 1) == 2 then bif jau [] d && true && true then R Exit.normal [.pointer (some (.mk 0 0 (some 0))), B m2, S r6, I r7, .pointer (some (.mk 8 0 (some 0))), .pointer (some (.mk 22 0 (some 0))), .slice none 0 0, .slice (some (.mk 1 0 (some 1))) k2 cap2, I L, I (IntKind.wrap .i64 (i + 1))] (z64_0na s nb w dg sc sg k cap dr f cr fl fm nu mi us at0 ld d) else False else bif i == f then e64 m2 r6 r7 k2 cap2 L i s nb w dg sc sg k cap dr f cr fl fm nu mi us at0 ld d [] 1 240 fl us R else bif cr || true then bif cr && decide (i ≥ IntKind.wrap .i64 ((s.size : Int) - 2)) then bif !m2 then e64 m2 r6 r7 k2 cap2 L i s nb w dg sc sg k cap dr f cr fl fm nu mi us at0 ld d [] 1 256 32 us R else e64 m2 r6 r7 k2 cap2 L i s nb w dg sc sg k cap dr f cr fl fm nu mi us at0 ld d [] 1 255 (jak s i.toNat) us R else bif decide (0 ≤ jat d (0 + i.toNat * 1) ∧ jat d (0 + i.toNat * 1) < 6) then bif decide ((↑(0 + Int.toNat (jat d (0 + i.toNat * 1)) * 1) : Int) = 0) then bif decide (0 ≤ IntKind.wrap .i64 (IntKind.wrap .i64 (us + 1) - 1) ∧ IntKind.wrap .i64 (IntKind.wrap .i64 (us + 1) - 1) < (nu.size : Int)) then bif jak s i.toNat == 89 || true then bif jak s i.toNat == 89 && jak nu (IntKind.wrap .i64 (IntKind.wrap .i64 (us + 1) - 1)).toNat == 48 then e64 m2 r6 r7 k2 cap2 L i s nb w dg sc sg k cap dr f cr fl fm nu mi us at0 ld d [] 1 303 32 (IntKind.wrap .i64 (us + 1)) R else bif jak s i.toNat == 84 || bif jak s i.toNat == 73 then !mi || (jak s i.toNat == 82 || true) else jak s i.toNat == 82 || true then bif jak s i.toNat == 84 || bif jak s i.toNat == 73 then !mi || jak s i.toNat == 82 && mi else jak s i.toNat == 82 && mi then e64 m2 r6 r7 k2 cap2 L i s nb w dg sc sg k cap dr f cr fl fm nu mi us at0 ld d [] 1 328 (puZ (IntKind.wrap .i64 (IntKind.wrap .u8 (jak nu (IntKind.wrap .i64 (IntKind.wrap .i64 (us + 1) - 1)).toNat - 48))) mi) (IntKind.wrap .i64 (us + 1)) R else e64 m2 r6 r7 k2 cap2 L i s nb w dg sc sg k cap dr f cr fl fm nu mi us at0 ld d [] 1 328 (jak nu (IntKind.wrap .i64 (IntKind.wrap .i64 (us + 1) - 1)).toNat) (IntKind.wrap .i64 (us + 1)) R else False else False else False else bif decide ((↑(0 + Int.toNat (jat d (0 + i.toNat * 1)) * 1) : Int) = 1) then bif decide (0 ≤ IntKind.wrap .i64 (IntKind.wrap .i64 (us + 1) - 1) ∧ IntKind.wrap .i64 (IntKind.wrap .i64 (us + 1) - 1) < (nu.size : Int)) then bif decide (at0 < ld) then e64 m2 r6 r7 k2 cap2 L i s nb w dg sc sg k cap dr f cr fl fm nu mi us at0 ld d [] 1 299 fl (IntKind.wrap .i64 (us + 1)) R else e64 m2 r6 r7 k2 cap2 L i s nb w dg sc sg k cap dr f cr fl fm nu mi us at0 ld d [] 1 293 (jak nu (IntKind.wrap .i64 (IntKind.wrap .i64 (us + 1) - 1)).toNat) (IntKind.wrap .i64 (us + 1)) R else False else bif decide ((↑(0 + Int.toNat (jat d (0 + i.toNat * 1)) * 1) : Int) = 2) then False else bif decide ((↑(0 + Int.toNat (jat d (0 + i.toNat * 1)) * 1) : Int) = 3) then bif jak s i.toNat == 66 then e64 m2 r6 r7 k2 cap2 L i s nb w dg sc sg k cap dr f cr fl fm nu mi us at0 ld d [] 1 263 32 us R else bif decide (at0 < ld) then e64 m2 r6 r7 k2 cap2 L i s nb w dg sc sg k cap dr f cr fl fm nu mi us at0 ld d [] 1 280 fl us R else e64 m2 r6 r7 k2 cap2 L i s nb w dg sc sg k cap dr f cr fl fm nu mi us at0 ld d [] 1 274 (jak s i.toNat) us R else bif decide ((↑(0 + Int.toNat (jat d (0 + i.toNat * 1)) * 1) : Int) = 4) then bif jak s i.toNat == 83 || true then bif jak s i.toNat == 83 && mi then e64 m2 r6 r7 k2 cap2 L i s nb w dg sc sg k cap dr f cr fl fm nu mi us at0 ld d [] 1 269 45 us R else bif jak s i.toNat == 83 then e64 m2 r6 r7 k2 cap2 L i s nb w dg sc sg k cap dr f cr fl fm nu mi us at0 ld d [] 1 272 43 us R else bif (jak s i.toNat == 43) == mi then e64 m2 r6 r7 k2 cap2 L i s nb w dg sc sg k cap dr f cr fl fm nu mi us at0 ld d [] 1 280 32 us R else e64 m2 r6 r7 k2 cap2 L i s nb w dg sc sg k cap dr f cr fl fm nu mi us at0 ld d [] 1 281 (jak s i.toNat) us R else False else bif decide ((↑(0 + Int.toNat (jat d (0 + i.toNat * 1)) * 1) : Int) = 5) then e64 m2 r6 r7 k2 cap2 L i s nb w dg sc sg k cap dr f cr fl fm nu mi us at0 ld d [] 1 261 (jak s i.toNat) us R else False else False else False else False else False else False else bif jau [] d && true && true then R (Exit.exit 0) [.pointer (some (.mk 0 0 (some 0))), B m2, S r6, I r7, .pointer (some (.mk 8 0 (some 0))), .pointer (some (.mk 22 0 (some 0))), .slice none 0 0, .slice (some (.mk 1 0 (some 1))) k2 cap2, I L, I i] (z64_0na s nb w dg sc sg k cap dr f cr fl fm nu mi us at0 ld d) else False) := by kernel_rfl
def z64_0oa (od : List Value) (s : ByteArray) (nb : Bool) (w : Int) (dg : Int) (sc : Int) (sg : Bool) (k : Nat) (cap : Nat) (dr : Int) (f : Int) (cr : Bool) (fl : Int) (fm : Int) (nu : ByteArray) (mi : Bool) (us : Int) (at0 : Int) (ld : Int) (d : List Value) : List (Option Blk) := [some (.mk [S s, B nb, I w, I dg, I sc, B sg, .slice (some (.mk 1 0 (some 1))) k cap, .int .u8 dr, I f, B cr, .int .u8 fl, I fm] 156 false), some (.mk (rlbL [(200, 200)] d) 251 false), some (.mk [.pointer (some (.mk 0 0 (some 0))), S nu, B mi, I us, I at0, I ld] 255 true), some (.mk [Value.func (Fn.func 252) (.mk []) (.mk []), Value.func (Fn.func 253) (.mk []) (.mk []), Value.nilFunc, Value.func (Fn.func 254) (.mk []) (.mk []), Value.func (Fn.func 255) (.mk []) (.mk []), Value.func (Fn.func 256) (.mk []) (.mk [])] 257 true), some (.mk (rlbL [(200, 200)] od) 5 true)]
theorem r64_0o (m2 : Bool) (r6 : ByteArray) (r7 : Int) (od : List Value) (om : Nat) (oc : Nat) (k2 : Nat) (cap2 : Nat) (L : Int) (i : Int) (s : ByteArray) (nb : Bool) (w : Int) (dg : Int) (sc : Int) (sg : Bool) (k : Nat) (cap : Nat) (dr : Int) (f : Int) (cr : Bool) (fl : Int) (fm : Int) (nu : ByteArray) (mi : Bool) (us : Int) (at0 : Int) (ld : Int) (d : List Value) (jk : Tmps) (R : Exit → List Value → List (Option Blk) → Prop) : (jbr Tryz.prog G35 noL Tryz.f207.ntmps (jbb Tryz.f207 0) (tl S64_0.live (V64_0 (m2, r6, r7, (.own od om oc), k2, cap2, L, i, s, nb, w, dg, sc, sg, k, cap, dr, f, cr, fl, fm, nu, mi, us, at0, ld, d)) jk) (ml S64_0.mid (B64_0 (m2, r6, r7, (.own od om oc), k2, cap2, L, i, s, nb, w, dg, sc, sg, k, cap, dr, f, cr, fl, fm, nu, mi, us, at0, ld, d))) S64_0.n fun e t' m' _ => S64_0.out R e t' m') = ( bif decide (i < L) then bif decide (0 ≤ i ∧ i < (↑k2 : Int)) then bif jbo IntKind.i64 d (0 + i.toNat * 1) then bif decide (0 ≤ i ∧ i < (s.size : Int)) then bif jat d (0 + i.toNat * 1) == 2 then bif jau [(200, 200)] d && (jau [(200, 200)] od && true) && true then R Exit.normal [.pointer (some (.mk 0 0 (some 0))), B m2, S r6, I r7, .pointer (some (.mk 8 0 (some 0))), .pointer (some (.mk 22 0 (some 0))), .slice (some (.mk 200 0 (some 1))) om oc, .slice (some (.mk 1 0 (some 1))) k2 cap2, I L, I (IntKind.wrap .i64 (i + 1))] (z64_0oa od s nb w dg sc sg k cap dr f cr fl fm nu mi us at0 ld d) else False else bif i == f then bif Nat.beq od.length (oc * 1) && Nat.ble om oc && Nat.ble oc 9223372036854775807 && true && jbu (om + 1) 1 then e64 m2 r6 r7 k2 cap2 L i s nb w dg sc sg k cap dr f cr fl fm nu mi us at0 ld d (List.take (om * 1) od) (om + 1) 240 fl us R else False else bif cr || true then bif cr && decide (i ≥ IntKind.wrap .i64 ((s.size : Int) - 2)) then bif !m2 then bif Nat.beq od.length (oc * 1) && Nat.ble om oc && Nat.ble oc 9223372036854775807 && true && jbu (om + 1) 1 then e64 m2 r6 r7 k2 cap2 L i s nb w dg sc sg k cap dr f cr fl fm nu mi us at0 ld d (List.take (om * 1) od) (om + 1) 256 32 us R else False else bif Nat.beq od.length (oc * 1) && Nat.ble om oc && Nat.ble oc 9223372036854775807 && true && jbu (om + 1) 1 then e64 m2 r6 r7 k2 cap2 L i s nb w dg sc sg k cap dr f cr fl fm nu mi us at0 ld d (List.take (om * 1) od) (om + 1) 255 (jak s i.toNat) us R else False else bif decide (0 ≤ jat d (0 + i.toNat * 1) ∧ jat d (0 + i.toNat * 1) < 6) then bif decide ((↑(0 + Int.toNat (jat d (0 + i.toNat * 1)) * 1) : Int) = 0) then bif decide (0 ≤ IntKind.wrap .i64 (IntKind.wrap .i64 (us + 1) - 1) ∧ IntKind.wrap .i64 (IntKind.wrap .i64 (us + 1) - 1) < (nu.size : Int)) then bif jak s i.toNat == 89 || true then bif jak s i.toNat == 89 && jak nu (IntKind.wrap .i64 (IntKind.wrap .i64 (us + 1) - 1)).toNat == 48 then bif Nat.beq od.length (oc * 1) && Nat.ble om oc && Nat.ble oc 9223372036854775807 && true && jbu (om + 1) 1 then e64 m2 r6 r7 k2 cap2 L i s nb w dg sc sg k cap dr f cr fl fm nu mi us at0 ld d (List.take (om * 1) od) (om + 1) 303 32 (IntKind.wrap .i64 (us + 1)) R else False else bif jak s i.toNat == 84 || bif jak s i.toNat == 73 then !mi || (jak s i.toNat == 82 || true) else jak s i.toNat == 82 || true then bif jak s i.toNat == 84 || bif jak s i.toNat == 73 then !mi || jak s i.toNat == 82 && mi else jak s i.toNat == 82 && mi then bif Nat.beq od.length (oc * 1) && Nat.ble om oc && Nat.ble oc 9223372036854775807 && true && jbu (om + 1) 1 then e64 m2 r6 r7 k2 cap2 L i s nb w dg sc sg k cap dr f cr fl fm nu mi us at0 ld d (List.take (om * 1) od) (om + 1) 328 (puZ (IntKind.wrap .i64 (IntKind.wrap .u8 (jak nu (IntKind.wrap .i64 (IntKind.wrap .i64 (us + 1) - 1)).toNat - 48))) mi) (IntKind.wrap .i64 (us + 1)) R else False else bif Nat.beq od.length (oc * 1) && Nat.ble om oc && Nat.ble oc 9223372036854775807 && true && jbu (om + 1) 1 then e64 m2 r6 r7 k2 cap2 L i s nb w dg sc sg k cap dr f cr fl fm nu mi us at0 ld d (List.take (om * 1) od) (om + 1) 328 (jak nu (IntKind.wrap .i64 (IntKind.wrap .i64 (us + 1) - 1)).toNat) (IntKind.wrap .i64 (us + 1)) R else False else False else False else False else bif decide ((↑(0 + Int.toNat (jat d (0 + i.toNat * 1)) * 1) : Int) = 1) then bif decide (0 ≤ IntKind.wrap .i64 (IntKind.wrap .i64 (us + 1) - 1) ∧ IntKind.wrap .i64 (IntKind.wrap .i64 (us + 1) - 1) < (nu.size : Int)) then bif decide (at0 < ld) then bif Nat.beq od.length (oc * 1) && Nat.ble om oc && Nat.ble oc 9223372036854775807 && true && jbu (om + 1) 1 then e64 m2 r6 r7 k2 cap2 L i s nb w dg sc sg k cap dr f cr fl fm nu mi us at0 ld d (List.take (om * 1) od) (om + 1) 299 fl (IntKind.wrap .i64 (us + 1)) R else False else bif Nat.beq od.length (oc * 1) && Nat.ble om oc && Nat.ble oc 9223372036854775807 && true && jbu (om + 1) 1 then e64 m2 r6 r7 k2 cap2 L i s nb w dg sc sg k cap dr f cr fl fm nu mi us at0 ld d (List.take (om * 1) od) (om + 1) 293 (jak nu (IntKind.wrap .i64 (IntKind.wrap .i64 (us + 1) - 1)).toNat) (IntKind.wrap .i64 (us + 1)) R else False else False else bif decide ((↑(0 + Int.toNat (jat d (0 + i.toNat * 1)) * 1) : Int) = 2) then False else bif decide ((↑(0 + Int.toNat (jat d (0 + i.toNat * 1)) * 1) : Int) = 3) then bif jak s i.toNat == 66 then bif Nat.beq od.length (oc * 1) && Nat.ble om oc && Nat.ble oc 9223372036854775807 && true && jbu (om + 1) 1 then e64 m2 r6 r7 k2 cap2 L i s nb w dg sc sg k cap dr f cr fl fm nu mi us at0 ld d (List.take (om * 1) od) (om + 1) 263 32 us R else False else bif decide (at0 < ld) then bif Nat.beq od.length (oc * 1) && Nat.ble om oc && Nat.ble oc 9223372036854775807 && true && jbu (om + 1) 1 then e64 m2 r6 r7 k2 cap2 L i s nb w dg sc sg k cap dr f cr fl fm nu mi us at0 ld d (List.take (om * 1) od) (om + 1) 280 fl us R else False else bif Nat.beq od.length (oc * 1) && Nat.ble om oc && Nat.ble oc 9223372036854775807 && true && jbu (om + 1) 1 then e64 m2 r6 r7 k2 cap2 L i s nb w dg sc sg k cap dr f cr fl fm nu mi us at0 ld d (List.take (om * 1) od) (om + 1) 274 (jak s i.toNat) us R else False else bif decide ((↑(0 + Int.toNat (jat d (0 + i.toNat * 1)) * 1) : Int) = 4) then bif jak s i.toNat == 83 || true then bif jak s i.toNat == 83 && mi then bif Nat.beq od.length (oc * 1) && Nat.ble om oc && Nat.ble oc 9223372036854775807 && true && jbu (om + 1) 1 then e64 m2 r6 r7 k2 cap2 L i s nb w dg sc sg k cap dr f cr fl fm nu mi us at0 ld d (List.take (om * 1) od) (om + 1) 269 45 us R else False else bif jak s i.toNat == 83 then bif Nat.beq od.length (oc * 1) && Nat.ble om oc && Nat.ble oc 9223372036854775807 && true && jbu (om + 1) 1 then e64 m2 r6 r7 k2 cap2 L i s nb w dg sc sg k cap dr f cr fl fm nu mi us at0 ld d (List.take (om * 1) od) (om + 1) 272 43 us R else False else bif (jak s i.toNat == 43) == mi then bif Nat.beq od.length (oc * 1) && Nat.ble om oc && Nat.ble oc 9223372036854775807 && true && jbu (om + 1) 1 then e64 m2 r6 r7 k2 cap2 L i s nb w dg sc sg k cap dr f cr fl fm nu mi us at0 ld d (List.take (om * 1) od) (om + 1) 280 32 us R else False else bif Nat.beq od.length (oc * 1) && Nat.ble om oc && Nat.ble oc 9223372036854775807 && true && jbu (om + 1) 1 then e64 m2 r6 r7 k2 cap2 L i s nb w dg sc sg k cap dr f cr fl fm nu mi us at0 ld d (List.take (om * 1) od) (om + 1) 281 (jak s i.toNat) us R else False else False else bif decide ((↑(0 + Int.toNat (jat d (0 + i.toNat * 1)) * 1) : Int) = 5) then bif Nat.beq od.length (oc * 1) && Nat.ble om oc && Nat.ble oc 9223372036854775807 && true && jbu (om + 1) 1 then e64 m2 r6 r7 k2 cap2 L i s nb w dg sc sg k cap dr f cr fl fm nu mi us at0 ld d (List.take (om * 1) od) (om + 1) 261 (jak s i.toNat) us R else False else False else False else False else False else False else False else bif jau [(200, 200)] d && (jau [(200, 200)] od && true) && true then R (Exit.exit 0) [.pointer (some (.mk 0 0 (some 0))), B m2, S r6, I r7, .pointer (some (.mk 8 0 (some 0))), .pointer (some (.mk 22 0 (some 0))), .slice (some (.mk 200 0 (some 1))) om oc, .slice (some (.mk 1 0 (some 1))) k2 cap2, I L, I i] (z64_0oa od s nb w dg sc sg k cap dr f cr fl fm nu mi us at0 ld d) else False) := by kernel_rfl
theorem l64_0 : LOKf Tryz.prog (oneL 0 S64_0.hA) Tryz.f207 := by
 refine jbh (h := S64_0.hA) (by kernel_rfl) (jbm ok_G35 hmix (by kernel_rfl) (ja6 _) S64_0 V64_0 B64_0 (fun (m2, r6, r7, o, k2, cap2, L, i, s, nb, w, dg, sc, sg, k, cap, dr, f, cr, fl, fm, nu, mi, us, at0, ld, d) => (k2 - i).toNat) ?_ ?_ ?_)
 ·intro vs bs s h
  simp only [S64_0] at h
  split at h
  all_goals first | (cases h; exact ⟨rfl, rfl⟩) | cases h | (split at h <;> first | (rename_i hq; cases h; have hq := isHow_eq hq; subst hq; exact ⟨rfl, rfl⟩) | cases h)
 ·exact fun ⟨m2, r6, r7, o, k2, cap2, L, i, s, nb, w, dg, sc, sg, k, cap, dr, f, cr, fl, fm, nu, mi, us, at0, ld, d⟩ hp => by
   simp only [S64_0, jaf] at hp
   have hr := jav.1 hp.2.1
   cases o with
   | nil => simp [how, V64_0, B64_0, S64_0, ja1, jbv, idsL, ids, Rw.v, Rw.b, jap hr.plain]
   | own od om oc => simp [how, V64_0, B64_0, S64_0, ja1, jbv, idsL, ids, Rw.v, Rw.b, jap hr.plain, jap (jaw.1 hp.1).plain]
 ·intro ⟨m2, r6, r7, o, k2, cap2, L, i, s, nb, w, dg, sc, sg, k, cap, dr, f, cr, fl, fm, nu, mi, us, at0, ld, d⟩ jk Z hp hf
  simp only [S64_0] at hp hf
  cases o with
  | nil =>
   rw [r64_0n]
   delta z64_0na
   simp only [jaf, jae] at hp
   obtain ⟨-, hR, hO, hD, rfl, hp⟩ := hp
   have hr := jav.1 hR
   simp only [Rw.z, List.length_nil] at hp hf
   have e0 : 0 + i.toNat * 1 = i.toNat := by omega
   rw [e0]
   refine cond_intro (fun h => ?_) (fun h => ?_)
   ·have h := jab h
    obtain ⟨a1, a3⟩ := hr.at hp.1 (by omega)
    have hro := roOK_at hO a3
    rw [a3, wrGo, jb0 hp.1 (by omega), List.headD_cons, List.tail_cons] at hf
    rw [a3] at hp
    have hc1 := @cdg_c (jat d i.toNat) ((zc d k2).drop (i + 1).toNat)
    have hc2 := jjl ((zc d k2).drop (i + 1).toNat)
    rw [a1, w64 (n := i + 1) (by omega), w64 (n := (s.size : Int) - 2) (by omega)]
    have eu : IntKind.wrap .i64 (IntKind.wrap .i64 (us + 1) - 1) = us := by rw [w64 (n := us + 1) (by omega), w64 (by omega)]; omega
    rw [eu]
    generalize jat d i.toNat = r at *
    generalize jak s i.toNat = c at *
    have er : ((0 + r.toNat * 1 : Nat) : Int) = r := by omega
    rw [er]
    refine c_t (jaa (by omega)) (c_t rfl (c_t (jaa (by omega)) (cond_intro (fun q => ?_) (fun q => ?_))))
    ·rw [q, cond_true] at hf
     refine c_t (by rw [hr.good]; rfl) ?_
     rw [hr.rlb]
     exact ⟨(m2, r6, r7, .nil, k2, cap2, L, i + 1, s, nb, w, dg, sc, sg, k, cap, dr, f, cr, fl, fm, nu, m2, us, at0, ld, d), rfl, rfl, by simp only [S64_0, jaf, jae]; exact ⟨rfl, hR, hO, hD, trivial, by simp only [Rw.z, List.length_nil]; omega⟩, by simp only; omega, hf⟩
    ·rw [q, cond_false] at hf
     have leaf : ∀ (b : Bool) (N : Nat) (X : Int) {U : Int}, wrC f cr s.size m2 ld fl r c (List.headD (List.drop us.toNat (bz nu)) 0) i at0 = X → wrT f cr s.size r i = b → (bif b then (List.drop us.toNat (bz nu)).tail else List.drop us.toNat (bz nu)) = List.drop U.toNat (bz nu) → (U + cdg ((zc d k2).drop (i + 1).toNat) ≤ nu.size ∧ 0 ≤ U ∧ U ≤ i + 1) → e64 m2 r6 r7 k2 cap2 L i s nb w dg sc sg k cap dr f cr fl fm nu m2 us at0 ld d [] 1 N X U (S64_0.step V64_0 B64_0 (fun (m2, r6, r7, o, k2, cap2, L, i, s, nb, w, dg, sc, sg, k, cap, dr, f, cr, fl, fm, nu, mi, us, at0, ld, d) => (k2 - i).toNat) (m2, r6, r7, .nil, k2, cap2, L, i, s, nb, w, dg, sc, sg, k, cap, dr, f, cr, fl, fm, nu, m2, us, at0, ld, d) Z) := by
      intro b N X U e eT eD hU
      rw [e, eT, eD] at hf
      intro cap1 tail ht
      obtain ⟨h1, h2⟩ : RowP ([] ++ [Value.int IntKind.u8 X] ++ tail) 1 cap1 ∧ zc ([] ++ [Value.int IntKind.u8 X] ++ tail) 1 = [X] := jfy [X] ht
      have hl1 := ja8 h1
      rw [w64 (n := i + 1) (by omega), w64 (n := at0 + 1) (by omega)]
      generalize [] ++ [Value.int IntKind.u8 X] ++ tail = od' at *
      refine c_t (by rw [hr.good, h1.good]; rfl) ?_
      rw [hr.rlb, h1.rlb]
      exact ⟨(m2, r6, r7, .own od' (1) cap1, k2, cap2, L, i + 1, s, nb, w, dg, sc, sg, k, cap, dr, f, cr, fl, fm, nu, m2, U, at0 + 1, ld, d), rfl, rfl, by simp only [S64_0, jaf, jae]; exact ⟨jaw.2 h1, hR, hO, hD, trivial, by simp only [Rw.z, hl1]; omega⟩, by simp only; omega, ⟨fun q => (by cases q), fun us' at' i' od'' om'' oc'' g1 g2 => hf.2 us' at' i' od'' om'' oc'' g1 (by rw [g2]; simp only [Rw.z, h2, List.append_assoc, List.cons_append, List.nil_append])⟩⟩
     refine cond_intro (fun q0 => ?_) (fun q0 => c_t (by simp) (cond_intro (fun q1 => cond_intro (fun q2 => ?_) (fun q2 => ?_)) (fun q1 => c_t (jaa hro) ?_)))
     ·exact leaf false _ _ (by simp only [wrC, q0, cond_true, cond_false]) (by simp [wrT, q0]) rfl (by omega)
     ·exact leaf false _ _ (by simp only [wrC, q0, q1, q2, cond_true, cond_false]) (by simp [wrT, q0, q1, q2]) rfl (by omega)
     ·exact leaf false _ _ (by simp only [wrC, q0, q1, q2, cond_true, cond_false]) (by simp [wrT, q0, q1, q2]) rfl (by omega)
     ·refine cond_intro (fun n => ?_) (fun m => cond_intro (fun n => ?_) (fun m1 => cond_intro (fun n => ?_) (fun m2' => cond_intro (fun n => ?_) (fun m3 => cond_intro (fun n => ?_) (fun m4 => ?_)))))
      ·have n0 := jab n
       have hc3 := @jjy r ((zc d k2).drop (i + 1).toNat) (by omega)
       have hd := jiq hD hp.2.2.2.2.2.2.1 (by omega)
       have ed := jb0 hp.2.2.2.2.2.2.1 (s := nu) (by omega)
       have ed' : List.headD (List.drop us.toNat (bz nu)) 0 = jak nu us.toNat := by rw [ed]; rfl
       rw [w8 (n := jak nu us.toNat - 48) (by omega), w64 (n := jak nu us.toNat - 48) (by omega)]
       generalize jak nu us.toNat = dd at *
       refine c_t (jaa (by omega)) (c_t (by simp) (cond_intro (fun q2 => ?_) (fun q2 => c_t (by cases c == 84 <;> cases c == 73 <;> simp) (cond_intro (fun q3 => ?_) (fun q3 => ?_)))))
       ·rw [w64 (n := us + 1) (by omega)]
        exact leaf true _ _ (by simp only [wrC, q0, q1, n, ed', cond_true, cond_false]; exact fm_a q2) (by simp [wrT, q0, q1, n, ed']) (by rw [cond_true, ed, List.tail_cons]) (by omega)
       ·rw [w64 (n := us + 1) (by omega)]
        exact leaf true _ _ (by simp only [wrC, q0, q1, n, ed', cond_true, cond_false]; exact fm_b q2 q3) (by simp [wrT, q0, q1, n, ed']) (by rw [cond_true, ed, List.tail_cons]) (by omega)
       ·rw [w64 (n := us + 1) (by omega)]
        exact leaf true _ _ (by simp only [wrC, q0, q1, n, ed', cond_true, cond_false]; exact fm_c q2 q3) (by simp [wrT, q0, q1, n, ed']) (by rw [cond_true, ed, List.tail_cons]) (by omega)
      ·have n0 := jab n
       have hc3 := @jjy r ((zc d k2).drop (i + 1).toNat) (by omega)
       have hd := jiq hD hp.2.2.2.2.2.2.1 (by omega)
       have ed := jb0 hp.2.2.2.2.2.2.1 (s := nu) (by omega)
       have ed' : List.headD (List.drop us.toNat (bz nu)) 0 = jak nu us.toNat := by rw [ed]; rfl
       generalize jak nu us.toNat = dd at *
       refine c_t (jaa (by omega)) (cond_intro (fun q2 => ?_) (fun q2 => ?_))
       ·rw [w64 (n := us + 1) (by omega)]
        exact leaf true _ _ (by simp only [wrC, q0, q1, m, n, q2, ed', cond_true, cond_false]) (by simp [wrT, q0, q1, m, n, q2, ed']) (by rw [cond_true, ed, List.tail_cons]) (by omega)
       ·rw [w64 (n := us + 1) (by omega)]
        exact leaf true _ _ (by simp only [wrC, q0, q1, m, n, q2, ed', cond_true, cond_false]) (by simp [wrT, q0, q1, m, n, q2, ed']) (by rw [cond_true, ed, List.tail_cons]) (by omega)
      ·have n := jab n
       rw [n] at q
       cases q
      ·refine cond_intro (fun q2 => ?_) (fun q2 => cond_intro (fun q3 => ?_) (fun q3 => ?_))
       ·exact leaf false _ _ (by simp only [wrC, q0, q1, m, m1, n, q2, cond_true, cond_false]) (by simp [wrT, q0, q1, m, m1, n, q2]) rfl (by omega)
       ·exact leaf false _ _ (by simp only [wrC, q0, q1, m, m1, n, q2, q3, cond_true, cond_false]) (by simp [wrT, q0, q1, m, m1, n, q2, q3]) rfl (by omega)
       ·exact leaf false _ _ (by simp only [wrC, q0, q1, m, m1, n, q2, q3, cond_true, cond_false]) (by simp [wrT, q0, q1, m, m1, n, q2, q3]) rfl (by omega)
      ·refine c_t (by simp) (cond_intro (fun q2 => ?_) (fun q2 => cond_intro (fun q3 => ?_) (fun q3 => cond_intro (fun q4 => ?_) (fun q4 => ?_))))
       ·exact leaf false _ _ (by simp only [wrC, q0, q1, m, m1, m3, n, q2, cond_true, cond_false]) (by simp [wrT, q0, q1, m, m1, m3, n, q2]) rfl (by omega)
       ·exact leaf false _ _ (by simp only [wrC, q0, q1, m, m1, m3, n, q2, cond_true, cond_false]; rw [q3]; rfl) (by simp [wrT, q0, q1, m, m1, m3, n, q2]) rfl (by omega)
       ·exact leaf false _ _ (by simp only [wrC, q0, q1, m, m1, m3, n, q2, cond_true, cond_false]; rw [q3, q4]; rfl) (by simp [wrT, q0, q1, m, m1, m3, n, q2]) rfl (by omega)
       ·exact leaf false _ _ (by simp only [wrC, q0, q1, m, m1, m3, n, q2, cond_true, cond_false]; rw [q3, q4]; rfl) (by simp [wrT, q0, q1, m, m1, m3, n, q2]) rfl (by omega)
      ·have k0 := jac m
       have k1 := jac m1
       have k3 := jac m3
       have k4 := jac m4
       have k2' : r ≠ 2 := fun e => by rw [e] at q; cases q
       refine c_t (jaa (by omega)) ?_
       exact leaf false _ _ (by simp only [wrC, q0, q1, m, m1, m3, m4, cond_true, cond_false]) (by simp [wrT, q0, q1, m, m1, m3, m4]) rfl (by omega)
   ·have h := jac h
    rw [hr.end (by omega), wrGo] at hf
    refine c_t (by rw [hr.good]; rfl) ?_
    rw [hr.rlb]
    exact hf.1 rfl rfl us at0 i
  | own od om oc =>
   rw [r64_0o]
   delta z64_0oa
   simp only [jaf, jae] at hp
   obtain ⟨ho, hR, hO, hD, rfl, hp⟩ := hp
   have hr := jav.1 hR
   have ho := jaw.1 ho
   have hzl := ja8 ho
   simp only [Rw.z, hzl] at hp hf
   have e0 : 0 + i.toNat * 1 = i.toNat := by omega
   rw [e0]
   refine cond_intro (fun h => ?_) (fun h => ?_)
   ·have h := jab h
    obtain ⟨a1, a3⟩ := hr.at hp.1 (by omega)
    have hro := roOK_at hO a3
    rw [a3, wrGo, jb0 hp.1 (by omega), List.headD_cons, List.tail_cons] at hf
    rw [a3] at hp
    have hc1 := @cdg_c (jat d i.toNat) ((zc d k2).drop (i + 1).toNat)
    have hc2 := jjl ((zc d k2).drop (i + 1).toNat)
    rw [a1, w64 (n := i + 1) (by omega), w64 (n := (s.size : Int) - 2) (by omega)]
    have eu : IntKind.wrap .i64 (IntKind.wrap .i64 (us + 1) - 1) = us := by rw [w64 (n := us + 1) (by omega), w64 (by omega)]; omega
    rw [eu]
    generalize jat d i.toNat = r at *
    generalize jak s i.toNat = c at *
    have er : ((0 + r.toNat * 1 : Nat) : Int) = r := by omega
    rw [er]
    refine c_t (jaa (by omega)) (c_t rfl (c_t (jaa (by omega)) (cond_intro (fun q => ?_) (fun q => ?_))))
    ·rw [q, cond_true] at hf
     refine c_t (by rw [hr.good, ho.good]; rfl) ?_
     rw [hr.rlb, ho.rlb]
     exact ⟨(m2, r6, r7, .own od om oc, k2, cap2, L, i + 1, s, nb, w, dg, sc, sg, k, cap, dr, f, cr, fl, fm, nu, m2, us, at0, ld, d), rfl, rfl, by simp only [S64_0, jaf, jae]; exact ⟨jaw.2 ho, hR, hO, hD, trivial, by simp only [Rw.z, hzl]; omega⟩, by simp only; omega, hf⟩
    ·rw [q, cond_false] at hf
     have leaf : ∀ (b : Bool) (N : Nat) (X : Int) {U : Int}, wrC f cr s.size m2 ld fl r c (List.headD (List.drop us.toNat (bz nu)) 0) i at0 = X → wrT f cr s.size r i = b → (bif b then (List.drop us.toNat (bz nu)).tail else List.drop us.toNat (bz nu)) = List.drop U.toNat (bz nu) → (U + cdg ((zc d k2).drop (i + 1).toNat) ≤ nu.size ∧ 0 ≤ U ∧ U ≤ i + 1) → e64 m2 r6 r7 k2 cap2 L i s nb w dg sc sg k cap dr f cr fl fm nu m2 us at0 ld d (List.take (om * 1) od) (om + 1) N X U (S64_0.step V64_0 B64_0 (fun (m2, r6, r7, o, k2, cap2, L, i, s, nb, w, dg, sc, sg, k, cap, dr, f, cr, fl, fm, nu, mi, us, at0, ld, d) => (k2 - i).toNat) (m2, r6, r7, .own od om oc, k2, cap2, L, i, s, nb, w, dg, sc, sg, k, cap, dr, f, cr, fl, fm, nu, m2, us, at0, ld, d) Z) := by
      intro b N X U e eT eD hU
      rw [e, eT, eD] at hf
      intro cap1 tail ht
      obtain ⟨h1, h2⟩ := ho.app1 X ht
      have hl1 := ja8 h1
      rw [w64 (n := i + 1) (by omega), w64 (n := at0 + 1) (by omega)]
      generalize List.take (om * 1) od ++ [Value.int IntKind.u8 X] ++ tail = od' at *
      refine c_t (by rw [hr.good, h1.good]; rfl) ?_
      rw [hr.rlb, h1.rlb]
      exact ⟨(m2, r6, r7, .own od' (om + 1) cap1, k2, cap2, L, i + 1, s, nb, w, dg, sc, sg, k, cap, dr, f, cr, fl, fm, nu, m2, U, at0 + 1, ld, d), rfl, rfl, by simp only [S64_0, jaf, jae]; exact ⟨jaw.2 h1, hR, hO, hD, trivial, by simp only [Rw.z, hl1]; omega⟩, by simp only; omega, ⟨fun q => (by cases q), fun us' at' i' od'' om'' oc'' g1 g2 => hf.2 us' at' i' od'' om'' oc'' g1 (by rw [g2]; simp only [Rw.z, h2, List.append_assoc, List.cons_append, List.nil_append])⟩⟩
     refine cond_intro (fun q0 => ?_) (fun q0 => c_t (by simp) (cond_intro (fun q1 => cond_intro (fun q2 => ?_) (fun q2 => ?_)) (fun q1 => c_t (jaa hro) ?_)))
     ·refine c_t (ho.ask (k := 1) (by omega)) ?_
      exact leaf false _ _ (by simp only [wrC, q0, cond_true, cond_false]) (by simp [wrT, q0]) rfl (by omega)
     ·refine c_t (ho.ask (k := 1) (by omega)) ?_
      exact leaf false _ _ (by simp only [wrC, q0, q1, q2, cond_true, cond_false]) (by simp [wrT, q0, q1, q2]) rfl (by omega)
     ·refine c_t (ho.ask (k := 1) (by omega)) ?_
      exact leaf false _ _ (by simp only [wrC, q0, q1, q2, cond_true, cond_false]) (by simp [wrT, q0, q1, q2]) rfl (by omega)
     ·refine cond_intro (fun n => ?_) (fun m => cond_intro (fun n => ?_) (fun m1 => cond_intro (fun n => ?_) (fun m2' => cond_intro (fun n => ?_) (fun m3 => cond_intro (fun n => ?_) (fun m4 => ?_)))))
      ·have n0 := jab n
       have hc3 := @jjy r ((zc d k2).drop (i + 1).toNat) (by omega)
       have hd := jiq hD hp.2.2.2.2.2.2.1 (by omega)
       have ed := jb0 hp.2.2.2.2.2.2.1 (s := nu) (by omega)
       have ed' : List.headD (List.drop us.toNat (bz nu)) 0 = jak nu us.toNat := by rw [ed]; rfl
       rw [w8 (n := jak nu us.toNat - 48) (by omega), w64 (n := jak nu us.toNat - 48) (by omega)]
       generalize jak nu us.toNat = dd at *
       refine c_t (jaa (by omega)) (c_t (by simp) (cond_intro (fun q2 => ?_) (fun q2 => c_t (by cases c == 84 <;> cases c == 73 <;> simp) (cond_intro (fun q3 => ?_) (fun q3 => ?_)))))
       ·refine c_t (ho.ask (k := 1) (by omega)) ?_
        rw [w64 (n := us + 1) (by omega)]
        exact leaf true _ _ (by simp only [wrC, q0, q1, n, ed', cond_true, cond_false]; exact fm_a q2) (by simp [wrT, q0, q1, n, ed']) (by rw [cond_true, ed, List.tail_cons]) (by omega)
       ·refine c_t (ho.ask (k := 1) (by omega)) ?_
        rw [w64 (n := us + 1) (by omega)]
        exact leaf true _ _ (by simp only [wrC, q0, q1, n, ed', cond_true, cond_false]; exact fm_b q2 q3) (by simp [wrT, q0, q1, n, ed']) (by rw [cond_true, ed, List.tail_cons]) (by omega)
       ·refine c_t (ho.ask (k := 1) (by omega)) ?_
        rw [w64 (n := us + 1) (by omega)]
        exact leaf true _ _ (by simp only [wrC, q0, q1, n, ed', cond_true, cond_false]; exact fm_c q2 q3) (by simp [wrT, q0, q1, n, ed']) (by rw [cond_true, ed, List.tail_cons]) (by omega)
      ·have n0 := jab n
       have hc3 := @jjy r ((zc d k2).drop (i + 1).toNat) (by omega)
       have hd := jiq hD hp.2.2.2.2.2.2.1 (by omega)
       have ed := jb0 hp.2.2.2.2.2.2.1 (s := nu) (by omega)
       have ed' : List.headD (List.drop us.toNat (bz nu)) 0 = jak nu us.toNat := by rw [ed]; rfl
       generalize jak nu us.toNat = dd at *
       refine c_t (jaa (by omega)) (cond_intro (fun q2 => ?_) (fun q2 => ?_))
       ·refine c_t (ho.ask (k := 1) (by omega)) ?_
        rw [w64 (n := us + 1) (by omega)]
        exact leaf true _ _ (by simp only [wrC, q0, q1, m, n, q2, ed', cond_true, cond_false]) (by simp [wrT, q0, q1, m, n, q2, ed']) (by rw [cond_true, ed, List.tail_cons]) (by omega)
       ·refine c_t (ho.ask (k := 1) (by omega)) ?_
        rw [w64 (n := us + 1) (by omega)]
        exact leaf true _ _ (by simp only [wrC, q0, q1, m, n, q2, ed', cond_true, cond_false]) (by simp [wrT, q0, q1, m, n, q2, ed']) (by rw [cond_true, ed, List.tail_cons]) (by omega)
      ·have n := jab n
       rw [n] at q
       cases q
      ·refine cond_intro (fun q2 => ?_) (fun q2 => cond_intro (fun q3 => ?_) (fun q3 => ?_))
       ·refine c_t (ho.ask (k := 1) (by omega)) ?_
        exact leaf false _ _ (by simp only [wrC, q0, q1, m, m1, n, q2, cond_true, cond_false]) (by simp [wrT, q0, q1, m, m1, n, q2]) rfl (by omega)
       ·refine c_t (ho.ask (k := 1) (by omega)) ?_
        exact leaf false _ _ (by simp only [wrC, q0, q1, m, m1, n, q2, q3, cond_true, cond_false]) (by simp [wrT, q0, q1, m, m1, n, q2, q3]) rfl (by omega)
       ·refine c_t (ho.ask (k := 1) (by omega)) ?_
        exact leaf false _ _ (by simp only [wrC, q0, q1, m, m1, n, q2, q3, cond_true, cond_false]) (by simp [wrT, q0, q1, m, m1, n, q2, q3]) rfl (by omega)
      ·refine c_t (by simp) (cond_intro (fun q2 => ?_) (fun q2 => cond_intro (fun q3 => ?_) (fun q3 => cond_intro (fun q4 => ?_) (fun q4 => ?_))))
       ·refine c_t (ho.ask (k := 1) (by omega)) ?_
        exact leaf false _ _ (by simp only [wrC, q0, q1, m, m1, m3, n, q2, cond_true, cond_false]) (by simp [wrT, q0, q1, m, m1, m3, n, q2]) rfl (by omega)
       ·refine c_t (ho.ask (k := 1) (by omega)) ?_
        exact leaf false _ _ (by simp only [wrC, q0, q1, m, m1, m3, n, q2, cond_true, cond_false]; rw [q3]; rfl) (by simp [wrT, q0, q1, m, m1, m3, n, q2]) rfl (by omega)
       ·refine c_t (ho.ask (k := 1) (by omega)) ?_
        exact leaf false _ _ (by simp only [wrC, q0, q1, m, m1, m3, n, q2, cond_true, cond_false]; rw [q3, q4]; rfl) (by simp [wrT, q0, q1, m, m1, m3, n, q2]) rfl (by omega)
       ·refine c_t (ho.ask (k := 1) (by omega)) ?_
        exact leaf false _ _ (by simp only [wrC, q0, q1, m, m1, m3, n, q2, cond_true, cond_false]; rw [q3, q4]; rfl) (by simp [wrT, q0, q1, m, m1, m3, n, q2]) rfl (by omega)
      ·have k0 := jac m
       have k1 := jac m1
       have k3 := jac m3
       have k4 := jac m4
       have k2' : r ≠ 2 := fun e => by rw [e] at q; cases q
       refine c_t (jaa (by omega)) ?_
       refine c_t (ho.ask (k := 1) (by omega)) ?_
       exact leaf false _ _ (by simp only [wrC, q0, q1, m, m1, m3, m4, cond_true, cond_false]) (by simp [wrT, q0, q1, m, m1, m3, m4]) rfl (by omega)
   ·have h := jac h
    rw [hr.end (by omega), wrGo] at hf
    refine c_t (by rw [hr.good, ho.good]; rfl) ?_
    rw [hr.rlb, ho.rlb]
    exact hf.2 us at0 i od om oc (jaw.2 ho) (by simp)
def vwN (p : List Value) : Lk := fun j => match Nat.beq j 0 with | true => some ⟨p, 255, false⟩ | false => none
theorem sub_N {m : Lk} {a x : Nat} {nu : ByteArray} {mi : Bool} {us at0 ld : Int} {own : Bool} (hp : m a = some ⟨pnL x nu mi us at0 ld, 255, own⟩) : SubM m (rho2 a x) (vwN (pnL 1 nu mi us at0 ld)) 2 := by
 have hget : ∀ j b, vwN (pnL 1 nu mi us at0 ld) j = some b → j = 0 ∧ b = ⟨pnL 1 nu mi us at0 ld, 255, false⟩ := fun j b h => by
  simp only [vwN] at h
  split at h
  ·rename_i h0; cases h; exact ⟨jah h0, rfl⟩
  ·cases h
 refine ⟨fun j b h => ?_, fun j b h => ?_⟩
 ·obtain ⟨rfl, rfl⟩ := hget j b h
  refine ⟨by omega, fun i hi => ?_⟩
  have : i = 1 := by simpa [pnL, idsL, ids] using hi
  omega
 ·obtain ⟨rfl, rfl⟩ := hget j b h
  refine ⟨rfl, ⟨pnL x nu mi us at0 ld, 255, own⟩, ?_, fun ι => ?_⟩
  ·show noIt (m a) = _
   rw [hp]
   simp only [noIt]
   have : (own && Nat.beq 255 itTy) = false := by cases own <;> rfl
   rw [this]
  ·simp [pnL, ren, ren1, rho2]
def sgC (c : Int) (m : Bool) : Int := bif c == 83 && m then 45 else bif c == 83 then 43 else bif (c == 43) == m then 32 else c
theorem v94 (nu : ByteArray) (mi : Bool) (us : Int) (at0 : Int) (ld : Int) (c : Int) (R : Value → Prop) : (ja4 Tryz.prog G33 noL Tryz.f255 [.pointer (some ⟨0, 0, some 0⟩), .int .u8 c] (vwN (pnL 1 nu mi us at0 ld)) 2 (fun v _ _ => R v)) = ( bif c == 83 || true then bif c == 83 && mi then R (.int .u8 45) else bif c == 83 then R (.int .u8 43) else bif (c == 43) == mi then R (.int .u8 32) else R (.int .u8 c) else False) := by kernel_rfl
def h94 : List Value → Lk → Nat → (Value → Lk → Nat → Prop) → Prop := fun args m n K => match args with
 | [.pointer (some ⟨a, 0, some 0⟩), .int .u8 c] => match m a with
  | some ⟨[.pointer (some ⟨x, 0, some 0⟩), .string nu, .bool mi, .int .i64 us, .int .i64 at0, .int .i64 ld], 255, own⟩ => ∀ e, sgC c mi = e → K (.int .u8 e) m n
  | _ => False
 | _ => False
def h90h : List Value → Lk → Nat → (Value → Lk → Nat → Prop) → Prop := fun args m n K => h90 args m n fun v m' n' => match v with
 | .int .i64 x => ∀ e, x = e → K (.int .i64 e) m' n'
 | _ => False
def G36 : Env := ((((((Env.nil.add 30 (sp2 s78)).addG 252 (inlQ Tryz.prog G34 noL Tryz.f252)).addG 253 (inlQ Tryz.prog G34 noL Tryz.f253)).addG 254 (inlQ Tryz.prog G34 noL Tryz.f254)).addG 256 (inlQ Tryz.prog G34 noL Tryz.f256)).addG 251 h90h).addG 255 h94
theorem w94 (nu : ByteArray) (mi : Bool) (us at0 ld c : Int) {R : Value → Prop} (h : R (.int .u8 (sgC c mi))) : jdw Tryz.prog G33 noL Tryz.f255 [.pointer (some ⟨0, 0, some 0⟩), .int .u8 c] (vwN (pnL 1 nu mi us at0 ld)) 2 (fun v _ _ => R v) := by
 rw [jdw, v94]
 rw [sgC] at h
 refine c_t (by simp) (cond_intro (fun q => ?_) (fun q => cond_intro (fun q2 => ?_) (fun q2 => cond_intro (fun q3 => ?_) (fun q3 => ?_))))
 ·rw [q] at h; exact h
 ·rw [q, q2] at h; exact h
 ·rw [q, q2, q3] at h; exact h
 ·rw [q, q2, q3] at h; exact h
theorem h94_ok : jd1 Tryz.prog 255 h94 := by
 refine jha ok_G33 hmix fn94 jai fun args m n K h => ?_
 unfold h94 at h
 split at h
 case h_2 => exact h.elim
 rename_i a c
 split at h
 case h_2 => exact h.elim
 rename_i x nu mi us at0 ld own hm
 refine ⟨[.pointer (some ⟨0, 0, some 0⟩), .int .u8 c], _, 2, rho2 a x, .int .u8 (sgC c mi), sub_N hm, fun ι => by simp [ren, ren1, rho2], jag (by kernel_rfl), fun v hv j hj => ?_, rfl, w94 nu mi us at0 ld c (R := fun v => v = .int .u8 (sgC c mi)) rfl, h _ rfl⟩
 simp at hv
 rcases hv with rfl | rfl
 ·have : j = 0 := by simpa [ids] using hj
  omega
 ·simp [ids] at hj
theorem gen_imp {P : Program} {f : FuncId} {h h' : List Value → Lk → Nat → (Value → Lk → Nat → Prop) → Prop} (hh : ∀ args m n K, h' args m n K → h args m n K) (hg : jd1 P f h) : jd1 P f h' :=
 ⟨hg.1, fun args m n K hk => hg.2 args m n K (hh args m n K hk)⟩
theorem h90h_ok : jd1 Tryz.prog 251 h90h := by
 refine gen_imp (fun args m n K h => ?_) h90_ok
 unfold h90h h90 at h
 unfold h90
 split at h
 case h_2 => exact h.elim
 split at h
 case h_2 => exact h.elim
 split at h
 case h_2 => exact h.elim
 split at h
 case h_2 => exact h.elim
 split at h
 case h_2 => exact h.elim
 rename_i hm _ _ _ _ _ _ _ _ _ _ _ _ _ _ _ _ _ hx _ _ hy hc
 simp only [*]
theorem ok_G36 : jax Tryz.prog G36 := jao (jao (jao (jao (jao (jao (jaj jam ok78) (jas ok_G34 hmix fn91 jai)) (jas ok_G34 hmix fn92 jai)) (jas ok_G34 hmix fn93 jai)) (jas ok_G34 hmix fn95 jai)) h90h_ok) h94_ok
theorem lok64 : LOKf Tryz.prog (oneL 0 S64_0.hA) Tryz.f207 := l64_0
theorem v64 (s : ByteArray) (nb : Bool) (w : Int) (dg : Int) (sc : Int) (sg : Bool) (k : Nat) (cap : Nat) (dr : Int) (f : Int) (cr : Bool) (fl : Int) (fm : Int) (nu : ByteArray) (mi : Bool) (d : List Value) (R : Value → Prop) : (ja4 Tryz.prog G36 (oneL 0 S64_0.hA) Tryz.f207 [.pointer (some ⟨0, 0, some 0⟩), S nu, B mi] (vwF2 (fmL s nb w dg sc sg 1 k cap dr f cr fl fm) d) 2 (fun v _ _ => R v)) = ( bif jbn d k cap && decide (k ≤ 1000 ∧ nu.size ≤ 1000 ∧ cn1 (zc d k) ≤ (nu.size : Int)) then ∀ (e : Int), enV (bz nu) fm (zc d k) = e → bif decide (e < 0) then bif decide (0 ≤ w ∧ w ≤ 1000 ∧ (Utf8.encode fl).size ≤ 1000) then R (.tuple (.mk [S (sz (repZ (bz (Utf8.encode fl)) w.toNat)), I w])) else False else bif jau [] d && true && true && (ja1 210 (rlbL [] d) && true) then bif LSpec.pre (LSpecA.toLSpec S64_0) (mi, ByteArray.mk #[], 0, Rw.nil, k, cap, natO k, 0, s, nb, w, dg, sc, sg, k, cap, dr, f, cr, fl, fm, nu, mi, 0, 0, e, rlbL [] d) then (Rw.is Rw.nil = false → wrGo f cr (s.size : Int) mi e fl (List.drop (Int.toNat 0) (zc (rlbL [] d) k)) (List.drop (Int.toNat 0) (bz s)) (List.drop (Int.toNat 0) (bz nu)) 0 0 = [] → ∀ (us' at' i' : Int), bif ja1 210 (rlbL [] d) && true then ∀ (x : Tmps), bif dr == 36 || true then bif dr == 36 && decide (e > 0) then False else bif dr != 0 || true then bif dr != 0 && decide (e > 0) then ((((((∀ (e : Int), sgC dr mi = e → False) ∧ ∀ (e : Int), sgC dr mi = e → False) ∧ ∀ (e : Int), sgC dr mi = e → False) ∧ ∀ (e : Int), sgC dr mi = e → False) ∧ ∀ (e : Int), sgC dr mi = e → False) ∧ ∀ (e : Int), sgC dr mi = e → False) ∧ ((((((∀ (e : Int), sgC dr mi = e → False) ∧ ∀ (e : Int), sgC dr mi = e → False) ∧ ∀ (e : Int), sgC dr mi = e → False) ∧ ∀ (e : Int), sgC dr mi = e → False) ∧ ∀ (e : Int), sgC dr mi = e → False) ∧ (((((∀ (e : Int), sgC dr mi = e → False) ∧ ∀ (e : Int), sgC dr mi = e → False) ∧ ∀ (e : Int), sgC dr mi = e → False) ∧ ∀ (e : Int), sgC dr mi = e → False) ∧ ((((∀ (e : Int), sgC dr mi = e → False) ∧ ∀ (e : Int), sgC dr mi = e → False) ∧ ∀ (e : Int), sgC dr mi = e → False) ∧ (((∀ (e : Int), sgC dr mi = e → False) ∧ ∀ (e : Int), sgC dr mi = e → False) ∧ ((∀ (e : Int), sgC dr mi = e → False) ∧ ∀ (e : Int), sgC dr mi = e → False) ∧ ∀ (e : Int), sgC dr mi = e → False) ∧ ∀ (e : Int), sgC dr mi = e → False) ∧ ∀ (e : Int), sgC dr mi = e → False) ∧ ∀ (e : Int), sgC dr mi = e → False) ∧ ∀ (e : Int), sgC dr mi = e → False else R (.tuple (.mk [S ByteArray.empty, I e])) else False else False else False) ∧ ∀ (us' at' i' : Int) (od' : List Value) (om' oc' : Nat), jcf od' om' oc' = true → zc od' om' = Rw.z Rw.nil ++ wrGo f cr (s.size : Int) mi e fl (List.drop (Int.toNat 0) (zc (rlbL [] d) k)) (List.drop (Int.toNat 0) (bz s)) (List.drop (Int.toNat 0) (bz nu)) 0 0 → bif ja1 210 (rlbL [] d) && (ja1 210 od' && true) then ∀ (x : Tmps), bif dr == 36 || true then bif dr == 36 && decide (e > 0) then bif decide (0 ≤ IntKind.wrap .i64 (e - 1) ∧ IntKind.wrap .i64 (e - 1) < (↑om' : Int)) then bif Nat.ble (0 + (IntKind.wrap .i64 (e - 1)).toNat * 1 + 1) od'.length then bif jba (setL od' (0 + (IntKind.wrap .i64 (e - 1)).toNat * 1) [.int .u8 36]) 0 om' then R (.tuple (.mk [S (ja5 (setL od' (0 + (IntKind.wrap .i64 (e - 1)).toNat * 1) [.int .u8 36]) 0 om'), I e])) else False else False else False else bif dr != 0 || true then bif dr != 0 && decide (e > 0) then ((((((∀ (e_1 : Int), sgC dr mi = e_1 → bif decide (0 ≤ IntKind.wrap .i64 (e - 1) ∧ IntKind.wrap .i64 (e - 1) < (↑om' : Int)) then bif Nat.ble (0 + (IntKind.wrap .i64 (e - 1)).toNat * 1 + 1) od'.length then bif jba (setL od' (0 + (IntKind.wrap .i64 (e - 1)).toNat * 1) [.int .u8 e_1]) 0 om' then R (.tuple (.mk [S (ja5 (setL od' (0 + (IntKind.wrap .i64 (e - 1)).toNat * 1) [.int .u8 e_1]) 0 om'), I e])) else False else False else False) ∧ ∀ (e_1 : Int), sgC dr mi = e_1 → bif decide (0 ≤ IntKind.wrap .i64 (e - 1) ∧ IntKind.wrap .i64 (e - 1) < (↑om' : Int)) then bif Nat.ble (0 + (IntKind.wrap .i64 (e - 1)).toNat * 1 + 1) od'.length then bif jba (setL od' (0 + (IntKind.wrap .i64 (e - 1)).toNat * 1) [.int .u8 e_1]) 0 om' then R (.tuple (.mk [S (ja5 (setL od' (0 + (IntKind.wrap .i64 (e - 1)).toNat * 1) [.int .u8 e_1]) 0 om'), I e])) else False else False else False) ∧ ∀ (e_1 : Int), sgC dr mi = e_1 → bif decide (0 ≤ IntKind.wrap .i64 (e - 1) ∧ IntKind.wrap .i64 (e - 1) < (↑om' : Int)) then bif Nat.ble (0 + (IntKind.wrap .i64 (e - 1)).toNat * 1 + 1) od'.length then bif jba (setL od' (0 + (IntKind.wrap .i64 (e - 1)).toNat * 1) [.int .u8 e_1]) 0 om' then R (.tuple (.mk [S (ja5 (setL od' (0 + (IntKind.wrap .i64 (e - 1)).toNat * 1) [.int .u8 e_1]) 0 om'), I e])) else False else False else False) ∧ ∀ (e_1 : Int), sgC dr mi = e_1 → bif decide (0 ≤ IntKind.wrap .i64 (e - 1) ∧ IntKind.wrap .i64 (e - 1) < (↑om' : Int)) then bif Nat.ble (0 + (IntKind.wrap .i64 (e - 1)).toNat * 1 + 1) od'.length then bif jba (setL od' (0 + (IntKind.wrap .i64 (e - 1)).toNat * 1) [.int .u8 e_1]) 0 om' then R (.tuple (.mk [S (ja5 (setL od' (0 + (IntKind.wrap .i64 (e - 1)).toNat * 1) [.int .u8 e_1]) 0 om'), I e])) else False else False else False) ∧ ∀ (e_1 : Int), sgC dr mi = e_1 → bif decide (0 ≤ IntKind.wrap .i64 (e - 1) ∧ IntKind.wrap .i64 (e - 1) < (↑om' : Int)) then bif Nat.ble (0 + (IntKind.wrap .i64 (e - 1)).toNat * 1 + 1) od'.length then bif jba (setL od' (0 + (IntKind.wrap .i64 (e - 1)).toNat * 1) [.int .u8 e_1]) 0 om' then R (.tuple (.mk [S (ja5 (setL od' (0 + (IntKind.wrap .i64 (e - 1)).toNat * 1) [.int .u8 e_1]) 0 om'), I e])) else False else False else False) ∧ ∀ (e_1 : Int), sgC dr mi = e_1 → bif decide (0 ≤ IntKind.wrap .i64 (e - 1) ∧ IntKind.wrap .i64 (e - 1) < (↑om' : Int)) then bif Nat.ble (0 + (IntKind.wrap .i64 (e - 1)).toNat * 1 + 1) od'.length then bif jba (setL od' (0 + (IntKind.wrap .i64 (e - 1)).toNat * 1) [.int .u8 e_1]) 0 om' then R (.tuple (.mk [S (ja5 (setL od' (0 + (IntKind.wrap .i64 (e - 1)).toNat * 1) [.int .u8 e_1]) 0 om'), I e])) else False else False else False) ∧ ((((((∀ (e_1 : Int), sgC dr mi = e_1 → bif decide (0 ≤ IntKind.wrap .i64 (e - 1) ∧ IntKind.wrap .i64 (e - 1) < (↑om' : Int)) then bif Nat.ble (0 + (IntKind.wrap .i64 (e - 1)).toNat * 1 + 1) od'.length then bif jba (setL od' (0 + (IntKind.wrap .i64 (e - 1)).toNat * 1) [.int .u8 e_1]) 0 om' then R (.tuple (.mk [S (ja5 (setL od' (0 + (IntKind.wrap .i64 (e - 1)).toNat * 1) [.int .u8 e_1]) 0 om'), I e])) else False else False else False) ∧ ∀ (e_1 : Int), sgC dr mi = e_1 → bif decide (0 ≤ IntKind.wrap .i64 (e - 1) ∧ IntKind.wrap .i64 (e - 1) < (↑om' : Int)) then bif Nat.ble (0 + (IntKind.wrap .i64 (e - 1)).toNat * 1 + 1) od'.length then bif jba (setL od' (0 + (IntKind.wrap .i64 (e - 1)).toNat * 1) [.int .u8 e_1]) 0 om' then R (.tuple (.mk [S (ja5 (setL od' (0 + (IntKind.wrap .i64 (e - 1)).toNat * 1) [.int .u8 e_1]) 0 om'), I e])) else False else False else False) ∧ ∀ (e_1 : Int), sgC dr mi = e_1 → bif decide (0 ≤ IntKind.wrap .i64 (e - 1) ∧ IntKind.wrap .i64 (e - 1) < (↑om' : Int)) then bif Nat.ble (0 + (IntKind.wrap .i64 (e - 1)).toNat * 1 + 1) od'.length then bif jba (setL od' (0 + (IntKind.wrap .i64 (e - 1)).toNat * 1) [.int .u8 e_1]) 0 om' then R (.tuple (.mk [S (ja5 (setL od' (0 + (IntKind.wrap .i64 (e - 1)).toNat * 1) [.int .u8 e_1]) 0 om'), I e])) else False else False else False) ∧ ∀ (e_1 : Int), sgC dr mi = e_1 → bif decide (0 ≤ IntKind.wrap .i64 (e - 1) ∧ IntKind.wrap .i64 (e - 1) < (↑om' : Int)) then bif Nat.ble (0 + (IntKind.wrap .i64 (e - 1)).toNat * 1 + 1) od'.length then bif jba (setL od' (0 + (IntKind.wrap .i64 (e - 1)).toNat * 1) [.int .u8 e_1]) 0 om' then R (.tuple (.mk [S (ja5 (setL od' (0 + (IntKind.wrap .i64 (e - 1)).toNat * 1) [.int .u8 e_1]) 0 om'), I e])) else False else False else False) ∧ ∀ (e_1 : Int), sgC dr mi = e_1 → bif decide (0 ≤ IntKind.wrap .i64 (e - 1) ∧ IntKind.wrap .i64 (e - 1) < (↑om' : Int)) then bif Nat.ble (0 + (IntKind.wrap .i64 (e - 1)).toNat * 1 + 1) od'.length then bif jba (setL od' (0 + (IntKind.wrap .i64 (e - 1)).toNat * 1) [.int .u8 e_1]) 0 om' then R (.tuple (.mk [S (ja5 (setL od' (0 + (IntKind.wrap .i64 (e - 1)).toNat * 1) [.int .u8 e_1]) 0 om'), I e])) else False else False else False) ∧ (((((∀ (e_1 : Int), sgC dr mi = e_1 → bif decide (0 ≤ IntKind.wrap .i64 (e - 1) ∧ IntKind.wrap .i64 (e - 1) < (↑om' : Int)) then bif Nat.ble (0 + (IntKind.wrap .i64 (e - 1)).toNat * 1 + 1) od'.length then bif jba (setL od' (0 + (IntKind.wrap .i64 (e - 1)).toNat * 1) [.int .u8 e_1]) 0 om' then R (.tuple (.mk [S (ja5 (setL od' (0 + (IntKind.wrap .i64 (e - 1)).toNat * 1) [.int .u8 e_1]) 0 om'), I e])) else False else False else False) ∧ ∀ (e_1 : Int), sgC dr mi = e_1 → bif decide (0 ≤ IntKind.wrap .i64 (e - 1) ∧ IntKind.wrap .i64 (e - 1) < (↑om' : Int)) then bif Nat.ble (0 + (IntKind.wrap .i64 (e - 1)).toNat * 1 + 1) od'.length then bif jba (setL od' (0 + (IntKind.wrap .i64 (e - 1)).toNat * 1) [.int .u8 e_1]) 0 om' then R (.tuple (.mk [S (ja5 (setL od' (0 + (IntKind.wrap .i64 (e - 1)).toNat * 1) [.int .u8 e_1]) 0 om'), I e])) else False else False else False) ∧ ∀ (e_1 : Int), sgC dr mi = e_1 → bif decide (0 ≤ IntKind.wrap .i64 (e - 1) ∧ IntKind.wrap .i64 (e - 1) < (↑om' : Int)) then bif Nat.ble (0 + (IntKind.wrap .i64 (e - 1)).toNat * 1 + 1) od'.length then bif jba (setL od' (0 + (IntKind.wrap .i64 (e - 1)).toNat * 1) [.int .u8 e_1]) 0 om' then R (.tuple (.mk [S (ja5 (setL od' (0 + (IntKind.wrap .i64 (e - 1)).toNat * 1) [.int .u8 e_1]) 0 om'), I e])) else False else False else False) ∧ ∀ (e_1 : Int), sgC dr mi = e_1 → bif decide (0 ≤ IntKind.wrap .i64 (e - 1) ∧ IntKind.wrap .i64 (e - 1) < (↑om' : Int)) then bif Nat.ble (0 + (IntKind.wrap .i64 (e - 1)).toNat * 1 + 1) od'.length then bif jba (setL od' (0 + (IntKind.wrap .i64 (e - 1)).toNat * 1) [.int .u8 e_1]) 0 om' then R (.tuple (.mk [S (ja5 (setL od' (0 + (IntKind.wrap .i64 (e - 1)).toNat * 1) [.int .u8 e_1]) 0 om'), I e])) else False else False else False) ∧ ((((∀ (e_1 : Int), sgC dr mi = e_1 → bif decide (0 ≤ IntKind.wrap .i64 (e - 1) ∧ IntKind.wrap .i64 (e - 1) < (↑om' : Int)) then bif Nat.ble (0 + (IntKind.wrap .i64 (e - 1)).toNat * 1 + 1) od'.length then bif jba (setL od' (0 + (IntKind.wrap .i64 (e - 1)).toNat * 1) [.int .u8 e_1]) 0 om' then R (.tuple (.mk [S (ja5 (setL od' (0 + (IntKind.wrap .i64 (e - 1)).toNat * 1) [.int .u8 e_1]) 0 om'), I e])) else False else False else False) ∧ ∀ (e_1 : Int), sgC dr mi = e_1 → bif decide (0 ≤ IntKind.wrap .i64 (e - 1) ∧ IntKind.wrap .i64 (e - 1) < (↑om' : Int)) then bif Nat.ble (0 + (IntKind.wrap .i64 (e - 1)).toNat * 1 + 1) od'.length then bif jba (setL od' (0 + (IntKind.wrap .i64 (e - 1)).toNat * 1) [.int .u8 e_1]) 0 om' then R (.tuple (.mk [S (ja5 (setL od' (0 + (IntKind.wrap .i64 (e - 1)).toNat * 1) [.int .u8 e_1]) 0 om'), I e])) else False else False else False) ∧ ∀ (e_1 : Int), sgC dr mi = e_1 → bif decide (0 ≤ IntKind.wrap .i64 (e - 1) ∧ IntKind.wrap .i64 (e - 1) < (↑om' : Int)) then bif Nat.ble (0 + (IntKind.wrap .i64 (e - 1)).toNat * 1 + 1) od'.length then bif jba (setL od' (0 + (IntKind.wrap .i64 (e - 1)).toNat * 1) [.int .u8 e_1]) 0 om' then R (.tuple (.mk [S (ja5 (setL od' (0 + (IntKind.wrap .i64 (e - 1)).toNat * 1) [.int .u8 e_1]) 0 om'), I e])) else False else False else False) ∧ (((∀ (e_1 : Int), sgC dr mi = e_1 → bif decide (0 ≤ IntKind.wrap .i64 (e - 1) ∧ IntKind.wrap .i64 (e - 1) < (↑om' : Int)) then bif Nat.ble (0 + (IntKind.wrap .i64 (e - 1)).toNat * 1 + 1) od'.length then bif jba (setL od' (0 + (IntKind.wrap .i64 (e - 1)).toNat * 1) [.int .u8 e_1]) 0 om' then R (.tuple (.mk [S (ja5 (setL od' (0 + (IntKind.wrap .i64 (e - 1)).toNat * 1) [.int .u8 e_1]) 0 om'), I e])) else False else False else False) ∧ ∀ (e_1 : Int), sgC dr mi = e_1 → bif decide (0 ≤ IntKind.wrap .i64 (e - 1) ∧ IntKind.wrap .i64 (e - 1) < (↑om' : Int)) then bif Nat.ble (0 + (IntKind.wrap .i64 (e - 1)).toNat * 1 + 1) od'.length then bif jba (setL od' (0 + (IntKind.wrap .i64 (e - 1)).toNat * 1) [.int .u8 e_1]) 0 om' then R (.tuple (.mk [S (ja5 (setL od' (0 + (IntKind.wrap .i64 (e - 1)).toNat * 1) [.int .u8 e_1]) 0 om'), I e])) else False else False else False) ∧ ((∀ (e_1 : Int), sgC dr mi = e_1 → bif decide (0 ≤ IntKind.wrap .i64 (e - 1) ∧ IntKind.wrap .i64 (e - 1) < (↑om' : Int)) then bif Nat.ble (0 + (IntKind.wrap .i64 (e - 1)).toNat * 1 + 1) od'.length then bif jba (setL od' (0 + (IntKind.wrap .i64 (e - 1)).toNat * 1) [.int .u8 e_1]) 0 om' then R (.tuple (.mk [S (ja5 (setL od' (0 + (IntKind.wrap .i64 (e - 1)).toNat * 1) [.int .u8 e_1]) 0 om'), I e])) else False else False else False) ∧ ∀ (e_1 : Int), sgC dr mi = e_1 → bif decide (0 ≤ IntKind.wrap .i64 (e - 1) ∧ IntKind.wrap .i64 (e - 1) < (↑om' : Int)) then bif Nat.ble (0 + (IntKind.wrap .i64 (e - 1)).toNat * 1 + 1) od'.length then bif jba (setL od' (0 + (IntKind.wrap .i64 (e - 1)).toNat * 1) [.int .u8 e_1]) 0 om' then R (.tuple (.mk [S (ja5 (setL od' (0 + (IntKind.wrap .i64 (e - 1)).toNat * 1) [.int .u8 e_1]) 0 om'), I e])) else False else False else False) ∧ ∀ (e_1 : Int), sgC dr mi = e_1 → bif decide (0 ≤ IntKind.wrap .i64 (e - 1) ∧ IntKind.wrap .i64 (e - 1) < (↑om' : Int)) then bif Nat.ble (0 + (IntKind.wrap .i64 (e - 1)).toNat * 1 + 1) od'.length then bif jba (setL od' (0 + (IntKind.wrap .i64 (e - 1)).toNat * 1) [.int .u8 e_1]) 0 om' then R (.tuple (.mk [S (ja5 (setL od' (0 + (IntKind.wrap .i64 (e - 1)).toNat * 1) [.int .u8 e_1]) 0 om'), I e])) else False else False else False) ∧ ∀ (e_1 : Int), sgC dr mi = e_1 → bif decide (0 ≤ IntKind.wrap .i64 (e - 1) ∧ IntKind.wrap .i64 (e - 1) < (↑om' : Int)) then bif Nat.ble (0 + (IntKind.wrap .i64 (e - 1)).toNat * 1 + 1) od'.length then bif jba (setL od' (0 + (IntKind.wrap .i64 (e - 1)).toNat * 1) [.int .u8 e_1]) 0 om' then R (.tuple (.mk [S (ja5 (setL od' (0 + (IntKind.wrap .i64 (e - 1)).toNat * 1) [.int .u8 e_1]) 0 om'), I e])) else False else False else False) ∧ ∀ (e_1 : Int), sgC dr mi = e_1 → bif decide (0 ≤ IntKind.wrap .i64 (e - 1) ∧ IntKind.wrap .i64 (e - 1) < (↑om' : Int)) then bif Nat.ble (0 + (IntKind.wrap .i64 (e - 1)).toNat * 1 + 1) od'.length then bif jba (setL od' (0 + (IntKind.wrap .i64 (e - 1)).toNat * 1) [.int .u8 e_1]) 0 om' then R (.tuple (.mk [S (ja5 (setL od' (0 + (IntKind.wrap .i64 (e - 1)).toNat * 1) [.int .u8 e_1]) 0 om'), I e])) else False else False else False) ∧ ∀ (e_1 : Int), sgC dr mi = e_1 → bif decide (0 ≤ IntKind.wrap .i64 (e - 1) ∧ IntKind.wrap .i64 (e - 1) < (↑om' : Int)) then bif Nat.ble (0 + (IntKind.wrap .i64 (e - 1)).toNat * 1 + 1) od'.length then bif jba (setL od' (0 + (IntKind.wrap .i64 (e - 1)).toNat * 1) [.int .u8 e_1]) 0 om' then R (.tuple (.mk [S (ja5 (setL od' (0 + (IntKind.wrap .i64 (e - 1)).toNat * 1) [.int .u8 e_1]) 0 om'), I e])) else False else False else False) ∧ ∀ (e_1 : Int), sgC dr mi = e_1 → bif decide (0 ≤ IntKind.wrap .i64 (e - 1) ∧ IntKind.wrap .i64 (e - 1) < (↑om' : Int)) then bif Nat.ble (0 + (IntKind.wrap .i64 (e - 1)).toNat * 1 + 1) od'.length then bif jba (setL od' (0 + (IntKind.wrap .i64 (e - 1)).toNat * 1) [.int .u8 e_1]) 0 om' then R (.tuple (.mk [S (ja5 (setL od' (0 + (IntKind.wrap .i64 (e - 1)).toNat * 1) [.int .u8 e_1]) 0 om'), I e])) else False else False else False else bif jba od' 0 om' then R (.tuple (.mk [S (ja5 od' 0 om'), I e])) else False else False else False else False else False else False else False) := by kernel_rfl
def wrV (sp : List Int) (w f : Int) (cr : Bool) (dr fl fm : Int) (ro nu : List Int) (mi : Bool) : List Int × Int :=
 bif decide (enV nu fm ro < 0) then (repZ [fl] w.toNat, w)
 else (bif dr != 0 && decide (enV nu fm ro > 0) then (wrGo f cr sp.length mi (enV nu fm ro) fl ro sp nu 0 0).set (enV nu fm ro - 1).toNat (bif dr == 36 then 36 else sgC dr mi)
  else wrGo f cr sp.length mi (enV nu fm ro) fl ro sp nu 0 0, enV nu fm ro)
def wrR (x : List Int × Int) : Value := .tuple ⟨[.string (sz x.1), .int .i64 x.2]⟩
def cN : List Int → Int
 | [] => 0
 | r :: rs => (bif r == 2 then 0 else 1) + cN rs
theorem jjm : ∀ l, 0 ≤ cN l
 | [] => by simp [cN]
 | r :: rs => by have := jjm rs; rw [cN]; cases r == 2 <;> simp <;> omega
theorem cn1_cdg : ∀ l, cn1 l ≤ cdg l
 | [] => by simp [cn1, cdg]
 | r :: rs => by
  have := cn1_cdg rs
  rw [cn1, cdg]
  by_cases h1 : r = 1
  ·subst h1
   show 1 + _ ≤ 1 + _
   omega
  ·have e : (r == 1) = false := by simpa using h1
   rw [e]
   cases decide (r = 0) || decide (r = 1) <;> simp <;> omega
theorem jgw {f : Int} {cr : Bool} {n : Int} {mi : Bool} {ld fl : Int} : ∀ (rs cs ds : List Int) (i a : Int), ((wrGo f cr n mi ld fl rs cs ds i a).length : Int) = cN rs
 | [], _, _, _, _ => rfl
 | r :: rs, cs, ds, i, a => by
  rw [wrGo, cN]
  cases r == 2
  ·simp only [cond_false, List.length_cons]
   have := jgw (f := f) (cr := cr) (n := n) (mi := mi) (ld := ld) (fl := fl) rs cs.tail (bif wrT f cr n r i then ds.tail else ds) (i + 1) (a + 1)
   omega
  ·simp only [cond_true]
   rw [jgw]
   omega
theorem jhf {ze : Bool} {fm : Int} : ∀ (ro ds : List Int) (a : Int), -1 ≤ a → enGo ze fm ro ds a ≤ a + cN ro
 | [], _, a, h => by rw [enGo, cN]; omega
 | r :: rs, ds, a, h => by
  have h0 := jjm rs
  rw [enGo, cN]
  by_cases h2 : r = 2
  ·subst h2
   have e0 : ((2 : Int) == 0) = false := rfl
   have e1 : ((2 : Int) == 1) = false := rfl
   have e2 : ((2 : Int) == 2) = true := rfl
   rw [e0, e1, e2]
   simp only [cond_true, cond_false]
   have := jhf (ze := ze) (fm := fm) rs ds a h
   cases decide (fm > 0) || !ze <;> simp <;> omega
  ·have e2 : (r == 2) = false := by simpa using h2
   rw [e2]
   have h1 := jhf (ze := ze) (fm := fm) rs ds (a + 1) (by omega)
   have h3 := jhf (ze := ze) (fm := fm) rs ds.tail (a + 1) (by omega)
   cases r == 0
   ·cases r == 1
    ·simp only [cond_false]
     omega
    ·simp only [cond_true, cond_false]
     cases ds.headD 0 != 48 <;> simp <;> omega
   ·simp only [cond_true, cond_false]
    omega
theorem enV_le {nu : List Int} {fm : Int} {ro : List Int} : enV nu fm ro ≤ cN ro := by
 rw [enV]
 have := jjm ro
 have := jhf (ze := (jct nu [48]).isEmpty) (fm := fm) ro nu 0 (by omega)
 cases enOn ro <;> simp <;> omega
theorem enc_fl {fl : Int} (h : fl = 32 ∨ fl = 42) : bz (Utf8.encode fl) = [fl] := by
 rcases h with rfl | rfl <;> kernel_rfl
theorem w_64 (s : ByteArray) (nb : Bool) (w : Int) (dg : Int) (sc : Int) (sg : Bool) (k : Nat) (cap : Nat) (dr : Int) (f : Int) (cr : Bool) (fl : Int) (fm : Int) (nu : ByteArray) (mi : Bool) (d : List Value) (hR : jbn d k cap = true) (hO : roOK (zc d k) = true) (hD : dgL (bz nu) = true) (hk : k ≤ 1000 ∧ nu.size ≤ 1000 ∧ k ≤ s.size ∧ s.size ≤ 1000 ∧ 0 ≤ w ∧ w ≤ 1000) (hc : cdg (zc d k) ≤ nu.size) (hfl : fl = 32 ∨ fl = 42)
  {R : Value → Prop} (hV : R (wrR (wrV (bz s) w f cr dr fl fm (zc d k) (bz nu) mi))) :
  jdw Tryz.prog G36 (oneL 0 S64_0.hA) Tryz.f207 [.pointer (some ⟨0, 0, some 0⟩), .string nu, .bool mi] (vwF2 (fmL s nb w dg sc sg 1 k cap dr f cr fl fm) d) 2 (fun v _ _ => R v) := by
 rw [jdw, v64]
 have h := jav.1 hR
 have h1 := cn1_cdg (zc d k)
 have hl := @enV_le (bz nu) fm (zc d k)
 have z0 : Int.toNat 0 = 0 := rfl
 have hg : (jau [] d && true && true && (ja1 210 d && true)) = true := by rw [h.good]; simp [ja1, idsL, jap h.plain]
 have hi : (ja1 210 d && true) = true := by simp [ja1, idsL, jap h.plain]
 have sl : ((bz s).length : Int) = s.size := by rw [jaq]
 rw [wrV, wrR, sl] at hV
 simp only [h.rlb, z0, List.drop_zero]
 refine c_t (by rw [hR]; simp only [Bool.true_and, jae]; omega) fun e he => ?_
 rw [he] at hV hl
 have hw := fun a => @jgw f cr s.size mi e fl (zc d k) (bz s) (bz nu) 0 a
 have hw := hw 0
 generalize wrGo f cr s.size mi e fl (zc d k) (bz s) (bz nu) 0 0 = W at *
 refine cond_intro (fun q => ?_) (fun q => ?_)
 ·rw [q, cond_true] at hV
  have eb := enc_fl hfl
  have es : (Utf8.encode fl).size = 1 := by rw [← jaq, eb]; rfl
  rw [es, eb]
  exact c_t (jaa (by omega)) hV
 ·rw [q, cond_false] at hV
  refine c_t hg (c_t ?_ ⟨fun _ hn us' at' i' => c_t hi fun _ => c_t (by simp) ?_, fun us' at' i' od om oc g1 g2 => ?_⟩)
  ·show (Rw.nil.ok && (jbn d k cap && (roOK (zc d k) && (dgL (bz nu) && decide (mi = mi ∧ (0 : Int) ≤ 0 ∧ (0 : Int) ≤ k ∧ k ≤ 1000 ∧ natO k = k ∧ k ≤ s.size ∧ s.size ≤ 1000 ∧ (0 : Int) ≤ 0 ∧ (0 : Int) ≤ 0 ∧ (0 : Int) ≤ 0 ∧ (0 : Int) ≤ 0 ∧ 0 + cdg ((zc d k).drop (Int.toNat 0)) ≤ nu.size ∧ ((Rw.nil.z.length : Nat) : Int) ≤ 0))))) = true
   rw [hR, hO, hD, jbz, z0, List.drop_zero]
   simp only [Bool.true_and, Rw.ok, Rw.z, List.length_nil, jae]
   exact ⟨trivial, by omega, by omega, by omega, trivial, by omega, by omega, by omega, by omega, by omega, by omega, by omega, by omega⟩
  ·rw [hn, List.length_nil] at hw
   have e0 : decide (e > 0) = false := jad (by omega)
   rw [e0, Bool.and_false, Bool.and_false, cond_false]
   rw [e0, Bool.and_false, cond_false, hn] at hV
   exact c_t (by simp) hV
  ·have ho := jaw.1 g1
   have hzl := ja8 ho
   rw [g2] at hzl
   have g3 : zc od om = W := by rw [g2]; rfl
   have hzl : W.length = om := hzl
   have hio : (ja1 210 d && (ja1 210 od && true)) = true := by simp [ja1, idsL, jap h.plain, jap ho.plain]
   have hset : ∀ x : Int, e > 0 → R (.tuple ⟨[.string (sz (W.set (e - 1).toNat x)), .int .i64 e]⟩) →
     (bif decide (0 ≤ IntKind.wrap IntKind.i64 (e - 1) ∧ IntKind.wrap IntKind.i64 (e - 1) < (↑om : Int)) then
      bif Nat.ble (0 + Int.toNat (IntKind.wrap IntKind.i64 (e - 1)) * 1 + 1) (List.length od) then
       bif jba (setL od (0 + Int.toNat (IntKind.wrap IntKind.i64 (e - 1)) * 1) [Value.int IntKind.u8 x]) 0 om then
        R (Value.tuple (Array.mk [Value.string (ja5 (setL od (0 + Int.toNat (IntKind.wrap IntKind.i64 (e - 1)) * 1) [Value.int IntKind.u8 x]) 0 om), Value.int IntKind.i64 e]))
       else False
      else False
     else False) := fun x h0 hx => by
    have hb : (W.length : Int) ≤ 1000 := by
     have := hw
     have h2 : cN (zc d k) ≤ k := by
      have : ∀ l : List Int, cN l ≤ l.length := fun l => by
       induction l with
       | nil => simp [cN]
       | cons r rs ih => rw [cN, List.length_cons]; cases r == 2 <;> simp <;> omega
      have := this (zc d k)
      rw [jbc h] at this
      exact this
     omega
    rw [w64 (n := e - 1) (by omega)]
    obtain ⟨s1, s2, s4⟩ := ho.set x (i := (e - 1).toNat) (by omega)
    have s3 := s1.str
    rw [s2, g3] at s3
    exact c_t (jaa (by omega)) (c_t s4 (c_t s3.1 (by rw [s3.2]; exact hx)))
   refine c_t hio fun _ => c_t (by simp) (cond_intro (fun p => ?_) (fun p => c_t (by simp) (cond_intro (fun p2 => ?_) (fun p2 => ?_))))
   ·obtain ⟨p1, p3⟩ := Bool.and_eq_true_iff.1 p
    have pe : dr = 36 := by simpa using p1
    have pn : (dr != 0) = true := by rw [pe]; rfl
    rw [pn, p3, p1, Bool.true_and, cond_true, cond_true] at hV
    exact hset 36 (jab p3) hV
   ·obtain ⟨p1, p3⟩ := Bool.and_eq_true_iff.1 p2
    have pe : (dr == 36) = false := by
     rw [p3, Bool.and_true] at p
     exact p
    rw [p1, p3, pe, Bool.true_and, cond_true, cond_false] at hV
    have hX : ∀ e_1 : Int, sgC dr mi = e_1 → _ := fun e_1 h1 => hset e_1 (jab p3) (by rw [← h1]; exact hV)
    repeat' (first | exact hX | apply And.intro)
   ·rw [p2, cond_false] at hV
    have s3 := ho.str
    rw [g3] at s3
    exact c_t s3.1 (by rw [s3.2]; exact hV)
def w64C (s nu : ByteArray) (k cap : Nat) (w fl : Int) (d : List Value) : Bool := jbn d k cap && (roOK (zc d k) && (dgL (bz nu) && decide ((k ≤ 1000 ∧ nu.size ≤ 1000 ∧ k ≤ s.size ∧ s.size ≤ 1000 ∧ 0 ≤ w ∧ w ≤ 1000) ∧ cdg (zc d k) ≤ nu.size ∧ (fl = 32 ∨ fl = 42))))
def h64 : List Value → Lk → Nat → (Value → Lk → Nat → Prop) → Prop := fun args m n K => match args with
 | [.pointer (some ⟨a, 0, some 0⟩), .string nu, .bool mi] => match m a with
  | some ⟨[.string s, .bool nb, .int .i64 w, .int .i64 dg, .int .i64 sc, .bool sg, .slice (some ⟨y, 0, some 1⟩) k cap, .int .u8 dr, .int .i64 f, .bool cr, .int .u8 fl, .int .i64 fm], 156, own⟩ => match m y with
   | some ⟨d, 251, own2⟩ => match cnd (w64C s nu k cap w fl d) with
    | true => ∀ (t : ByteArray) (l : Int), sz (wrV (bz s) w f cr dr fl fm (zc d k) (bz nu) mi).1 = t → (wrV (bz s) w f cr dr fl fm (zc d k) (bz nu) mi).2 = l → K (.tuple ⟨[.string t, .int .i64 l]⟩) m n
    | false => False
   | _ => False
  | _ => False
 | _ => False
theorem h64_ok : jd1 Tryz.prog 207 h64 := by
 refine jha ok_G36 hmix fn64 lok64 fun args m n K h => ?_
 unfold h64 at h
 split at h
 case h_2 => exact h.elim
 rename_i a nu mi
 split at h
 case h_2 => exact h.elim
 rename_i s nb w dg sc sg y k cap dr f cr fl fm own hm
 split at h
 case h_2 => exact h.elim
 rename_i d own2 hy
 split at h
 case h_2 => exact h.elim
 rename_i hc
 simp only [cnd, w64C, jaf, jae] at hc
 obtain ⟨h1, h2, h3, h4, h5, h6⟩ := hc
 refine ⟨[.pointer (some ⟨0, 0, some 0⟩), .string nu, .bool mi], _, 2, rho2 a y, wrR (wrV (bz s) w f cr dr fl fm (zc d k) (bz nu) mi), sub_F2 (jav.1 h1).plain hm hy, fun ι => by simp [ren, ren1, rho2], jag (by kernel_rfl), fun v hv j hj => ?_, rfl,
  w_64 s nb w dg sc sg k cap dr f cr fl fm nu mi d h1 h2 h3 h4 h5 h6 (R := fun v => v = wrR (wrV (bz s) w f cr dr fl fm (zc d k) (bz nu) mi)) rfl, h _ _ rfl rfl⟩
 simp at hv
 rcases hv with rfl | rfl | rfl
 ·have : j = 0 := by simpa [ids] using hj
  omega
 ·simp [ids] at hj
 ·simp [ids] at hj
def G37 : Env := Env.nil.add 248 (sp1 s28)
theorem ok_G37 : jax Tryz.prog G37 := jaj jam ok28
end Go.Px
end
noncomputable section
namespace Go.Px
open Go Go.Ab Go.Proofs Go.Shelf
theorem jgd {ze : Bool} {fm : Int} : ∀ (rs : List Int) (ds : List Int) (a : Int), okR rs → 0 ≤ a → (decide (fm > 0) || !ze) = true →
  enGo ze fm rs ds a = jdt (rs.map rmk) ds a ∨ (enGo ze fm rs ds a = -1 ∧ 0 ∉ rs ∧ ∀ c ∈ ds.take (cn1 rs).toNat, c = 48)
 | [], ds, a, _, _, _ => .inr ⟨rfl, by simp, by simp [cn1]⟩
 | r :: rs, ds, a, hok, ha, hz => by
  have hok' : okR rs := fun x hx => hok x (List.mem_cons_of_mem _ hx)
  have h0 := jis rs
  rw [enGo, List.map_cons, jdt]
  rcases jcn (hok r List.mem_cons_self) with rfl | rfl | rfl | rfl | rfl | rfl
  ·exact .inl rfl
  ·show (bif ds.headD 0 != 48 then a else enGo ze fm rs ds.tail (a + 1)) = (bif ds.headD 0 != 48 then a else jdt (rs.map rmk) ds.tail (a + 1)) ∨ ((bif ds.headD 0 != 48 then a else enGo ze fm rs ds.tail (a + 1)) = -1 ∧ _ ∧ ∀ c ∈ ds.take (1 + cn1 rs).toNat, c = 48)
   cases hd : ds.headD 0 != 48 with
   | true => exact .inl rfl
   | false =>
    simp only [cond_false]
    rcases jgd rs ds.tail (a + 1) hok' (by omega) hz with h | ⟨h1, h2, h3⟩
    ·exact .inl h
    ·refine .inr ⟨h1, by simpa using h2, fun c hc => ?_⟩
     have e : (1 + cn1 rs).toNat = (cn1 rs).toNat + 1 := by omega
     rw [e] at hc
     cases ds with
     | nil => simp at hc
     | cons x xs =>
      rw [List.take_succ_cons] at hc
      rcases List.mem_cons.1 hc with rfl | hc
      ·simpa using hd
      ·exact h3 c hc
  ·show (bif decide (fm > 0) || !ze then a else enGo ze fm rs ds a) = a ∨ _
   rw [hz]
   exact .inl rfl
  ·rcases jgd rs ds (a + 1) hok' (by omega) hz with h | ⟨h1, h2, h3⟩
   ·exact .inl h
   ·exact .inr ⟨h1, by simpa using h2, by simpa [cn1] using h3⟩
  ·rcases jgd rs ds (a + 1) hok' (by omega) hz with h | ⟨h1, h2, h3⟩
   ·exact .inl h
   ·exact .inr ⟨h1, by simpa using h2, by simpa [cn1] using h3⟩
  ·rcases jgd rs ds (a + 1) hok' (by omega) hz with h | ⟨h1, h2, h3⟩
   ·exact .inl h
   ·exact .inr ⟨h1, by simpa using h2, by simpa [cn1] using h3⟩
theorem jfe {fm : Int} (hf : decide (fm > 0) = false) : ∀ (rs : List Int) (ds : List Int) (a : Int), okR rs → 0 ∉ rs → (∀ c ∈ ds, c = 48) → cn1 rs ≤ ds.length → enGo true fm rs ds a = -1
 | [], _, _, _, _, _, _ => rfl
 | r :: rs, ds, a, hok, hr, hd, hl => by
  have hok' : okR rs := fun x hx => hok x (List.mem_cons_of_mem _ hx)
  have hr' : 0 ∉ rs := fun h => hr (List.mem_cons_of_mem _ h)
  rw [cn1] at hl
  have h0 := jis rs
  rw [enGo]
  rcases jcn (hok r List.mem_cons_self) with rfl | rfl | rfl | rfl | rfl | rfl
  ·exact absurd List.mem_cons_self hr
  ·have hl : 1 + cn1 rs ≤ ds.length := hl
   cases ds with
   | nil => simp at hl; omega
   | cons x xs =>
    have : x = 48 := hd x List.mem_cons_self
    subst this
    exact jfe hf rs xs (a + 1) hok' hr' (fun c hc => hd c (List.mem_cons_of_mem _ hc)) (by simp at hl; omega)
  ·show (bif decide (fm > 0) || !true then a else enGo true fm rs ds a) = -1
   rw [hf]
   exact jfe hf rs ds a hok' hr' hd (by simpa using hl)
  ·exact jfe hf rs ds (a + 1) hok' hr' hd (by simpa using hl)
  ·exact jfe hf rs ds (a + 1) hok' hr' hd (by simpa using hl)
  ·exact jfe hf rs ds (a + 1) hok' hr' hd (by simpa using hl)
theorem jjh : ∀ (rs : List Int), okR rs → (∀ bh pt dg, (ldGo (rs.map rmk) false bh pt dg).1 = true → enOn rs = hasZ (rs.map rmk) 99)
 | [], _, _, _, _, _ => rfl
 | r :: rs, hok, bh, pt, dg, h => by
  have hok' : okR rs := fun x hx => hok x (List.mem_cons_of_mem _ hx)
  rw [List.map_cons, ldGo] at h
  rw [enOn, List.map_cons, jfr]
  rcases jcn (hok r List.mem_cons_self) with rfl | rfl | rfl | rfl | rfl | rfl
  ·show false = (false || hasZ (rs.map rmk) 99)
   rw [Bool.false_or]
   cases hq : hasZ (rs.map rmk) 99 with
   | false => rfl
   | true =>
    have h : (ldGo (rs.map rmk) true bh pt (dg + 1)).1 = true := h
    rw [jf7 _ _ _ _ (jbf.1 hq)] at h
    cases h
  ·rfl
  ·exact (jjh rs hok' _ _ _ h).trans (Bool.false_or _).symm
  ·exact (jjh rs hok' _ _ _ h).trans (Bool.false_or _).symm
  ·exact (jjh rs hok' _ _ _ h).trans (Bool.false_or _).symm
  ·exact (jjh rs hok' _ _ _ h).trans (Bool.false_or _).symm
theorem cdg_pd : ∀ (rs : List Int), okR rs → cdg rs = pdGo (rs.map rmk)
 | [], _ => rfl
 | r :: rs, hok => by
  have hok' : okR rs := fun x hx => hok x (List.mem_cons_of_mem _ hx)
  rw [cdg, List.map_cons, pdGo, cdg_pd rs hok']
  rcases jcn (hok r List.mem_cons_self) with rfl | rfl | rfl | rfl | rfl | rfl <;> rfl
theorem jfg : ∀ (rs : List Int), 0 ∉ rs → cn1 rs = cdg rs
 | [], _ => rfl
 | r :: rs, h => by
  have h1 : r ≠ 0 := fun e => h (by rw [e]; exact List.mem_cons_self)
  rw [cn1, cdg, jfg rs fun q => h (List.mem_cons_of_mem _ q), jad h1, Bool.false_or]
  by_cases e : r = 1
  ·subst e; rfl
  ·rw [jad e]
   have : (r == 1) = false := by simpa using e
   rw [this]
theorem has_100 : ∀ (rs : List Int), okR rs → hasZ (rs.map rmk) 100 = decide (0 ∈ rs)
 | [], _ => rfl
 | r :: rs, hok => by
  have hok' : okR rs := fun x hx => hok x (List.mem_cons_of_mem _ hx)
  rw [List.map_cons, jfr, has_100 rs hok']
  rcases jcn (hok r List.mem_cons_self) with rfl | rfl | rfl | rfl | rfl | rfl <;> simp [rmk]
theorem jht : ∀ (a : List Int) (fm bh pt : Bool) (dg : Int), (ldGo (a ++ [115, 115]) fm bh pt dg).1 = (ldGo a fm bh pt dg).1
 | [], _, _, _, _ => rfl
 | m :: r, fm, bh, pt, dg => by
  rw [List.cons_append, ldGo, ldGo]
  cases m == 118
  ·cases m == 100
   ·cases m == 99
    ·exact jht r _ _ _ _
    ·cases fm
     ·exact jht r _ _ _ _
     ·rfl
   ·exact jht r _ _ _ _
  ·exact jht r _ _ _ _
theorem cnt_has {l : List Int} {c : Int} : decide ((cntZ l c : Int) > 0) = hasZ l c := by
 rw [Bool.eq_iff_iff, jae, jbf]
 induction l with
 | nil => simp [cntZ]
 | cons x l ih =>
  rw [jcz]
  by_cases e : x = c
  ·subst e
   simp
   omega
  ·rw [if_neg e, Int.zero_add, ih]
   simp [Ne.symm e]
theorem rep48 : ∀ {l : List Int} {k : Nat}, l.length = k → (l = rep1 48 k ↔ ∀ c ∈ l, c = 48)
 | l, k, h => by
  rw [rep1, List.eq_replicate_iff]
  exact ⟨fun q => q.2, fun q => ⟨h, q⟩⟩
theorem jf2 {l : List Int} (hl : IsB (pS l) ∧ (pS l).length ≤ 32) (h : pN l = true) : okR (rolF (pS l)) ∧ (rolF (pS l)).map rmk = jar (pS l) ∧ cdg (rolF (pS l)) = pD l ∧ enOn (rolF (pS l)) = hasZ (jar (pS l)) 99 ∧
  decide ((cntZ (mkGo (drZ (jal (pS l))) false (jal (pS l))) 100 : Int) > 0) = hasZ (jar (pS l)) 100 ∧ hasZ (jar (pS l)) 100 = decide (0 ∈ rolF (pS l)) ∧ (hasZ (jar (pS l)) 99 = true → pW l > 0) := by
 obtain ⟨h1, h2, h3⟩ := jey h
 have hv := jdi h
 have hS : pS l = exZ l := by rw [pS, if_pos hv]
 have hnp := jf4 h
 obtain ⟨_, _, p3, _⟩ := ji9 hl h 0
 have hW : pW l = (pS l).length - cntZ (pS l) 86 := by rw [pW, if_pos hv, hnp.nch, hS]; rfl
 refine ⟨h2, h3, by rw [cdg_pd _ h2, h3, p3], ?_, ?_, by rw [← h3, has_100 _ h2], fun h9 => ?_⟩
 ·have hld := hnp.ld
  rw [← hS] at hld
  unfold jc2 at hld
  have hL : (ldGo (mkGo (drZ (jal (pS l))) false (jal (pS l))) false false false 0).1 = true := by
   revert hld
   cases hasZ (jal (pS l)) 90 && hasZ (jal (pS l)) 42
   ·cases (hasZ (jal (pS l)) 90 || hasZ (jal (pS l)) 42) && drZ (jal (pS l)) != 0
    ·intro q
     have q : ((ldGo (mkGo (drZ (jal (pS l))) false (jal (pS l))) false false false 0).1 && _) = true := q
     exact (Bool.and_eq_true_iff.1 q).1
    ·intro q; cases q
   ·intro q; cases q
  have hL2 : (ldGo (jar (pS l)) false false false 0).1 = true := by
   unfold jar
   split
   ·rw [jht]; exact hL
   ·rw [List.append_nil]; exact hL
  rw [← h3] at hL2 ⊢
  exact jjh _ h2 _ _ _ hL2
 ·rw [cnt_has, jar]
  have : ∀ a : List Int, hasZ (a ++ (if crZ (pS l) = true then [115, 115] else [])) 100 = hasZ a 100 := fun a => by
   split <;> simp [hasZ]
  rw [this]
 ·have hm := jfq (pS l)
  have : 0 < nv (jar (pS l)) := by
   have := jbf.1 h9
   unfold nv
   exact List.length_pos_of_mem (List.mem_filter.2 ⟨this, by decide⟩)
  omega
theorem dig_zero {n : Int} {k : Nat} (hn : (n.natAbs : Int) < tenZ k) : (∀ c ∈ digZ n.natAbs k, c = 48) ↔ n = 0 := by
 have h1 := jeu k n.natAbs
 have h2 := all48 h1
 have h3 := dval_dig k n.natAbs (by omega)
 rw [Int.emod_eq_of_lt (by omega) hn] at h3
 rw [h3] at h2
 have : (∀ c ∈ digZ n.natAbs k, c = 48) ↔ (∀ c ∈ digZ n.natAbs k, hasZ [48] c = true) :=
  ⟨fun q c hc => by rw [q c hc]; rfl, fun q c hc => by have := jbf.1 (q c hc); simpa using this⟩
 rw [this, h2]
 omega
theorem en_law {l : List Int} (hl : IsB (pS l) ∧ (pS l).length ≤ 32) (h : pN l = true) {n : Int} (hn : (n.natAbs : Int) < tenZ (pD l).toNat) :
  enV (digZ n.natAbs (pD l).toNat) (cntZ (mkGo (drZ (jal (pS l))) false (jal (pS l))) 100) (rolF (pS l)) = (bif fdBl (pS l) (pW l) (pD l).toNat n then -1 else fdLe (pS l) (pW l) (pD l).toNat n) ∧
  (fdBl (pS l) (pW l) (pD l).toNat n = true → fdLe (pS l) (pW l) (pD l).toNat n = pW l) := by
 obtain ⟨f1, f2, f3, f4, f5, f6, f7⟩ := jf2 hl h
 have hz := dig_zero hn
 have hlen := je4 (pD l).toNat n.natAbs
 have hp := jho h
 have hze : (jct (digZ n.natAbs (pD l).toNat) [48]).isEmpty = decide (n = 0) := by
  rw [Bool.eq_iff_iff, List.isEmpty_iff, trim_nil, jae, ← hz]
  exact ⟨fun q c hc => by have := jbf.1 (q c hc); simpa using this, fun q c hc => by rw [q c hc]; rfl⟩
 rw [enV, f4, hze, fdBl, fdLe, endZ]
 have hrep : decide (digZ n.natAbs (pD l).toNat = rep1 48 (pD l).toNat) = decide (n = 0) := by
  rw [Bool.eq_iff_iff, jae, jae, rep48 hlen, hz]
 rw [hrep]
 generalize hds : digZ n.natAbs (pD l).toNat = ds at *
 cases h9 : hasZ (jar (pS l)) 99 with
 | false => exact ⟨rfl, fun q => by cases q⟩
 | true =>
  have hW := f7 h9
  have e0 : (n == 0) = decide (n = 0) := by rw [Bool.eq_iff_iff]; simp
  rw [e0]
  simp only [Bool.not_true, cond_false, cond_true]
  cases hq : (!hasZ (jar (pS l)) 100 && decide (n = 0)) with
  | true =>
   obtain ⟨q1, q2⟩ := Bool.and_eq_true_iff.1 hq
   rw [q1, q2]
   have q0 : hasZ (jar (pS l)) 100 = false := by simpa using q1
   rw [q0] at f5 f6
   have h0 : 0 ∉ rolF (pS l) := jac f6.symm
   have hcn := jfg _ h0
   rw [jfe f5 _ _ _ f1 h0 (hz.2 (jab q2)) (by omega)]
   simp [hW]
  | false =>
   have hst : (decide ((cntZ (mkGo (drZ (jal (pS l))) false (jal (pS l))) 100 : Int) > 0) || !decide (n = 0)) = true := by
    rw [f5]
    cases q1 : hasZ (jar (pS l)) 100 with
    | true => rfl
    | false =>
     rw [q1] at hq
     have : decide (n = 0) = false := by simpa using hq
     rw [this]
     rfl
   have hB : (decide ((bif false then pW l else jdt (jar (pS l)) ds 0) > 0) && ((bif false then pW l else jdt (jar (pS l)) ds 0) == pW l && (decide (n = 0) && !hasZ (jar (pS l)) 100))) = false := by
    rw [Bool.and_comm (decide (n = 0)), hq, Bool.and_false, Bool.and_false]
   rw [hB]
   refine ⟨?_, fun q => by cases q⟩
   rcases jgd (rolF (pS l)) ds 0 f1 (by omega) hst with q | ⟨q1, q2, q3⟩
   ·rw [q, f2]
    rfl
   ·exfalso
    have hcn := jfg _ q2
    rw [f6, jad q2] at f5
    rw [f5, Bool.false_or] at hst
    have hn0 : n ≠ 0 := by simpa using hst
    refine hn0 (hz.1 fun c hc => q3 c ?_)
    rw [hcn, f3, List.take_of_length_le (by omega)]
    exact hc
theorem ro_cases {b pre r : List Int} {c d f : Int} (h : DrP b d f) (hb : b = pre ++ c :: r) :
  ((pre.length : Int) = f ∧ c = d ∧ d ≠ 0 ∧ (roP d f c pre.length = 4 ∨ roP d f c pre.length = 5)) ∨
  ((pre.length : Int) ≠ f ∧ (roP d f c pre.length = 0 ∨ roP d f c pre.length = 1 ∨ roP d f c pre.length = 2 ∨ roP d f c pre.length = 3 ∨
   (c ≠ d ∧ (roP d f c pre.length = 4 ∧ (c = 83 ∨ c = 43 ∨ c = 45) ∨ roP d f c pre.length = 5 ∧ c = 36)))) := by
 have he := h.eq hb
 have hc0 := h.zero c (by rw [hb]; simp)
 by_cases hf : (pre.length : Int) = f
 ·obtain ⟨h1, h2⟩ := he.2.1 hf
  have hd : d ≠ 0 := by rw [← h1]; exact hc0
  refine .inl ⟨hf, h1, hd, ?_⟩
  have hm : d = 36 ∨ d = 83 ∨ d = 43 ∨ d = 45 := by
   rcases h.at_ with ⟨q, _⟩ | ⟨_, _, _, q⟩
   ·exact absurd q hd
   ·simpa using q
  have hne : ((pre.length : Int) != f) = false := by simpa using hf
  unfold roP
  rw [hne, h1]
  rcases hm with rfl | rfl | rfl | rfl <;> simp [hasZ]
 ·refine .inr ⟨hf, ?_⟩
  have hne : ((pre.length : Int) != f) = true := by simpa using hf
  unfold roP
  rw [hne, Bool.and_true]
  cases q1 : hasZ [57, 89, 84, 73, 82] c with
  | true => exact .inl rfl
  | false =>
   cases q2 : (c == 90 || (c == 42 || c == d)) with
   | true => exact .inr (.inl rfl)
   | false =>
    have hcd : c ≠ d := fun e => by rw [e] at q2; simp at q2
    cases q3 : c == 86 with
    | true => exact .inr (.inr (.inl rfl))
    | false =>
     cases q4 : c == 36 with
     | true => exact .inr (.inr (.inr (.inr ⟨hcd, .inr ⟨rfl, by simpa using q4⟩⟩)))
     | false =>
      cases q5 : (c == 83 || (c == 43 || c == 45)) with
      | true => exact .inr (.inr (.inr (.inr ⟨hcd, .inl ⟨rfl, by simpa using q5⟩⟩)))
      | false => exact .inr (.inr (.inr (.inl rfl)))
theorem sg_eq {c : Int} {m : Bool} (h : c = 83 ∨ c = 43 ∨ c = 45) : sgC c m = sgZ c m := by
 rcases h with rfl | rfl | rfl <;> cases m <;> rfl
theorem wr_body {b t : List Int} {d f n ld fl dr' : Int} {cr mi : Bool} (h : DrP b d f) (hdr : d ≠ 0 → dr' = d ∧ fl = 32) (hdr0 : d = 0 → dr' = 0) (hn : n = b.length + (bif cr then 2 else 0)) :
  ∀ (r pre ds : List Int) (a : Int) (X : List Int → List Int → Int → List Int) (rs' ms' : List Int), b = pre ++ r →
   (∀ ds a, wrGo f cr n mi ld fl rs' t ds b.length a = fdGo ld fl dr' mi ms' t ds a) →
   wrGo f cr n mi ld fl (jbd d f r pre.length ++ rs') (r ++ t) ds pre.length a = fdGo ld fl dr' mi ((jbd d f r pre.length).map rmk ++ ms') (r ++ t) ds a
 | [], pre, ds, a, X, rs', ms', hb, ht => by
  rw [List.append_nil] at hb
  rw [← hb]
  exact ht ds a
 | c :: r, pre, ds, a, X, rs', ms', hb, ht => by
  have ih := fun ds a => wr_body h hdr hdr0 hn r (pre ++ [c]) ds a X rs' ms' (by rw [hb]; simp) ht
  have e : ((pre ++ [c]).length : Int) = pre.length + 1 := by simp
  rw [e] at ih
  have hcr : (cr && decide ((pre.length : Int) ≥ n - 2)) = false := by
   cases cr with
   | false => rfl
   | true =>
    have : (b.length : Int) = pre.length + (r.length + 1) := by rw [hb]; simp
    rw [Bool.true_and, decide_eq_false_iff_not]
    simp only [cond_true] at hn
    omega
  rw [jbd, List.cons_append, List.cons_append, List.map_cons, List.cons_append, wrGo, fdGo]
  simp only [List.headD_cons, List.tail_cons]
  rcases ro_cases h hb with ⟨h1, h2, h3, h4⟩ | ⟨h1, h4⟩
  ·obtain ⟨g1, g2⟩ := hdr h3
   have hf : ((pre.length : Int) == f) = true := by simpa using h1
   have e1 : wrC f cr n mi ld fl (roP d f c pre.length) c (ds.headD 0) pre.length a = 32 := by rw [wrC, hf, cond_true, g2]
   have e2 : wrT f cr n (roP d f c pre.length) pre.length = false := by rw [wrT, hf]; rfl
   have e3 : ssZ c dr' mi = 32 := by
    rw [ssZ, g1, h2]
    have : (d != 0 && d == d) = true := by simp [h3]
    rw [this]; rfl
   rw [e1, e2, e3, ih, ih]
   rcases h4 with h4 | h4 <;> rw [h4] <;> rfl
  ·have hf : ((pre.length : Int) == f) = false := by simpa using h1
   rcases h4 with h4 | h4 | h4 | h4 | ⟨h5, h4⟩
   ·rw [h4]
    have e1 : wrC f cr n mi ld fl 0 c (ds.headD 0) pre.length a = fmZ c (ds.headD 0) mi := by rw [wrC, hf, hcr]; rfl
    have e2 : wrT f cr n 0 pre.length = true := by rw [wrT, hf, hcr]; rfl
    rw [e1, e2, ih, ih]
    rfl
   ·rw [h4]
    have e1 : wrC f cr n mi ld fl 1 c (ds.headD 0) pre.length a = bif decide (a < ld) then fl else ds.headD 0 := by rw [wrC, hf, hcr]; rfl
    have e2 : wrT f cr n 1 pre.length = true := by rw [wrT, hf, hcr]; rfl
    rw [e1, e2, ih, ih]
    rfl
   ·rw [h4, ih]
    rfl
   ·rw [h4]
    have e1 : wrC f cr n mi ld fl 3 c (ds.headD 0) pre.length a = bif c == 66 then 32 else bif decide (a < ld) then fl else c := by rw [wrC, hf, hcr]; rfl
    have e2 : wrT f cr n 3 pre.length = false := by rw [wrT, hf, hcr]; rfl
    rw [e1, e2, ih, ih]
    rfl
   ·have hss : ssZ c dr' mi = bif hasZ [67, 82, 68, 66] c then (bif mi then c else 32) else sgZ c mi := by
     have : (dr' != 0 && c == dr') = false := by
      by_cases hd : d = 0
      ·rw [hdr0 hd]; rfl
      ·rw [(hdr hd).1]
       have : (c == d) = false := by simpa using h5
       rw [this, Bool.and_false]
     rw [ssZ, this]
     rfl
    rcases h4 with ⟨h4, h6⟩ | ⟨h4, h6⟩
    ·rw [h4]
     have e1 : wrC f cr n mi ld fl 4 c (ds.headD 0) pre.length a = sgC c mi := by rw [wrC, hf, hcr]; rfl
     have e2 : wrT f cr n 4 pre.length = false := by rw [wrT, hf, hcr]; rfl
     have e3 : ssZ c dr' mi = sgC c mi := by
      rw [hss, sg_eq h6]
      rcases h6 with rfl | rfl | rfl <;> rfl
     rw [e1, e2, ih, ih, ← e3]
     rfl
    ·rw [h4]
     have e1 : wrC f cr n mi ld fl 5 c (ds.headD 0) pre.length a = c := by rw [wrC, hf, hcr]; rfl
     have e2 : wrT f cr n 5 pre.length = false := by rw [wrT, hf, hcr]; rfl
     have e3 : ssZ c dr' mi = c := by rw [hss, h6]; rfl
     rw [e1, e2, ih, ih]
     show c :: _ = (ssZ c dr' mi :: _)
     rw [e3]
     rfl
theorem mk_99a {d : Int} (hd : d ≠ 0) (h4 : d ∈ [36, 83, 43, (45 : Int)]) : ∀ r : List Int, d ∈ r → 99 ∈ mkGo d true r
 | c :: r, h => by
  rw [mkGo]
  have hs : ∀ y : Bool, mkGo d (true || y) r = mkGo d true r := fun y => by rw [Bool.true_or]
  rw [hs]
  rcases List.mem_cons.1 h with e | h
  ·subst e
   have : mk1 d true d = 99 := by
    have : d = 36 ∨ d = 83 ∨ d = 43 ∨ d = 45 := by simpa using h4
    rcases this with rfl | rfl | rfl | rfl <;> rfl
   rw [this]
   exact List.mem_cons_self
  ·exact List.mem_cons_of_mem _ (mk_99a hd h4 r h)
theorem mk_99 {d : Int} (hd : d ≠ 0) (h4 : d ∈ [36, 83, 43, (45 : Int)]) : ∀ (r : List Int) (seen : Bool), ¬ (cntZ r d : Int) < 2 → 99 ∈ mkGo d seen r
 | [], _, h => by simp [cntZ] at h
 | c :: r, seen, h => by
  rw [mkGo]
  rw [jcz] at h
  by_cases e : c = d
  ·subst e
   rw [if_pos rfl] at h
   have hs : (seen || (c != 0 && c == c)) = true := by
    have : (c != 0) = true := by simpa using hd
    rw [this]; simp
   rw [hs]
   refine List.mem_cons_of_mem _ (mk_99a hd h4 r ?_)
   have : (cntZ r c : Int) > 0 := by omega
   exact jbf.1 (cnt_has.symm.trans (jaa this))
  ·rw [if_neg e] at h
   exact List.mem_cons_of_mem _ (mk_99 hd h4 r _ (by omega))
theorem wr_2 (f n : Int) (mi : Bool) (ld fl x y : Int) (ds : List Int) (i a : Int) : ∃ D, wrGo f true n mi ld fl [4, 4] [x, y] ds i a = [wrC f true n mi ld fl 4 x (ds.headD 0) i a, wrC f true n mi ld fl 4 y D (i + 1) (a + 1)] := ⟨_, rfl⟩
theorem fd_2 (le fl dr : Int) (mi : Bool) (x y : Int) (ds : List Int) (a : Int) : fdGo le fl dr mi [115, 115] [x, y] ds a = [ssZ x dr mi, ssZ y dr mi] := rfl
theorem rep_one (c : Int) : ∀ k : Nat, repZ [c] k = rep1 c k
 | 0 => rfl
 | k + 1 => by rw [repZ, rep_one c k]; rfl
theorem dr_facts {s : List Int} (h : NumP s) : (drZ (jal s) ≠ 0 → fdDr s = drZ (jal s) ∧ fdFl s = 32) ∧ (drZ (jal s) = 0 → fdDr s = 0) := by
 have e := dr_body s
 constructor
 ·intro hd
  have hld := h.ld
  unfold jc2 at hld
  have h1 : ((hasZ (jal s) 90 || hasZ (jal s) 42) && drZ (jal s) != 0) = false := by
   revert hld
   cases hasZ (jal s) 90 && hasZ (jal s) 42
   ·cases (hasZ (jal s) 90 || hasZ (jal s) 42) && drZ (jal s) != 0
    ·exact fun _ => rfl
    ·intro q; cases q
   ·intro q; cases q
  have hdn : (drZ (jal s) != 0) = true := by simpa using hd
  rw [hdn, Bool.and_true, Bool.or_eq_false_iff] at h1
  obtain ⟨t, ht, hc⟩ := jdv s
  have ha : ∀ c : Int, (c = 90 ∨ c = 42) → hasZ (jal s) c = false → hasZ s c = false := fun c h0 h1 => by
   have : hasZ s c = hasZ (jal s ++ t) c := congrArg (hasZ · c) ht
   rw [this]
   unfold hasZ at h1 ⊢
   rw [List.any_append, h1, Bool.false_or]
   rcases hc with ⟨rfl, _⟩ | ⟨rfl | rfl, _⟩ <;> rcases h0 with rfl | rfl <;> rfl
  have a1 := ha 90 (.inl rfl) h1.1
  have a2 := ha 42 (.inr rfl) h1.2
  obtain ⟨f1, f2⟩ := (je3 (jal s) (jal s)).resolve_left hd
  obtain ⟨f3, f4⟩ := jfc f1
  have h9 : hasZ (jar s) 99 = true := jbf.2 (by
   unfold jar
   exact List.mem_append_left _ (mk_99 hd f3 _ _ f4))
  rw [fdDr, fdFl, a1, a2, h9, e]
  exact ⟨rfl, rfl⟩
 ·intro hd
  rw [fdDr, e, hd]
  cases !hasZ s 90 && (!hasZ s 42 && hasZ (jar s) 99) <;> rfl
theorem fdLe_nn {sp : List Int} {w : Int} {k : Nat} {n : Int} (hw : 0 ≤ w) : 0 ≤ fdLe sp w k n := by
 rw [fdLe, endZ]
 have := (jip (jar sp) (digZ n.natAbs k) 0).1
 cases !hasZ (jar sp) 99
 ·cases !hasZ (jar sp) 100 && decide (digZ n.natAbs k = rep1 48 k)
  ·exact this
  ·exact hw
 ·exact Int.le_refl 0
theorem out_law {l : List Int} (h : pN l = true) (ds : List Int) (ld : Int) (mi : Bool) :
  wrGo (nD (jal (pS l))).2.2 (crZ (pS l)) (pS l).length mi ld (fdFl (pS l)) (rolF (pS l)) (pS l) ds 0 0 = fdGo ld (fdFl (pS l)) (fdDr (pS l)) mi (jar (pS l)) (pS l) ds 0 := by
 obtain ⟨h1, h2, h3⟩ := jey h
 have hv := jdi h
 have hS : pS l = exZ l := by rw [pS, if_pos hv]
 have hnp : NumP (pS l) := by rw [hS]; exact jf4 h
 obtain ⟨d1, d2⟩ := dr_facts hnp
 obtain ⟨t, ht, hc⟩ := jdv (pS l)
 have hP := h1.drP
 have hfl : (nD (jal (pS l))).2.2 < (jal (pS l)).length := by
  rcases hP.at_ with ⟨_, q⟩ | ⟨_, q1, q2, _⟩
  ·rw [q]; omega
  ·rw [q2]; exact (jeq _ q1).2
 have hdr' : fdDr (pS l) ≠ 67 ∧ fdDr (pS l) ≠ 82 ∧ fdDr (pS l) ≠ 68 ∧ fdDr (pS l) ≠ 66 := by
  by_cases q : drZ (jal (pS l)) = 0
  ·rw [d2 q]; decide
  ·rw [(d1 q).1]
   rcases hP.at_ with ⟨q1, _⟩ | ⟨_, _, _, q4⟩
   ·exact absurd q1 q
   ·have : drZ (jal (pS l)) = 36 ∨ drZ (jal (pS l)) = 83 ∨ drZ (jal (pS l)) = 43 ∨ drZ (jal (pS l)) = 45 := by simpa using q4
    omega
 have hlen : ((pS l).length : Int) = (jal (pS l)).length + (bif crZ (pS l) then 2 else 0) := by
  have := congrArg List.length ht
  rw [List.length_append] at this
  rcases hc with ⟨rfl, hc⟩ | ⟨rfl | rfl, hc⟩ <;> rw [hc] <;> simp at this ⊢ <;> omega
 have hrol : rolF (pS l) = jbd (drZ (jal (pS l))) (nD (jal (pS l))).2.2 (jal (pS l)) 0 ++ (bif crZ (pS l) then [4, 4] else []) := by
  rw [rolF, nR, h1.d]
 have hmk : jar (pS l) = (jbd (drZ (jal (pS l))) (nD (jal (pS l))).2.2 (jal (pS l)) 0).map rmk ++ (bif crZ (pS l) then [115, 115] else []) := by
  rw [← h3, hrol, List.map_append]
  congr 1
  cases crZ (pS l) <;> rfl
 have key := wr_body (t := t) (n := (pS l).length) (ld := ld) (mi := mi) hP d1 d2 hlen (jal (pS l)) [] ds 0 (fun _ _ _ => []) (bif crZ (pS l) then [4, 4] else []) (bif crZ (pS l) then [115, 115] else []) rfl
 have key := key fun ds a => by
  rcases hc with ⟨rfl, hc⟩ | ⟨ht', hc⟩
  ·rw [hc]; rfl
  ·rw [hc] at hlen
   simp only [cond_true] at hlen
   have f1 : (((jal (pS l)).length : Int) == (nD (jal (pS l))).2.2) = false := by simp; omega
   have f2 : (((jal (pS l)).length : Int) + 1 == (nD (jal (pS l))).2.2) = false := by simp; omega
   have g1 : (true && decide (((jal (pS l)).length : Int) ≥ ((pS l).length : Int) - 2)) = true := by simp; omega
   have g2 : (true && decide (((jal (pS l)).length : Int) + 1 ≥ ((pS l).length : Int) - 2)) = true := by simp; omega
   have ss : ∀ c : Int, c = 67 ∨ c = 82 ∨ c = 68 ∨ c = 66 → ssZ c (fdDr (pS l)) mi = bif !mi then 32 else c := fun c hcc => by
    have : (fdDr (pS l) != 0 && c == fdDr (pS l)) = false := by
     have : (c == fdDr (pS l)) = false := by simp; omega
     rw [this, Bool.and_false]
    rw [ssZ, this]
    have h5 : hasZ [67, 82, 68, 66] c = true := by rcases hcc with rfl | rfl | rfl | rfl <;> rfl
    rw [h5]
    cases mi <;> rfl
   have wc : ∀ (r c d a : Int) (i : Int), (i == (nD (jal (pS l))).2.2) = false → (true && decide (i ≥ ((pS l).length : Int) - 2)) = true → wrC (nD (jal (pS l))).2.2 true (pS l).length mi ld (fdFl (pS l)) r c d i a = bif !mi then 32 else c := fun r c d a i q1 q2 => by
    rw [wrC, q1, q2]; rfl
   rw [hc]
   simp only [cond_true]
   rcases ht' with rfl | rfl
   ·obtain ⟨D, e⟩ := wr_2 (nD (jal (pS l))).2.2 (pS l).length mi ld (fdFl (pS l)) 67 82 ds (jal (pS l)).length a
    rw [e, fd_2, wc _ _ _ _ _ f1 g1, wc _ _ _ _ _ f2 g2, ss 67 (by decide), ss 82 (by decide)]
   ·obtain ⟨D, e⟩ := wr_2 (nD (jal (pS l))).2.2 (pS l).length mi ld (fdFl (pS l)) 68 66 ds (jal (pS l)).length a
    rw [e, fd_2, wc _ _ _ _ _ f1 g1, wc _ _ _ _ _ f2 g2, ss 68 (by decide), ss 66 (by decide)]
 rw [hrol, hmk]
 have e0 : ((([] : List Int).length : Nat) : Int) = 0 := rfl
 rw [e0, ← ht] at key
 exact key
theorem wr_law {l : List Int} (hl : IsB (pS l) ∧ (pS l).length ≤ 32) (h : pN l = true) {n : Int} (hn : (n.natAbs : Int) < tenZ (pD l).toNat) :
  wrV (pS l) (pW l) (nD (jal (pS l))).2.2 (crZ (pS l)) (drZ (jal (pS l))) (fdFl (pS l)) (cntZ (mkGo (drZ (jal (pS l))) false (jal (pS l))) 100) (rolF (pS l)) (digZ n.natAbs (pD l).toNat) (decide (n < 0)) =
   (jdd (pS l) (pW l) (pD l).toNat n, fdLe (pS l) (pW l) (pD l).toNat n) := by
 obtain ⟨e1, e2⟩ := en_law hl h hn
 obtain ⟨_, _, _, p4, _, p6⟩ := ji9 hl h n
 have hv := jdi h
 have hS : pS l = exZ l := by rw [pS, if_pos hv]
 have hnp : NumP (pS l) := by rw [hS]; exact jf4 h
 obtain ⟨d1, d2⟩ := dr_facts hnp
 have hP := (jey h).1.drP
 rw [wrV, e1, jdd]
 cases hb : fdBl (pS l) (pW l) (pD l).toNat n with
 | true =>
  rw [e2 hb, ← rep_one]
  rfl
 | false =>
  simp only [cond_false]
  have h0 : decide (fdLe (pS l) (pW l) (pD l).toNat n < 0) = false := jad (by have := @fdLe_nn (pS l) (pW l) (pD l).toNat n p4; omega)
  rw [h0, cond_false, out_law h]
  rw [fdOK, hb, Bool.false_or] at p6
  by_cases q : drZ (jal (pS l)) = 0
  ·have q1 := d2 q
   have hO : jeo (pS l) (pW l) (pD l).toNat n = fdGo (fdLe (pS l) (pW l) (pD l).toNat n) (fdFl (pS l)) 0 (decide (n < 0)) (jar (pS l)) (pS l) (digZ n.natAbs (pD l).toNat) 0 := by rw [jeo, q1]
   rw [q, q1, hO]
   have z : ((0 : Int) != 0) = false := rfl
   rw [z, Bool.false_and]
   rfl
  ·have q1 := (d1 q).1
   rw [q1] at p6 ⊢
   have hq : (drZ (jal (pS l)) != 0) = true := by simpa using q
   have hq2 : (drZ (jal (pS l)) == 0) = false := by simpa using q
   rw [hq2, Bool.false_or, jae] at p6
   have h1 : decide (fdLe (pS l) (pW l) (pD l).toNat n > 0) = true := jaa (by omega)
   rw [hq, h1]
   have hs : (bif drZ (jal (pS l)) == 36 then 36 else sgC (drZ (jal (pS l))) (decide (n < 0))) = sgZ (drZ (jal (pS l))) (decide (n < 0)) := by
    rcases hP.at_ with ⟨z, _⟩ | ⟨_, _, _, q4⟩
    ·exact absurd z q
    ·have : drZ (jal (pS l)) = 36 ∨ drZ (jal (pS l)) = 83 ∨ drZ (jal (pS l)) = 43 ∨ drZ (jal (pS l)) = 45 := by simpa using q4
     rcases this with e | e | e | e <;> rw [e] <;> cases decide (n < 0) <;> rfl
   rw [hs]
   have : jeo (pS l) (pW l) (pD l).toNat n = fdGo (fdLe (pS l) (pW l) (pD l).toNat n) (fdFl (pS l)) (drZ (jal (pS l))) (decide (n < 0)) (jar (pS l)) (pS l) (digZ n.natAbs (pD l).toNat) 0 := by rw [jeo, q1]
   rw [this]
   rfl
end Go.Px
end
noncomputable section
set_option maxHeartbeats 3200000
namespace Go.Px
open Go Go.Ab Go.Proofs Go.Shelf
theorem wr_use {s : ByteArray} (h : pN (bz s) = true) {k cap : Nat} {d : List Value} (hR : jbn d k cap = true) (hz : zc d k = rolF (pS (bz s))) {m : Int} (hm : (m.natAbs : Int) < tenZ (pD (bz s)).toNat) :
  w64C (sz (pS (bz s))) (sz (digZ m.natAbs (pD (bz s)).toNat)) k cap (pW (bz s)) (fdFl (pS (bz s))) d = true ∧
  wrV (bz (sz (pS (bz s)))) (pW (bz s)) (nD (jal (pS (bz s)))).2.2 (crZ (pS (bz s))) (drZ (jal (pS (bz s)))) (fdFl (pS (bz s))) (cntZ (mkGo (drZ (jal (pS (bz s)))) false (jal (pS (bz s)))) 100) (zc d k) (bz (sz (digZ m.natAbs (pD (bz s)).toNat))) (decide (m < 0)) =
   (jdd (pS (bz s)) (pW (bz s)) (pD (bz s)).toNat m, fdLe (pS (bz s)) (pW (bz s)) (pD (bz s)).toNat m) := by
 have hl := jf3 s
 have hr := jav.1 hR
 have hk : k = (pS (bz s)).length := by rw [← rol_len h, ← hz, jbc hr]
 have b1 : bz (sz (pS (bz s))) = pS (bz s) := jc9 hl.1
 have hdd := jeu (pD (bz s)).toNat m.natAbs
 have b2 : bz (sz (digZ m.natAbs (pD (bz s)).toNat)) = digZ m.natAbs (pD (bz s)).toNat := jc9 (jir hdd)
 have z1 : (sz (pS (bz s))).size = (pS (bz s)).length := by rw [← jaq, b1]
 have z2 : (sz (digZ m.natAbs (pD (bz s)).toNat)).size = (pD (bz s)).toNat := by rw [← jaq, b2, je4]
 obtain ⟨f1, _, f3, _⟩ := jf2 hl h
 have hp := jho h
 have hw := ji9 hl h 0
 refine ⟨?_, by rw [b1, b2, hz]; exact wr_law hl h hm⟩
 simp only [w64C, jaf, jae]
 rw [hz, b2, z1, z2, f3]
 refine ⟨hR, ?_, hdd, ⟨by omega, by omega, by omega, by omega, hw.2.2.2.1, by omega⟩, by omega, ?_⟩
 ·simp only [roOK, List.all_eq_true, jae]
  exact fun r hr => by have := f1 r hr; omega
 ·unfold fdFl
  split
  ·exact .inr rfl
  ·exact .inl rfl
theorem unK_dig {c : Int} (h1 : c ≥ 48) (h2 : c ≤ 57) : unK c = false := by
 cases h : unK c with
 | false => rfl
 | true =>
  have := jbf.1 h
  simp only [punchedZ, List.mem_cons, List.not_mem_nil, or_false] at this
  omega
def gsGo : List Int → List Int → List Int
 | [], _ => []
 | r :: rs, cs => bif r == 2 then gsGo rs cs else bif r != 0 && r != 1 then gsGo rs cs.tail else (48 + rdD (cs.headD 0)) :: gsGo rs cs.tail
def V67_0 : ByteArray × ByteArray × Rw × Int × Nat × Nat × Int × Int × List Value → List Value := fun (t, r4, o, aa, k2, cap2, L, i, d) => [.string t, .string r4, o.v 200, .int .i64 aa, .slice (some ⟨1, 0, some 1⟩) k2 cap2, .int .i64 L, .int .i64 i]
def B67_0 : ByteArray × ByteArray × Rw × Int × Nat × Nat × Int × Int × List Value → List (Option Blk) := fun (t, r4, o, aa, k2, cap2, L, i, d) => [some ⟨d, 251, false⟩, o.b]
def S67_0 : LSpecA (ByteArray × ByteArray × Rw × Int × Nat × Nat × Int × Int × List Value) where
 live := [1, 4, 5, 6, 16, 17, 18]
 mid := [1, 200]
 n := 210
 ap := [(.tmp 5, 200)]
 dec vs bs := match vs, bs with | [.string t, .string r4, .slice none 0 0, .int .i64 aa, .slice (some ⟨1, 0, some 1⟩) k2 cap2, .int .i64 L, .int .i64 i], [some ⟨d, 251, false⟩, none] => some (t, r4, .nil, aa, k2, cap2, L, i, d) | [.string t, .string r4, .slice (some ⟨200, 0, some 1⟩) om oc, .int .i64 aa, .slice (some ⟨1, 0, some 1⟩) k2 cap2, .int .i64 L, .int .i64 i], [some ⟨d, 251, false⟩, some ⟨od, 5, true⟩] => some (t, r4, .own od om oc, aa, k2, cap2, L, i, d) | _, _ => none
 pre := fun (t, r4, o, aa, k2, cap2, L, i, d) => o.ok && (jbn d k2 cap2 && decide (0 ≤ i ∧ i ≤ k2 ∧ k2 ≤ 1000 ∧ L = k2 ∧ 0 ≤ aa ∧ aa ≤ i ∧ aa + cN ((zc d k2).drop i.toNat) ≤ t.size ∧ o.z.length ≤ i))
 fin := fun (t, r4, o, aa, k2, cap2, L, i, d) Z => (o.is = false → gsGo ((zc d k2).drop i.toNat) ((bz t).drop aa.toNat) = [] → ∀ a' i', Z (.exit 0) [.string t, .string r4, .slice none 0 0, .int .i64 a', .slice (some ⟨1, 0, some 1⟩) k2 cap2, .int .i64 L, .int .i64 i'] [some ⟨d, 251, false⟩, none]) ∧ (∀ a' i' od' om' oc', jcf od' om' oc' = true → zc od' om' = o.z ++ gsGo ((zc d k2).drop i.toNat) ((bz t).drop aa.toNat) → Z (.exit 0) [.string t, .string r4, .slice (some ⟨200, 0, some 1⟩) om' oc', .int .i64 a', .slice (some ⟨1, 0, some 1⟩) k2 cap2, .int .i64 L, .int .i64 i'] [some ⟨d, 251, false⟩, some ⟨od', 5, true⟩])
def z67_0na (t : ByteArray) (r4 : ByteArray) (k2 : Nat) (cap2 : Nat) (L : Int) (x0 : Option Addr) (x1 : Nat) (x2 : Nat) (x3 : Int) (x4 : Int) : List Value := [S t, S r4, .slice x0 x1 x2, I x3, .slice (some (.mk 1 0 (some 1))) k2 cap2, I L, I x4]
theorem r67_0n (t : ByteArray) (r4 : ByteArray) (aa : Int) (k2 : Nat) (cap2 : Nat) (L : Int) (i : Int) (d : List Value) (jk : Tmps) (R : Exit → List Value → List (Option Blk) → Prop) : (jbr Tryz.prog G37 noL Tryz.f205.ntmps (jbb Tryz.f205 0) (tl S67_0.live (V67_0 (t, r4, .nil, aa, k2, cap2, L, i, d)) jk) (ml S67_0.mid (B67_0 (t, r4, .nil, aa, k2, cap2, L, i, d))) S67_0.n fun e t' m' _ => S67_0.out R e t' m') = ( bif decide (i < L) then bif decide (0 ≤ i ∧ i < (↑k2 : Int)) then bif jbo IntKind.i64 d (0 + i.toNat * 1) then bif jat d (0 + i.toNat * 1) == 2 then bif jau [] d && true && true then R Exit.normal (z67_0na t r4 k2 cap2 L none 0 0 aa (IntKind.wrap .i64 (i + 1))) [some (.mk (rlbL [] d) 251 false), none] else False else bif decide (0 ≤ aa ∧ aa < (t.size : Int)) then bif jat d (0 + i.toNat * 1) != 0 || true then bif jat d (0 + i.toNat * 1) != 0 && jat d (0 + i.toNat * 1) != 1 then bif jau [] d && true && true then R Exit.normal (z67_0na t r4 k2 cap2 L none 0 0 (IntKind.wrap .i64 (aa + 1)) (IntKind.wrap .i64 (i + 1))) [some (.mk (rlbL [] d) 251 false), none] else False else bif decide (jak t aa.toNat ≥ 48) || true then bif decide (jak t aa.toNat ≥ 48) && decide (jak t aa.toNat ≤ 57) then ∀ (cap : Nat) (tail : List Value), jay tail cap 1 1 = true → bif jau [(248, 200)] d && (jau [(248, 200)] (.int .u8 (jak t aa.toNat) :: tail) && true) && true then R Exit.normal (z67_0na t r4 k2 cap2 L (some (.mk 200 0 (some 1))) 1 cap (IntKind.wrap .i64 (aa + 1)) (IntKind.wrap .i64 (i + 1))) [some (.mk (rlbL [(248, 200)] d) 251 false), some (.mk (rlbL [(248, 200)] (.int .u8 (jak t aa.toNat) :: tail)) 5 true)] else False else bif unK (jak t aa.toNat) then ∀ (cap : Nat) (tail : List Value), jay tail cap 1 1 = true → bif jau [(252, 200)] d && (jau [(252, 200)] (.int .u8 (IntKind.wrap .u8 (48 + IntKind.wrap .u8 (unD (jak t aa.toNat)))) :: tail) && true) && true then R Exit.normal (z67_0na t r4 k2 cap2 L (some (.mk 200 0 (some 1))) 1 cap (IntKind.wrap .i64 (aa + 1)) (IntKind.wrap .i64 (i + 1))) [some (.mk (rlbL [(252, 200)] d) 251 false), some (.mk (rlbL [(252, 200)] (.int .u8 (IntKind.wrap .u8 (48 + IntKind.wrap .u8 (unD (jak t aa.toNat)))) :: tail)) 5 true)] else False else ∀ (cap : Nat) (tail : List Value), jay tail cap 1 1 = true → bif jau [(249, 200)] d && (jau [(249, 200)] (.int .u8 48 :: tail) && true) && true then R Exit.normal (z67_0na t r4 k2 cap2 L (some (.mk 200 0 (some 1))) 1 cap (IntKind.wrap .i64 (aa + 1)) (IntKind.wrap .i64 (i + 1))) [some (.mk (rlbL [(249, 200)] d) 251 false), some (.mk (rlbL [(249, 200)] (.int .u8 48 :: tail)) 5 true)] else False else False else False else False else False else False else bif jau [] d && true && true then R (Exit.exit 0) (z67_0na t r4 k2 cap2 L none 0 0 aa i) [some (.mk (rlbL [] d) 251 false), none] else False) := by kernel_rfl
def z67_0oa (t : ByteArray) (r4 : ByteArray) (k2 : Nat) (cap2 : Nat) (L : Int) (x0 : Nat) (x1 : Nat) (x2 : Int) (x3 : Int) : List Value := [S t, S r4, .slice (some (.mk 200 0 (some 1))) x0 x1, I x2, .slice (some (.mk 1 0 (some 1))) k2 cap2, I L, I x3]
theorem r67_0o (t : ByteArray) (r4 : ByteArray) (od : List Value) (om : Nat) (oc : Nat) (aa : Int) (k2 : Nat) (cap2 : Nat) (L : Int) (i : Int) (d : List Value) (jk : Tmps) (R : Exit → List Value → List (Option Blk) → Prop) : (jbr Tryz.prog G37 noL Tryz.f205.ntmps (jbb Tryz.f205 0) (tl S67_0.live (V67_0 (t, r4, (.own od om oc), aa, k2, cap2, L, i, d)) jk) (ml S67_0.mid (B67_0 (t, r4, (.own od om oc), aa, k2, cap2, L, i, d))) S67_0.n fun e t' m' _ => S67_0.out R e t' m') = ( bif decide (i < L) then bif decide (0 ≤ i ∧ i < (↑k2 : Int)) then bif jbo IntKind.i64 d (0 + i.toNat * 1) then bif jat d (0 + i.toNat * 1) == 2 then bif jau [(200, 200)] d && (jau [(200, 200)] od && true) && true then R Exit.normal (z67_0oa t r4 k2 cap2 L om oc aa (IntKind.wrap .i64 (i + 1))) [some (.mk (rlbL [(200, 200)] d) 251 false), some (.mk (rlbL [(200, 200)] od) 5 true)] else False else bif decide (0 ≤ aa ∧ aa < (t.size : Int)) then bif jat d (0 + i.toNat * 1) != 0 || true then bif jat d (0 + i.toNat * 1) != 0 && jat d (0 + i.toNat * 1) != 1 then bif jau [(200, 200)] d && (jau [(200, 200)] od && true) && true then R Exit.normal (z67_0oa t r4 k2 cap2 L om oc (IntKind.wrap .i64 (aa + 1)) (IntKind.wrap .i64 (i + 1))) [some (.mk (rlbL [(200, 200)] d) 251 false), some (.mk (rlbL [(200, 200)] od) 5 true)] else False else bif decide (jak t aa.toNat ≥ 48) || true then bif decide (jak t aa.toNat ≥ 48) && decide (jak t aa.toNat ≤ 57) then bif Nat.beq od.length (oc * 1) && Nat.ble om oc && Nat.ble oc 9223372036854775807 && true && jbu (om + 1) 1 then ∀ (cap : Nat) (tail : List Value), jay tail cap (om + 1) 1 = true → bif jau [(248, 200)] d && (jau [(248, 200)] (List.take (om * 1) od ++ [.int .u8 (jak t aa.toNat)] ++ tail) && true) && true then R Exit.normal (z67_0oa t r4 k2 cap2 L (om + 1) cap (IntKind.wrap .i64 (aa + 1)) (IntKind.wrap .i64 (i + 1))) [some (.mk (rlbL [(248, 200)] d) 251 false), some (.mk (rlbL [(248, 200)] (List.take (om * 1) od ++ [.int .u8 (jak t aa.toNat)] ++ tail)) 5 true)] else False else False else bif unK (jak t aa.toNat) then bif Nat.beq od.length (oc * 1) && Nat.ble om oc && Nat.ble oc 9223372036854775807 && true && jbu (om + 1) 1 then ∀ (cap : Nat) (tail : List Value), jay tail cap (om + 1) 1 = true → bif jau [(252, 200)] d && (jau [(252, 200)] (List.take (om * 1) od ++ [.int .u8 (IntKind.wrap .u8 (48 + IntKind.wrap .u8 (unD (jak t aa.toNat))))] ++ tail) && true) && true then R Exit.normal (z67_0oa t r4 k2 cap2 L (om + 1) cap (IntKind.wrap .i64 (aa + 1)) (IntKind.wrap .i64 (i + 1))) [some (.mk (rlbL [(252, 200)] d) 251 false), some (.mk (rlbL [(252, 200)] (List.take (om * 1) od ++ [.int .u8 (IntKind.wrap .u8 (48 + IntKind.wrap .u8 (unD (jak t aa.toNat))))] ++ tail)) 5 true)] else False else False else bif Nat.beq od.length (oc * 1) && Nat.ble om oc && Nat.ble oc 9223372036854775807 && true && jbu (om + 1) 1 then ∀ (cap : Nat) (tail : List Value), jay tail cap (om + 1) 1 = true → bif jau [(249, 200)] d && (jau [(249, 200)] (List.take (om * 1) od ++ [.int .u8 48] ++ tail) && true) && true then R Exit.normal (z67_0oa t r4 k2 cap2 L (om + 1) cap (IntKind.wrap .i64 (aa + 1)) (IntKind.wrap .i64 (i + 1))) [some (.mk (rlbL [(249, 200)] d) 251 false), some (.mk (rlbL [(249, 200)] (List.take (om * 1) od ++ [.int .u8 48] ++ tail)) 5 true)] else False else False else False else False else False else False else False else bif jau [(200, 200)] d && (jau [(200, 200)] od && true) && true then R (Exit.exit 0) (z67_0oa t r4 k2 cap2 L om oc aa i) [some (.mk (rlbL [(200, 200)] d) 251 false), some (.mk (rlbL [(200, 200)] od) 5 true)] else False) := by kernel_rfl
theorem l67_0 : LOKf Tryz.prog (oneL 0 S67_0.hA) Tryz.f205 := by
 refine jbh (h := S67_0.hA) (by kernel_rfl) (jbm ok_G37 hmix (by kernel_rfl) (ja6 _) S67_0 V67_0 B67_0 (fun (t, r4, o, aa, k2, cap2, L, i, d) => (k2 - i).toNat) ?_ ?_ ?_)
 ·intro vs bs s h
  simp only [S67_0] at h
  split at h
  all_goals first | (cases h; exact ⟨rfl, rfl⟩) | cases h | (split at h <;> first | (rename_i hq; cases h; have hq := jah hq; subst hq; exact ⟨rfl, rfl⟩) | cases h)
 ·exact fun ⟨t, r4, o, aa, k2, cap2, L, i, d⟩ hp => by
   simp only [S67_0, jaf] at hp
   have hr := jav.1 hp.2.1
   cases o with
   | nil => simp [V67_0, B67_0, S67_0, ja1, jbv, idsL, ids, Rw.v, Rw.b, jap hr.plain]
   | own od om oc => simp [V67_0, B67_0, S67_0, ja1, jbv, idsL, ids, Rw.v, Rw.b, jap hr.plain, jap (jaw.1 hp.1).plain]
 ·intro ⟨t, r4, o, aa, k2, cap2, L, i, d⟩ jk Z hp hf
  simp only [S67_0] at hp hf
  cases o with
  | nil =>
   rw [r67_0n]
   delta z67_0na
   simp only [jaf, jae] at hp
   obtain ⟨-, hR, hp⟩ := hp
   have hr := jav.1 hR
   simp only [Rw.z, List.length_nil] at hp hf
   have e0 : 0 + i.toNat * 1 = i.toNat := by omega
   rw [e0]
   refine cond_intro (fun h => ?_) (fun h => ?_)
   ·have h := jab h
    obtain ⟨a1, a3⟩ := hr.at hp.1 (by omega)
    rw [a3, gsGo] at hf
    rw [a3, cN] at hp
    have hc := jjm ((zc d k2).drop (i + 1).toNat)
    rw [a1, w64 (n := i + 1) (by omega), w64 (n := aa + 1) (by omega)]
    generalize jat d i.toNat = r at *
    refine c_t (jaa (by omega)) (c_t rfl (cond_intro (fun q => ?_) (fun q => ?_)))
    ·rw [q, cond_true] at hf hp
     refine c_t (by rw [hr.good]; rfl) ?_
     rw [hr.rlb]
     exact ⟨(t, r4, .nil, aa, k2, cap2, L, i + 1, d), rfl, rfl, by simp only [S67_0, jaf, jae]; exact ⟨rfl, hR, by simp only [Rw.z, List.length_nil]; omega⟩, by simp only; omega, hf⟩
    ·rw [q, cond_false] at hf hp
     obtain ⟨p1, p2, p3, p4, p5, p6, p7, p8⟩ := hp
     rw [jb0 p5 (by omega), List.headD_cons, List.tail_cons] at hf
     have hB := je6 t aa.toNat
     generalize jak t aa.toNat = c at *
     have hu : 0 ≤ unD c ∧ unD c ≤ 9 := by unfold unD; split <;> omega
     rw [w8 (n := unD c) (by omega), w8 (n := 48 + unD c) (by omega)]
     refine c_t (jaa (by omega)) (c_t (by simp) (cond_intro (fun q2 => ?_) (fun q2 => c_t (by simp) (cond_intro (fun q3 => ?_) (fun q3 => cond_intro (fun q4 => ?_) (fun q4 => ?_))))))
     ·rw [q2, cond_true] at hf
      refine c_t (by rw [hr.good]; rfl) ?_
      rw [hr.rlb]
      exact ⟨(t, r4, .nil, aa + 1, k2, cap2, L, i + 1, d), rfl, rfl, by simp only [S67_0, jaf, jae]; exact ⟨rfl, hR, by simp only [Rw.z, List.length_nil]; omega⟩, by simp only; omega, hf⟩
     ·rw [q2, cond_false] at hf
      intro cap1 tail ht
      obtain ⟨h1, h2⟩ : RowP (Value.int IntKind.u8 (c) :: tail) 1 cap1 ∧ zc (Value.int IntKind.u8 (c) :: tail) 1 = [c] := jfy [c] ht
      have hl1 := ja8 h1
      generalize Value.int IntKind.u8 (c) :: tail = od' at *
      have e : 48 + rdD c = c := by
       have q := q3
       simp only [jaf, jae] at q
       unfold rdD
       rw [unK_dig q.1 q.2, q3]
       simp only [cond_true, cond_false]
       omega
      rw [e] at hf
      refine c_t (by rw [hr.good, h1.good]; rfl) ?_
      rw [hr.rlb, h1.rlb]
      exact ⟨(t, r4, .own od' (1) cap1, aa + 1, k2, cap2, L, i + 1, d), rfl, rfl, by simp only [S67_0, jaf, jae]; exact ⟨jaw.2 h1, hR, by simp only [Rw.z, hl1]; omega⟩, by simp only; omega, ⟨fun q => (by cases q), fun a' i' od'' om'' oc'' g1 g2 => hf.2 a' i' od'' om'' oc'' g1 (by rw [g2]; simp only [Rw.z, h2, List.append_assoc, List.cons_append, List.nil_append])⟩⟩
     ·rw [q2, cond_false] at hf
      intro cap1 tail ht
      obtain ⟨h1, h2⟩ : RowP (Value.int IntKind.u8 (48 + unD c) :: tail) 1 cap1 ∧ zc (Value.int IntKind.u8 (48 + unD c) :: tail) 1 = [48 + unD c] := jfy [48 + unD c] ht
      have hl1 := ja8 h1
      generalize Value.int IntKind.u8 (48 + unD c) :: tail = od' at *
      have e : 48 + rdD c = 48 + unD c := by
       unfold rdD
       rw [q4]
       rfl
      rw [e] at hf
      refine c_t (by rw [hr.good, h1.good]; rfl) ?_
      rw [hr.rlb, h1.rlb]
      exact ⟨(t, r4, .own od' (1) cap1, aa + 1, k2, cap2, L, i + 1, d), rfl, rfl, by simp only [S67_0, jaf, jae]; exact ⟨jaw.2 h1, hR, by simp only [Rw.z, hl1]; omega⟩, by simp only; omega, ⟨fun q => (by cases q), fun a' i' od'' om'' oc'' g1 g2 => hf.2 a' i' od'' om'' oc'' g1 (by rw [g2]; simp only [Rw.z, h2, List.append_assoc, List.cons_append, List.nil_append])⟩⟩
     ·rw [q2, cond_false] at hf
      intro cap1 tail ht
      obtain ⟨h1, h2⟩ : RowP (Value.int IntKind.u8 (48) :: tail) 1 cap1 ∧ zc (Value.int IntKind.u8 (48) :: tail) 1 = [48] := jfy [48] ht
      have hl1 := ja8 h1
      generalize Value.int IntKind.u8 (48) :: tail = od' at *
      have e : 48 + rdD c = 48 := by
       unfold rdD
       rw [q4, q3]
       rfl
      rw [e] at hf
      refine c_t (by rw [hr.good, h1.good]; rfl) ?_
      rw [hr.rlb, h1.rlb]
      exact ⟨(t, r4, .own od' (1) cap1, aa + 1, k2, cap2, L, i + 1, d), rfl, rfl, by simp only [S67_0, jaf, jae]; exact ⟨jaw.2 h1, hR, by simp only [Rw.z, hl1]; omega⟩, by simp only; omega, ⟨fun q => (by cases q), fun a' i' od'' om'' oc'' g1 g2 => hf.2 a' i' od'' om'' oc'' g1 (by rw [g2]; simp only [Rw.z, h2, List.append_assoc, List.cons_append, List.nil_append])⟩⟩
   ·have h := jac h
    rw [hr.end (by omega), gsGo] at hf
    refine c_t (by rw [hr.good]; rfl) ?_
    rw [hr.rlb]
    exact hf.1 rfl rfl aa i
  | own od om oc =>
   rw [r67_0o]
   delta z67_0oa
   simp only [jaf, jae] at hp
   obtain ⟨ho, hR, hp⟩ := hp
   have hr := jav.1 hR
   have ho := jaw.1 ho
   have hzl := ja8 ho
   simp only [Rw.z, hzl] at hp hf
   have e0 : 0 + i.toNat * 1 = i.toNat := by omega
   rw [e0]
   refine cond_intro (fun h => ?_) (fun h => ?_)
   ·have h := jab h
    obtain ⟨a1, a3⟩ := hr.at hp.1 (by omega)
    rw [a3, gsGo] at hf
    rw [a3, cN] at hp
    have hc := jjm ((zc d k2).drop (i + 1).toNat)
    rw [a1, w64 (n := i + 1) (by omega), w64 (n := aa + 1) (by omega)]
    generalize jat d i.toNat = r at *
    refine c_t (jaa (by omega)) (c_t rfl (cond_intro (fun q => ?_) (fun q => ?_)))
    ·rw [q, cond_true] at hf hp
     refine c_t (by rw [hr.good, ho.good]; rfl) ?_
     rw [hr.rlb, ho.rlb]
     exact ⟨(t, r4, .own od om oc, aa, k2, cap2, L, i + 1, d), rfl, rfl, by simp only [S67_0, jaf, jae]; exact ⟨jaw.2 ho, hR, by simp only [Rw.z, hzl]; omega⟩, by simp only; omega, hf⟩
    ·rw [q, cond_false] at hf hp
     obtain ⟨p1, p2, p3, p4, p5, p6, p7, p8⟩ := hp
     rw [jb0 p5 (by omega), List.headD_cons, List.tail_cons] at hf
     have hB := je6 t aa.toNat
     generalize jak t aa.toNat = c at *
     have hu : 0 ≤ unD c ∧ unD c ≤ 9 := by unfold unD; split <;> omega
     rw [w8 (n := unD c) (by omega), w8 (n := 48 + unD c) (by omega)]
     refine c_t (jaa (by omega)) (c_t (by simp) (cond_intro (fun q2 => ?_) (fun q2 => c_t (by simp) (cond_intro (fun q3 => ?_) (fun q3 => cond_intro (fun q4 => ?_) (fun q4 => ?_))))))
     ·rw [q2, cond_true] at hf
      refine c_t (by rw [hr.good, ho.good]; rfl) ?_
      rw [hr.rlb, ho.rlb]
      exact ⟨(t, r4, .own od om oc, aa + 1, k2, cap2, L, i + 1, d), rfl, rfl, by simp only [S67_0, jaf, jae]; exact ⟨jaw.2 ho, hR, by simp only [Rw.z, hzl]; omega⟩, by simp only; omega, hf⟩
     ·rw [q2, cond_false] at hf
      refine c_t (ho.ask (k := 1) (by omega)) (fun cap1 tail ht => ?_)
      obtain ⟨h1, h2⟩ := ho.app1 (c) ht
      have hl1 := ja8 h1
      generalize List.take (om * 1) od ++ [Value.int IntKind.u8 (c)] ++ tail = od' at *
      have e : 48 + rdD c = c := by
       have q := q3
       simp only [jaf, jae] at q
       unfold rdD
       rw [unK_dig q.1 q.2, q3]
       simp only [cond_true, cond_false]
       omega
      rw [e] at hf
      refine c_t (by rw [hr.good, h1.good]; rfl) ?_
      rw [hr.rlb, h1.rlb]
      exact ⟨(t, r4, .own od' (om + 1) cap1, aa + 1, k2, cap2, L, i + 1, d), rfl, rfl, by simp only [S67_0, jaf, jae]; exact ⟨jaw.2 h1, hR, by simp only [Rw.z, hl1]; omega⟩, by simp only; omega, ⟨fun q => (by cases q), fun a' i' od'' om'' oc'' g1 g2 => hf.2 a' i' od'' om'' oc'' g1 (by rw [g2]; simp only [Rw.z, h2, List.append_assoc, List.cons_append, List.nil_append])⟩⟩
     ·rw [q2, cond_false] at hf
      refine c_t (ho.ask (k := 1) (by omega)) (fun cap1 tail ht => ?_)
      obtain ⟨h1, h2⟩ := ho.app1 (48 + unD c) ht
      have hl1 := ja8 h1
      generalize List.take (om * 1) od ++ [Value.int IntKind.u8 (48 + unD c)] ++ tail = od' at *
      have e : 48 + rdD c = 48 + unD c := by
       unfold rdD
       rw [q4]
       rfl
      rw [e] at hf
      refine c_t (by rw [hr.good, h1.good]; rfl) ?_
      rw [hr.rlb, h1.rlb]
      exact ⟨(t, r4, .own od' (om + 1) cap1, aa + 1, k2, cap2, L, i + 1, d), rfl, rfl, by simp only [S67_0, jaf, jae]; exact ⟨jaw.2 h1, hR, by simp only [Rw.z, hl1]; omega⟩, by simp only; omega, ⟨fun q => (by cases q), fun a' i' od'' om'' oc'' g1 g2 => hf.2 a' i' od'' om'' oc'' g1 (by rw [g2]; simp only [Rw.z, h2, List.append_assoc, List.cons_append, List.nil_append])⟩⟩
     ·rw [q2, cond_false] at hf
      refine c_t (ho.ask (k := 1) (by omega)) (fun cap1 tail ht => ?_)
      obtain ⟨h1, h2⟩ := ho.app1 (48) ht
      have hl1 := ja8 h1
      generalize List.take (om * 1) od ++ [Value.int IntKind.u8 (48)] ++ tail = od' at *
      have e : 48 + rdD c = 48 := by
       unfold rdD
       rw [q4, q3]
       rfl
      rw [e] at hf
      refine c_t (by rw [hr.good, h1.good]; rfl) ?_
      rw [hr.rlb, h1.rlb]
      exact ⟨(t, r4, .own od' (om + 1) cap1, aa + 1, k2, cap2, L, i + 1, d), rfl, rfl, by simp only [S67_0, jaf, jae]; exact ⟨jaw.2 h1, hR, by simp only [Rw.z, hl1]; omega⟩, by simp only; omega, ⟨fun q => (by cases q), fun a' i' od'' om'' oc'' g1 g2 => hf.2 a' i' od'' om'' oc'' g1 (by rw [g2]; simp only [Rw.z, h2, List.append_assoc, List.cons_append, List.nil_append])⟩⟩
   ·have h := jac h
    rw [hr.end (by omega), gsGo] at hf
    refine c_t (by rw [hr.good, ho.good]; rfl) ?_
    rw [hr.rlb, ho.rlb]
    exact hf.2 aa i od om oc (jaw.2 ho) (by simp)
theorem v67 (s : ByteArray) (nb : Bool) (w : Int) (dg : Int) (sc : Int) (sg : Bool) (k : Nat) (cap : Nat) (dr : Int) (f : Int) (cr : Bool) (fl : Int) (fm : Int) (t : ByteArray) (d : List Value) (R : Value → Prop) : (ja4 Tryz.prog G37 (oneL 0 S67_0.hA) Tryz.f205 [.pointer (some ⟨0, 0, some 0⟩), S t] (vwF2 (fmL s nb w dg sc sg 1 k cap dr f cr fl fm) d) 2 (fun v _ _ => R v)) = ( bif jau [] d && true && true && (ja1 210 (rlbL [] d) && true) then bif LSpec.pre (LSpecA.toLSpec S67_0) (t, ByteArray.mk #[], Rw.nil, 0, k, cap, natO k, 0, rlbL [] d) then (Rw.is Rw.nil = false → gsGo (List.drop (Int.toNat 0) (zc (rlbL [] d) k)) (List.drop (Int.toNat 0) (bz t)) = [] → ∀ (a' i' : Int), bif ja1 210 (rlbL [] d) && true then ∀ (x : Tmps), R (S ByteArray.empty) else False) ∧ ∀ (a' i' : Int) (od' : List Value) (om' oc' : Nat), jcf od' om' oc' = true → zc od' om' = Rw.z Rw.nil ++ gsGo (List.drop (Int.toNat 0) (zc (rlbL [] d) k)) (List.drop (Int.toNat 0) (bz t)) → bif ja1 210 (rlbL [] d) && (ja1 210 od' && true) then ∀ (x : Tmps), bif jba od' 0 om' then R (S (ja5 od' 0 om')) else False else False else False else False) := by kernel_rfl
theorem fn67 : Fn1 Tryz.prog 205 Tryz.f205 := .m Tryz.func205 (by kernel_rfl)
theorem w_67 (s : ByteArray) (nb : Bool) (w : Int) (dg : Int) (sc : Int) (sg : Bool) (k : Nat) (cap : Nat) (dr : Int) (f : Int) (cr : Bool) (fl : Int) (fm : Int) (t : ByteArray) (d : List Value) (hR : jbn d k cap = true) (hk : k ≤ 1000) (hc : cN (zc d k) ≤ t.size)
  {R : Value → Prop} (hV : R (.string (sz (gsGo (zc d k) (bz t))))) :
  jdw Tryz.prog G37 (oneL 0 S67_0.hA) Tryz.f205 [.pointer (some ⟨0, 0, some 0⟩), .string t] (vwF2 (fmL s nb w dg sc sg 1 k cap dr f cr fl fm) d) 2 (fun v _ _ => R v) := by
 rw [jdw, v67]
 have h := jav.1 hR
 have z0 : Int.toNat 0 = 0 := rfl
 have hg : (jau [] d && true && true && (ja1 210 d && true)) = true := by rw [h.good]; simp [ja1, idsL, jap h.plain]
 have hg' : (jau [] d && true && (ja1 210 d && true)) = true := by rw [h.good]; simp [ja1, idsL, jap h.plain]
 have hi : (ja1 210 d && true) = true := by simp [ja1, idsL, jap h.plain]
 simp only [h.rlb, z0, List.drop_zero]
 refine c_t (by first | exact hg | exact hg') (c_t ?_ ⟨fun _ hn a' i' => c_t hi fun _ => ?_, fun a' i' od om oc g1 g2 => ?_⟩)
 ·show (Rw.nil.ok && (jbn d k cap && decide ((0 : Int) ≤ 0 ∧ (0 : Int) ≤ k ∧ k ≤ 1000 ∧ natO k = k ∧ (0 : Int) ≤ 0 ∧ (0 : Int) ≤ 0 ∧ 0 + cN ((zc d k).drop (Int.toNat 0)) ≤ t.size ∧ ((Rw.nil.z.length : Nat) : Int) ≤ 0))) = true
  rw [hR, jbz, z0, List.drop_zero]
  simp only [Bool.true_and, Rw.ok, Rw.z, List.length_nil, jae]
  exact ⟨by omega, by omega, by omega, trivial, by omega, by omega, by omega, by omega⟩
 ·rw [hn] at hV
  exact hV
 ·have ho := jaw.1 g1
  have hio : (ja1 210 d && (ja1 210 od && true)) = true := by simp [ja1, idsL, jap h.plain, jap ho.plain]
  have s3 := ho.str
  have g3 : zc od om = gsGo (zc d k) (bz t) := by rw [g2]; rfl
  rw [g3] at s3
  exact c_t hio fun _ => c_t s3.1 (by rw [s3.2]; exact hV)
def h67 : List Value → Lk → Nat → (Value → Lk → Nat → Prop) → Prop := fun args m n K => match args with
 | [.pointer (some ⟨a, 0, some 0⟩), .string t] => match m a with
  | some ⟨[.string s, .bool nb, .int .i64 w, .int .i64 dg, .int .i64 sc, .bool sg, .slice (some ⟨y, 0, some 1⟩) k cap, .int .u8 dr, .int .i64 f, .bool cr, .int .u8 fl, .int .i64 fm], 156, own⟩ => match m y with
   | some ⟨d, 251, own2⟩ => match cnd (jbn d k cap && decide (k ≤ 1000 ∧ cN (zc d k) ≤ t.size)) with
    | true => ∀ e : ByteArray, sz (gsGo (zc d k) (bz t)) = e → K (.string e) m n
    | false => False
   | _ => False
  | _ => False
 | _ => False
theorem h67_ok : jd1 Tryz.prog 205 h67 := by
 refine jha ok_G37 hmix fn67 l67_0 fun args m n K h => ?_
 unfold h67 at h
 split at h
 case h_2 => exact h.elim
 rename_i a t
 split at h
 case h_2 => exact h.elim
 rename_i s nb w dg sc sg y k cap dr f cr fl fm own hm
 split at h
 case h_2 => exact h.elim
 rename_i d own2 hy
 split at h
 case h_2 => exact h.elim
 rename_i hc
 simp only [cnd, jaf, jae] at hc
 obtain ⟨h1, h2, h3⟩ := hc
 refine ⟨[.pointer (some ⟨0, 0, some 0⟩), .string t], _, 2, rho2 a y, .string (sz (gsGo (zc d k) (bz t))), sub_F2 (jav.1 h1).plain hm hy, fun ι => by simp [ren, ren1, rho2], jag (by kernel_rfl), fun v hv j hj => ?_, rfl,
  w_67 s nb w dg sc sg k cap dr f cr fl fm t d h1 h2 h3 (R := fun v => v = .string (sz (gsGo (zc d k) (bz t)))) rfl, h _ rfl⟩
 simp at hv
 rcases hv with rfl | rfl
 ·have : j = 0 := by simpa [ids] using hj
  omega
 ·simp [ids] at hj
def V71_0 : ByteArray × Bool × List Value × Nat × Nat × Int × Int → List Value := fun (s, r, d, m, cap, L, i) => [S s, B r, .slice (some ⟨300, 0, some 1⟩) m cap, I L, I i]
def B71_0 : ByteArray × Bool × List Value × Nat × Nat × Int × Int → List (Option Blk) := fun (s, r, d, m, cap, L, i) => [some ⟨d, 5, false⟩]
def S71_0 : LSpecA (ByteArray × Bool × List Value × Nat × Nat × Int × Int) where
 live := [0, 4, 15, 16, 17]
 mid := [300]
 n := 310
 ap := [(.tmp 15, 300)]
 dec vs bs := match vs, bs with | [.string s, .bool r, .slice (some ⟨300, 0, some 1⟩) m cap, .int .i64 L, .int .i64 i], [some ⟨d, 5, false⟩] => some (s, r, d, m, cap, L, i) | _, _ => none
 pre := fun (s, r, d, m, cap, L, i) => vwOK d m && ((bz s).all (hasZ [65, 88, 57]) && decide (0 ≤ i ∧ i ≤ m ∧ L = m ∧ s.size = m ∧ m ≤ 1000))
 fin := fun (s, r, d, m, cap, L, i) Z => (bif onGo ((bz s).drop i.toNat) ((zc d m).drop i.toNat) then ∀ i', Z (.exit 0) [S s, B r, .slice (some ⟨300, 0, some 1⟩) m cap, I L, I i'] [some ⟨d, 5, false⟩] else ∀ i', Z .ret [S s, B false, .slice (some ⟨300, 0, some 1⟩) m cap, I L, I i'] [some ⟨d, 5, false⟩])
theorem r71_0 (s : ByteArray) (r : Bool) (d : List Value) (m : Nat) (cap : Nat) (L : Int) (i : Int) (jk : Tmps) (R : Exit → List Value → List (Option Blk) → Prop) : (jbr Tryz.prog G37 noL Tryz.f147.ntmps (jbb Tryz.f147 0) (tl S71_0.live (V71_0 (s, r, d, m, cap, L, i)) jk) (ml S71_0.mid (B71_0 (s, r, d, m, cap, L, i))) S71_0.n fun e t' m' _ => S71_0.out R e t' m') = ( bif decide (i < L) then bif decide (0 ≤ i ∧ i < (↑m : Int)) then bif jbo IntKind.u8 d (0 + i.toNat * 1) then bif decide (jat d (0 + i.toNat * 1) ≥ 48) || true then bif bif decide (jat d (0 + i.toNat * 1) ≥ 65) then decide (jat d (0 + i.toNat * 1) ≤ 90) || (decide (jat d (0 + i.toNat * 1) ≥ 97) || true) else decide (jat d (0 + i.toNat * 1) ≥ 97) || true then bif decide (0 ≤ i ∧ i < (s.size : Int)) && bif jak s i.toNat == 65 then bif !bif decide (jat d (0 + i.toNat * 1) ≥ 65) then decide (jat d (0 + i.toNat * 1) ≤ 90) || decide (jat d (0 + i.toNat * 1) ≥ 97) && decide (jat d (0 + i.toNat * 1) ≤ 122) else decide (jat d (0 + i.toNat * 1) ≥ 97) && decide (jat d (0 + i.toNat * 1) ≤ 122) then jat d (0 + i.toNat * 1) != 32 || decide (0 ≤ i ∧ i < (s.size : Int)) && bif jak s i.toNat == 57 then !(decide (jat d (0 + i.toNat * 1) ≥ 48) && decide (jat d (0 + i.toNat * 1) ≤ 57)) || true else true else decide (0 ≤ i ∧ i < (s.size : Int)) && bif jak s i.toNat == 57 then !(decide (jat d (0 + i.toNat * 1) ≥ 48) && decide (jat d (0 + i.toNat * 1) ≤ 57)) || true else true else decide (0 ≤ i ∧ i < (s.size : Int)) && bif jak s i.toNat == 57 then !(decide (jat d (0 + i.toNat * 1) ≥ 48) && decide (jat d (0 + i.toNat * 1) ≤ 57)) || true else true then bif bif jak s i.toNat == 65 then bif !bif decide (jat d (0 + i.toNat * 1) ≥ 65) then decide (jat d (0 + i.toNat * 1) ≤ 90) || decide (jat d (0 + i.toNat * 1) ≥ 97) && decide (jat d (0 + i.toNat * 1) ≤ 122) else decide (jat d (0 + i.toNat * 1) ≥ 97) && decide (jat d (0 + i.toNat * 1) ≤ 122) then jat d (0 + i.toNat * 1) != 32 || jak s i.toNat == 57 && (!(decide (jat d (0 + i.toNat * 1) ≥ 48) && decide (jat d (0 + i.toNat * 1) ≤ 57)) && jat d (0 + i.toNat * 1) != 32) else jak s i.toNat == 57 && (!(decide (jat d (0 + i.toNat * 1) ≥ 48) && decide (jat d (0 + i.toNat * 1) ≤ 57)) && jat d (0 + i.toNat * 1) != 32) else jak s i.toNat == 57 && (!(decide (jat d (0 + i.toNat * 1) ≥ 48) && decide (jat d (0 + i.toNat * 1) ≤ 57)) && jat d (0 + i.toNat * 1) != 32) then bif jau [(300, 300)] d && true && true then R Exit.ret [S s, B false, .slice (some (.mk 300 0 (some 1))) m cap, I L, I i] [some (.mk (rlbL [(300, 300)] d) 5 false)] else False else bif jau [(300, 300)] d && true && true then R Exit.normal [S s, B r, .slice (some (.mk 300 0 (some 1))) m cap, I L, I (IntKind.wrap .i64 (i + 1))] [some (.mk (rlbL [(300, 300)] d) 5 false)] else False else False else False else False else False else False else bif jau [(300, 300)] d && true && true then R (Exit.exit 0) [S s, B r, .slice (some (.mk 300 0 (some 1))) m cap, I L, I i] [some (.mk (rlbL [(300, 300)] d) 5 false)] else False) := by kernel_rfl
theorem l71_0 : LOKf Tryz.prog (oneL 0 S71_0.hA) Tryz.f147 := by
 refine jbh (h := S71_0.hA) (by kernel_rfl) (jbm ok_G37 hmix (by kernel_rfl) (ja6 _) S71_0 V71_0 B71_0 (fun (s, r, d, m, cap, L, i) => (m - i).toNat) ?_ ?_ ?_)
 ·intro vs bs s h
  simp only [S71_0] at h
  split at h
  all_goals first | (cases h; exact ⟨rfl, rfl⟩) | cases h | (split at h <;> first | (rename_i hq; cases h; have hq := jah hq; subst hq; exact ⟨rfl, rfl⟩) | cases h)
 ·exact fun ⟨s, r, d, m, cap, L, i⟩ hp => by
   simp only [S71_0, jaf] at hp
   have hv := jci.1 hp.1
   simp [V71_0, B71_0, S71_0, ja1, jbv, idsL, ids, jap hv.plain]
 ·intro ⟨s, r, d, m, cap, L, i⟩ jk Z hp hf
  rw [r71_0]
  simp only [S71_0] at hp hf
  simp only [jaf, jae] at hp
  obtain ⟨hV, hA, hp⟩ := hp
  have hv := jci.1 hV
  have e0 : 0 + i.toNat * 1 = i.toNat := by omega
  rw [e0]
  simp only [hv.rlb]
  have hg : ∀ ps, (jau ps d && true && true) = true := fun ps => by rw [goodL_plain hv.plain]; rfl
  refine cond_intro (fun h => ?_) (fun h => ?_)
  ·have h := jab h
   obtain ⟨a1, a2, a3⟩ := hv.at hp.1 (by omega)
   have hcb : jak s i.toNat = 65 ∨ jak s i.toNat = 88 ∨ jak s i.toNat = 57 := by
    have hm : jak s i.toNat ∈ bz s := List.drop_subset i.toNat (bz s) (by rw [jb0 hp.1 (by omega)]; exact List.mem_cons_self)
    have := List.all_eq_true.1 hA _ hm
    have := jbf.1 this
    simp only [List.mem_cons, List.not_mem_nil, or_false] at this
    omega
   rw [jb0 hp.1 (by omega), a3, onGo] at hf
   rw [a1, w64 (n := i + 1) (by omega), jaa (show 0 ≤ i ∧ i < (m : Int) by omega), jaa (show 0 ≤ i ∧ i < (s.size : Int) by omega)]
   generalize jat d i.toNat = b at *
   generalize jak s i.toNat = c at *
   have el : (bif decide (b ≥ 65) then decide (b ≤ 90) || decide (b ≥ 97) && decide (b ≤ 122) else decide (b ≥ 97) && decide (b ≤ 122)) = letZ b := by
    unfold letZ
    rw [Bool.eq_iff_iff]
    by_cases h1 : b ≥ 65 <;> simp [h1] <;> omega
   have ed : (decide (b ≥ 48) && decide (b ≤ 57)) = jdy b := by
    rw [Bool.eq_iff_iff]
    simp [jdy]
   rw [el, ed]
   have key : (bif c == 65 then bif !letZ b then b != 32 || c == 57 && (!jdy b && b != 32) else c == 57 && (!jdy b && b != 32) else c == 57 && (!jdy b && b != 32)) = !oneZ c b := by
    unfold oneZ
    rcases hcb with rfl | rfl | rfl <;> by_cases h2 : b = 32 <;> simp [h2] <;> cases letZ b <;> cases jdy b <;> simp
   rw [key]
   refine c_t rfl (c_t rfl (c_t (by simp) (c_t (by cases decide (b ≥ 65) <;> simp) (c_t (by cases c == 65 <;> cases !letZ b <;> cases c == 57 <;> simp) (cond_intro (fun q => c_t (hg _) ?_) (fun q => c_t (hg _) ?_))))))
   ·have q : oneZ c b = false := by simpa using q
    rw [q, Bool.false_and, cond_false] at hf
    exact hf i
   ·have q : oneZ c b = true := by simpa using q
    rw [q, Bool.true_and] at hf
    exact ⟨(s, r, d, m, cap, L, i + 1), rfl, rfl, by simp only [S71_0, jaf, jae]; exact ⟨hV, hA, by omega⟩, by simp only; omega, hf⟩
  ·have h := jac h
   have hz : (bz s).drop i.toNat = [] := List.drop_eq_nil_of_le (by rw [jaq]; omega)
   rw [hv.end (by omega), hz] at hf
   exact c_t (hg _) (hf i)
def s71 (s : ByteArray) (t : ByteArray) : Bool × Value := ((bz s).all (hasZ [65, 88, 57]) && decide (s.size ≤ 1000 ∧ t.size ≤ 9223372036854775807), .bool (decide ((t.size : Int) = s.size) && onGo (bz s) (bz t)))
theorem fn71 : Fn1 Tryz.prog 147 Tryz.f147 := .m Tryz.func147 (by kernel_rfl)
theorem v71 (s : ByteArray) (t : ByteArray) (R : Value → Prop) : ja4 Tryz.prog G37 (oneL 0 S71_0.hA) Tryz.f147 [Enc.enc s, Enc.enc t] (fun _ => none) 0 (fun v _ _ => R v) = ( bif (t.size : Int) != (s.size : Int) then R (B false) else ∀ (cap : Nat), Nat.ble t.size cap = true → bif jau [(7, 300)] (Lib.strCells t) && true && true && (ja1 310 (rlbL [(7, 300)] (Lib.strCells t)) && true) then bif LSpec.pre (LSpecA.toLSpec S71_0) (s, false, rlbL [(7, 300)] (Lib.strCells t), t.size, cap, natO t.size, 0) then bif onGo (List.drop (Int.toNat 0) (bz s)) (List.drop (Int.toNat 0) (zc (rlbL [(7, 300)] (Lib.strCells t)) t.size)) then ∀ (i' : Int), bif ja1 310 (rlbL [(7, 300)] (Lib.strCells t)) && true then ∀ (x : Tmps), R (B true) else False else ∀ (i' : Int), bif ja1 310 (rlbL [(7, 300)] (Lib.strCells t)) && true then ∀ (x : Tmps), R (B false) else False else False else False) := by kernel_rfl
theorem ok71 : jan Tryz.prog 147 (sp2 s71) := by
 refine jcr ok_G37 hmix fn71 l71_0 (jag (by kernel_rfl)) fun s t hc => ?_
 rw [ja3, v71]
 try dsimp only [s71]
 obtain ⟨hA, hc⟩ := Bool.and_eq_true_iff.1 hc
 have hc := jab hc
 obtain ⟨hv, hz⟩ := jii t
 have hV := jci.2 hv
 refine cond_intro (fun h => ?_) (fun h => fun cap _ => ?_)
 ·have h : ¬ (t.size : Int) = s.size := by simpa using h
  rw [jad h]
  rfl
 ·have h : (t.size : Int) = s.size := by simpa using h
  have hg : (jau [(7, 300)] (Lib.strCells t) && true && true && (ja1 310 (Lib.strCells t) && true)) = true := by rw [goodL_plain hv.plain]; simp [ja1, idsL, jap hv.plain]
  have hi : (ja1 310 (Lib.strCells t) && true) = true := by simp [ja1, idsL, jap hv.plain]
  have z0 : Int.toNat 0 = 0 := rfl
  simp only [hv.rlb, z0, List.drop_zero, hz]
  refine c_t hg (c_t ?_ ?_)
  ·show (vwOK (Lib.strCells t) t.size && ((bz s).all (hasZ [65, 88, 57]) && decide ((0 : Int) ≤ 0 ∧ (0 : Int) ≤ t.size ∧ natO t.size = t.size ∧ s.size = t.size ∧ t.size ≤ 1000))) = true
   rw [hV, hA, jbz]
   simp only [Bool.true_and, jae]
   exact ⟨by omega, by omega, trivial, by omega, by omega⟩
  ·rw [jaa h, Bool.true_and]
   refine cond_intro (fun q _ => c_t hi fun _ => by rw [q]) (fun q _ => c_t hi fun _ => by rw [q])
end Go.Px
end
noncomputable section
namespace Go.Px
open Go Go.Ab Go.Proofs Go.Shelf
theorem dec_from : ∀ (l : List UInt8) (a : Nat), dgL (zl l) = true → Lib.decFrom a l = some (numZ (zl l) a).toNat ∧ 0 ≤ numZ (zl l) a
 | [], a, _ => ⟨rfl, Int.natCast_nonneg a⟩
 | b :: r, a, h => by
  have h : dgL ((b.toNat : Int) :: zl r) = true := h
  have h1 : 48 ≤ b.toNat ∧ b.toNat ≤ 57 := by
   simp only [dgL, List.all_cons, jaf, jae] at h
   omega
  have h2 : dgL (zl r) = true := by
   simp only [dgL, List.all_cons, jaf] at h
   exact h.2
  obtain ⟨e1, e2⟩ := dec_from r (a * 10 + (b.toNat - 48)) h2
  have e : ((a * 10 + (b.toNat - 48) : Nat) : Int) = (a : Int) * 10 + ((b.toNat : Int) - 48) := by omega
  rw [e] at e1 e2
  have hd : Lib.digitVal b = some (b.toNat - 48) := by rw [Lib.digitVal, if_pos h1]
  refine ⟨?_, e2⟩
  rw [Lib.decFrom, hd]
  exact e1
theorem atoi_dig {s : ByteArray} (h0 : 1 ≤ s.size) (h : dgL (bz s) = true) : Lib.atoi s.data.toList = some (dval (bz s)) := by
 have hb : bz s = zl s.data.toList := rfl
 have hl : s.data.toList.length = s.size := rfl
 rw [hb] at h ⊢
 generalize s.data.toList = l at *
 cases l with
 | nil => simp at hl; omega
 | cons b r =>
  have h1 : 48 ≤ b.toNat ∧ b.toNat ≤ 57 := by
   have h : dgL ((b.toNat : Int) :: zl r) = true := h
   simp only [dgL, List.all_cons, jaf, jae] at h
   omega
  have n45 : (b == 45) = false := by
   cases q : b == 45 with
   | false => rfl
   | true => have := eq_of_beq q; rw [this] at h1; revert h1; decide
  have n43 : (b == 43) = false := by
   cases q : b == 43 with
   | false => rfl
   | true => have := eq_of_beq q; rw [this] at h1; revert h1; decide
  obtain ⟨e1, e2⟩ := dec_from (b :: r) 0 h
  rw [Lib.atoi, n45, n43]
  show (Lib.decNat (b :: r)).map (fun m : Nat => (m : Int)) = _
  have : Lib.decNat (b :: r) = Lib.decFrom 0 (b :: r) := rfl
  rw [this, e1, Option.map_some, dval]
  congr 1
  exact Int.toNat_of_nonneg e2
def s68 (s : ByteArray) : Bool × Value := (decide (1 ≤ s.size ∧ s.size ≤ 18) && dgL (bz s), .tuple ⟨[.int .i64 (dval (bz s)), .nilIface]⟩)
theorem ok68 : jan Tryz.prog 206 (sp1 s68) := shelf1 c68 fun s hc w _ => by
 simp only [s68, jaf, jae] at hc
 refine (Any.strconv_Atoi (ρ := Tryz.lays172_ren) Tryz.lays172 s (dval (bz s)) hc.1.2 (atoi_dig hc.1.1 hc.2) w).mono fun e w' ⟨h1, t, h2⟩ => ⟨h1, ?_⟩
 subst h2
 exact Lib.bytesWorld_below _ _ _
theorem jga : ∀ (ro cs : List Int) (a : Int), okR ro → ((gsGo ro cs).length : Int) = cdg ro ∧ dgL (gsGo ro cs) = true ∧ numZ (gsGo ro cs) a = rdGo (ro.map rmk) cs a
 | [], _, _, _ => ⟨rfl, rfl, rfl⟩
 | r :: rs, cs, a, hok => by
  have hok' : okR rs := fun x hx => hok x (List.mem_cons_of_mem _ hx)
  rw [gsGo, cdg, List.map_cons, rdGo]
  have hr := ji6 (cs.headD 0)
  have dig : ∀ l, dgL l = true → dgL ((48 + rdD (cs.headD 0)) :: l) = true := fun l h => by
   simp only [dgL, List.all_cons, jaf, jae] at h ⊢
   exact ⟨by omega, h⟩
  have e : a * 10 + (48 + rdD (cs.headD 0) - 48) = a * 10 + rdD (cs.headD 0) := by omega
  rcases jcn (hok r List.mem_cons_self) with rfl | rfl | rfl | rfl | rfl | rfl
  ·obtain ⟨h1, h2, h3⟩ := jga rs cs.tail (a * 10 + rdD (cs.headD 0)) hok'
   refine ⟨?_, dig _ h2, ?_⟩
   ·show (((_ :: gsGo rs cs.tail).length : Nat) : Int) = 1 + cdg rs
    rw [List.length_cons]; omega
   ·show numZ (_ :: gsGo rs cs.tail) a = rdGo (rs.map rmk) cs.tail (a * 10 + rdD (cs.headD 0))
    rw [numZ, e]; exact h3
  ·obtain ⟨h1, h2, h3⟩ := jga rs cs.tail (a * 10 + rdD (cs.headD 0)) hok'
   refine ⟨?_, dig _ h2, ?_⟩
   ·show (((_ :: gsGo rs cs.tail).length : Nat) : Int) = 1 + cdg rs
    rw [List.length_cons]; omega
   ·show numZ (_ :: gsGo rs cs.tail) a = rdGo (rs.map rmk) cs.tail (a * 10 + rdD (cs.headD 0))
    rw [numZ, e]; exact h3
  ·obtain ⟨h1, h2, h3⟩ := jga rs cs a hok'
   exact ⟨by simpa using h1, h2, h3⟩
  ·obtain ⟨h1, h2, h3⟩ := jga rs cs.tail a hok'
   exact ⟨by simpa using h1, h2, h3⟩
  ·obtain ⟨h1, h2, h3⟩ := jga rs cs.tail a hok'
   exact ⟨by simpa using h1, h2, h3⟩
  ·obtain ⟨h1, h2, h3⟩ := jga rs cs.tail a hok'
   exact ⟨by simpa using h1, h2, h3⟩
end Go.Px
end
noncomputable section
set_option maxHeartbeats 3200000
namespace Go.Px
open Go Go.Ab Go.Proofs Go.Shelf
def G38 : Env := (((Env.nil.addG 136 h62).addG 207 h64).addG 205 h67).add 206 (sp1 s68)
theorem ok_G38 : jax Tryz.prog G38 := jaj (jao (jao (jao jam h62_ok) h64_ok) h67_ok) ok68
theorem cN_nv : ∀ (rs : List Int), okR rs → cN rs = nv (rs.map rmk)
 | [], _ => rfl
 | r :: rs, hok => by
  have hok' : okR rs := fun x hx => hok x (List.mem_cons_of_mem _ hx)
  have ih := cN_nv rs hok'
  rw [cN, List.map_cons, jet]
  rcases jcn (hok r List.mem_cons_self) with rfl | rfl | rfl | rfl | rfl | rfl <;> simp [rmk] <;> omega
theorem gs_use {s t : ByteArray} (h : pN (bz s) = true) : digZ (rdA (bz s) (bz t)) (pD (bz s)).toNat = gsGo (rolF (pS (bz s))) (bz t) ∧ 0 ≤ rdA (bz s) (bz t) ∧ rdA (bz s) (bz t) < tenZ (pD (bz s)).toNat ∧ dval (gsGo (rolF (pS (bz s))) (bz t)) = rdA (bz s) (bz t) ∧ cN (rolF (pS (bz s))) = pW (bz s) := by
 have hl := jf3 s
 obtain ⟨f1, f2, f3, _⟩ := jf2 hl h
 obtain ⟨g1, g2, g3⟩ := jga (rolF (pS (bz s))) (bz t) 0 f1
 have hp := jho h
 have hv : dval (gsGo (rolF (pS (bz s))) (bz t)) = rdA (bz s) (bz t) := by rw [dval, g3, f2, rdA]
 have hlen : (gsGo (rolF (pS (bz s))) (bz t)).length = (pD (bz s)).toNat := by omega
 have hr := jei _ g2
 rw [hv, hlen] at hr
 refine ⟨by rw [← hv]; exact digZ_val' _ _ hlen g2, hr.1, hr.2, hv, by rw [cN_nv _ f1, f2, pN_nv h]⟩
def s22 (s : ByteArray) (t : ByteArray) : Bool × Value := (decide (s.size ≤ 9223372036854775807 ∧ t.size ≤ 9223372036854775807), .tuple ⟨[.int .i64 (rdV (bz s) (bz t)).1, .int .i64 (rdV (bz s) (bz t)).2]⟩)
theorem fn22 : Fn1 Tryz.prog 146 Tryz.f146 := .m Tryz.func146 (by kernel_rfl)
theorem v22 (s : ByteArray) (t : ByteArray) (R : Value → Prop) : ja4 Tryz.prog G38 noL Tryz.f146 [Enc.enc s, Enc.enc t] (fun _ => none) 0 (fun v _ _ => R v) = ( bif decide (s.size ≤ 9223372036854775807) then bif pN (bz s) then ∀ (k cap : Nat) (d : List Value), jbn d k cap = true → zc d k = rolF (pS (bz s)) → bif (t.size : Int) != pW (bz s) then R (.tuple (.mk [I 0, I 31])) else bif jbn d k cap && decide (k ≤ 1000 ∧ cN (zc d k) ≤ (t.size : Int)) then ∀ (e : ByteArray), sz (gsGo (zc d k) (bz t)) = e → bif decide (1 ≤ e.size ∧ e.size ≤ 18) && dgL (bz e) then bif jbn d k cap && (roOK (zc d k) && (dgL (bz e) && decide ((k ≤ 1000 ∧ e.size ≤ 1000 ∧ k ≤ (sz (pS (bz s))).size ∧ (sz (pS (bz s))).size ≤ 1000 ∧ 0 ≤ pW (bz s) ∧ pW (bz s) ≤ 1000) ∧ cdg (zc d k) ≤ (e.size : Int) ∧ (fdFl (pS (bz s)) = 32 ∨ fdFl (pS (bz s)) = 42)))) then ∀ (t_1 : ByteArray) (l : Int), sz (wrV (bz (sz (pS (bz s)))) (pW (bz s)) (Prod.snd (nD (jal (pS (bz s)))).2) (crZ (pS (bz s))) (drZ (jal (pS (bz s)))) (fdFl (pS (bz s))) (↑(cntZ (mkGo (drZ (jal (pS (bz s)))) false (jal (pS (bz s)))) 100) : Int) (zc d k) (bz e) false).1 = t_1 → (wrV (bz (sz (pS (bz s)))) (pW (bz s)) (Prod.snd (nD (jal (pS (bz s)))).2) (crZ (pS (bz s))) (drZ (jal (pS (bz s)))) (fdFl (pS (bz s))) (↑(cntZ (mkGo (drZ (jal (pS (bz s)))) false (jal (pS (bz s)))) 100) : Int) (zc d k) (bz e) false).2 = l → bif t_1.toList == t.toList then R (.tuple (.mk [I (dval (bz e)), I 0])) else bif jbn d k cap && (roOK (zc d k) && (dgL (bz e) && decide ((k ≤ 1000 ∧ e.size ≤ 1000 ∧ k ≤ (sz (pS (bz s))).size ∧ (sz (pS (bz s))).size ≤ 1000 ∧ 0 ≤ pW (bz s) ∧ pW (bz s) ≤ 1000) ∧ cdg (zc d k) ≤ (e.size : Int) ∧ (fdFl (pS (bz s)) = 32 ∨ fdFl (pS (bz s)) = 42)))) then ∀ (t_2 : ByteArray) (l : Int), sz (wrV (bz (sz (pS (bz s)))) (pW (bz s)) (Prod.snd (nD (jal (pS (bz s)))).2) (crZ (pS (bz s))) (drZ (jal (pS (bz s)))) (fdFl (pS (bz s))) (↑(cntZ (mkGo (drZ (jal (pS (bz s)))) false (jal (pS (bz s)))) 100) : Int) (zc d k) (bz e) true).1 = t_2 → (wrV (bz (sz (pS (bz s)))) (pW (bz s)) (Prod.snd (nD (jal (pS (bz s)))).2) (crZ (pS (bz s))) (drZ (jal (pS (bz s)))) (fdFl (pS (bz s))) (↑(cntZ (mkGo (drZ (jal (pS (bz s)))) false (jal (pS (bz s)))) 100) : Int) (zc d k) (bz e) true).2 = l → bif bif t_2.toList == t.toList then pG (bz s) || true else true then bif t_2.toList == t.toList && (pG (bz s) && decide (dval (bz e) > 0)) then R (.tuple (.mk [I (IntKind.wrap .i64 (0 - dval (bz e))), I 0])) else R (.tuple (.mk [I 0, I 31])) else False else False else False else False else False else R (.tuple (.mk [I 0, I 30])) else False) := by kernel_rfl
theorem ok22 : jan Tryz.prog 146 (sp2 s22) := by
 refine jcr ok_G38 hmix fn22 jai (jag (by kernel_rfl)) fun s t hc => ?_
 rw [ja3, v22]
 have hc : (s.size ≤ 9223372036854775807 ∧ t.size ≤ 9223372036854775807) := jab hc
 try dsimp only [s22]
 refine c_t (jaa hc.1) (cond_intro (fun h => ?_) (fun h => ?_))
 ·intro k cap d hR hz
  obtain ⟨u1, u2, u3, u4, u5⟩ := gs_use (t := t) h
  have hl := jf3 s
  have hr := jav.1 hR
  have hk : k = (pS (bz s)).length := by rw [← rol_len h, ← hz, jbc hr]
  have hp := jho h
  have bl : ((bz t).length : Int) = t.size := by rw [jaq]
  refine cond_intro (fun hw => ?_) (fun hw => ?_)
  ·have hw : ¬ (t.size : Int) = pW (bz s) := by simpa using hw
   rw [rdV, if_pos h, bl, if_neg hw]
  ·have hw : (t.size : Int) = pW (bz s) := by simpa using hw
   refine c_t (by rw [hR, hz, u5]; simp only [Bool.true_and, jae]; omega) fun e he => ?_
   rw [hz, ← u1] at he
   have hdd := jeu (pD (bz s)).toNat (rdA (bz s) (bz t))
   have be : bz e = digZ (rdA (bz s) (bz t)) (pD (bz s)).toNat := by rw [← he, jc9 (jir hdd)]
   have ze : e.size = (pD (bz s)).toNat := by rw [← jaq, be, je4]
   have hv : dval (bz e) = rdA (bz s) (bz t) := by rw [be, u1, u4]
   rw [hv, rdV, if_pos h, bl, if_pos hw]
   generalize rdA (bz s) (bz t) = m at *
   have hm : ((m.natAbs : Nat) : Int) = m := by omega
   have hm' : (((0 - m).natAbs : Nat) : Int) = m := by omega
   obtain ⟨g1, g2⟩ := wr_use h hR hz (m := m) (by omega)
   obtain ⟨k1, k2⟩ := wr_use h hR hz (m := 0 - m) (by omega)
   rw [hm, he] at g1 g2
   rw [hm', he] at k2
   have d0 : decide (m < 0) = false := jad (by omega)
   rw [d0] at g2
   have ht : tenZ (pD (bz s)).toNat ≤ 1000000000 := jgx (by omega)
   have hF : ∀ (a : ByteArray) (n : Int), sz (jdd (pS (bz s)) (pW (bz s)) (pD (bz s)).toNat n) = a → (a.toList == t.toList) = decide (fdN (bz s) n = bz t) := fun a n e => by
    rw [jcd, ← e, jc9 (jgc hl.1 _ _ _)]
    rfl
   refine c_t (by rw [be, hdd, ze, Bool.and_true, jae]; omega) (c_t g1 fun a1 l1 q1 q2 => cond_intro (fun p => ?_) (fun p => c_t g1 fun a2 l2 q3 q4 => ?_))
   ·rw [hF _ _ (by rw [← q1, g2])] at p
    rw [if_pos (jab p)]
   ·rw [hF _ _ (by rw [← q1, g2])] at p
    have p := jac p
    rw [if_neg p]
    refine c_t (by cases ByteArray.toList a2 == ByteArray.toList t <;> simp) ?_
    by_cases m0 : m > 0
    ·have d1 : decide (0 - m < 0) = true := jaa (by omega)
     rw [d1] at k2
     rw [hF _ _ (by rw [← q3, k2]), w64 (n := 0 - m) (by omega)]
     by_cases r1 : fdN (bz s) (0 - m) = bz t
     ·cases hG : pG (bz s) with
      | true =>
       have : (decide (fdN (bz s) (0 - m) = bz t) && (true && decide (m > 0))) = true := by rw [jaa r1, jaa m0]; rfl
       rw [this, if_pos ⟨rfl, m0, r1⟩]
       rfl
      | false =>
       rw [Bool.false_and, Bool.and_false, if_neg (fun q => by cases q.1)]
       rfl
     ·rw [jad r1, Bool.false_and, if_neg (fun q => r1 q.2.2)]
      rfl
    ·rw [jad m0, Bool.and_false, Bool.and_false, if_neg (fun q => m0 q.2.1)]
     rfl
 ·have h1 : ¬ pN (bz s) = true := by rw [h]; simp
  rw [rdV, if_neg h1]
def G39 : Env := ((Env.nil.addG 145 h70).add 147 (sp2 s71)).add 146 (sp2 s22)
theorem ok_G39 : jax Tryz.prog G39 := jaj (jaj (jao jam jjf) ok71) ok22
theorem ch_all {l : List Int} (h : vOK l = true) (hn : pN l = false) : (pS l).all (hasZ [65, 88, 57]) = true := by
 have hc : jd0 (exZ l) = true := by
  simp only [vOK, jaf, Bool.or_eq_true] at h
  simp only [pN] at hn
  rcases h.2 with q | q
  ·exact q
  ·rw [h.1, q] at hn; cases hn
 rw [pS, if_pos h]
 simp only [jd0, jaf] at hc
 exact hc.1
def s24 (s : ByteArray) (t : ByteArray) : Bool × Value := (decide (s.size ≤ 9223372036854775807 ∧ t.size ≤ 9223372036854775807), .bool (hoZ (bz s) (bz t)))
theorem fn24 : Fn1 Tryz.prog 72 Tryz.f72 := .m Tryz.func72 (by kernel_rfl)
theorem v24 (s : ByteArray) (t : ByteArray) (R : Value → Prop) : ja4 Tryz.prog G39 noL Tryz.f72 [Enc.enc s, Enc.enc t] (fun _ => none) 0 (fun v _ _ => R v) = ( bif decide (s.size ≤ 9223372036854775807) then bif vOK (bz s) then bif pN (bz s) then ∀ (k cap : Nat) (d : List Value), jbn d k cap = true → zc d k = rolF (pS (bz s)) → bif decide (s.size ≤ 9223372036854775807 ∧ t.size ≤ 9223372036854775807) then R (B ((rdV (bz s) (bz t)).2 == 0)) else False else bif List.all (bz (sz (pS (bz s)))) (hasZ [65, 88, 57]) && decide ((sz (pS (bz s))).size ≤ 1000 ∧ t.size ≤ 9223372036854775807) then R (B (decide ((t.size : Int) = (↑((sz (pS (bz s))).size) : Int)) && onGo (bz (sz (pS (bz s)))) (bz t))) else False else R (B false) else False) := by kernel_rfl
theorem ok24 : jan Tryz.prog 72 (sp2 s24) := by
 refine jcr ok_G39 hmix fn24 jai (jag (by kernel_rfl)) fun s t hc => ?_
 rw [ja3, v24]
 have hc : (s.size ≤ 9223372036854775807 ∧ t.size ≤ 9223372036854775807) := jab hc
 try dsimp only [s24]
 refine c_t (jaa hc.1) (cond_intro (fun h => cond_intro (fun hn => ?_) (fun hn => ?_)) (fun h => ?_))
 ·intro k cap d _ _
  refine c_t (jaa hc) ?_
  rw [hoZ, if_pos h, if_pos hn]
  rfl
 ·have hl := jf3 s
  have b1 : bz (sz (pS (bz s))) = pS (bz s) := jc9 hl.1
  have z1 : (sz (pS (bz s))).size = (pS (bz s)).length := by rw [← jaq, b1]
  have hn' : ¬ pN (bz s) = true := by rw [hn]; simp
  rw [b1, z1, ch_all h hn]
  refine c_t (by simp only [Bool.true_and, jae]; omega) ?_
  rw [hoZ, if_pos h, if_neg hn', pCh h hn, jaq]
 ·have h1 : ¬ vOK (bz s) = true := by rw [h]; simp
  rw [hoZ, if_neg h1]
end Go.Px
end
section
namespace Go.Fx
open Go Go.Ab
structure Ty where
 k : Int
 p : Int
 q : Int
 v : Bool
 s : ByteArray
structure Vl where
 n : Int
 s : ByteArray
instance : Enc Ty where
 enc t := .agg ⟨[.int .i64 t.k, .int .i64 t.p, .int .i64 t.q, .bool t.v, .string t.s]⟩
 dec | .agg ⟨[.int .i64 k, .int .i64 p, .int .i64 q, .bool v, .string s]⟩ => some ⟨k, p, q, v, s⟩ | _ => none
 dec_some := by
  intro v a h
  split at h
  ·cases h; rfl
  ·cases h
 plain_enc _ := rfl
instance : Enc Vl where
 enc t := .agg ⟨[.int .i64 t.n, .string t.s]⟩
 dec | .agg ⟨[.int .i64 n, .string s]⟩ => some ⟨n, s⟩ | _ => none
 dec_some := by
  intro v a h
  split at h
  ·cases h; rfl
  ·cases h
 plain_enc _ := rfl
abbrev I (n : Int) : Value := .int .i64 n
abbrev B (b : Bool) : Value := .bool b
def T0 : Ty := ⟨0, 0, 0, false, ⟨#[]⟩⟩
def V0 : Vl := ⟨0, ⟨#[]⟩⟩
abbrev tv (t : Ty) : Value := .agg ⟨[.int .i64 t.k, .int .i64 t.p, .int .i64 t.q, .bool t.v, .string t.s]⟩
abbrev vv (v : Vl) : Value := .agg ⟨[.int .i64 v.n, .string v.s]⟩
abbrev tup (l : List Value) : Value := .tuple ⟨l⟩
def most (k : Int) : Int := if k = 1 then 9 else 31
def jbl (t : Ty) : Prop := (t.k = 1 ∨ t.k = 2) ∧ 1 ≤ t.p ∧ t.p ≤ most t.k ∧ 0 ≤ t.q ∧ t.q ≤ t.p ∧ (t.k = 2 → t.q = 0) ∧ t.v = false ∧ t.s.toList = []
instance (t : Ty) : Decidable (jbl t) := by unfold jbl; infer_instance
def base (k : Int) : Int := if k = 1 then 10 else 2
def pw (b n : Int) : Int := b ^ n.toNat
def bnd (t : Ty) : Int := pw (base t.k) t.p
def check (t : Ty) : Int := if jbl t then 0 else 5
def Fit (v : Vl) (t : Ty) : Prop := v.s.toList = [] ∧ -bnd t < v.n ∧ v.n < bnd t
instance (v : Vl) (t : Ty) : Decidable (Fit v t) := by unfold Fit; infer_instance
def fits (v : Vl) (t : Ty) : Int := if jbl t then (if Fit v t then 0 else 6) else 5
def InB (n : Int) (t : Ty) : Prop := -bnd t < n ∧ n < bnd t
instance (n : Int) (t : Ty) : Decidable (InB n t) := by unfold InB; infer_instance
def tensL : List Value := [.int .i64 1, .int .i64 10, .int .i64 100, .int .i64 1000, .int .i64 10000, .int .i64 100000, .int .i64 1000000, .int .i64 10000000, .int .i64 100000000, .int .i64 1000000000,
 .int .i64 10000000000, .int .i64 100000000000, .int .i64 1000000000000, .int .i64 10000000000000, .int .i64 100000000000000, .int .i64 1000000000000000, .int .i64 10000000000000000, .int .i64 100000000000000000, .int .i64 1000000000000000000]
def R64 (n : Int) : Prop := -9223372036854775808 ≤ n ∧ n ≤ 9223372036854775807
instance (n : Int) : Decidable (R64 n) := by unfold R64; infer_instance
def zer (op b : Int) : Prop := (op = 9 ∨ op = 10) ∧ b = 0
instance (op b : Int) : Decidable (zer op b) := by unfold zer; infer_instance
def Q18 (n : Int) : Prop := -4000000000000000000 ≤ n ∧ n ≤ 4000000000000000000
instance (n : Int) : Decidable (Q18 n) := by unfold Q18; infer_instance
def quoOK (a b up : Int) : Prop := b ≠ 0 ∧ -18 ≤ up ∧ up ≤ 18 ∧ Q18 a ∧ Q18 b ∧ (0 ≤ up → Q18 (a * pw 10 up)) ∧ (up < 0 → Q18 (b * pw 10 (-up)))
instance (a b up : Int) : Decidable (quoOK a b up) := by unfold quoOK; infer_instance
def dvOK (op y : Int) : Prop := op = 10 → y ≠ 0
instance (op y : Int) : Decidable (dvOK op y) := by unfold dvOK; infer_instance
def rOK (n u : Int) : Prop := 1 ≤ u ∧ u ≤ 1000000000 ∧ -4000000000000000000 ≤ n ∧ n ≤ 4000000000000000000
instance (n u : Int) : Decidable (rOK n u) := by unfold rOK; infer_instance
theorem w64 {n : Int} (h : -9223372036854775808 ≤ n ∧ n ≤ 9223372036854775807) : IntKind.i64.wrap n = n := by rw [IntKind.wrap_i64]; omega
theorem str0 (s : ByteArray) : (!s.toList == (ByteArray.mk #[]).toList) = !decide (s.toList = []) := by
 have : (ByteArray.mk #[]).toList = [] := by kernel_rfl
 rw [this]
 cases s.toList <;> rfl
end Go.Fx
namespace Go.Fx
open Go Go.Ab
theorem jby (a b : Int) : IntKind.i64.wrap (IntKind.i64.wrap a * b) = IntKind.i64.wrap (a * b) := by
 simp only [IntKind.wrap_i64]
 have h : ((a + 9223372036854775808) % 18446744073709551616 - 9223372036854775808) * b = a * b + 18446744073709551616 * (-((a + 9223372036854775808) / 18446744073709551616) * b) := by
  have := Int.emod_def (a + 9223372036854775808) 18446744073709551616
  rw [this]
  grind
 rw [h]
 omega
theorem jb1 (b : Int) {n : Int} (h : n ≤ 0) : pw b n = 1 := by
 rw [pw, show n.toNat = 0 by omega, Int.pow_zero]
theorem jca (b : Int) {n : Int} (h : 0 ≤ n) : pw b (n + 1) = pw b n * b := by
 rw [pw, pw, show (n + 1).toNat = n.toNat + 1 by omega, Int.pow_succ]
theorem pw_add (b : Int) {n m : Int} (h : 0 ≤ n) (h' : 0 ≤ m) : pw b (n + m) = pw b n * pw b m := by
 rw [pw, pw, pw, show (n + m).toNat = n.toNat + m.toNat by omega, Int.pow_add]
theorem jgm {b : Int} (hb : 1 ≤ b) (n : Int) : 1 ≤ pw b n := by
 have : 0 < b ^ n.toNat := Int.pow_pos (by omega)
 unfold pw; omega
theorem jh6 {b : Int} (hb : 1 ≤ b) {n m : Int} (h : n ≤ m) : pw b n ≤ pw b m := by
 rcases Int.le_total n 0 with hn | hn
 ·rw [jb1 b hn]; exact jgm hb m
 ·have e : m = n + (m - n) := by omega
  rw [e, pw_add b hn (by omega)]
  have h1 := jgm hb n
  have h2 := jgm hb (m - n)
  have := Int.mul_le_mul_of_nonneg_left h2 (show 0 ≤ pw b n by omega)
  omega
theorem pw10_18 : pw 10 18 = 1000000000000000000 := by decide
theorem pw10_9 : pw 10 9 = 1000000000 := by decide
theorem pw2_31 : pw 2 31 = 2147483648 := by decide
end Go.Fx
namespace Go.Fx
open Go Go.Ab
theorem tens_nat : ∀ n : Nat, n < 19 → jbo .i64 tensL n = true ∧ jat tensL n = 10 ^ n := by decide
theorem tens_at {p : Int} (h : 0 ≤ p) (h' : p < 19) : jbo .i64 tensL p.toNat = true ∧ jat tensL p.toNat = pw 10 p := tens_nat _ (by omega)
theorem shl_pw {p : Int} (h : 0 ≤ p) (h' : p ≤ 62) : IntKind.i64.wrap (1 * 2 ^ min p.toNat 64) = pw 2 p := by
 have h1 := jh6 (b := 2) (by omega) h'
 have h2 := jgm (b := 2) (by omega) p
 have h3 : pw 2 62 = 4611686018427387904 := by decide
 rw [show min p.toNat 64 = p.toNat by omega, Int.one_mul]
 exact w64 (by show _ ≤ pw 2 p ∧ pw 2 p ≤ _; omega)
theorem jcw {b p : Int} (h : b = 10 ∧ p ≤ 18 ∨ b = 2 ∧ p ≤ 62) : IntKind.i64.wrap (pw b p) = pw b p := by
 have h3 : pw 2 62 = 4611686018427387904 := by decide
 have h4 := pw10_18
 rcases h with ⟨rfl, h⟩ | ⟨rfl, h⟩
 ·have h1 := jh6 (b := 10) (by omega) h
  have h2 := jgm (b := 10) (by omega) p
  exact w64 (by omega)
 ·have h1 := jh6 (b := 2) (by omega) h
  have h2 := jgm (b := 2) (by omega) p
  exact w64 (by omega)
end Go.Fx
namespace Go.Fx
open Go Go.Ab
theorem bnd_range {t : Ty} (h : jbl t) : 2 ≤ bnd t ∧ bnd t ≤ 2147483648 := by
 obtain ⟨hk, h1, h2, _⟩ := h
 unfold bnd
 rcases hk with hk | hk
 ·simp only [hk, most, base] at *
  have a := jh6 (b := 10) (by omega) h1
  have b := jh6 (b := 10) (by omega) (show t.p ≤ 9 by simpa using h2)
  have c := pw10_9
  have d : pw 10 1 = 10 := by decide
  simp only [if_true]
  omega
 ·simp only [hk, most, base] at *
  have a := jh6 (b := 2) (by omega) h1
  have b := jh6 (b := 2) (by omega) (show t.p ≤ 31 by simpa using h2)
  have c := pw2_31
  have d : pw 2 1 = 2 := by decide
  simp only [show ¬ ((2 : Int) = 1) by decide, if_false]
  omega
end Go.Fx
namespace Go.Fx
end Go.Fx
namespace Go.Fx
open Go Go.Ab
theorem valid_r {t : Ty} (h : jbl t) : 1 ≤ t.p ∧ t.p ≤ 31 ∧ 0 ≤ t.q ∧ t.q ≤ t.p ∧ t.q ≤ 9 := by grind [jbl, most]
end Go.Fx
namespace Go.Fx
open Go Go.Ab
end Go.Fx
end
section
namespace Go.Cv
def dig (c : Int) : Bool := decide (48 ≤ c ∧ c ≤ 57)
def jfh (l : List Int) : Bool := l.all fun c => decide (c = 48 ∨ c = 49)
def jgg (l : List Int) : Bool := l.all dig
def ahead (c : Int) (l : List Int) : List Int := l.takeWhile (· != c)
def past (c : Int) (l : List Int) : Option (List Int) := match l.dropWhile (· != c) with
 | [] => none
 | _ :: r => some r
def expD (l : List Int) : Option Int := if 1 ≤ l.length ∧ l.length ≤ 2 ∧ jgg l = true then some (l.foldl (fun a c => 10 * a + (c - 48)) 0) else none
def expZ : List Int → Option Int
 | 43 :: l => expD l
 | 45 :: l => (expD l).map fun n => -n
 | l => expD l
abbrev Num := Bool × List Int × Int
section
variable (jhp : Bool → List Int → Int → Num) (binD : List Int → List Int)
def decR (neg : Bool) (l : List Int) : Option Num :=
 match (match past 69 l with | none => some 0 | some x => expZ x) with
 | none => none
 | some e =>
  let s := ahead 69 l
  let whole := ahead 46 s
  let part := (past 46 s).getD []
  if whole ++ part ≠ [] ∧ jgg whole = true ∧ jgg part = true then some (jhp neg (whole ++ part) (part.length - e)) else none
structure Rd where
 neg : Bool := false
 bin : Bool := false
 down : Bool := false
 ds : List Int := []
 sc : Int := 0
 pw : Int := 0
end
theorem digs_app {a b : List Int} : jgg (a ++ b) = (jgg a && jgg b) := List.all_append
section
variable {jhp : Bool → List Int → Int → Num} {binD : List Int → List Int}
end
def rep48 (n : Nat) : List Int := List.replicate n 48
end Go.Cv
end
noncomputable section
namespace Go.Cx
open Go Go.Ab Go.Proofs Go.Shelf Go.Px
open Go.Fx (Ty Vl)
structure Nu where
 g : Bool
 d : ByteArray
 c : Int
instance : Enc Nu where
 enc t := .agg ⟨[.bool t.g, .string t.d, .int .i64 t.c]⟩
 dec | .agg ⟨[.bool g, .string d, .int .i64 c]⟩ => some ⟨g, d, c⟩ | _ => none
 dec_some := by
  intro v a h
  split at h
  ·cases h; rfl
  ·cases h
 plain_enc _ := rfl
theorem c154 : jbp Tryz.prog 154 := cal Tryz.func154 (by kernel_rfl) (by kernel_rfl)
theorem c131 : jbp Tryz.prog 131 := cal Tryz.func131 (by kernel_rfl) (by kernel_rfl)
theorem c55 : jbp Tryz.prog 55 := cal Tryz.func55 (by kernel_rfl) (by kernel_rfl)
theorem c30 : jbp Tryz.prog 30 := cal Tryz.func30 (by kernel_rfl) (by kernel_rfl)
theorem c29 : jbp Tryz.prog 29 := cal Tryz.func29 (by kernel_rfl) (by kernel_rfl)
def tlZ (l : List Int) (c : Int) : List Int := l.dropWhile (· == c)
def trZ (l : List Int) (c : Int) : List Int := (l.reverse.dropWhile (· == c)).reverse
noncomputable def s154 (s t : ByteArray) : Bool × Value := (oneB t && asc (bz t), .string (szO (tlZ (bz s) ((bz t).getD 0 0))))
theorem ok154 : jan Tryz.prog 154 (sp2 s154) := jdg c154 fun s t hc w _ => by
 simp only [s154, jaf] at hc
 obtain ⟨c, h1, h2⟩ := je0 hc.1
 have hlt : c.toNat < 128 := jel hc.2 0 c (by rw [h1]; rfl)
 have e : Enc.enc t = Value.string ⟨#[c]⟩ := congrArg Value.string h1
 rw [e]
 refine (Any.strings_TrimLeft_one Tryz.lays161 s c hlt w).mono fun e w' ⟨h3, h4⟩ => ⟨?_, jch h4⟩
 rw [h3, jgl]
 simp only [s154, Lib.trimLeftB, jc1, tlZ]
 rw [je2 (q := (· == (bz t).getD 0 0)) (fun b => by rw [← h2, Bool.eq_iff_iff, beq_iff_eq, beq_iff_eq, ji1]), jj8]
noncomputable def s131 (s t : ByteArray) : Bool × Value := (decide (s.size ≤ 9223372036854775807) && (oneB t && asc (bz t)), .string (szO (trZ (bz s) ((bz t).getD 0 0))))
theorem ok131 : jan Tryz.prog 131 (sp2 s131) := jdg c131 fun s t hc w _ => by
 simp only [s131, jaf, jae] at hc
 obtain ⟨c, h1, h2⟩ := je0 hc.2.1
 have hlt : c.toNat < 128 := jel hc.2.2 0 c (by rw [h1]; rfl)
 have e : Enc.enc t = Value.string ⟨#[c]⟩ := congrArg Value.string h1
 rw [e]
 refine (Any.strings_TrimRight_one Tryz.lays162 s c hlt w hc.1).mono fun e w' ⟨h3, h4⟩ => ⟨?_, jch h4⟩
 rw [h3, jgl]
 simp only [s131, Lib.trimRightB, jc1, trZ]
 rw [zl, List.map_reverse]
 have hq : ∀ b : UInt8, (b == c) = ((b.toNat : Int) == (bz t).getD 0 0) := fun b => by rw [← h2, Bool.eq_iff_iff, beq_iff_eq, beq_iff_eq, ji1]
 have := je2 (p := (· == c)) (q := (· == (bz t).getD 0 0)) hq s.data.toList.reverse
 rw [zl, zl, List.map_reverse] at this
 rw [this]
 rfl
noncomputable def s55 (s t : ByteArray) : Bool × Value := (decide (s.size ≤ 9223372036854775807) && (decide (t.size ≤ 1000) && asc (bz t)), .string (szO (jct (bz s) (bz t))))
theorem ok55 : jan Tryz.prog 55 (sp2 s55) := jdg c55 fun s t hc w _ => by
 simp only [s55, jaf, jae] at hc
 obtain ⟨h1, h2, h3⟩ := hc
 refine (Any.strings_Trim_laid Tryz.lays160 info128' s t w (by omega) (by omega) (jel h3)).mono fun e w' ⟨h5, h6⟩ => ⟨?_, h6⟩
 rw [h5, jgl, trim_zl]
 simp only [s55, jc1]
 rfl
def s30 (s : ByteArray) (n : Int) : Bool × Value := (decide (0 ≤ n ∧ n ≤ 1000 ∧ s.size ≤ 1000), .string (szO (repZ (bz s) n.toNat)))
theorem ok30 : jan Tryz.prog 30 (sp2 s30) := jdg c30 fun s n hc w _ => by
 obtain ⟨h1, h2, h3⟩ := jab hc
 have e : Enc.enc n = Value.int .i64 (n.toNat : Int) := by
  show Value.int .i64 n = _
  rw [Int.toNat_of_nonneg h1]
 rw [e]
 have hm : s.size * n.toNat ≤ 1000 * 1000 := Nat.mul_le_mul h3 (by omega)
 refine (Any.strings_Repeat Tryz.lays105 Tryz.Builder_Extra_105 s n.toNat w (by omega) (by omega)).mono fun e w' ⟨h4, h5⟩ => ⟨?_, h5⟩
 rw [h4, jgl, ji5]
 simp only [s30, jc1]
 rfl
def itoZ (n : Int) : List Int := zl (Lib.itoa n)
def s29 (n : Int) : Bool × Value := (decide (-9223372036854775808 ≤ n ∧ n ≤ 9223372036854775807), .string (szO (itoZ n)))
theorem ok29 : jan Tryz.prog 29 (sp1 s29) := shelf1 c29 fun n hc w ht => by
 obtain ⟨h0, h1⟩ := jab hc
 refine (Any.strconv_Itoa (ρ := Tryz.laysM171_ren) Tryz.laysM171 n h0 h1 w (tab_pow ht)).mono fun e w' ⟨h2, k, os, h3⟩ => ⟨?_, by rw [h3]; exact Lib.below_grow _ _ (Nat.le_refl _) _ _⟩
 rw [h2, jgl]
 simp only [s29, jc1]
 rfl
end Go.Cx
end
noncomputable section
set_option maxHeartbeats 3200000
namespace Go.Cx
open Go Go.Ab Go.Proofs Go.Shelf Go.Px Go.Cv
open Go.Fx (Ty Vl check jbl most base pw bnd Fit fits tv vv tup V0 T0 jb1 jca jby jcw str0)
def G0 : Env := Env.nil
theorem ok_G0 : jax Tryz.prog G0 := jam
theorem dropW0 (l : List Int) : List.drop (Int.toNat 0) l = l := rfl
def binG : List Int → Int → Int
 | [], a => a
 | c :: r, a => binG r (2 * a + (c - 48))
theorem bz_take {s : ByteArray} (n : Nat) : bz (s.extract 0 n) = (bz s).take n := by rw [jce]; rfl
theorem jhe (s : ByteArray) (i j : Nat) : (s.extract i j).size = min j s.size - i := ByteArray.size_extract
theorem jc8 (s : ByteArray) : (s.toList == (ByteArray.mk #[]).toList) = decide (bz s = []) := by
 rw [jcd]
 rfl
def s152 (c : U8) : Bool × Value := (true, B (c.n == 32))
theorem fn152 : Fn1 Tryz.prog 152 Tryz.f152 := .m Tryz.func152 (by kernel_rfl)
theorem v152 (c : U8) (R : Value → Prop) : ja4 Tryz.prog G0 noL Tryz.f152 [Enc.enc c] (fun _ => none) 0 (fun v _ _ => R v) = ( R (B (U8.n c == 32))) := by kernel_rfl
theorem ok152 : jan Tryz.prog 152 (sp1 s152) := by
 refine jb7 ok_G0 hmix fn152 jai (jag (by kernel_rfl)) fun c hc => ?_
 rw [ja3, v152]
 try dsimp only [s152]
def s213 (c : U8) : Bool × Value := (true, B (dig c.n))
theorem fn213 : Fn1 Tryz.prog 213 Tryz.f213 := .m Tryz.func213 (by kernel_rfl)
theorem v213 (c : U8) (R : Value → Prop) : ja4 Tryz.prog G0 noL Tryz.f213 [Enc.enc c] (fun _ => none) 0 (fun v _ _ => R v) = ( bif decide (U8.n c ≥ 48) || true then R (B (decide (U8.n c ≥ 48) && decide (U8.n c ≤ 57))) else False) := by kernel_rfl
theorem ok213 : jan Tryz.prog 213 (sp1 s213) := by
 refine jb7 ok_G0 hmix fn213 jai (jag (by kernel_rfl)) fun c hc => ?_
 rw [ja3, v213]
 try dsimp only [s213]
 refine c_t (by simp) ?_
 show Value.bool _ = Value.bool _
 congr 1
 rw [Bool.eq_iff_iff]
 simp [dig]
def s141 (k : Int) : Bool × Value := (true, I (most k))
theorem fn141 : Fn1 Tryz.prog 141 Tryz.f141 := .m Tryz.func141 (by kernel_rfl)
theorem v141 (k : Int) (R : Value → Prop) : ja4 Tryz.prog G0 noL Tryz.f141 [Enc.enc k] (fun _ => none) 0 (fun v _ _ => R v) = ( bif k == 1 then R (I 9) else R (I 31)) := by kernel_rfl
theorem ok141 : jan Tryz.prog 141 (sp1 s141) := by
 refine jb7 ok_G0 hmix fn141 jai (jag (by kernel_rfl)) fun k hc => ?_
 rw [ja3, v141]
 try dsimp only [s141]
 repeat' refine cond_intro (fun h => ?_) (fun h => ?_)
 all_goals grind [s141, most]
def s208 (k : Int) : Bool × Value := (true, I (base k))
theorem fn208 : Fn1 Tryz.prog 208 Tryz.f208 := .m Tryz.func208 (by kernel_rfl)
theorem v208 (k : Int) (R : Value → Prop) : ja4 Tryz.prog G0 noL Tryz.f208 [Enc.enc k] (fun _ => none) 0 (fun v _ _ => R v) = ( bif k == 1 then R (I 10) else R (I 2)) := by kernel_rfl
theorem ok208 : jan Tryz.prog 208 (sp1 s208) := by
 refine jb7 ok_G0 hmix fn208 jai (jag (by kernel_rfl)) fun k hc => ?_
 rw [ja3, v208]
 try dsimp only [s208]
 repeat' refine cond_intro (fun h => ?_) (fun h => ?_)
 all_goals grind [s208, base]
def G1 : Env := Env.nil.add 141 (sp1 s141)
theorem ok_G1 : jax Tryz.prog G1 := jaj jam ok141
def s66 (t : Ty) : Bool × Value := (true, I (check t))
theorem fn66 : Fn1 Tryz.prog 66 Tryz.f66 := .m Tryz.func66 (by kernel_rfl)
theorem v66 (t : Ty) (R : Value → Prop) : ja4 Tryz.prog G1 noL Tryz.f66 [Enc.enc t] (fun _ => none) 0 (fun v _ _ => R v) = ( bif bif !t.k == 1 then !t.k == 2 || (decide (t.p < 1) || (decide (t.p > most t.k) || (decide (t.q < 0) || (decide (t.q > t.p) || bif t.k == 2 then t.q != 0 || (t.v || true) else t.v || true)))) else decide (t.p < 1) || (decide (t.p > most t.k) || (decide (t.q < 0) || (decide (t.q > t.p) || bif t.k == 2 then t.q != 0 || (t.v || true) else t.v || true))) then bif bif !t.k == 1 then !t.k == 2 || (decide (t.p < 1) || (decide (t.p > most t.k) || (decide (t.q < 0) || (decide (t.q > t.p) || bif t.k == 2 then t.q != 0 || (t.v || !t.s.toList == (ByteArray.mk #[]).toList) else t.v || !t.s.toList == (ByteArray.mk #[]).toList)))) else decide (t.p < 1) || (decide (t.p > most t.k) || (decide (t.q < 0) || (decide (t.q > t.p) || bif t.k == 2 then t.q != 0 || (t.v || !t.s.toList == (ByteArray.mk #[]).toList) else t.v || !t.s.toList == (ByteArray.mk #[]).toList))) then R (I 5) else R (I 0) else False) := by kernel_rfl
theorem ok66 : jan Tryz.prog 66 (sp1 s66) := by
 refine jb7 ok_G1 hmix fn66 jai (jag (by kernel_rfl)) fun t hc => ?_
 rw [ja3, v66]
 try dsimp only [s66]
 repeat' refine cond_intro (fun h => ?_) (fun h => ?_)
 all_goals grind [s66, check, jbl, str0]
def s142 (t : Ty) : Bool × Value := (true, I (check t))
theorem fn142 : Fn1 Tryz.prog 142 Tryz.f142 := .m Tryz.func142 (by kernel_rfl)
theorem v142 (t : Ty) (R : Value → Prop) : ja4 Tryz.prog G1 noL Tryz.f142 [Enc.enc t] (fun _ => none) 0 (fun v _ _ => R v) = ( bif t.v || true then bif t.v || !t.s.toList == (ByteArray.mk #[]).toList then R (I 5) else bif bif t.k == 1 then bif decide (t.p ≥ 1) then bif decide (t.p ≤ 9) then decide (t.q ≥ 0) || true else true else true else true then bif t.k == 1 && (decide (t.p ≥ 1) && (decide (t.p ≤ 9) && (decide (t.q ≥ 0) && decide (t.q ≤ t.p)))) then R (I 0) else bif bif t.k == 2 then bif decide (t.p ≥ 1) then decide (t.p ≤ 31) || true else true else true then bif t.k == 2 && (decide (t.p ≥ 1) && (decide (t.p ≤ 31) && t.q == 0)) then R (I 0) else R (I 5) else False else False else False) := by kernel_rfl
theorem ok142 : jan Tryz.prog 142 (sp1 s142) := by
 refine jb7 ok_G1 hmix fn142 jai (jag (by kernel_rfl)) fun t hc => ?_
 rw [ja3, v142]
 try dsimp only [s142]
 repeat' refine cond_intro (fun h => ?_) (fun h => ?_)
 all_goals grind [s142, check, jbl, str0, most]
def G2 : Env := (Env.nil.add 66 (sp1 s66)).add 142 (sp1 s142)
theorem ok_G2 : jax Tryz.prog G2 := jaj (jaj jam ok66) ok142
def s85 (t : Ty) : Bool × Value := (true, B (decide (jbl t)))
theorem fn85 : Fn1 Tryz.prog 85 Tryz.f85 := .m Tryz.func85 (by kernel_rfl)
theorem v85 (t : Ty) (R : Value → Prop) : ja4 Tryz.prog G2 noL Tryz.f85 [Enc.enc t] (fun _ => none) 0 (fun v _ _ => R v) = ( R (B (check t == 0))) := by kernel_rfl
theorem ok85 : jan Tryz.prog 85 (sp1 s85) := by
 refine jb7 ok_G2 hmix fn85 jai (jag (by kernel_rfl)) fun t hc => ?_
 rw [ja3, v85]
 try dsimp only [s85]
 show Value.bool _ = Value.bool _
 congr 1
 rw [check]
 split <;> simp_all
def s68 (t : Ty) : Bool × Value := (true, B (decide (jbl t)))
theorem fn68 : Fn1 Tryz.prog 68 Tryz.f68 := .m Tryz.func68 (by kernel_rfl)
theorem v68 (t : Ty) (R : Value → Prop) : ja4 Tryz.prog G2 noL Tryz.f68 [Enc.enc t] (fun _ => none) 0 (fun v _ _ => R v) = ( R (B (check t == 0))) := by kernel_rfl
theorem ok68 : jan Tryz.prog 68 (sp1 s68) := by
 refine jb7 ok_G2 hmix fn68 jai (jag (by kernel_rfl)) fun t hc => ?_
 rw [ja3, v68]
 try dsimp only [s68]
 show Value.bool _ = Value.bool _
 congr 1
 rw [check]
 split <;> simp_all
def V178_0 : Int × Int × Int × Int × Int → List Value := fun (b, k, r, x, i) => [I b, I k, I r, I x, I i]
def B178_0 : Int × Int × Int × Int × Int → List (Option Blk) := fun _ => []
def S178_0 : LSpec (Int × Int × Int × Int × Int) where
 live := [0, 1, 4, 5, 6]
 mid := []
 n := 40
 dec vs bs := match vs, bs with | [.int .i64 b, .int .i64 k, .int .i64 r, .int .i64 x, .int .i64 i], [] => some (b, k, r, x, i) | _, _ => none
 pre := fun (b, k, r, x, i) => decide (0 ≤ i ∧ i ≤ max k 0 ∧ k ≤ 1000) && x == IntKind.i64.wrap (pw b i)
 fin := fun (b, k, r, x, i) Z => Z (.exit 0) [I b, I k, I r, I (IntKind.i64.wrap (pw b k)), I (max k 0)] []
theorem r178_0 (b : Int) (k : Int) (r : Int) (x : Int) (i : Int) (jk : Tmps) (R : Exit → List Value → List (Option Blk) → Prop) : (jbr Tryz.prog G2 noL Tryz.f178.ntmps (jbb Tryz.f178 0) (tl S178_0.live (V178_0 (b, k, r, x, i)) jk) (ml S178_0.mid (B178_0 (b, k, r, x, i))) S178_0.n fun e t' m' _ => R e (List.map t' S178_0.live) (List.map m' S178_0.mid)) = ( bif decide (i < k) then R Exit.normal [I b, I k, I r, I (IntKind.wrap .i64 (x * b)), I (IntKind.wrap .i64 (i + 1))] [] else R (Exit.exit 0) [I b, I k, I r, I x, I i] []) := by kernel_rfl
theorem l178_0 : LOKf Tryz.prog (oneL 0 S178_0.h) Tryz.f178 := by
 refine jbh (h := S178_0.h) (by kernel_rfl) (jbk ok_G2 hmix (by kernel_rfl) (ja6 _) S178_0 V178_0 B178_0 (fun (b, k, r, x, i) => (k - i).toNat) ?_ ?_ ?_)
 ·intro vs bs s h
  simp only [S178_0] at h
  split at h
  all_goals first | (cases h; exact ⟨rfl, rfl⟩) | cases h | (split at h <;> first | (rename_i hq; cases h; have hq := jah hq; subst hq; exact ⟨rfl, rfl⟩) | cases h)
 ·exact fun _ _ _ h => h
 ·intro ⟨b, k, r, x, i⟩ jk Z hp hf
  rw [r178_0]
  simp only [S178_0] at hp hf
  repeat' refine cond_intro (fun h => ?_) (fun h => ?_)
  ·have h := jab h
   simp only [jaf, jae, beq_iff_eq] at hp
   have hw : IntKind.i64.wrap (i + 1) = i + 1 := w64 (by omega)
   refine ⟨(b, k, r, IntKind.i64.wrap (x * b), i + 1), by rw [hw]; rfl, rfl, ?_, by simp only; omega, hf⟩
   simp only [S178_0, jaf, jae, beq_iff_eq]
   exact ⟨by omega, by rw [hp.2, jby, jca b hp.1.1]⟩
  ·have h := jac h
   simp only [jaf, jae, beq_iff_eq] at hp
   show Z _ _ _
   obtain rfl : i = max k 0 := by omega
   rw [hp.2]
   rcases Int.le_total k 0 with hk | hk
   ·rw [show max k 0 = 0 by omega] at hp ⊢
    rw [jb1 b hk, ← jb1 b (Int.le_refl 0)] at hf
    rw [show max k 0 = 0 by omega] at hf
    exact hf
   ·rw [show max k 0 = k by omega] at hf ⊢
    exact hf
def s178 (b : Int) (k : Int) : Bool × Value := (decide (k ≤ 1000), I (IntKind.i64.wrap (pw b k)))
theorem fn178 : Fn1 Tryz.prog 178 Tryz.f178 := .m Tryz.func178 (by kernel_rfl)
theorem v178 (b : Int) (k : Int) (R : Value → Prop) : ja4 Tryz.prog G2 (oneL 0 S178_0.h) Tryz.f178 [Enc.enc b, Enc.enc k] (fun _ => none) 0 (fun v _ _ => R v) = ( bif LSpec.pre S178_0 (b, k, 0, 1, 0) then ∀ (x : Tmps), R (I (IntKind.wrap .i64 (pw b k))) else False) := by kernel_rfl
theorem ok178 : jan Tryz.prog 178 (sp2 s178) := by
 refine jcr ok_G2 hmix fn178 l178_0 (jag (by kernel_rfl)) fun b k hc => ?_
 rw [ja3, v178]
 have hc : (k ≤ 1000) := jab hc
 try dsimp only [s178]
 refine cond_intro (fun _ _ => rfl) (fun h => ?_)
 have h1 : IntKind.i64.wrap (pw b 0) = 1 := by rw [jb1 b (Int.le_refl 0)]; rfl
 simp only [S178_0, h1, Bool.and_eq_false_iff, decide_eq_false_iff_not, beq_eq_false_iff_ne] at h
 omega
def G3 : Env := (Env.nil.add 208 (sp1 s208)).add 178 (sp2 s178)
theorem ok_G3 : jax Tryz.prog G3 := jaj (jaj jam ok208) ok178
def s148 (t : Ty) : Bool × Value := (decide (t.p ≤ 1000), I (IntKind.i64.wrap (bnd t)))
theorem fn148 : Fn1 Tryz.prog 148 Tryz.f148 := .m Tryz.func148 (by kernel_rfl)
theorem v148 (t : Ty) (R : Value → Prop) : ja4 Tryz.prog G3 noL Tryz.f148 [Enc.enc t] (fun _ => none) 0 (fun v _ _ => R v) = ( bif decide (t.p ≤ 1000) then R (I (IntKind.wrap .i64 (pw (base t.k) t.p))) else False) := by kernel_rfl
theorem ok148 : jan Tryz.prog 148 (sp1 s148) := by
 refine jb7 ok_G3 hmix fn148 jai (jag (by kernel_rfl)) fun t hc => ?_
 rw [ja3, v148]
 have hc : (t.p ≤ 1000) := jab hc
 try dsimp only [s148]
 exact c_t (jaa hc) rfl
def V74_0 : ByteArray × Bool × Int → List Value := fun (s, b, i) => [S s, B b, I i]
def B74_0 : ByteArray × Bool × Int → List (Option Blk) := fun _ => []
def S74_0 : LSpec (ByteArray × Bool × Int) where
 live := [0, 2, 3]
 mid := []
 n := 60
 dec vs bs := match vs, bs with | [.string s, .bool b, .int .i64 i], [] => some (s, b, i) | _, _ => none
 pre := fun (s, b, i) => decide (0 ≤ i ∧ i ≤ s.size ∧ s.size ≤ 9223372036854775807)
 fin := fun (s, b, i) Z => (bif jfh ((bz s).drop i.toNat) then Z (.exit 0) [S s, B b, I s.size] [] else (∀ i', Z .ret [S s, B false, I i'] []))
theorem r74_0 (s : ByteArray) (b : Bool) (i : Int) (jk : Tmps) (R : Exit → List Value → List (Option Blk) → Prop) : (jbr Tryz.prog G3 noL Tryz.f74.ntmps (jbb Tryz.f74 0) (tl S74_0.live (V74_0 (s, b, i)) jk) (ml S74_0.mid (B74_0 (s, b, i))) S74_0.n fun e t' m' _ => R e (List.map t' S74_0.live) (List.map m' S74_0.mid)) = ( bif decide (i < (s.size : Int)) then bif decide (0 ≤ i ∧ i < (s.size : Int)) && bif jak s i.toNat != 48 then decide (0 ≤ i ∧ i < (s.size : Int)) && true else true then bif jak s i.toNat != 48 && jak s i.toNat != 49 then R Exit.ret [S s, B false, I i] [] else R Exit.normal [S s, B b, I (IntKind.wrap .i64 (i + 1))] [] else False else R (Exit.exit 0) [S s, B b, I i] []) := by kernel_rfl
theorem l74_0 : LOKf Tryz.prog (oneL 0 S74_0.h) Tryz.f74 := by
 refine jbh (h := S74_0.h) (by kernel_rfl) (jbk ok_G3 hmix (by kernel_rfl) (ja6 _) S74_0 V74_0 B74_0 (fun (s, b, i) => (s.size - i).toNat) ?_ ?_ ?_)
 ·intro vs bs s h
  simp only [S74_0] at h
  split at h
  all_goals first | (cases h; exact ⟨rfl, rfl⟩) | cases h | (split at h <;> first | (rename_i hq; cases h; have hq := jah hq; subst hq; exact ⟨rfl, rfl⟩) | cases h)
 ·exact fun _ _ _ h => h
 ·intro ⟨s, b, i⟩ jk Z hp hf
  rw [r74_0]
  simp only [S74_0] at hp hf
  simp only [jae] at hp
  refine cond_intro (fun h => ?_) (fun h => ?_)
  ·have h := jab h
   rw [jb0 hp.1 h, jfh, List.all_cons] at hf
   refine c_t (by rw [jaa (show 0 ≤ i ∧ i < (s.size : Int) by omega)]; simp) ?_
   refine cond_intro (fun hd => ?_) (fun hd => ?_)
   ·have e : decide (jak s i.toNat = 48 ∨ jak s i.toNat = 49) = false := by rw [decide_eq_false_iff_not]; simp at hd; omega
    rw [e] at hf
    exact hf i
   ·have e : decide (jak s i.toNat = 48 ∨ jak s i.toNat = 49) = true := by rw [jae]; simp at hd; omega
    rw [e, Bool.true_and] at hf
    rw [w64 (by omega)]
    exact ⟨(s, b, i + 1), rfl, rfl, by simp only [S74_0, jae]; omega, by simp only; omega, hf⟩
  ·have h := jac h
   rw [jco (by omega)] at hf
   obtain rfl : i = s.size := by omega
   exact hf
def s74 (s : ByteArray) : Bool × Value := (decide (s.size ≤ 9223372036854775807), B (jfh (bz s)))
theorem fn74 : Fn1 Tryz.prog 74 Tryz.f74 := .m Tryz.func74 (by kernel_rfl)
theorem v74 (s : ByteArray) (R : Value → Prop) : ja4 Tryz.prog G3 (oneL 0 S74_0.h) Tryz.f74 [Enc.enc s] (fun _ => none) 0 (fun v _ _ => R v) = ( bif LSpec.pre S74_0 (s, false, 0) then bif jfh (List.drop (Int.toNat 0) (bz s)) then ∀ (x : Tmps), R (B true) else ∀ (i' : Int) (x : Tmps), R (B false) else False) := by kernel_rfl
theorem ok74 : jan Tryz.prog 74 (sp1 s74) := by
 refine jb7 ok_G3 hmix fn74 l74_0 (jag (by kernel_rfl)) fun s hc => ?_
 rw [ja3, v74]
 have hc : (s.size ≤ 9223372036854775807) := jab hc
 try dsimp only [s74]
 refine c_t (by simp only [S74_0, jae]; omega) ?_
 rw [dropW0]
 refine cond_intro (fun h => ?_) (fun h _ => ?_)
 ·rw [h]; exact fun _ => rfl
 ·rw [h]; exact fun _ => rfl
def s82 (s : ByteArray) : Bool × Value := (jfh (bz s) && decide (s.size ≤ 64), C64 (binG (bz s) 0))
def G4 : Env := (Env.nil.add 142 (sp1 s142)).add 148 (sp1 s148)
theorem ok_G4 : jax Tryz.prog G4 := jaj (jaj jam ok142) ok148
def nz (l : List Int) : List Int := trZ (tlZ l 48) 48
def jhp (g : Bool) (l : List Int) (q : Int) : Num := if nz l = [] then (false, [], 0) else (g, nz l, q - ((tlZ l 48).length - (nz l).length))
abbrev numV (x : Num) : Value := .agg ⟨[.bool x.1, .string (szO x.2.1), .int .i64 x.2.2]⟩
def num0 : Num := (false, [], 0)
theorem jh2 {s : ByteArray} {l : List Int} (h : bz s = l) : s = szO l := by rw [jc1, ← h, jhm]
theorem szO_size (l : List Int) : (szO l).size = l.length := by rw [jc1, jcm]
def s79 (s : ByteArray) : Bool × Value := (decide (s.size ≤ 9223372036854775807), S (szO (trZ (tlZ (bz s) 32) 32)))
def s80 (g : Bool) (s : ByteArray) (q : Int) : Bool × Value := (decide (s.size ≤ 1000 ∧ -100000 ≤ q ∧ q ≤ 100000), numV (jhp g (bz s) q))
def s73 (v : Vl) (t : Ty) : Bool × Value := (true, I (Fx.fits v t))
theorem fn73 : Fn1 Tryz.prog 73 Tryz.f73 := .m Tryz.func73 (by kernel_rfl)
theorem v73 (v : Vl) (t : Ty) (R : Value → Prop) : ja4 Tryz.prog G4 noL Tryz.f73 [Enc.enc v, Enc.enc t] (fun _ => none) 0 (fun v _ _ => R v) = ( bif check t != 0 then R (I (check t)) else bif !v.s.toList == (ByteArray.mk #[]).toList || decide (t.p ≤ 1000) && (decide (v.n ≥ IntKind.wrap .i64 (bnd t)) || decide (t.p ≤ 1000) && true) then bif !v.s.toList == (ByteArray.mk #[]).toList || (decide (v.n ≥ IntKind.wrap .i64 (bnd t)) || decide (v.n ≤ IntKind.wrap .i64 (0 - IntKind.wrap .i64 (bnd t)))) then R (I 6) else R (I 0) else False) := by kernel_rfl
theorem ok73 : jan Tryz.prog 73 (sp2 s73) := by
 refine jcr ok_G4 hmix fn73 jai (jag (by kernel_rfl)) fun v t hc => ?_
 rw [ja3, v73]
 try dsimp only [s73]
 rw [str0]
 by_cases hv : jbl t
 ·obtain ⟨h1, h2, h3, h4⟩ := Fx.valid_r hv
  have hb := Fx.bnd_range hv
  have hc : check t = 0 := if_pos hv
  rw [hc, w64 (n := bnd t) (by omega), w64 (n := 0 - bnd t) (by omega), jaa (show t.p ≤ 1000 by omega)]
  refine c_f rfl (c_t (by simp) ?_)
  unfold Fx.fits
  rw [if_pos hv]
  refine cond_intro (fun h => ?_) (fun h => ?_)
  ·rw [if_neg]
   intro hf
   unfold Fit at hf
   simp [hf.1] at h
   omega
  ·rw [if_pos]
   unfold Fit
   simp at h
   grind
 ·have hc : check t = 5 := if_neg hv
  rw [hc]
  refine c_t rfl ?_
  unfold Fx.fits
  rw [if_neg hv]
def chk4 (t : Ty) : Int := if jbl t then 0
 else if t.k = 3 ∧ t.q = 0 ∧ bz t.s = [] ∧ 0 ≤ t.p ∧ t.p ≤ 255 then 0
 else if t.k = 4 ∧ t.q = 0 ∧ bz t.s = [] ∧ t.v = false ∧ 0 ≤ t.p ∧ t.p ≤ 64 then 0
 else if t.k = 5 ∧ t.p = 0 ∧ t.q = 0 ∧ t.v = false ∧ pE (bz t.s) = 0 then 0
 else if t.k = 6 ∧ t.q = 0 ∧ bz t.s = [] ∧ t.p = 0 ∧ t.v = false then 0 else 5
def is4 (v : Vl) (t : Ty) : Bool :=
 if t.k = 1 ∨ t.k = 2 then Fx.fits v t == 0
 else if t.k = 3 then decide (v.n = 0 ∧ ((v.s.size : Int) = t.p ∨ t.v = true ∧ (v.s.size : Int) < t.p))
 else if t.k = 4 then decide (v.n = 0 ∧ (v.s.size : Int) = t.p) && jfh (bz v.s)
 else if t.k = 5 then decide (v.n = 0) && hoZ (bz t.s) (bz v.s)
 else decide (bz v.s = [] ∧ 0 ≤ v.n ∧ v.n ≤ 524288)
def fit4 (v : Vl) (t : Ty) : Int := if chk4 t ≠ 0 then chk4 t else if is4 v t = true then 0 else 6
def G30 : Env := (Env.nil.add 68 (sp1 s68)).add 69 (sp1 Px.s48)
theorem ok_G30 : jax Tryz.prog G30 := jaj (jaj jam ok68) Px.ok48
def s21 (t : Ty) : Bool × Value := (decide (t.s.size ≤ 9223372036854775807), I (chk4 t))
theorem fn21 : Fn1 Tryz.prog 21 Tryz.f21 := .m Tryz.func21 (by kernel_rfl)
theorem v21 (t : Ty) (R : Value → Prop) : ja4 Tryz.prog G30 noL Tryz.f21 [Enc.enc t] (fun _ => none) 0 (fun v _ _ => R v) = ( bif decide (jbl t) then R (I 0) else bif t.q == 0 || true then bif t.k == 3 then bif bif t.q == 0 && t.s.toList == (ByteArray.mk #[]).toList then decide (t.p ≥ 0) || true else true then bif t.q == 0 && t.s.toList == (ByteArray.mk #[]).toList && (decide (t.p ≥ 0) && decide (t.p ≤ 255)) then R (I 0) else R (I 5) else False else bif t.k == 4 then bif bif t.q == 0 && t.s.toList == (ByteArray.mk #[]).toList then bif !t.v then decide (t.p ≥ 0) || true else true else true then bif t.q == 0 && t.s.toList == (ByteArray.mk #[]).toList && (!t.v && (decide (t.p ≥ 0) && decide (t.p ≤ 64))) then R (I 0) else R (I 5) else False else bif t.k == 5 then bif bif t.p == 0 then bif t.q == 0 then bif !t.v then decide (t.s.size ≤ 9223372036854775807) && true else true else true else true then bif t.p == 0 && (t.q == 0 && (!t.v && pE (bz t.s) == 0)) then R (I 0) else R (I 5) else False else bif t.k == 6 then bif bif t.q == 0 && t.s.toList == (ByteArray.mk #[]).toList then t.p == 0 || true else true then bif t.q == 0 && t.s.toList == (ByteArray.mk #[]).toList && (t.p == 0 && !t.v) then R (I 0) else R (I 5) else False else R (I 5) else False) := by kernel_rfl
theorem ok21 : jan Tryz.prog 21 (sp1 s21) := by
 refine jb7 ok_G30 hmix fn21 jai (jag (by kernel_rfl)) fun t hc => ?_
 rw [ja3, v21]
 have hc : (t.s.size ≤ 9223372036854775807) := jab hc
 try dsimp only [s21]
 rw [jc8]
 unfold chk4
 by_cases hv : jbl t
 ·rw [if_pos hv]
  exact c_t (jaa hv) rfl
 rw [if_neg hv]
 refine c_f (jad hv) (c_t (Bool.or_true _) ?_)
 simp only [Bool.or_true, Bool.and_true, Bool.cond_self, jaa hc]
 repeat' refine cond_intro (fun h => ?_) (fun h => ?_)
 all_goals first | (exfalso; simp at h; done) | (congr 1; grind)
def G31 : Env := (((Env.nil.add 74 (sp1 s74)).add 73 (sp2 s73)).add 75 (sp2 Px.s25)).add 21 (sp1 s21)
theorem ok_G31 : jax Tryz.prog G31 := jaj (jaj (jaj (jaj jam ok74) ok73) Px.ok25) ok21
def s23 (v : Vl) (t : Ty) : Bool × Value := (decide (t.s.size ≤ 9223372036854775807 ∧ v.s.size ≤ 9223372036854775807), I (fit4 v t))
theorem fn23 : Fn1 Tryz.prog 23 Tryz.f23 := .m Tryz.func23 (by kernel_rfl)
theorem v23 (v : Vl) (t : Ty) (R : Value → Prop) : ja4 Tryz.prog G31 noL Tryz.f23 [Enc.enc v, Enc.enc t] (fun _ => none) 0 (fun v _ _ => R v) = ( bif decide (t.s.size ≤ 9223372036854775807) then bif chk4 t != 0 then R (I (chk4 t)) else bif t.k == 1 then bif !fits v t == 0 then R (I 6) else R (I 0) else bif t.k == 2 then bif !fits v t == 0 then R (I 6) else R (I 0) else bif t.k == 3 then bif bif v.n == 0 then (v.s.size : Int) == t.p || (t.v || true) else true then bif !(v.n == 0 && ((v.s.size : Int) == t.p || t.v && decide ((v.s.size : Int) < t.p))) then R (I 6) else R (I 0) else False else bif t.k == 4 then bif bif v.n == 0 then bif (v.s.size : Int) == t.p then decide (v.s.size ≤ 9223372036854775807) && true else true else true then bif !(v.n == 0 && ((v.s.size : Int) == t.p && jfh (bz v.s))) then R (I 6) else R (I 0) else False else bif t.k == 5 then bif bif v.n == 0 then decide (t.s.size ≤ 9223372036854775807 ∧ v.s.size ≤ 9223372036854775807) && true else true then bif !(v.n == 0 && hoZ (bz t.s) (bz v.s)) then R (I 6) else R (I 0) else False else bif t.k == 6 then bif bif v.s.toList == (ByteArray.mk #[]).toList then decide (v.n ≥ 0) || true else true then bif !(v.s.toList == (ByteArray.mk #[]).toList && (decide (v.n ≥ 0) && decide (v.n ≤ 524288))) then R (I 6) else R (I 0) else False else R (I 6) else False) := by kernel_rfl
theorem ok23 : jan Tryz.prog 23 (sp2 s23) := by
 refine jcr ok_G31 hmix fn23 jai (jag (by kernel_rfl)) fun v t hc => ?_
 rw [ja3, v23]
 have hc : (t.s.size ≤ 9223372036854775807 ∧ v.s.size ≤ 9223372036854775807) := jab hc
 try dsimp only [s23]
 rw [jc8]
 unfold fit4 is4
 refine c_t (jaa hc.1) ?_
 have hk : chk4 t = 0 → t.k = 1 ∨ t.k = 2 ∨ t.k = 3 ∨ t.k = 4 ∨ t.k = 5 ∨ t.k = 6 := fun h => by
  unfold chk4 at h
  have hv : jbl t → t.k = 1 ∨ t.k = 2 := fun h => h.1
  grind
 refine cond_intro (fun h => ?_) (fun h => ?_)
 ·rw [if_pos (by simpa using h)]
 have h0 : chk4 t = 0 := by simpa using h
 rw [if_neg (fun z => z h0)]
 have hk := hk h0
 simp only [Bool.or_true, Bool.and_true, Bool.cond_self, jaa hc.2, jaa hc]
 repeat' refine cond_intro (fun h => ?_) (fun h => ?_)
 all_goals first | (exfalso; simp at h; done) | (congr 1; grind)
theorem je5 {l : List Int} (h : IsB l) : bz (szO l) = l := by rw [jc1, jc9 h]
end Go.Cx
end
section
namespace Go.Cv
section
variable {l : List Int} {r : Rd} {c : Int}
variable {s p : Bool}
variable {g : Bool} {m : Nat}
end
end Go.Cv
end
noncomputable section
set_option maxHeartbeats 3200000
namespace Go.Cx
open Go Go.Ab Go.Proofs Go.Shelf Go.Px Go.Cv
open Go.Fx (Ty Vl check jbl most base pw bnd Fit fits tv vv tup V0 T0 jb1 jca jby jcw str0)
inductive Ms where
 | beg | bod (s p : Bool) | exq (g : Bool) (m : Int) | beh
def Ms.v : Ms → Value
 | .beg => .func (.func 151) ⟨[]⟩ ⟨[]⟩
 | .bod _ _ => .func (.func 212) ⟨[]⟩ ⟨[.pointer (some ⟨200, 0, some 0⟩), .pointer (some ⟨201, 0, some 0⟩)]⟩
 | .exq _ _ => .func (.func 263) ⟨[]⟩ ⟨[.pointer (some ⟨200, 0, some 0⟩), .pointer (some ⟨201, 0, some 0⟩)]⟩
 | .beh => .func (.func 264) ⟨[]⟩ ⟨[]⟩
theorem zl_isB (l : List UInt8) : IsB (zl l) := fun c hc => by
 obtain ⟨b, _, rfl⟩ := List.mem_map.1 hc
 have := b.toNat_lt
 omega
theorem trim_isB {l c : List Int} (h : IsB l) : IsB (jct l c) := fun x hx => by
 refine h x ?_
 have := (List.dropWhile_sublist _).subset hx
 exact List.mem_reverse.1 ((List.dropWhile_sublist _).subset (List.mem_reverse.1 this))
theorem dropW_all {p : Int → Bool} : ∀ {l : List Int}, (∀ c ∈ l, p c = true) → l.dropWhile p = []
 | [], _ => rfl
 | c :: l, h => by rw [List.dropWhile_cons_of_pos (h c (List.mem_cons_self ..))]; exact dropW_all fun d hd => h d (List.mem_cons_of_mem _ hd)
theorem dropW_head {p : Int → Bool} {l : List Int} {c : Int} (hc : c ∈ l) (hp : p c = false) : ∃ d r, l.dropWhile p = d :: r ∧ p d = false := by
 induction l with
 | nil => cases hc
 | cons a l ih =>
  cases ha : p a with
  | false => exact ⟨a, l, by rw [List.dropWhile_cons_of_neg (by simp [ha])], ha⟩
  | true =>
   rw [List.dropWhile_cons_of_pos ha]
   rcases List.mem_cons.1 hc with rfl | hc
   ·rw [ha] at hp; cases hp
   ·exact ih hc
theorem trim_bits (l : List Int) : decide (jct l (bz ⟨#[48, 49]⟩) = []) = jfh l := by
 have e : bz ⟨#[48, 49]⟩ = [48, 49] := rfl
 have hh : ∀ c : Int, hasZ [48, 49] c = decide (c = 48 ∨ c = 49) := fun c => by
  rw [Bool.eq_iff_iff, jbf, jae]
  simp
 rw [e, Bool.eq_iff_iff, jae]
 constructor
 ·intro h
  unfold jfh
  refine List.all_eq_true.2 fun c hc => ?_
  cases q : decide (c = 48 ∨ c = 49) with
  | true => rfl
  | false =>
   exfalso
   rw [← hh] at q
   obtain ⟨d, r, h1, h2⟩ := dropW_head (List.mem_reverse.2 hc) q
   have hm : d ∈ (l.reverse.dropWhile (hasZ [48, 49])).reverse := by rw [h1]; simp
   obtain ⟨d', r', h3, _⟩ := dropW_head hm h2
   unfold jct at h
   rw [h3] at h
   cases h
 ·intro h
  have ha : ∀ c ∈ l, hasZ [48, 49] c = true := fun c hc => by rw [hh]; exact List.all_eq_true.1 h c hc
  unfold jct
  rw [dropW_all (l := l.reverse) fun c hc => ha c (List.mem_reverse.1 hc)]
  rfl
abbrev onV (x : Option Num) : Value := .tuple ⟨[numV (x.getD num0), .bool x.isSome]⟩
def K0 : Env := Env.nil
theorem ok_K0 : jax Tryz.prog K0 := jam
def s191 : Bool × Value := (true, .agg ⟨Fx.tensL⟩)
theorem fn191 : Fn1 Tryz.prog 191 Tryz.f191 := .m Tryz.func191 (by kernel_rfl)
theorem v191  (R : Value → Prop) : ja4 Tryz.prog K0 noL Tryz.f191 [] (fun _ => none) 0 (fun v _ _ => R v) = ( R (.agg ⟨Fx.tensL⟩)) := by kernel_rfl
theorem ok191 : jan Tryz.prog 191 (sp0 s191) := by
 refine qure0 ok_K0 hmix fn191 jai fun hc => ?_
 rw [ja3, v191]
 try dsimp only [s191]
def K1 : Env := Env.nil.add 191 (sp0 s191)
theorem ok_K1 : jax Tryz.prog K1 := jaj jam ok191
def s144 (t : Ty) : Bool × Value := (decide (jbl t), I (bnd t))
theorem fn144 : Fn1 Tryz.prog 144 Tryz.f144 := .m Tryz.func144 (by kernel_rfl)
theorem v144 (t : Ty) (R : Value → Prop) : ja4 Tryz.prog K1 noL Tryz.f144 [Enc.enc t] (fun _ => none) 0 (fun v _ _ => R v) = ( bif t.k == 1 then bif decide (0 ≤ t.p ∧ t.p < 19) && jbo IntKind.i64 Fx.tensL t.p.toNat then R (I (jat Fx.tensL t.p.toNat)) else False else bif decide (0 ≤ t.p) then R (I (IntKind.wrap .i64 (1 * 2 ^ min t.p.toNat 64))) else False) := by kernel_rfl
theorem ok144 : jan Tryz.prog 144 (sp1 s144) := by
 refine jb7 ok_K1 hmix fn144 jai (jag (by kernel_rfl)) fun t hc => ?_
 rw [ja3, v144]
 have hc : (jbl t) := jab hc
 try dsimp only [s144]
 obtain ⟨h1, h2, h3, h4, h5⟩ := Fx.valid_r hc
 have hm : t.k = 1 → t.p ≤ 9 := fun h => by have := hc.2.2.1; rw [h] at this; exact this
 refine cond_intro (fun h => ?_) (fun h => ?_)
 ·have h : t.k = 1 := eq_of_beq h
  have ht := Fx.tens_at (p := t.p) (by omega) (by have := hm h; omega)
  refine c_t (by rw [ht.1, jaa (show 0 ≤ t.p ∧ t.p < 19 by have := hm h; omega)]; rfl) ?_
  rw [ht.2, bnd, h]
  rfl
 ·have h : t.k = 2 := hc.1.resolve_left (by simpa using h)
  refine c_t (jaa (by omega)) ?_
  rw [Fx.shl_pw (by omega) (by omega), bnd, h]
  rfl
def K2 : Env := ((Env.nil.add 55 (sp2 s55)).add 66 (sp1 s66)).add 144 (sp1 s144)
theorem ok_K2 : jax Tryz.prog K2 := jaj (jaj (jaj jam ok55) ok66) ok144
def s70 (v : Vl) (t : Ty) : Bool × Value := (true, I (Fx.fits v t))
theorem fn70 : Fn1 Tryz.prog 70 Tryz.f70 := .m Tryz.func70 (by kernel_rfl)
theorem v70 (v : Vl) (t : Ty) (R : Value → Prop) : ja4 Tryz.prog K2 noL Tryz.f70 [Enc.enc v, Enc.enc t] (fun _ => none) 0 (fun v _ _ => R v) = ( bif check t != 0 then R (I (check t)) else bif decide (jbl t) then bif !v.s.toList == (ByteArray.mk #[]).toList || (decide (v.n ≤ IntKind.wrap .i64 (0 - bnd t)) || true) then bif !v.s.toList == (ByteArray.mk #[]).toList || (decide (v.n ≤ IntKind.wrap .i64 (0 - bnd t)) || decide (v.n ≥ bnd t)) then R (I 6) else R (I 0) else False else False) := by kernel_rfl
theorem ok70 : jan Tryz.prog 70 (sp2 s70) := by
 refine jcr ok_K2 hmix fn70 jai (jag (by kernel_rfl)) fun v t hc => ?_
 rw [ja3, v70]
 try dsimp only [s70]
 rw [str0]
 by_cases hv : jbl t
 ·obtain ⟨h1, h2, h3, h4⟩ := Fx.valid_r hv
  have hb := Fx.bnd_range hv
  have hc : check t = 0 := if_pos hv
  rw [hc, w64 (n := 0 - bnd t) (by omega)]
  refine c_f rfl (c_t (jaa hv) (c_t (by simp) ?_))
  unfold Fx.fits
  rw [if_pos hv]
  refine cond_intro (fun h => ?_) (fun h => ?_)
  ·rw [if_neg]
   intro hf
   unfold Fit at hf
   simp [hf.1] at h
   omega
  ·rw [if_pos]
   unfold Fit
   simp at h
   grind
 ·have hc : check t = 5 := if_neg hv
  rw [hc]
  refine c_t rfl ?_
  unfold Fx.fits
  rw [if_neg hv]
def s71 (s : ByteArray) : Bool × Value := (decide (s.size ≤ 9223372036854775807), B (jfh (bz s)))
theorem fn71 : Fn1 Tryz.prog 71 Tryz.f71 := .m Tryz.func71 (by kernel_rfl)
theorem v71 (s : ByteArray) (R : Value → Prop) : ja4 Tryz.prog K2 noL Tryz.f71 [Enc.enc s] (fun _ => none) 0 (fun v _ _ => R v) = ( bif decide (s.size ≤ 9223372036854775807) && (decide ((ByteArray.mk #[48, 49]).size ≤ 1000) && asc (bz (ByteArray.mk #[48, 49]))) then R (B ((szO (jct (bz s) (bz (ByteArray.mk #[48, 49])))).toList == (ByteArray.mk #[]).toList)) else False) := by kernel_rfl
theorem ok71 : jan Tryz.prog 71 (sp1 s71) := by
 refine jb7 ok_K2 hmix fn71 jai (jag (by kernel_rfl)) fun s hc => ?_
 rw [ja3, v71]
 have hc : (s.size ≤ 9223372036854775807) := jab hc
 try dsimp only [s71]
 refine c_t (by rw [jaa hc, Bool.true_and]; kernel_rfl) ?_
 rw [jc8, je5 (trim_isB (jer s)), trim_bits]
theorem fn20 : Fn1 Tryz.prog 20 Tryz.f20 := .m Tryz.func20 (by kernel_rfl)
theorem fn22 : Fn1 Tryz.prog 22 Tryz.f22 := .m Tryz.func22 (by kernel_rfl)
def jg9 (sp : Ab.Spec) : List Value → Lk → Nat → (Value → Lk → Nat → Prop) → Prop := fun args m n K => match sp args (args.map (blkOf m)) with
 | some (c, .string e) => match cnd c with
  | true => ∀ s' : ByteArray, e = s' → K (.string s') m n
  | false => False
 | _ => False
theorem jd6 {P : Program} {f : FuncId} {sp : Ab.Spec} (h : jan P f sp) : jd1 P f (jg9 sp) := by
 obtain ⟨hc, hp⟩ := h
 refine ⟨hc, fun args m n K hh N w0 ι w hrel hwf hargs => ?_⟩
 unfold jg9 at hh
 split at hh
 case h_2 => exact hh.elim
 rename_i c e hs
 split at hh
 case h_2 => exact hh.elim
 rename_i hcc
 have hcc : c = true := hcc
 subst hcc
 refine (hp args (.string e) N w0 m ι w hrel hs rfl).mono fun e' w' ⟨h1, h2⟩ => ?_
 exact ⟨.string e, m, n, ι, by rw [h1]; rfl, hh e rfl, Nat.le_refl _, fun _ _ => rfl, hrel.grow h2, hwf, by simp [ids]⟩
theorem bz_dropE {s : ByteArray} (n : Nat) : bz (s.extract n s.size) = (bz s).drop n := by
 rw [jce]
 rw [List.take_of_length_le (by rw [jaq]; omega)]
structure DecIs (g : Bool) (s : ByteArray) (x : Option Num) : Prop where
 h : decR jhp g (bz s) = x
def hid83 : List Value → Lk → Nat → (Value → Lk → Nat → Prop) → Prop := fun args m n K => match args with
 | [.bool g, .string s] => match cnd (decide (s.size ≤ 1000)) with
  | true => ∀ x : Option Num, DecIs g s x → K (onV x) m n
  | false => False
 | _ => False
def G6 : Env := (((((Env.nil.add 74 (sp1 s74)).add 80 (sp3 s80)).addG 79 (jg9 (sp1 s79))).addG 81 (jg9 (sp2 s87))).add 82 (sp1 s82)).addG 83 hid83
def k25 (g : Bool) (t : ByteArray) (R : Value → Prop) : Prop := bif bif decide (IntKind.wrap .i64 ((t.size : Int) - 1) ≥ 1) then decide (0 ≤ IntKind.wrap .i64 ((t.size : Int) - 1) ∧ IntKind.wrap .i64 ((t.size : Int) - 1) < (t.size : Int)) && true else true then bif decide (IntKind.wrap .i64 ((t.size : Int) - 1) ≥ 1) && jak t (IntKind.wrap .i64 ((t.size : Int) - 1)).toNat == 66 then bif decide (IntKind.wrap .i64 ((t.size : Int) - 1) > 31) || decide ((0 : Int) ≤ 0 ∧ 0 ≤ IntKind.wrap .i64 ((t.size : Int) - 1) ∧ IntKind.wrap .i64 ((t.size : Int) - 1) ≤ (t.size : Int)) && (decide ((ByteArray.extract t 0 (IntKind.wrap .i64 ((t.size : Int) - 1)).toNat).size ≤ 9223372036854775807) && true) then bif decide (IntKind.wrap .i64 ((t.size : Int) - 1) > 31) || !jfh (bz (ByteArray.extract t 0 (IntKind.wrap .i64 ((t.size : Int) - 1)).toNat)) then R (.tuple (.mk [.agg (.mk [B false, S (ByteArray.mk #[]), I 0]), B false])) else bif decide ((0 : Int) ≤ 0 ∧ 0 ≤ IntKind.wrap .i64 ((t.size : Int) - 1) ∧ IntKind.wrap .i64 ((t.size : Int) - 1) ≤ (t.size : Int)) then bif jfh (bz (ByteArray.extract t 0 (IntKind.wrap .i64 ((t.size : Int) - 1)).toNat)) && decide ((ByteArray.extract t 0 (IntKind.wrap .i64 ((t.size : Int) - 1)).toNat).size ≤ 64) then bif decide (0 ≤ binG (bz (ByteArray.extract t 0 (IntKind.wrap .i64 ((t.size : Int) - 1)).toNat)) 0 ∧ binG (bz (ByteArray.extract t 0 (IntKind.wrap .i64 ((t.size : Int) - 1)).toNat)) 0 < 18446744073709551616) && true then ∀ (u : ByteArray), sz (decZ (binG (bz (ByteArray.extract t 0 (IntKind.wrap .i64 ((t.size : Int) - 1)).toNat)) 0)) = u → bif decide (u.size ≤ 1000 ∧ -100000 ≤ 0 ∧ (0 : Int) ≤ 100000) then R (.tuple (.mk [.agg (.mk [B (jhp g (bz u) 0).1, S (szO (Prod.fst (jhp g (bz u) 0).2)), I (Prod.snd (jhp g (bz u) 0).2)]), B true])) else False else False else False else False else False else bif decide (t.size ≤ 1000) then ∀ (x : Option Num), DecIs g t x → R (.tuple (.mk [.agg (.mk [B (Option.getD x num0).1, S (szO (Prod.fst (Option.getD x num0).2)), I (Prod.snd (Option.getD x num0).2)]), B (Option.isSome x)])) else False else False
theorem decD_len : ∀ (k n : Nat), n < 10 ^ (k + 1) → (Lib.decDigits n).length ≤ k + 1
 | 0, n, h => by rw [Lib.decDigits, dif_pos (by omega)]; simp
 | k + 1, n, h => by
  rw [Lib.decDigits]
  split
  ·simp
  ·rw [List.length_append]
   have := decD_len k (n / 10) (by rw [Nat.pow_succ] at h; omega)
   simp
   omega
theorem v25 (s : ByteArray) (R : Value → Prop) : ja4 Tryz.prog G6 noL Tryz.f25 [Enc.enc s] (fun _ => none) 0 (fun v _ _ => R v) = ( bif decide ((s.size : Int) > 255) then R (.tuple (.mk [.agg (.mk [B false, S (ByteArray.mk #[]), I 0]), B false])) else bif decide (s.size ≤ 9223372036854775807) then ∀ (s' : ByteArray), szO (trZ (tlZ (bz s) 32) 32) = s' → bif s'.toList == (ByteArray.mk #[]).toList then R (.tuple (.mk [.agg (.mk [B false, S (ByteArray.mk #[]), I 0]), B true])) else bif decide ((0 : Int) ≤ 0 ∧ 0 < (s'.size : Int)) then bif jak s' (Int.toNat 0) == 45 || decide ((0 : Int) ≤ 0 ∧ 0 < (s'.size : Int)) && true then bif jak s' (Int.toNat 0) == 45 || jak s' (Int.toNat 0) == 43 then bif decide ((0 : Int) ≤ 1 ∧ 1 ≤ (s'.size : Int) ∧ (s'.size : Int) ≤ (s'.size : Int)) then k25 (jak s' (Int.toNat 0) == 45) (ByteArray.extract s' (Int.toNat 1) s'.size) R else False else k25 (jak s' (Int.toNat 0) == 45) s' R else False else False else False) := by kernel_rfl
structure Wh where
 n : Int
 t : Ty
instance : Enc Wh where
 enc x := .agg ⟨[.int .i64 x.n, .int .i64 x.t.k, .int .i64 x.t.p, .int .i64 x.t.q, .bool x.t.v, .string x.t.s]⟩
 dec | .agg ⟨[.int .i64 n, .int .i64 k, .int .i64 p, .int .i64 q, .bool v, .string s]⟩ => some ⟨n, ⟨k, p, q, v, s⟩⟩ | _ => none
 dec_some := by
  intro v a h
  split at h
  ·cases h; rfl
  ·cases h
 plain_enc _ := rfl
def wid (t : Ty) : Int := if t.k = 2 then 1 + (100 * t.p + 331) / 332 + 3 else t.p + 3
def fixU (n q : Int) : List Int := Cv.rep48 (q + 1 - (itoZ n).length).toNat ++ itoZ n
def fixD (n q : Int) : List Int := if q > 0 then (fixU n q).take ((fixU n q).length - q.toNat) ++ 46 :: (fixU n q).drop ((fixU n q).length - q.toNat) else itoZ n
def fixS (n q : Int) : List Int := if n < 0 then 45 :: fixD (-n) q else fixD n q
def txtZ (n : Int) (t : Ty) : List Int := List.replicate (wid t - (fixS n t.q).length).toNat 32 ++ fixS n t.q
def K5 : Env := Env.nil
theorem ok_K5 : jax Tryz.prog K5 := jam
def s112 (t : Ty) : Bool × Value := (decide (0 ≤ t.p ∧ t.p ≤ 1000), I (wid t))
theorem fn112 : Fn1 Tryz.prog 112 Tryz.f112 := .m Tryz.func112 (by kernel_rfl)
theorem v112 (t : Ty) (R : Value → Prop) : ja4 Tryz.prog K5 noL Tryz.f112 [Enc.enc t] (fun _ => none) 0 (fun v _ _ => R v) = ( bif t.k == 2 then R (I (IntKind.wrap .i64 (IntKind.wrap .i64 (1 + IntKind.wrap .i64 (Int.tdiv (IntKind.wrap .i64 (IntKind.wrap .i64 (100 * t.p) + 331)) 332)) + 3))) else R (I (IntKind.wrap .i64 (t.p + 3)))) := by kernel_rfl
theorem ok112 : jan Tryz.prog 112 (sp1 s112) := by
 refine jb7 ok_K5 hmix fn112 jai (jag (by kernel_rfl)) fun t hc => ?_
 rw [ja3, v112]
 have hc : (0 ≤ t.p ∧ t.p ≤ 1000) := jab hc
 try dsimp only [s112]
 unfold wid
 refine cond_intro (fun h => ?_) (fun h => ?_)
 ·have h : t.k = 2 := eq_of_beq h
  have hd : (100 * t.p + 331).tdiv 332 = (100 * t.p + 331) / 332 := Int.tdiv_eq_ediv_of_nonneg (by omega)
  rw [if_pos h, w64 (n := 100 * t.p) (by omega), w64 (n := 100 * t.p + 331) (by omega), hd, w64 (n := (100 * t.p + 331) / 332) (by omega), w64 (n := 1 + (100 * t.p + 331) / 332) (by omega), w64 (by omega)]
 ·have h : ¬ t.k = 2 := by simpa using h
  rw [if_neg h, w64 (by omega)]
def K6 : Env := ((Env.nil.addG 29 (jg9 (sp1 s29))).addG 30 (jg9 (sp2 s30))).add 112 (sp1 s112)
theorem ok_K6 : jax Tryz.prog K6 := jaj (jao (jao jam (jd6 ok29)) (jd6 ok30)) ok112
def s321 (x : Wh) : Bool × Value := (decide (jbl x.t ∧ -2147483648 ≤ x.n ∧ x.n ≤ 2147483648), S (szO (txtZ x.n x.t)))
theorem fn321 : Fn1 Tryz.prog 321 Tryz.f321 := .m Tryz.func321 (by kernel_rfl)
def k321 (sg s' : ByteArray) (x : Wh) (R : Value → Prop) : Prop := bif decide ((Wh.t x).q > 0) then bif decide (0 ≤ imax (IntKind.wrap .i64 (IntKind.wrap .i64 ((Wh.t x).q + 1) - (s'.size : Int))) 0 ∧ imax (IntKind.wrap .i64 (IntKind.wrap .i64 ((Wh.t x).q + 1) - (s'.size : Int))) (0 : Int) ≤ 1000 ∧ (ByteArray.mk #[48]).size ≤ 1000) then ∀ (s'_1 : ByteArray), szO (repZ (bz (ByteArray.mk #[48])) (Int.toNat (imax (IntKind.wrap .i64 (IntKind.wrap .i64 ((Wh.t x).q + 1) - (s'.size : Int))) 0))) = s'_1 → bif jb6 (s'_1.size + s'.size) then bif decide ((0 : Int) ≤ 0 ∧ 0 ≤ IntKind.wrap .i64 ((((s'_1 ++ s').size) : Int) - (Wh.t x).q) ∧ IntKind.wrap .i64 ((((s'_1 ++ s').size) : Int) - (Wh.t x).q) ≤ (((s'_1 ++ s').size) : Int)) then bif jb6 ((ByteArray.extract (s'_1 ++ s') 0 (IntKind.wrap .i64 ((((s'_1 ++ s').size) : Int) - (Wh.t x).q)).toNat).size + (ByteArray.mk #[46]).size) then bif decide (0 ≤ IntKind.wrap .i64 ((((s'_1 ++ s').size) : Int) - (Wh.t x).q) ∧ IntKind.wrap .i64 ((((s'_1 ++ s').size) : Int) - (Wh.t x).q) ≤ (((s'_1 ++ s').size) : Int) ∧ (((s'_1 ++ s').size) : Int) ≤ (((s'_1 ++ s').size) : Int)) then bif jb6 ((ByteArray.extract (s'_1 ++ s') 0 (IntKind.wrap .i64 ((((s'_1 ++ s').size) : Int) - (Wh.t x).q)).toNat ++ ByteArray.mk #[46]).size + (ByteArray.extract (s'_1 ++ s') (IntKind.wrap .i64 ((((s'_1 ++ s').size) : Int) - (Wh.t x).q)).toNat (s'_1 ++ s').size).size) then bif jb6 (sg.size + (ByteArray.extract (s'_1 ++ s') 0 (IntKind.wrap .i64 ((((s'_1 ++ s').size) : Int) - (Wh.t x).q)).toNat ++ ByteArray.mk #[46] ++ ByteArray.extract (s'_1 ++ s') (IntKind.wrap .i64 ((((s'_1 ++ s').size) : Int) - (Wh.t x).q)).toNat (s'_1 ++ s').size).size) then bif decide (0 ≤ (Wh.t x).p ∧ (Wh.t x).p ≤ 1000) then bif decide (0 ≤ imax (IntKind.wrap .i64 (wid (Wh.t x) - (↑((sg ++ (ByteArray.extract (s'_1 ++ s') 0 (IntKind.wrap .i64 ((((s'_1 ++ s').size) : Int) - (Wh.t x).q)).toNat ++ ByteArray.mk #[46] ++ ByteArray.extract (s'_1 ++ s') (IntKind.wrap .i64 ((((s'_1 ++ s').size) : Int) - (Wh.t x).q)).toNat (s'_1 ++ s').size)).size) : Int))) 0 ∧ imax (IntKind.wrap .i64 (wid (Wh.t x) - (↑((sg ++ (ByteArray.extract (s'_1 ++ s') 0 (IntKind.wrap .i64 ((((s'_1 ++ s').size) : Int) - (Wh.t x).q)).toNat ++ ByteArray.mk #[46] ++ ByteArray.extract (s'_1 ++ s') (IntKind.wrap .i64 ((((s'_1 ++ s').size) : Int) - (Wh.t x).q)).toNat (s'_1 ++ s').size)).size) : Int))) 0 ≤ 1000 ∧ (ByteArray.mk #[32]).size ≤ 1000) then ∀ (s'_2 : ByteArray), szO (repZ (bz (ByteArray.mk #[32])) (Int.toNat (imax (IntKind.wrap .i64 (wid (Wh.t x) - (↑((sg ++ (ByteArray.extract (s'_1 ++ s') 0 (IntKind.wrap .i64 ((((s'_1 ++ s').size) : Int) - (Wh.t x).q)).toNat ++ ByteArray.mk #[46] ++ ByteArray.extract (s'_1 ++ s') (IntKind.wrap .i64 ((((s'_1 ++ s').size) : Int) - (Wh.t x).q)).toNat (s'_1 ++ s').size)).size) : Int))) 0))) = s'_2 → bif jb6 (s'_2.size + (sg ++ (ByteArray.extract (s'_1 ++ s') 0 (IntKind.wrap .i64 ((((s'_1 ++ s').size) : Int) - (Wh.t x).q)).toNat ++ ByteArray.mk #[46] ++ ByteArray.extract (s'_1 ++ s') (IntKind.wrap .i64 ((((s'_1 ++ s').size) : Int) - (Wh.t x).q)).toNat (s'_1 ++ s').size)).size) then R (S (s'_2 ++ (sg ++ (ByteArray.extract (s'_1 ++ s') 0 (IntKind.wrap .i64 ((((s'_1 ++ s').size) : Int) - (Wh.t x).q)).toNat ++ ByteArray.mk #[46] ++ ByteArray.extract (s'_1 ++ s') (IntKind.wrap .i64 ((((s'_1 ++ s').size) : Int) - (Wh.t x).q)).toNat (s'_1 ++ s').size)))) else False else False else False else False else False else False else False else False else False else False else bif jb6 (sg.size + s'.size) then bif decide (0 ≤ (Wh.t x).p ∧ (Wh.t x).p ≤ 1000) then bif decide (0 ≤ imax (IntKind.wrap .i64 (wid (Wh.t x) - (((sg ++ s').size) : Int))) 0 ∧ imax (IntKind.wrap .i64 (wid (Wh.t x) - (((sg ++ s').size) : Int))) (0 : Int) ≤ 1000 ∧ (ByteArray.mk #[32]).size ≤ 1000) then ∀ (s'_1 : ByteArray), szO (repZ (bz (ByteArray.mk #[32])) (Int.toNat (imax (IntKind.wrap .i64 (wid (Wh.t x) - (((sg ++ s').size) : Int))) 0))) = s'_1 → bif jb6 (s'_1.size + (sg ++ s').size) then R (S (s'_1 ++ (sg ++ s'))) else False else False else False else False
theorem jg6 {m : Int} (h : 0 ≤ m ∧ m ≤ 2147483648) : (itoZ m).length ≤ 10 := by
 obtain ⟨k, rfl⟩ : ∃ k : Nat, m = (k : Int) := ⟨m.toNat, by omega⟩
 rw [itoZ, Lib.itoa_nonneg, zl, List.length_map]
 exact decD_len 9 k (by omega)
theorem jg7 (n : Int) : IsB (itoZ n) := zl_isB _
theorem jf0 (k : Nat) : IsB (List.replicate k 32) := fun c hc => by rw [List.eq_of_mem_replicate hc]; omega
theorem rep48_isB (k : Nat) : IsB (Cv.rep48 k) := fun c hc => by rw [List.eq_of_mem_replicate hc]; omega
theorem jh4 (c : Int) : ∀ n, repZ [c] n = List.replicate n c
 | 0 => rfl
 | n + 1 => by rw [repZ, jh4 c n]; rfl
theorem fitN {n : Nat} (h : n ≤ 100000) : jb6 n = true := by simp only [jb6, Nat.ble_eq]; omega
theorem jh9 (a b : Int) : imax a b = max a b := by unfold imax; split <;> omega
theorem k321f (sg D X : ByteArray) (t : Ty) (hp : 0 ≤ t.p ∧ t.p ≤ 31) (hw : 0 ≤ wid t ∧ wid t ≤ 100) (hs : sg.size ≤ 1) (hD : D.size ≤ 100) (hX : bz X = List.replicate (wid t - (bz sg ++ bz D).length).toNat 32 ++ (bz sg ++ bz D)) :
  bif jb6 (ByteArray.size sg + ByteArray.size D) then bif decide (0 ≤ Ty.p t ∧ Ty.p t ≤ 1000) then
   bif decide (0 ≤ imax (IntKind.wrap IntKind.i64 (wid t - (↑(ByteArray.size (sg ++ D)) : Int))) 0 ∧ imax (IntKind.wrap IntKind.i64 (wid t - (↑(ByteArray.size (sg ++ D)) : Int))) (0 : Int) ≤ 1000 ∧ ByteArray.size (ByteArray.mk #[32]) ≤ 1000) then
    ∀ s2 : ByteArray, szO (repZ (bz (ByteArray.mk #[32])) (Int.toNat (imax (IntKind.wrap IntKind.i64 (wid t - (↑(ByteArray.size (sg ++ D)) : Int))) 0))) = s2 →
     bif jb6 (ByteArray.size s2 + ByteArray.size (sg ++ D)) then Value.string (s2 ++ (sg ++ D)) = Value.string X else False
   else False else False else False := by
 have hz : (sg ++ D).size = sg.size + D.size := ByteArray.size_append
 rw [w64 (n := wid t - ((sg ++ D).size : Int)) (by omega), jh9]
 refine c_t (fitN (by omega)) (c_t (jaa (by omega)) (c_t (jaa ⟨by omega, by omega, by decide⟩) fun s2 e2 => ?_))
 have b2 : bz s2 = List.replicate (wid t - (bz sg ++ bz D).length).toNat 32 := by
  rw [← e2, show bz (ByteArray.mk #[32]) = [32] from rfl, jh4, je5 (jf0 _), List.length_append, jaq, jaq]
  congr 1
  omega
 have z2 : s2.size ≤ 100 := by rw [← jaq, b2, List.length_replicate]; omega
 refine c_t (fitN (by omega)) ?_
 congr 1
 rw [← jhm (s2 ++ (sg ++ D)), ← jhm X, jb3, jb3, b2, hX]
theorem k321_ok (sg s' : ByteArray) (x : Wh) (m : Int) (h : szO (itoZ m) = s') (hm : 0 ≤ m ∧ m ≤ 2147483648) (hv : jbl x.t) (hs : sg.size ≤ 1) (hg : IsB (bz sg)) :
  k321 sg s' x (fun v => v = .string (szO (List.replicate (wid x.t - (bz sg ++ fixD m x.t.q).length).toNat 32 ++ (bz sg ++ fixD m x.t.q)))) := by
 unfold k321
 obtain ⟨n, t⟩ := x
 simp only at hv ⊢
 obtain ⟨v1, v2, v3, v4, v5⟩ := Fx.valid_r hv
 have hw : 0 ≤ wid t ∧ wid t ≤ 100 := by unfold wid; split <;> omega
 have b1 : bz s' = itoZ m := by rw [← h, je5 (jg7 _)]
 have z1 : s'.size ≤ 10 := by rw [← jaq, b1]; exact jg6 hm
 have hX : ∀ l, IsB l → bz (szO (List.replicate (wid t - (bz sg ++ l).length).toNat 32 ++ (bz sg ++ l))) = List.replicate (wid t - (bz sg ++ l).length).toNat 32 ++ (bz sg ++ l) := fun l hl => je5 ((jf0 _).append (hg.append hl))
 refine cond_intro (fun hq => ?_) (fun hq => ?_)
 ·have hq : t.q > 0 := jab hq
  rw [w64 (n := t.q + 1) (by omega), w64 (n := t.q + 1 - (s'.size : Int)) (by omega), jh9]
  refine c_t (jaa ⟨by omega, by omega, by decide⟩) fun s1 e1 => ?_
  have c1 : bz s1 = Cv.rep48 (t.q + 1 - (itoZ m).length).toNat := by
   rw [← e1, show bz (ByteArray.mk #[48]) = [48] from rfl, jh4, je5 (l := List.replicate _ 48) (rep48_isB _), ← b1, jaq]
   rw [Cv.rep48]
   congr 1
   omega
  have y1 : (s1.size : Int) = max (t.q + 1 - (s'.size : Int)) 0 := by rw [← jaq, c1, Cv.rep48, List.length_replicate, ← b1, jaq]; omega
  have hu : bz (s1 ++ s') = fixU m t.q := by rw [jb3, c1, b1]; rfl
  have zu : (s1 ++ s').size = s1.size + s'.size := ByteArray.size_append
  generalize s1 ++ s' = u at *
  rw [w64 (n := (u.size : Int) - t.q) (by omega)]
  have e3 : bz (u.extract 0 ((u.size : Int) - t.q).toNat) = (fixU m t.q).take ((fixU m t.q).length - t.q.toNat) := by
   rw [bz_take, hu, ← hu, jaq]; congr 1; omega
  have e4 : bz (u.extract ((u.size : Int) - t.q).toNat u.size) = (fixU m t.q).drop ((fixU m t.q).length - t.q.toNat) := by
   rw [bz_dropE, hu, ← hu, jaq]; congr 1; omega
  have z3 : (u.extract 0 ((u.size : Int) - t.q).toNat).size = u.size - t.q.toNat := by rw [jhe]; omega
  have z4 : (u.extract ((u.size : Int) - t.q).toNat u.size).size = t.q.toNat := by rw [jhe]; omega
  generalize u.extract 0 ((u.size : Int) - t.q).toNat = a at *
  generalize u.extract ((u.size : Int) - t.q).toNat u.size = b at *
  have n46 : (ByteArray.mk #[46]).size = 1 := rfl
  have hD : bz (a ++ ByteArray.mk #[46] ++ b) = fixD m t.q := by
   rw [jb3, jb3, e3, e4, fixD, if_pos hq, show bz (ByteArray.mk #[46]) = [46] from rfl, List.append_assoc]
   rfl
  have zD : (a ++ ByteArray.mk #[46] ++ b).size = a.size + 1 + b.size := by rw [ByteArray.size_append, ByteArray.size_append, n46]
  refine c_t (fitN (by omega)) (c_t (jaa (by omega)) (c_t (fitN (by rw [n46]; omega)) (c_t (jaa (by omega)) (c_t (fitN (by rw [ByteArray.size_append, n46]; omega)) ?_))))
  rw [← hD]
  exact k321f sg _ _ t (by omega) hw hs (by omega) (hX _ (jer _))
 ·have hq : ¬ t.q > 0 := jac hq
  have hD : bz s' = fixD m t.q := by rw [b1, fixD, if_neg hq]
  rw [← hD]
  exact k321f sg _ _ t (by omega) hw hs (by omega) (hX _ (jer _))
theorem v321 (x : Wh) (R : Value → Prop) : ja4 Tryz.prog K6 noL Tryz.f321 [Enc.enc x] (fun _ => none) 0 (fun v _ _ => R v) = ( bif decide (Wh.n x < 0) then bif decide (-9223372036854775808 ≤ IntKind.wrap .i64 (0 - Wh.n x) ∧ IntKind.wrap .i64 (0 - Wh.n x) ≤ 9223372036854775807) then ∀ (s' : ByteArray), szO (itoZ (IntKind.wrap .i64 (0 - Wh.n x))) = s' → k321 ⟨#[45]⟩ s' x R else False else bif decide (-9223372036854775808 ≤ Wh.n x ∧ Wh.n x ≤ 9223372036854775807) then ∀ (s' : ByteArray), szO (itoZ (Wh.n x)) = s' → k321 ⟨#[]⟩ s' x R else False) := by kernel_rfl
theorem ok321 : jan Tryz.prog 321 (sp1 s321) := by
 refine jb7 ok_K6 hmix fn321 jai (jag (by kernel_rfl)) fun x hc => ?_
 rw [ja3, v321]
 have hc : (jbl x.t ∧ -2147483648 ≤ x.n ∧ x.n ≤ 2147483648) := jab hc
 try dsimp only [s321]
 obtain ⟨hv, h1, h2⟩ := hc
 refine cond_intro (fun h => ?_) (fun h => ?_)
 ·have h : x.n < 0 := jab h
  rw [w64 (n := 0 - x.n) (by omega)]
  refine c_t (jaa (by omega)) fun s' e => ?_
  have := k321_ok ⟨#[45]⟩ s' x (0 - x.n) e (by omega) hv (by decide) (jer _)
  rw [txtZ, fixS, if_pos h, show -x.n = 0 - x.n by omega]
  exact this
 ·have h : ¬ x.n < 0 := jac h
  refine c_t (jaa (by omega)) fun s' e => ?_
  have := k321_ok ⟨#[]⟩ s' x x.n e (by omega) hv (by decide) (jer _)
  rw [txtZ, fixS, if_neg h]
  exact this
end Go.Cx
end
section
namespace Go.Cx
open Go Go.Proofs Go.RowKit Go.Extern.Stop Go.Stop Go.Extern
theorem as_nil (t : Value) (w : World) :
  Calls Tryz.prog 100 #[.nilIface, t] w fun e w' => e = .returned (.bool false) ∧ w' = w := by
 go_enter Tryz.func100, Tryz.ntmps100
 go_wp2
 go_ret
 exact ⟨rfl, rfl⟩
theorem a_valueOf121 (t : Addr) (w : World) : (ReflectliteValue.unpack (.iface 121 (.pointer (some t)))).run Tryz.prog w
  = .ok (.agg #[.pointer (some ⟨10, 121, none⟩), .pointer (some ⟨w.heap.size, 0, none⟩), .int .u64 150]) (w.alloc (.cells #[.pointer (some t)] 121)) := by kernel_rfl
theorem a_type121 (a : Addr) (w : World) : (ReflectliteValue.methodAny (ReflectliteValue.valueError "reflectlite.Value.Type" 0) (fun t _ _ _ => ReflectliteType.toType t) #[.agg #[.pointer (some ⟨10, 121, none⟩), .pointer (some a), .int .u64 150]]).run Tryz.prog w
  = .ok (.iface 229 (.agg #[.pointer (some ⟨10, 121, none⟩)])) w := by kernel_rfl
theorem a_kind121 (w : World) : ((ReflectliteType.abiMethod fun t => (fun a : Nat => Value.int IntKind.u8 (a : Int)) <$> Rtype.kind t) #[.pointer (some ⟨10, 121, none⟩)]).run Tryz.prog w = .ok (.int .u8 22) w := by kernel_rfl
theorem a_kind119 (w : World) : ((ReflectliteType.abiMethod fun t => (fun a : Nat => Value.int IntKind.u8 (a : Int)) <$> Rtype.kind t) #[.pointer (some ⟨10, 119, none⟩)]).run Tryz.prog w = .ok (.int .u8 25) w := by kernel_rfl
theorem a_rlm (z : Sem Value) (f : TypeId → Addr → Nat → Nat → Sem Value) (v : Value) :
  ReflectliteValue.method z f #[v] = (do match ← ReflectliteValue.parts v with | none => z | some (t, a, fl) => f t a fl (fl % 32)) := rfl
theorem a_parts121 (a : Addr) (w : World) : (ReflectliteValue.parts (.agg #[.pointer (some ⟨10, 121, none⟩), .pointer (some a), .int .u64 150])).run Tryz.prog w = .ok (some (121, a, 150)) w := by kernel_rfl
theorem a_isNil121 (a p : Addr) (W : World) (ha : W.cell? a = some (.pointer (some p))) :
  (ReflectliteValue.method (ReflectliteValue.valueError "reflectlite.Value.IsNil" 0) ReflectliteValue.isNil #[.agg #[.pointer (some ⟨10, 121, none⟩), .pointer (some a), .int .u64 150]]).run Tryz.prog W = .ok (.bool false) W := by
 rw [a_rlm]
 simp only [Sem.run_bind, a_parts121, Result.andThen]
 simp [ReflectliteValue.isNil, loadVar, isAgg, underlying, Tryz.underlying121, ha, Result.andThen]
theorem a_methodKind (h : Value) (w : World) : (Go.method 421 229 (.agg #[h]) "Kind").run Tryz.prog w = .ok (316, h) w := by kernel_rfl
theorem a_methodElem (h : Value) (w : World) : (Go.method 421 229 (.agg #[h]) "Elem").run Tryz.prog w = .ok (331, .agg #[h]) w := by kernel_rfl
theorem a_methodImplements (h : Value) (w : World) : (Go.method 421 229 (.agg #[h]) "Implements").run Tryz.prog w = .ok (332, .agg #[h]) w := by kernel_rfl
theorem a_methodAssignableTo (h : Value) (w : World) : (Go.method 421 229 (.agg #[h]) "AssignableTo").run Tryz.prog w = .ok (329, .agg #[h]) w := by kernel_rfl
theorem a_elem121 (w : World) : (ReflectliteType.method ReflectliteType.elem #[.agg #[.pointer (some ⟨10, 121, none⟩)]]).run Tryz.prog w = .ok (.iface 229 (.agg #[.pointer (some ⟨10, 119, none⟩)])) w := by kernel_rfl
theorem a_implements119 (w : World) : (ReflectliteType.relation "Implements" ReflectliteType.implements_ #[.agg #[.pointer (some ⟨10, 119, none⟩)], .iface 229 (.agg #[.pointer (some ⟨10, 105, none⟩)])]).run Tryz.prog w = .ok (.bool true) w := by kernel_rfl
theorem a_typeOf119 (v : Value) (w : World) : (ReflectliteType.typeOf #[.iface 119 v]).run Tryz.prog w = .ok (.iface 229 (.agg #[.pointer (some ⟨10, 119, none⟩)])) w := by kernel_rfl
theorem a_assignable119 (w : World) : (ReflectliteType.relation "AssignableTo" ReflectliteType.assignableTo #[.agg #[.pointer (some ⟨10, 119, none⟩)], .iface 229 (.agg #[.pointer (some ⟨10, 119, none⟩)])]).run Tryz.prog w = .ok (.bool true) w := by kernel_rfl
theorem a_valueOf119 (s : ByteArray) (w : World) : (ReflectliteValue.unpack (.iface 119 (.agg #[.string s]))).run Tryz.prog w
  = .ok (.agg #[.pointer (some ⟨10, 119, none⟩), .pointer (some ⟨w.heap.size, 0, none⟩), .int .u64 153]) (w.alloc (.cells #[.string s] 119)) := by kernel_rfl
theorem a_elemOf121 (w : World) : (Rtype.elem? 121).run Tryz.prog w = .ok (some 119) w := by kernel_rfl
theorem a_mk119 (p : Addr) (w : World) : (ReflectliteValue.mk 119 p ReflectliteValue.flagAddr).run Tryz.prog w = .ok (.agg #[.pointer (some ⟨10, 119, none⟩), .pointer (some p), .int .u64 409]) w := by kernel_rfl
theorem a_elemV121 (a p : Addr) (W : World) (ha : W.cell? a = some (.pointer (some p))) :
  (ReflectliteValue.method (ReflectliteValue.valueError "reflectlite.Value.Elem" 0) ReflectliteValue.elem #[.agg #[.pointer (some ⟨10, 121, none⟩), .pointer (some a), .int .u64 150]]).run Tryz.prog W
   = .ok (.agg #[.pointer (some ⟨10, 119, none⟩), .pointer (some p), .int .u64 409]) W := by
 rw [a_rlm]
 simp only [Sem.run_bind, a_parts121, Result.andThen]
 simp [ReflectliteValue.elem, loadVar, isAgg, underlying, Tryz.underlying121, ha, Result.andThen, a_elemOf121, a_mk119]
theorem a_rls (v x : Value) : ReflectliteValue.set #[v, x] = (do
  let (some (dst, a, fl), some (src, b, _)) := (← ReflectliteValue.parts v, ← ReflectliteValue.parts x)
   | unsupported (.noEntry "extern/(internal/reflectlite.Value).Set.zeroValue")
  if fl / ReflectliteValue.flagAddr % 2 == 0 then unsupported (.noEntry "extern/(internal/reflectlite.Value).Set.unaddressable")
  let val ← loadVar src b
  if ← Rtype.directlyAssignable dst src then storeVar dst a val
  else if ← Rtype.implements dst src then
   if (← Rtype.kind src) == 20 then
    match val with
    | .nilIface => unsupported (.noEntry "extern/reflectlite: a nil value of one interface type handed on as a value of another")
    | _ => storeVar dst a val
   else storeVar dst a (.iface src val)
  else panicString ("reflectlite.Set: value of type " ++ (← Rtype.spelt src) ++ " is not assignable to type " ++ (← Rtype.spelt dst))
  pure (.tuple #[])) := rfl
theorem a_parts119a (a : Addr) (w : World) : (ReflectliteValue.parts (.agg #[.pointer (some ⟨10, 119, none⟩), .pointer (some a), .int .u64 409])).run Tryz.prog w = .ok (some (119, a, 409)) w := by kernel_rfl
theorem a_parts119 (a : Addr) (w : World) : (ReflectliteValue.parts (.agg #[.pointer (some ⟨10, 119, none⟩), .pointer (some a), .int .u64 153])).run Tryz.prog w = .ok (some (119, a, 153)) w := by kernel_rfl
theorem a_direct119 (w : World) : (Rtype.directlyAssignable 119 119).run Tryz.prog w = .ok true w := by kernel_rfl
theorem a_size119 (w : World) : (sizeOf 119).run Tryz.prog w = .ok 1 w := by kernel_rfl
theorem a_load119 (b : Addr) (s : ByteArray) (W : World) (hb : W.cell? b = some (.string s)) (hs : b.spot = none) : (loadVar 119 b).run Tryz.prog W = .ok (.agg #[.string s]) W := by
 obtain ⟨bb, bo, bs⟩ := b
 subst hs
 simp [loadVar, isAgg, underlying, Tryz.underlying119, a_size119, loadCells, loadCellsFrom, Addr.add, hb, Result.andThen]
theorem a_set119 (ta b : Addr) (s : ByteArray) (old : Value) (W : World) (hb : W.cell? b = some (.string s)) (hs : b.spot = none) (ht : W.cell? ta = some old) (hts : ta.spot = none) (hf : W.frozen? ta = false) :
  (ReflectliteValue.set #[.agg #[.pointer (some ⟨10, 119, none⟩), .pointer (some ta), .int .u64 409], .agg #[.pointer (some ⟨10, 119, none⟩), .pointer (some b), .int .u64 153]]).run Tryz.prog W
   = .ok (.tuple #[]) (W.setCell ta (.string s)) := by
 obtain ⟨tb, tq, ts⟩ := ta
 subst hts
 rw [a_rls]
 simp only [Sem.run_bind, a_parts119a, a_parts119, Result.andThen]
 have hl := a_load119 b s W hb hs
 have hd := a_direct119 W
 simp [ReflectliteValue.flagAddr, hl, hd, storeVar, Value.cells, storeCells, Addr.add, a_size119, Result.andThen]
 rw [run_store Tryz.prog W ⟨tb, tq, none⟩ _ _ (by rfl)]
 simp [ht, hf]
end Go.Cx
end
section
namespace Go.Cx
open Go Go.Proofs Go.RowKit Go.Extern.Stop Go.Stop Go.Extern Go.Shelf
set_option maxRecDepth 100000 in
set_option maxHeartbeats 4000000 in
theorem as_hit (s : ByteArray) (t : Addr) (old : Value) (w : World) (hg : w.cell? ⟨0, 0, none⟩ = some (.iface 229 (.agg #[.pointer (some ⟨10, 105, none⟩)]))) (hts : t.spot = none) (ht0 : w.cell? t = some old) (hf0 : w.frozen? t = false) :
  Calls Tryz.prog 100 #[.iface 119 (.agg #[.string s]), .iface 121 (.pointer (some t))] w fun ev w' => ev = .returned (.bool true) ∧ w' = ((((w.alloc (.cells #[.pointer (some t)] 121)).alloc (.cells #[.pointer (some ⟨10, 121, none⟩), .pointer (some ⟨w.heap.size, 0, none⟩), .int .u64 150] 187)).alloc (.cells #[.pointer (some ⟨10, 121, none⟩), .pointer (some ⟨w.heap.size, 0, none⟩), .int .u64 150] 187)).alloc (.cells #[.string s] 119)).setCell t (.string s) := by
 have h6 := @run_callFunc_extern Tryz.prog 172 _ (fun args => ReflectliteValue.unpack (args.getD 0 (.tuple #[]))) Tryz.func172 (by kernel_rfl) (by kernel_rfl) (by kernel_rfl) (by kernel_rfl)
 have h7 := @run_callFunc_extern Tryz.prog 173 _ (ReflectliteValue.methodAny (ReflectliteValue.valueError "reflectlite.Value.Type" 0) (fun t _ _ _ => ReflectliteType.toType t)) Tryz.func173 (by kernel_rfl) (by kernel_rfl) (by kernel_rfl) (by kernel_rfl)
 have h8 := @run_callFunc_extern Tryz.prog 174 _ (ReflectliteValue.method (ReflectliteValue.valueError "reflectlite.Value.IsNil" 0) ReflectliteValue.isNil) Tryz.func174 (by kernel_rfl) (by kernel_rfl) (by kernel_rfl) (by kernel_rfl)
 have h27 := @run_callFunc_extern Tryz.prog 316 _ (ReflectliteType.abiMethod fun t => do pure (.int .u8 (← Rtype.kind t))) Tryz.func316 (by kernel_rfl) (by kernel_rfl) (by kernel_rfl) (by kernel_rfl)
 have h37 := @run_callFunc_extern Tryz.prog 331 _ (ReflectliteType.method ReflectliteType.elem) Tryz.func331 (by kernel_rfl) (by kernel_rfl) (by kernel_rfl) (by kernel_rfl)
 have h38 := @run_callFunc_extern Tryz.prog 332 _ (ReflectliteType.relation "Implements" ReflectliteType.implements_) Tryz.func332 (by kernel_rfl) (by kernel_rfl) (by kernel_rfl) (by kernel_rfl)
 have h10 := @run_callFunc_extern Tryz.prog 226 _ ReflectliteType.typeOf Tryz.func226 (by kernel_rfl) (by kernel_rfl) (by kernel_rfl) (by kernel_rfl)
 have h35 := @run_callFunc_extern Tryz.prog 329 _ (ReflectliteType.relation "AssignableTo" ReflectliteType.assignableTo) Tryz.func329 (by kernel_rfl) (by kernel_rfl) (by kernel_rfl) (by kernel_rfl)
 have h11 := @run_callFunc_extern Tryz.prog 227 _ (ReflectliteValue.method (ReflectliteValue.valueError "reflectlite.Value.Elem" 0) ReflectliteValue.elem) Tryz.func227 (by kernel_rfl) (by kernel_rfl) (by kernel_rfl) (by kernel_rfl)
 have h12 := @run_callFunc_extern Tryz.prog 228 _ ReflectliteValue.set Tryz.func228 (by kernel_rfl) (by kernel_rfl) (by kernel_rfl) (by kernel_rfl)
 have tO := a_typeOf119
 have mA := a_methodAssignableTo
 have a25 := a_assignable119
 have v25 := a_valueOf119
 have f6 := a_valueOf121
 have f7 := a_type121
 have mK := a_methodKind
 have mE := a_methodElem
 have mI := a_methodImplements
 have k27 := a_kind121
 have k25 := a_kind119
 have e27 := a_elem121
 have i25 := a_implements119
 have n8 := a_isNil121 ⟨w.heap.size, 0, none⟩ t ((w.alloc (.cells #[.pointer (some t)] 121)).alloc (.cells #[.pointer (some ⟨10, 121, none⟩), .pointer (some ⟨w.heap.size, 0, none⟩), .int .u64 150] 187)) (by simp)
 have hlt : 0 < w.heap.size := by
  rcases Nat.eq_zero_or_pos w.heap.size with h0 | h
  ·simp [World.cell?, h0] at hg
  ·exact h
 have hg2 : ((w.alloc (.cells #[.pointer (some t)] 121)).alloc (.cells #[.pointer (some ⟨10, 121, none⟩), .pointer (some ⟨w.heap.size, 0, none⟩), .int .u64 150] 187)).cell? ⟨0, 0, none⟩ = some (.iface 229 (.agg #[.pointer (some ⟨10, 105, none⟩)])) := by
  rw [World.cell?_alloc_lt _ _ ⟨0, 0, none⟩ (by simp), World.cell?_alloc_lt _ _ ⟨0, 0, none⟩ hlt]; exact hg
 have htl : t.block < w.heap.size := by
  rcases Nat.lt_or_ge t.block w.heap.size with h | h
  ·exact h
  ·simp [World.cell?, Array.getElem?_eq_none h] at ht0
 have el := a_elemV121 ⟨w.heap.size, 0, none⟩ t (((w.alloc (.cells #[.pointer (some t)] 121)).alloc (.cells #[.pointer (some ⟨10, 121, none⟩), .pointer (some ⟨w.heap.size, 0, none⟩), .int .u64 150] 187)).alloc (.cells #[.pointer (some ⟨10, 121, none⟩), .pointer (some ⟨w.heap.size, 0, none⟩), .int .u64 150] 187)) (by rw [World.cell?_alloc_lt _ _ ⟨w.heap.size, 0, none⟩ (by simp; omega)]; simp)
 have st := a_set119 t ⟨w.heap.size + 1 + 1 + 1, 0, none⟩ s old ((((w.alloc (.cells #[.pointer (some t)] 121)).alloc (.cells #[.pointer (some ⟨10, 121, none⟩), .pointer (some ⟨w.heap.size, 0, none⟩), .int .u64 150] 187)).alloc (.cells #[.pointer (some ⟨10, 121, none⟩), .pointer (some ⟨w.heap.size, 0, none⟩), .int .u64 150] 187)).alloc (.cells #[.string s] 119))
  (by rw [World.cell?_alloc_at _ _ _ _ (by simp)]; rfl) rfl
  (by rw [World.cell?_alloc_lt _ _ t (by simp; omega), World.cell?_alloc_lt _ _ t (by simp; omega), World.cell?_alloc_lt _ _ t (by simp; omega), World.cell?_alloc_lt _ _ t htl]; exact ht0) hts
  (by rw [World.frozen?_alloc_old _ _ t (by simp; omega), World.frozen?_alloc_old _ _ t (by simp; omega), World.frozen?_alloc_old _ _ t (by simp; omega), World.frozen?_alloc_old _ _ t (Nat.ne_of_lt htl)]; exact hf0)
 have e175 : ∀ args w, (callFunc 175 args).run Tryz.prog w = .ok (.enter 175 args) w := enters_of Tryz.func175 (by kernel_rfl) rfl
 go_enter Tryz.func100, Tryz.ntmps100
 go_wp2
 refine wp_loop_rounds 1 ?_
 rw [rounds_succ]
 go_wp2
 go_ret
 exact ⟨rfl, rfl⟩
end Go.Cx
end
noncomputable section
namespace Go.Cx
open Go Go.Ab Go.Proofs Go.RowKit
def h100 : List Value → Lk → Nat → (Value → Lk → Nat → Prop) → Prop := fun args m n K => match args with
 | [.nilIface, _] => K (.bool false) m n
 | [.iface t (.agg ⟨[.string s]⟩), .iface t' (.pointer (some ⟨k, 0, some _⟩))] => match Nat.beq t 119, Nat.beq t' 121, m k with
  | true, true, some ⟨[.string _], ty, true⟩ => match Nat.ble itTy ty with
   | false => K (.bool true) (m.upd k ⟨[.string s], ty, true⟩) n
   | true => False
  | _, _, _ => False
 | _ => False
theorem c100 : jbp Tryz.prog 100 := ⟨_, Tryz.func100, by kernel_rfl, rfl⟩
theorem tab_as {w : World} (h : TabsIn w.heap.size w) : w.cell? ⟨0, 0, none⟩ = some (.iface 229 (.agg #[.pointer (some ⟨10, 105, none⟩)])) :=
 h.cell (b := 0) rfl (i := 0) rfl
theorem gen100 : jd1 Tryz.prog 100 h100 := by
 refine ⟨c100, fun args m n K hh N w0 ι w hrel hwf hargs => ?_⟩
 unfold h100 at hh
 split at hh
 ·rename_i t
  refine (as_nil (ren ι t) w).mono fun e w' ⟨h1, h2⟩ => ?_
  subst h2
  exact ⟨.bool false, m, n, ι, by rw [h1]; rfl, hh, Nat.le_refl _, fun _ _ => rfl, hrel, hwf, by simp [ids]⟩
 ·rename_i t s t' k sp
  split at hh
  case h_2 => exact hh.elim
  rename_i old ty ht ht' hk
  split at hh
  case h_2 => exact hh.elim
  rename_i hty
  have ht := jah ht
  have ht' := jah ht'
  subst ht ht'
  obtain ⟨h1, h2, h3⟩ := hrel.blk k _ hk rfl
  rw [objOf_cells hty] at h3
  have e1 : ([.iface 119 (.agg ⟨[.string s]⟩), .iface 121 (.pointer (some ⟨k, 0, some sp⟩))] : List Value).map (ren ι) = [.iface 119 (.agg ⟨[.string s]⟩), .iface 121 (.pointer (some ⟨(ι k).1, 0, none⟩))] := by
   simp [ren, renL, ren1, h1]
  rw [e1]
  have hc : w.cell? ⟨(ι k).1, 0, none⟩ = some (.string old) := by
   simp only [World.cell?, h3]
   rfl
  have hf : w.frozen? ⟨(ι k).1, 0, none⟩ = false := by
   simp [World.frozen?, h3]
  refine (as_hit s ⟨(ι k).1, 0, none⟩ (.string old) w (tab_as hrel.tabs) rfl hc hf).mono fun e w' ⟨g1, g2⟩ => ?_
  have hb : Below w.heap.size w ((((w.alloc (.cells #[.pointer (some ⟨(ι k).1, 0, none⟩)] 121)).alloc (.cells #[.pointer (some ⟨10, 121, none⟩), .pointer (some ⟨w.heap.size, 0, none⟩), .int .u64 150] 187)).alloc (.cells #[.pointer (some ⟨10, 121, none⟩), .pointer (some ⟨w.heap.size, 0, none⟩), .int .u64 150] 187)).alloc (.cells #[.string s] 119)) :=
   ((((Below.refl _ _).alloc (Nat.le_refl _) _).alloc (by simp) _).alloc (by simp; omega) _).alloc (by simp; omega) _
  have hr := hrel.grow hb
  obtain ⟨_, _, h4⟩ := hr.blk k _ hk rfl
  rw [objOf_cells hty] at h4
  have hw := hr.write hk rfl (b' := ⟨[.string s], ty, true⟩) rfl rfl rfl (it_ble hty)
  refine ⟨.bool true, _, n, ι, by rw [g1]; rfl, hh, Nat.le_refl _, fun _ _ => rfl, ?_, fun j b hj => ?_, by simp [ids]⟩
  ·rw [g2, setCell_eq_setRow _ _ _ _ _ _ _ h4]
   exact hw
  ·by_cases e : j = k
   ·subst e
    rw [Lk.upd_same] at hj
    cases hj
    exact ⟨(hwf j _ hk).1, by simp [idsL, ids]⟩
   ·rw [Lk.upd_other _ _ e] at hj
    exact hwf j b hj
 ·exact hh.elim
end Go.Cx
end
noncomputable section
namespace Go.Cx
open Go Go.Ab Go.Proofs Go.Shelf Go.Px Go.Cv
end Go.Cx
end
noncomputable section
set_option maxHeartbeats 3200000
namespace Go.Cx
open Go Go.Ab Go.Proofs Go.Shelf Go.Px Go.Cv
open Go.Fx (Ty Vl check jbl most base pw bnd Fit fits tv vv tup V0 T0 jb1 jca jby jcw str0)
def s322 (s : ByteArray) : Bool × Value := (true, S s)
theorem fn322 : Fn1 Tryz.prog 322 Tryz.f322 := .m Tryz.func322 (by kernel_rfl)
theorem v322 (s : ByteArray) (R : Value → Prop) : ja4 Tryz.prog K6 noL Tryz.f322 [Enc.enc s] (fun _ => none) 0 (fun v _ _ => R v) = ( R (S s)) := by kernel_rfl
theorem ok322 : jan Tryz.prog 322 (sp1 s322) := by
 refine jb7 ok_K6 hmix fn322 jai (jag (by kernel_rfl)) fun s hc => ?_
 rw [ja3, v322]
 try dsimp only [s322]
def s324 (s : ByteArray) : Bool × Value := (true, S s)
theorem fn324 : Fn1 Tryz.prog 324 Tryz.f324 := .m Tryz.func324 (by kernel_rfl)
theorem v324 (s : ByteArray) (R : Value → Prop) : ja4 Tryz.prog K6 noL Tryz.f324 [Enc.enc s] (fun _ => none) 0 (fun v _ _ => R v) = ( R (S s)) := by kernel_rfl
theorem ok324 : jan Tryz.prog 324 (sp1 s324) := by
 refine jb7 ok_K6 hmix fn324 jai (jag (by kernel_rfl)) fun s hc => ?_
 rw [ja3, v324]
 try dsimp only [s324]
end Go.Cx
end
noncomputable section
namespace Go.Ab
open Go Go.RowKit
def eqI (a b : Int) : Bool := match a, b with
 | .ofNat m, .ofNat n => Nat.beq m n
 | .negSucc m, .negSucc n => Nat.beq m n
 | _, _ => false
def eqU : List UInt8 → List UInt8 → Bool
 | [], [] => true
 | a :: l, b :: r => match Nat.beq a.toNat b.toNat with | true => eqU l r | false => false
 | _, _ => false
def eqK (a b : IntKind) : Bool := match decEq a b with | .isTrue _ => true | .isFalse _ => false
mutual
def eqV : Value → Value → Bool
 | .int k a, .int k' b => match eqK k k' with | true => eqI a b | false => false
 | .bool a, .bool b => match a, b with | true, true => true | false, false => true | _, _ => false
 | .string ⟨⟨a⟩⟩, .string ⟨⟨b⟩⟩ => eqU a b
 | .agg ⟨l⟩, .agg ⟨r⟩ => eqVL l r
 | .iface t a, .iface t' b => match Nat.beq t t' with | true => eqV a b | false => false
 | .nilIface, .nilIface => true
 | _, _ => false
def eqVL : List Value → List Value → Bool
 | [], [] => true
 | a :: l, b :: r => match eqV a b with | true => eqVL l r | false => false
 | _, _ => false
end
theorem eqI_spec {a b : Int} (h : eqI a b = true) : a = b := by
 unfold eqI at h
 split at h
 ·rw [jah h]
 ·rw [jah h]
 ·cases h
theorem eqU_spec : ∀ {a b : List UInt8}, eqU a b = true → a = b
 | [], [], _ => rfl
 | a :: l, b :: r, h => by
  simp only [eqU] at h
  split at h
  ·rename_i hb
   rw [UInt8.toNat_inj.1 (jah hb), eqU_spec h]
  ·cases h
 | [], _ :: _, h => by cases h
 | _ :: _, [], h => by cases h
theorem eqK_spec {a b : IntKind} (h : eqK a b = true) : a = b := by
 unfold eqK at h
 split at h
 ·assumption
 ·cases h
mutual
theorem eqV_spec : ∀ {a b : Value}, eqV a b = true → a = b
 | .int k a, .int k' b, h => by
  simp only [eqV] at h
  split at h
  ·rename_i hk
   rw [eqK_spec hk, eqI_spec h]
  ·cases h
 | .bool a, .bool b, h => by cases a <;> cases b <;> first | rfl | cases h
 | .string ⟨⟨a⟩⟩, .string ⟨⟨b⟩⟩, h => by
  simp only [eqV] at h
  rw [eqU_spec h]
 | .agg ⟨l⟩, .agg ⟨r⟩, h => by
  simp only [eqV] at h
  rw [jd7 h]
 | .iface t a, .iface t' b, h => by
  simp only [eqV] at h
  split at h
  ·rename_i ht
   rw [jah ht, eqV_spec h]
  ·cases h
 | .nilIface, .nilIface, _ => rfl
theorem jd7 : ∀ {a b : List Value}, eqVL a b = true → a = b
 | [], [], _ => rfl
 | a :: l, b :: r, h => by
  simp only [eqVL] at h
  split at h
  ·rename_i hb
   rw [eqV_spec hb, jd7 h]
  ·cases h
 | [], _ :: _, h => by cases h
 | _ :: _, [], h => by cases h
end
def memo : List (List Value × Value) → Spec
 | [] => fun _ _ => none
 | (a, v) :: r => fun args bs => match eqVL args a with | true => some (true, v) | false => memo r args bs
theorem jf5 {args : List Value} {bs : List (Option Blk)} {b : Bool} {v : Value} : ∀ {l : List (List Value × Value)}, memo l args bs = some (b, v) → b = true ∧ (args, v) ∈ l
 | [], h => by cases h
 | (a, u) :: r, h => by
  simp only [memo] at h
  split at h
  ·rename_i ha
   simp only [Option.some.injEq, Prod.mk.injEq] at h
   exact ⟨h.1.symm, by rw [jd7 ha, h.2]; exact List.mem_cons_self ..⟩
  ·obtain ⟨h1, h2⟩ := jf5 h
   exact ⟨h1, List.mem_cons_of_mem _ h2⟩
variable [Tabs]
def AllD (P : Program) (G : Env) (L : Nat → Option jbx) (fn : Func) : List (List Value × Value) → Prop
 | [] => True
 | (a, v) :: r => ja3 P G L fn a v ∧ AllD P G L fn r
theorem AllD_mem {P : Program} {G : Env} {L : Nat → Option jbx} {fn : Func} {a : List Value} {v : Value} : ∀ {l : List (List Value × Value)}, AllD P G L fn l → (a, v) ∈ l → ja3 P G L fn a v
 | (a', v') :: r, h, hm => by
  rcases List.mem_cons.1 hm with e | hm
  ·cases e; exact h.1
  ·exact AllD_mem h.2 hm
theorem jdh {P : Program} {G : Env} {L : Nat → Option jbx} {f : FuncId} {fn : Func} (hG : jax P G) (hm : P.follows .mixedOrders = true) (hf : Fn1 P f fn) (hL : LOKf P L fn) {l : List (List Value × Value)}
  (hp : (l.all fun x => ja2 x.1 && Nat.ble x.1.length fn.ntmps) = true) (h : AllD P G L fn l) : jan P f (memo l) := by
 refine jez hG hm hf hL fun args bs v hs => ?_
 obtain ⟨_, hmem⟩ := jf5 hs
 have := List.all_eq_true.1 hp _ hmem
 simp only [jaf] at this
 exact ⟨this.1, jag this.2, AllD_mem h hmem⟩
def cj (p : Prop) : Nat → Prop
 | 0 => p
 | n + 1 => p ∧ cj p n
omit [Tabs] in
theorem cj_of {p : Prop} (h : p) : ∀ n, cj p n
 | 0 => h
 | n + 1 => ⟨h, cj_of h n⟩
def jjz : List (List Value × Value) → List Nat → Prop
 | [], _ => True
 | (_, v) :: r, [] => v = v ∧ jjz r []
 | (_, v) :: r, k :: ks => cj (v = v) k ∧ jjz r ks
omit [Tabs] in
theorem jh3 : ∀ l ks, jjz l ks
 | [], _ => trivial
 | (_, _) :: r, [] => ⟨rfl, jh3 r []⟩
 | (_, _) :: r, k :: ks => ⟨cj_of rfl k, jh3 r ks⟩
def RunL (P : Program) (G : Env) (L : Nat → Option jbx) (fn : Func) : List (List Value × Value) → Prop
 | [] => True
 | (a, v) :: r => ja4 P G L fn a (fun _ => none) 0 (fun v' _ _ => v' = v) ∧ RunL P G L fn r
theorem allD_of {P : Program} {G : Env} {L : Nat → Option jbx} {fn : Func} : ∀ {l : List (List Value × Value)}, RunL P G L fn l → AllD P G L fn l
 | [], _ => trivial
 | (_, _) :: _, h => ⟨by rw [ja3]; exact h.1, allD_of h.2⟩
theorem jaz (ks : List Nat) {P : Program} {G : Env} {L : Nat → Option jbx} {f : FuncId} {fn : Func} (hG : jax P G) (hm : P.follows .mixedOrders = true) (hf : Fn1 P f fn) (hL : LOKf P L fn) {l : List (List Value × Value)}
  (hp : (l.all fun x => ja2 x.1 && Nat.ble x.1.length fn.ntmps) = true) (h : RunL P G L fn l = jjz l ks) : jan P f (memo l) :=
 jdh hG hm hf hL hp (allD_of (cast h.symm (jh3 l ks)))
end Go.Ab
end
noncomputable section
namespace Go.Cs
open Go Go.Ab Go.Proofs Go.Shelf Go.Px Go.Cx Go.RowKit
/-- The tables; lengths and characters are computed. -/
instance tabsC : Tabs := { row := jjp, plain := tabs.plain, conc := true }
theorem RelM.toT {N : Nat} {w0 : World} {m : Lk} {ι : Nm} {w : World} (h : @RelM tabsC N w0 m ι w) : @RelM tabs N w0 m ι w :=
 @RelM.mk tabs N w0 m ι w h.below h.base h.blk h.view h.inj
theorem RelM.toC {N : Nat} {w0 : World} {m : Lk} {ι : Nm} {w : World} (h : @RelM tabs N w0 m ι w) : @RelM tabsC N w0 m ι w :=
 @RelM.mk tabsC N w0 m ι w (@RelM.below tabs N w0 m ι w h) (@RelM.base tabs N w0 m ι w h) (@RelM.blk tabs N w0 m ι w h) (@RelM.view tabs N w0 m ι w h) (@RelM.inj tabs N w0 m ι w h)
theorem jcs {f : FuncId} {s : Ab.Spec} (h : @jan tabs Tryz.prog f s) : @jan tabsC Tryz.prog f s :=
 ⟨h.1, fun args v N w0 lk ι w hr hs hv => h.2 args v N w0 lk ι w (RelM.toT hr) hs hv⟩
theorem pureT {f : FuncId} {s : Ab.Spec} (h : @jan tabsC Tryz.prog f s) : @jan tabs Tryz.prog f s :=
 ⟨h.1, fun args v N w0 lk ι w hr hs hv => h.2 args v N w0 lk ι w (RelM.toC hr) hs hv⟩
theorem pure_at {f : FuncId} {s : Ab.Spec} (h : jan Tryz.prog f s) {l : List (List Value × Value)} (hl : ∀ a v, (a, v) ∈ l → ∀ bs, s a bs = some (true, v)) : jan Tryz.prog f (memo l) :=
 ⟨h.1, fun args v N w0 lk ι w hr hs hv => h.2 args v N w0 lk ι w hr (hl _ _ (jf5 hs).2 _) hv⟩
def s154 (s t : ByteArray) : Bool × Value := (oneB t && asc (bz t), .string (sz (tlZ (bz s) ((bz t).getD 0 0))))
theorem ok154 : jan Tryz.prog 154 (sp2 s154) := by
 have e : s154 = Cx.s154 := by funext s t; simp only [s154, Cx.s154, jc1]
 rw [e]; exact jcs Cx.ok154
def s131 (s t : ByteArray) : Bool × Value := (decide (s.size ≤ 9223372036854775807) && (oneB t && asc (bz t)), .string (sz (trZ (bz s) ((bz t).getD 0 0))))
theorem ok131 : jan Tryz.prog 131 (sp2 s131) := by
 have e : s131 = Cx.s131 := by funext s t; simp only [s131, Cx.s131, jc1]
 rw [e]; exact jcs Cx.ok131
def s55 (s t : ByteArray) : Bool × Value := (decide (s.size ≤ 9223372036854775807) && (decide (t.size ≤ 1000) && asc (bz t)), .string (sz (jct (bz s) (bz t))))
theorem ok55 : jan Tryz.prog 55 (sp2 s55) := by
 have e : s55 = Cx.s55 := by funext s t; simp only [s55, Cx.s55, jc1]
 rw [e]; exact jcs Cx.ok55
def s30 (s : ByteArray) (n : Int) : Bool × Value := (decide (0 ≤ n ∧ n ≤ 1000 ∧ s.size ≤ 1000), .string (sz (repZ (bz s) n.toNat)))
theorem ok30 : jan Tryz.prog 30 (sp2 s30) := by
 have e : s30 = Cx.s30 := by funext s n; simp only [s30, Cx.s30, jc1]
 rw [e]; exact jcs Cx.ok30
theorem dec1234 : Lib.decDigits 1234 = [49, 50, 51, 52] := by
 rw [Lib.decDigits, dif_neg (by decide), Lib.decDigits, dif_neg (by decide), Lib.decDigits_two (by decide) (by decide)]; rfl
theorem dec1230 : Lib.decDigits 1230 = [49, 50, 51, 48] := by
 rw [Lib.decDigits, dif_neg (by decide), Lib.decDigits, dif_neg (by decide), Lib.decDigits_two (by decide) (by decide)]; rfl
theorem dec150 : Lib.decDigits 150 = [49, 53, 48] := by
 rw [Lib.decDigits, dif_neg (by decide), Lib.decDigits_two (by decide) (by decide)]; rfl
theorem dec123 : Lib.decDigits 123 = [49, 50, 51] := by
 rw [Lib.decDigits, dif_neg (by decide), Lib.decDigits_two (by decide) (by decide)]; rfl
theorem dec234 : Lib.decDigits 234 = [50, 51, 52] := by
 rw [Lib.decDigits, dif_neg (by decide), Lib.decDigits_two (by decide) (by decide)]; rfl
theorem ito {n : Nat} {l : List UInt8} (h : Lib.decDigits n = l) : Cx.s29 (n : Int) = (decide (-9223372036854775808 ≤ (n : Int) ∧ (n : Int) ≤ 9223372036854775807), .string ⟨l.toArray⟩) := by
 rw [Cx.s29, jc1, itoZ, Lib.itoa_nonneg, h, jgl]
theorem fmt {n : Nat} {l : List UInt8} (h : Lib.decDigits n = l) : Px.s87 ⟨(n : Int)⟩ 10 = (decide (0 ≤ (n : Int) ∧ (n : Int) < 18446744073709551616) && jj3 10, .string ⟨l.toArray⟩) := by
 show (_, Value.string (sz (zl (Lib.decDigits (n : Int).toNat)))) = _
 rw [Int.toNat_natCast, h, jgl]
def m29 : List (List Value × Value) := [([.int .i64 150], .string ⟨#[49, 53, 48]⟩), ([.int .i64 123], .string ⟨#[49, 50, 51]⟩), ([.int .i64 1234], .string ⟨#[49, 50, 51, 52]⟩)]
theorem jh7 {α : Type} {p : α → Prop} : ∀ {l : List α}, (l.foldr (fun a q => p a ∧ q) True) → ∀ a ∈ l, p a
 | _ :: _, h, _, ha => by
  rcases List.mem_cons.1 ha with rfl | ha
  ·exact h.1
  ·exact jh7 h.2 _ ha
theorem pk29 : jan Tryz.prog 29 (memo m29) := pure_at (jcs Cx.ok29) fun a v h bs => by
 have := jh7 (p := fun x : List Value × Value => sp1 Cx.s29 x.1 bs = some (true, x.2)) (l := m29) ⟨congrArg some (ito dec150), congrArg some (ito dec123), congrArg some (ito dec1234), trivial⟩ _ h
 exact this
def m81 : List (List Value × Value) := [([.int .u64 1230, .int .i64 10], .string ⟨#[49, 50, 51, 48]⟩), ([.int .u64 234, .int .i64 10], .string ⟨#[50, 51, 52]⟩)]
theorem pk81 : jan Tryz.prog 81 (memo m81) := pure_at (jcs Px.ok87) fun a v h bs => by
 have := jh7 (p := fun x : List Value × Value => sp2 Px.s87 x.1 bs = some (true, x.2)) (l := m81) ⟨congrArg some (fmt dec1230), congrArg some (fmt dec234), trivial⟩ _ h
 exact this
theorem genC : @jd1 tabsC Tryz.prog 100 h100 := by
 obtain ⟨h1, h2⟩ := @gen100
 refine ⟨h1, fun args m n K hh N w0 ι w hrel hwf hargs => ?_⟩
 refine (h2 args m n K hh N w0 ι w (RelM.toT hrel) hwf hargs).mono fun e w' ⟨v, m', n', ι', h⟩ => ⟨v, m', n', ι', h.1, h.2.1, h.2.2.1, h.2.2.2.1, RelM.toC h.2.2.2.2.1, h.2.2.2.2.2⟩
def S0 : Env := Env.nil
theorem ok_S0 : jax Tryz.prog S0 := jam
end Go.Cs
end
