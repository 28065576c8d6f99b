/-
  Into.
-/
import Derived.Test.YthaedhabookjeaaFx16
set_option linter.unusedVariables false
set_option linter.unusedSimpArgs false
namespace Go.Fx
open Go Go.Ab Go.Proofs

def isIn (op : Int) : Bool := decide (6 ≤ op ∧ op ≤ 9)
def inE (op : Int) (a : Vl) (ta : Ty) (b : Vl) (tb to : Ty) : Int :=
  if isIn op = false then 1 else if fits a ta ≠ 0 then fits a ta else if fits b tb ≠ 0 then fits b tb else if check to ≠ 0 then 5 else if tb.k ≠ ta.k ∨ to.k ≠ ta.k then 5 else 0
def inQ (op : Int) (a : Int) (ta : Ty) (b : Int) (tb to : Ty) : Int :=
  if op = 8 then (a * b * pw 10 to.q).tdiv (pw 10 (ta.q + tb.q))
  else if op = 9 then (a * pw 10 (max ta.q tb.q - ta.q) * pw 10 to.q).tdiv (b * pw 10 (max ta.q tb.q - tb.q))
  else if op = 6 then ((scl a (max ta.q tb.q - ta.q) + scl b (max ta.q tb.q - tb.q)) * pw 10 to.q).tdiv (pw 10 (max ta.q tb.q))
  else ((scl a (max ta.q tb.q - ta.q) - scl b (max ta.q tb.q - tb.q)) * pw 10 to.q).tdiv (pw 10 (max ta.q tb.q))
def zer9 (op b : Int) : Prop := op = 9 ∧ b = 0
instance (op b : Int) : Decidable (zer9 op b) := by unfold zer9; infer_instance
def inN (op : Int) (a : Vl) (ta : Ty) (b : Vl) (tb to : Ty) : Int := if inE op a ta b tb to ≠ 0 then 0 else if zer9 op b.n then 0 else cutN (inQ op a.n ta b.n tb to) to
def inC (op : Int) (a : Vl) (ta : Ty) (b : Vl) (tb to : Ty) : Int := if inE op a ta b tb to ≠ 0 then 0 else if zer9 op b.n then 3 else cutC (inQ op a.n ta b.n tb to) to 2
abbrev inR (op : Int) (a : Vl) (ta : Ty) (b : Vl) (tb to : Ty) : Value := tup [vv ⟨inN op a ta b tb to, e0⟩, I (inC op a ta b tb to), I (inE op a ta b tb to)]

theorem into_q {n y k : Int} (hy : y ≠ 0) : (n * pw 10 k).tdiv y = if (n < 0) ≠ (y < 0) then -fq (max n (-n)) (max y (-y)) k else fq (max n (-n)) (max y (-y)) k := by
  have hp := pw_pos (b := 10) (by omega) k
  have key : ∀ m z : Int, 0 ≤ m → 0 < z → (m * pw 10 k).tdiv z = fq m z k := fun m z hm hz => by
    rw [fq, Int.tdiv_eq_ediv_of_nonneg (Int.mul_nonneg hm (by omega))]
  by_cases hn : n < 0
  · have e1 : n * pw 10 k = -((-n) * pw 10 k) := by rw [Int.neg_mul, Int.neg_neg]
    by_cases hz : y < 0
    · rw [if_neg (by simp [hn, hz]), show max n (-n) = -n by omega, show max y (-y) = -y by omega, ← key (-n) (-y) (by omega) (by omega), e1, Int.neg_tdiv, Int.tdiv_neg]
    · rw [if_pos (by simp [hn, hz]), show max n (-n) = -n by omega, show max y (-y) = y by omega, ← key (-n) y (by omega) (by omega), e1, Int.neg_tdiv]
  · by_cases hz : y < 0
    · rw [if_pos (by simp [hn, hz]), show max n (-n) = n by omega, show max y (-y) = -y by omega, ← key n (-y) (by omega) (by omega), Int.tdiv_neg, Int.neg_neg]
    · rw [if_neg (by simp [hn, hz]), show max n (-n) = n by omega, show max y (-y) = y by omega, ← key n y (by omega) (by omega)]
theorem cut_abs {F : Int} {t : Ty} (ht : Valid t) (hF : 0 ≤ F) : cutN F t = F % bnd t ∧ cutN (-F) t = -(F % bnd t) ∧ (InB F t ↔ F < bnd t) ∧ (InB (-F) t ↔ F < bnd t) := by
  have hb := bnd_range ht
  refine ⟨?_, ?_, ?_, ?_⟩
  · rw [cutN_tmod, Int.tmod_eq_emod_of_nonneg hF]
  · rw [cutN_tmod, Int.neg_tmod, Int.tmod_eq_emod_of_nonneg hF]
  · unfold InB; omega
  · unfold InB; omega

def G20 : Env := (((G19.add 93 (sp4 s93)).add 94 (sp3 s94)).add 95 (sp5 s95))
theorem ok_G20 : EnvOK Try.prog G20 := env_add (env_add (env_add (ok_G19) ok93) ok94) ok95

theorem d37_6 (a : Vl) (ta : Ty) (b : Vl) (tb : Ty) (to : Ty) (R : Value → Prop) : bodyR Try.prog G20 noL Try.f37 [Enc.enc (6 : Int), Enc.enc a, Enc.enc ta, Enc.enc b, Enc.enc tb, Enc.enc to] (fun _ => none) 0 (fun v _ _ => R v) = (
    bif fst4 (fits a ta) (fits b tb) (check to) (same2 ta tb to) != 0 then
      R
        (Value.tuple
          (Array.mk
            [Value.agg (Array.mk [Value.int IntKind.i64 0, Value.string (ByteArray.mk #[])]), Value.int IntKind.i64 0,
              Value.int IntKind.i64 (fst4 (fits a ta) (fits b tb) (check to) (same2 ta tb to))]))
    else
      bif decide (0 ≤ imax (Ty.q ta) (Ty.q tb) ∧ imax (Ty.q ta) (Ty.q tb) < 19) && isIntAt IntKind.i64 tensL (Int.toNat (imax (Ty.q ta) (Ty.q tb))) then
        bif
            decide
              (-18 ≤ imax (Ty.q ta) (Ty.q tb) - Ty.q ta ∧
                imax (Ty.q ta) (Ty.q tb) - Ty.q ta ≤ 18 ∧ -100 ≤ Ty.q ta ∧ Ty.q ta ≤ 100 ∧ R64 (Vl.n a) ∧ R64 (scl (Vl.n a) (imax (Ty.q ta) (Ty.q tb) - Ty.q ta))) then
          bif
              decide
                (-18 ≤ imax (Ty.q ta) (Ty.q tb) - Ty.q tb ∧
                  imax (Ty.q ta) (Ty.q tb) - Ty.q tb ≤ 18 ∧ -100 ≤ Ty.q tb ∧ Ty.q tb ≤ 100 ∧ R64 (Vl.n b) ∧ R64 (scl (Vl.n b) (imax (Ty.q ta) (Ty.q tb) - Ty.q tb))) then
            bif decide (Valid to) then
              bif
                  dgOK
                    (IntKind.wrap IntKind.u64
                      (imax (IntKind.wrap IntKind.i64 (scl (Vl.n a) (imax (Ty.q ta) (Ty.q tb) - Ty.q ta) + scl (Vl.n b) (imax (Ty.q ta) (Ty.q tb) - Ty.q tb)))
                        (IntKind.wrap IntKind.i64
                          (0 - IntKind.wrap IntKind.i64 (scl (Vl.n a) (imax (Ty.q ta) (Ty.q tb) - Ty.q ta) + scl (Vl.n b) (imax (Ty.q ta) (Ty.q tb) - Ty.q tb))))))
                    (IntKind.wrap IntKind.u64
                      (imax (intAt tensL (Int.toNat (imax (Ty.q ta) (Ty.q tb)))) (IntKind.wrap IntKind.i64 (0 - intAt tensL (Int.toNat (imax (Ty.q ta) (Ty.q tb)))))))
                    (Ty.q to) (IntKind.wrap IntKind.u64 (bnd to)) then
                bif
                    !decide (IntKind.wrap IntKind.i64 (scl (Vl.n a) (imax (Ty.q ta) (Ty.q tb) - Ty.q ta) + scl (Vl.n b) (imax (Ty.q ta) (Ty.q tb) - Ty.q tb)) < 0) ==
                        decide (intAt tensL (Int.toNat (imax (Ty.q ta) (Ty.q tb))) < 0) then
                  bif
                      decide
                        (IntKind.wrap IntKind.u64 (bnd to) ≤
                          fq
                            (IntKind.wrap IntKind.u64
                              (imax (IntKind.wrap IntKind.i64 (scl (Vl.n a) (imax (Ty.q ta) (Ty.q tb) - Ty.q ta) + scl (Vl.n b) (imax (Ty.q ta) (Ty.q tb) - Ty.q tb)))
                                (IntKind.wrap IntKind.i64
                                  (0 - IntKind.wrap IntKind.i64 (scl (Vl.n a) (imax (Ty.q ta) (Ty.q tb) - Ty.q ta) + scl (Vl.n b) (imax (Ty.q ta) (Ty.q tb) - Ty.q tb))))))
                            (IntKind.wrap IntKind.u64
                              (imax (intAt tensL (Int.toNat (imax (Ty.q ta) (Ty.q tb)))) (IntKind.wrap IntKind.i64 (0 - intAt tensL (Int.toNat (imax (Ty.q ta) (Ty.q tb)))))))
                            (Ty.q to)) then
                    R
                      (Value.tuple
                        (Array.mk
                          [Value.agg
                              (Array.mk
                                [Value.int IntKind.i64
                                    (IntKind.wrap IntKind.i64
                                      (0 -
                                        IntKind.wrap IntKind.i64
                                          (fq
                                              (IntKind.wrap IntKind.u64
                                                (imax (IntKind.wrap IntKind.i64 (scl (Vl.n a) (imax (Ty.q ta) (Ty.q tb) - Ty.q ta) + scl (Vl.n b) (imax (Ty.q ta) (Ty.q tb) - Ty.q tb)))
                                                  (IntKind.wrap IntKind.i64
                                                    (0 -
                                                      IntKind.wrap IntKind.i64
                                                        (scl (Vl.n a) (imax (Ty.q ta) (Ty.q tb) - Ty.q ta) + scl (Vl.n b) (imax (Ty.q ta) (Ty.q tb) - Ty.q tb))))))
                                              (IntKind.wrap IntKind.u64
                                                (imax (intAt tensL (Int.toNat (imax (Ty.q ta) (Ty.q tb))))
                                                  (IntKind.wrap IntKind.i64 (0 - intAt tensL (Int.toNat (imax (Ty.q ta) (Ty.q tb)))))))
                                              (Ty.q to) %
                                            IntKind.wrap IntKind.u64 (bnd to)))),
                                  Value.string (ByteArray.mk #[])]),
                            Value.int IntKind.i64 2, Value.int IntKind.i64 0]))
                  else
                    R
                      (Value.tuple
                        (Array.mk
                          [Value.agg
                              (Array.mk
                                [Value.int IntKind.i64
                                    (IntKind.wrap IntKind.i64
                                      (0 -
                                        IntKind.wrap IntKind.i64
                                          (fq
                                              (IntKind.wrap IntKind.u64
                                                (imax (IntKind.wrap IntKind.i64 (scl (Vl.n a) (imax (Ty.q ta) (Ty.q tb) - Ty.q ta) + scl (Vl.n b) (imax (Ty.q ta) (Ty.q tb) - Ty.q tb)))
                                                  (IntKind.wrap IntKind.i64
                                                    (0 -
                                                      IntKind.wrap IntKind.i64
                                                        (scl (Vl.n a) (imax (Ty.q ta) (Ty.q tb) - Ty.q ta) + scl (Vl.n b) (imax (Ty.q ta) (Ty.q tb) - Ty.q tb))))))
                                              (IntKind.wrap IntKind.u64
                                                (imax (intAt tensL (Int.toNat (imax (Ty.q ta) (Ty.q tb))))
                                                  (IntKind.wrap IntKind.i64 (0 - intAt tensL (Int.toNat (imax (Ty.q ta) (Ty.q tb)))))))
                                              (Ty.q to) %
                                            IntKind.wrap IntKind.u64 (bnd to)))),
                                  Value.string (ByteArray.mk #[])]),
                            Value.int IntKind.i64 0, Value.int IntKind.i64 0]))
                else
                  bif
                      decide
                        (IntKind.wrap IntKind.u64 (bnd to) ≤
                          fq
                            (IntKind.wrap IntKind.u64
                              (imax (IntKind.wrap IntKind.i64 (scl (Vl.n a) (imax (Ty.q ta) (Ty.q tb) - Ty.q ta) + scl (Vl.n b) (imax (Ty.q ta) (Ty.q tb) - Ty.q tb)))
                                (IntKind.wrap IntKind.i64
                                  (0 - IntKind.wrap IntKind.i64 (scl (Vl.n a) (imax (Ty.q ta) (Ty.q tb) - Ty.q ta) + scl (Vl.n b) (imax (Ty.q ta) (Ty.q tb) - Ty.q tb))))))
                            (IntKind.wrap IntKind.u64
                              (imax (intAt tensL (Int.toNat (imax (Ty.q ta) (Ty.q tb)))) (IntKind.wrap IntKind.i64 (0 - intAt tensL (Int.toNat (imax (Ty.q ta) (Ty.q tb)))))))
                            (Ty.q to)) then
                    R
                      (Value.tuple
                        (Array.mk
                          [Value.agg
                              (Array.mk
                                [Value.int IntKind.i64
                                    (IntKind.wrap IntKind.i64
                                      (fq
                                          (IntKind.wrap IntKind.u64
                                            (imax (IntKind.wrap IntKind.i64 (scl (Vl.n a) (imax (Ty.q ta) (Ty.q tb) - Ty.q ta) + scl (Vl.n b) (imax (Ty.q ta) (Ty.q tb) - Ty.q tb)))
                                              (IntKind.wrap IntKind.i64
                                                (0 -
                                                  IntKind.wrap IntKind.i64 (scl (Vl.n a) (imax (Ty.q ta) (Ty.q tb) - Ty.q ta) + scl (Vl.n b) (imax (Ty.q ta) (Ty.q tb) - Ty.q tb))))))
                                          (IntKind.wrap IntKind.u64
                                            (imax (intAt tensL (Int.toNat (imax (Ty.q ta) (Ty.q tb))))
                                              (IntKind.wrap IntKind.i64 (0 - intAt tensL (Int.toNat (imax (Ty.q ta) (Ty.q tb)))))))
                                          (Ty.q to) %
                                        IntKind.wrap IntKind.u64 (bnd to))),
                                  Value.string (ByteArray.mk #[])]),
                            Value.int IntKind.i64 2, Value.int IntKind.i64 0]))
                  else
                    R
                      (Value.tuple
                        (Array.mk
                          [Value.agg
                              (Array.mk
                                [Value.int IntKind.i64
                                    (IntKind.wrap IntKind.i64
                                      (fq
                                          (IntKind.wrap IntKind.u64
                                            (imax (IntKind.wrap IntKind.i64 (scl (Vl.n a) (imax (Ty.q ta) (Ty.q tb) - Ty.q ta) + scl (Vl.n b) (imax (Ty.q ta) (Ty.q tb) - Ty.q tb)))
                                              (IntKind.wrap IntKind.i64
                                                (0 -
                                                  IntKind.wrap IntKind.i64 (scl (Vl.n a) (imax (Ty.q ta) (Ty.q tb) - Ty.q ta) + scl (Vl.n b) (imax (Ty.q ta) (Ty.q tb) - Ty.q tb))))))
                                          (IntKind.wrap IntKind.u64
                                            (imax (intAt tensL (Int.toNat (imax (Ty.q ta) (Ty.q tb))))
                                              (IntKind.wrap IntKind.i64 (0 - intAt tensL (Int.toNat (imax (Ty.q ta) (Ty.q tb)))))))
                                          (Ty.q to) %
                                        IntKind.wrap IntKind.u64 (bnd to))),
                                  Value.string (ByteArray.mk #[])]),
                            Value.int IntKind.i64 0, Value.int IntKind.i64 0]))
              else False
            else False
          else False
        else False
      else False) := by kernel_rfl

theorem d37_7 (a : Vl) (ta : Ty) (b : Vl) (tb : Ty) (to : Ty) (R : Value → Prop) : bodyR Try.prog G20 noL Try.f37 [Enc.enc (7 : Int), Enc.enc a, Enc.enc ta, Enc.enc b, Enc.enc tb, Enc.enc to] (fun _ => none) 0 (fun v _ _ => R v) = (
    bif fst4 (fits a ta) (fits b tb) (check to) (same2 ta tb to) != 0 then
      R
        (Value.tuple
          (Array.mk
            [Value.agg (Array.mk [Value.int IntKind.i64 0, Value.string (ByteArray.mk #[])]), Value.int IntKind.i64 0,
              Value.int IntKind.i64 (fst4 (fits a ta) (fits b tb) (check to) (same2 ta tb to))]))
    else
      bif decide (0 ≤ imax (Ty.q ta) (Ty.q tb) ∧ imax (Ty.q ta) (Ty.q tb) < 19) && isIntAt IntKind.i64 tensL (Int.toNat (imax (Ty.q ta) (Ty.q tb))) then
        bif
            decide
              (-18 ≤ imax (Ty.q ta) (Ty.q tb) - Ty.q ta ∧
                imax (Ty.q ta) (Ty.q tb) - Ty.q ta ≤ 18 ∧ -100 ≤ Ty.q ta ∧ Ty.q ta ≤ 100 ∧ R64 (Vl.n a) ∧ R64 (scl (Vl.n a) (imax (Ty.q ta) (Ty.q tb) - Ty.q ta))) then
          bif
              decide
                (-18 ≤ imax (Ty.q ta) (Ty.q tb) - Ty.q tb ∧
                  imax (Ty.q ta) (Ty.q tb) - Ty.q tb ≤ 18 ∧ -100 ≤ Ty.q tb ∧ Ty.q tb ≤ 100 ∧ R64 (Vl.n b) ∧ R64 (scl (Vl.n b) (imax (Ty.q ta) (Ty.q tb) - Ty.q tb))) then
            bif decide (Valid to) then
              bif
                  dgOK
                    (IntKind.wrap IntKind.u64
                      (imax (IntKind.wrap IntKind.i64 (scl (Vl.n a) (imax (Ty.q ta) (Ty.q tb) - Ty.q ta) - scl (Vl.n b) (imax (Ty.q ta) (Ty.q tb) - Ty.q tb)))
                        (IntKind.wrap IntKind.i64
                          (0 - IntKind.wrap IntKind.i64 (scl (Vl.n a) (imax (Ty.q ta) (Ty.q tb) - Ty.q ta) - scl (Vl.n b) (imax (Ty.q ta) (Ty.q tb) - Ty.q tb))))))
                    (IntKind.wrap IntKind.u64
                      (imax (intAt tensL (Int.toNat (imax (Ty.q ta) (Ty.q tb)))) (IntKind.wrap IntKind.i64 (0 - intAt tensL (Int.toNat (imax (Ty.q ta) (Ty.q tb)))))))
                    (Ty.q to) (IntKind.wrap IntKind.u64 (bnd to)) then
                bif
                    !decide (IntKind.wrap IntKind.i64 (scl (Vl.n a) (imax (Ty.q ta) (Ty.q tb) - Ty.q ta) - scl (Vl.n b) (imax (Ty.q ta) (Ty.q tb) - Ty.q tb)) < 0) ==
                        decide (intAt tensL (Int.toNat (imax (Ty.q ta) (Ty.q tb))) < 0) then
                  bif
                      decide
                        (IntKind.wrap IntKind.u64 (bnd to) ≤
                          fq
                            (IntKind.wrap IntKind.u64
                              (imax (IntKind.wrap IntKind.i64 (scl (Vl.n a) (imax (Ty.q ta) (Ty.q tb) - Ty.q ta) - scl (Vl.n b) (imax (Ty.q ta) (Ty.q tb) - Ty.q tb)))
                                (IntKind.wrap IntKind.i64
                                  (0 - IntKind.wrap IntKind.i64 (scl (Vl.n a) (imax (Ty.q ta) (Ty.q tb) - Ty.q ta) - scl (Vl.n b) (imax (Ty.q ta) (Ty.q tb) - Ty.q tb))))))
                            (IntKind.wrap IntKind.u64
                              (imax (intAt tensL (Int.toNat (imax (Ty.q ta) (Ty.q tb)))) (IntKind.wrap IntKind.i64 (0 - intAt tensL (Int.toNat (imax (Ty.q ta) (Ty.q tb)))))))
                            (Ty.q to)) then
                    R
                      (Value.tuple
                        (Array.mk
                          [Value.agg
                              (Array.mk
                                [Value.int IntKind.i64
                                    (IntKind.wrap IntKind.i64
                                      (0 -
                                        IntKind.wrap IntKind.i64
                                          (fq
                                              (IntKind.wrap IntKind.u64
                                                (imax (IntKind.wrap IntKind.i64 (scl (Vl.n a) (imax (Ty.q ta) (Ty.q tb) - Ty.q ta) - scl (Vl.n b) (imax (Ty.q ta) (Ty.q tb) - Ty.q tb)))
                                                  (IntKind.wrap IntKind.i64
                                                    (0 -
                                                      IntKind.wrap IntKind.i64
                                                        (scl (Vl.n a) (imax (Ty.q ta) (Ty.q tb) - Ty.q ta) - scl (Vl.n b) (imax (Ty.q ta) (Ty.q tb) - Ty.q tb))))))
                                              (IntKind.wrap IntKind.u64
                                                (imax (intAt tensL (Int.toNat (imax (Ty.q ta) (Ty.q tb))))
                                                  (IntKind.wrap IntKind.i64 (0 - intAt tensL (Int.toNat (imax (Ty.q ta) (Ty.q tb)))))))
                                              (Ty.q to) %
                                            IntKind.wrap IntKind.u64 (bnd to)))),
                                  Value.string (ByteArray.mk #[])]),
                            Value.int IntKind.i64 2, Value.int IntKind.i64 0]))
                  else
                    R
                      (Value.tuple
                        (Array.mk
                          [Value.agg
                              (Array.mk
                                [Value.int IntKind.i64
                                    (IntKind.wrap IntKind.i64
                                      (0 -
                                        IntKind.wrap IntKind.i64
                                          (fq
                                              (IntKind.wrap IntKind.u64
                                                (imax (IntKind.wrap IntKind.i64 (scl (Vl.n a) (imax (Ty.q ta) (Ty.q tb) - Ty.q ta) - scl (Vl.n b) (imax (Ty.q ta) (Ty.q tb) - Ty.q tb)))
                                                  (IntKind.wrap IntKind.i64
                                                    (0 -
                                                      IntKind.wrap IntKind.i64
                                                        (scl (Vl.n a) (imax (Ty.q ta) (Ty.q tb) - Ty.q ta) - scl (Vl.n b) (imax (Ty.q ta) (Ty.q tb) - Ty.q tb))))))
                                              (IntKind.wrap IntKind.u64
                                                (imax (intAt tensL (Int.toNat (imax (Ty.q ta) (Ty.q tb))))
                                                  (IntKind.wrap IntKind.i64 (0 - intAt tensL (Int.toNat (imax (Ty.q ta) (Ty.q tb)))))))
                                              (Ty.q to) %
                                            IntKind.wrap IntKind.u64 (bnd to)))),
                                  Value.string (ByteArray.mk #[])]),
                            Value.int IntKind.i64 0, Value.int IntKind.i64 0]))
                else
                  bif
                      decide
                        (IntKind.wrap IntKind.u64 (bnd to) ≤
                          fq
                            (IntKind.wrap IntKind.u64
                              (imax (IntKind.wrap IntKind.i64 (scl (Vl.n a) (imax (Ty.q ta) (Ty.q tb) - Ty.q ta) - scl (Vl.n b) (imax (Ty.q ta) (Ty.q tb) - Ty.q tb)))
                                (IntKind.wrap IntKind.i64
                                  (0 - IntKind.wrap IntKind.i64 (scl (Vl.n a) (imax (Ty.q ta) (Ty.q tb) - Ty.q ta) - scl (Vl.n b) (imax (Ty.q ta) (Ty.q tb) - Ty.q tb))))))
                            (IntKind.wrap IntKind.u64
                              (imax (intAt tensL (Int.toNat (imax (Ty.q ta) (Ty.q tb)))) (IntKind.wrap IntKind.i64 (0 - intAt tensL (Int.toNat (imax (Ty.q ta) (Ty.q tb)))))))
                            (Ty.q to)) then
                    R
                      (Value.tuple
                        (Array.mk
                          [Value.agg
                              (Array.mk
                                [Value.int IntKind.i64
                                    (IntKind.wrap IntKind.i64
                                      (fq
                                          (IntKind.wrap IntKind.u64
                                            (imax (IntKind.wrap IntKind.i64 (scl (Vl.n a) (imax (Ty.q ta) (Ty.q tb) - Ty.q ta) - scl (Vl.n b) (imax (Ty.q ta) (Ty.q tb) - Ty.q tb)))
                                              (IntKind.wrap IntKind.i64
                                                (0 -
                                                  IntKind.wrap IntKind.i64 (scl (Vl.n a) (imax (Ty.q ta) (Ty.q tb) - Ty.q ta) - scl (Vl.n b) (imax (Ty.q ta) (Ty.q tb) - Ty.q tb))))))
                                          (IntKind.wrap IntKind.u64
                                            (imax (intAt tensL (Int.toNat (imax (Ty.q ta) (Ty.q tb))))
                                              (IntKind.wrap IntKind.i64 (0 - intAt tensL (Int.toNat (imax (Ty.q ta) (Ty.q tb)))))))
                                          (Ty.q to) %
                                        IntKind.wrap IntKind.u64 (bnd to))),
                                  Value.string (ByteArray.mk #[])]),
                            Value.int IntKind.i64 2, Value.int IntKind.i64 0]))
                  else
                    R
                      (Value.tuple
                        (Array.mk
                          [Value.agg
                              (Array.mk
                                [Value.int IntKind.i64
                                    (IntKind.wrap IntKind.i64
                                      (fq
                                          (IntKind.wrap IntKind.u64
                                            (imax (IntKind.wrap IntKind.i64 (scl (Vl.n a) (imax (Ty.q ta) (Ty.q tb) - Ty.q ta) - scl (Vl.n b) (imax (Ty.q ta) (Ty.q tb) - Ty.q tb)))
                                              (IntKind.wrap IntKind.i64
                                                (0 -
                                                  IntKind.wrap IntKind.i64 (scl (Vl.n a) (imax (Ty.q ta) (Ty.q tb) - Ty.q ta) - scl (Vl.n b) (imax (Ty.q ta) (Ty.q tb) - Ty.q tb))))))
                                          (IntKind.wrap IntKind.u64
                                            (imax (intAt tensL (Int.toNat (imax (Ty.q ta) (Ty.q tb))))
                                              (IntKind.wrap IntKind.i64 (0 - intAt tensL (Int.toNat (imax (Ty.q ta) (Ty.q tb)))))))
                                          (Ty.q to) %
                                        IntKind.wrap IntKind.u64 (bnd to))),
                                  Value.string (ByteArray.mk #[])]),
                            Value.int IntKind.i64 0, Value.int IntKind.i64 0]))
              else False
            else False
          else False
        else False
      else False) := by kernel_rfl

theorem d37_8 (a : Vl) (ta : Ty) (b : Vl) (tb : Ty) (to : Ty) (R : Value → Prop) : bodyR Try.prog G20 noL Try.f37 [Enc.enc (8 : Int), Enc.enc a, Enc.enc ta, Enc.enc b, Enc.enc tb, Enc.enc to] (fun _ => none) 0 (fun v _ _ => R v) = (
    bif fst4 (fits a ta) (fits b tb) (check to) (same2 ta tb to) != 0 then
      R
        (Value.tuple
          (Array.mk
            [Value.agg (Array.mk [Value.int IntKind.i64 0, Value.string (ByteArray.mk #[])]), Value.int IntKind.i64 0,
              Value.int IntKind.i64 (fst4 (fits a ta) (fits b tb) (check to) (same2 ta tb to))]))
    else
      bif decide (0 ≤ imax (Ty.q ta) (Ty.q tb) ∧ imax (Ty.q ta) (Ty.q tb) < 19) && isIntAt IntKind.i64 tensL (Int.toNat (imax (Ty.q ta) (Ty.q tb))) then
        bif
            decide (0 ≤ IntKind.wrap IntKind.i64 (Ty.q ta + Ty.q tb) ∧ IntKind.wrap IntKind.i64 (Ty.q ta + Ty.q tb) < 19) &&
              isIntAt IntKind.i64 tensL (Int.toNat (IntKind.wrap IntKind.i64 (Ty.q ta + Ty.q tb))) then
          bif decide (Valid to) then
            bif
                dgOK (IntKind.wrap IntKind.u64 (imax (IntKind.wrap IntKind.i64 (Vl.n a * Vl.n b)) (IntKind.wrap IntKind.i64 (0 - IntKind.wrap IntKind.i64 (Vl.n a * Vl.n b)))))
                  (IntKind.wrap IntKind.u64
                    (imax (intAt tensL (Int.toNat (IntKind.wrap IntKind.i64 (Ty.q ta + Ty.q tb))))
                      (IntKind.wrap IntKind.i64 (0 - intAt tensL (Int.toNat (IntKind.wrap IntKind.i64 (Ty.q ta + Ty.q tb)))))))
                  (Ty.q to) (IntKind.wrap IntKind.u64 (bnd to)) then
              bif !decide (IntKind.wrap IntKind.i64 (Vl.n a * Vl.n b) < 0) == decide (intAt tensL (Int.toNat (IntKind.wrap IntKind.i64 (Ty.q ta + Ty.q tb))) < 0) then
                bif
                    decide
                      (IntKind.wrap IntKind.u64 (bnd to) ≤
                        fq (IntKind.wrap IntKind.u64 (imax (IntKind.wrap IntKind.i64 (Vl.n a * Vl.n b)) (IntKind.wrap IntKind.i64 (0 - IntKind.wrap IntKind.i64 (Vl.n a * Vl.n b)))))
                          (IntKind.wrap IntKind.u64
                            (imax (intAt tensL (Int.toNat (IntKind.wrap IntKind.i64 (Ty.q ta + Ty.q tb))))
                              (IntKind.wrap IntKind.i64 (0 - intAt tensL (Int.toNat (IntKind.wrap IntKind.i64 (Ty.q ta + Ty.q tb)))))))
                          (Ty.q to)) then
                  R
                    (Value.tuple
                      (Array.mk
                        [Value.agg
                            (Array.mk
                              [Value.int IntKind.i64
                                  (IntKind.wrap IntKind.i64
                                    (0 -
                                      IntKind.wrap IntKind.i64
                                        (fq
                                            (IntKind.wrap IntKind.u64
                                              (imax (IntKind.wrap IntKind.i64 (Vl.n a * Vl.n b)) (IntKind.wrap IntKind.i64 (0 - IntKind.wrap IntKind.i64 (Vl.n a * Vl.n b)))))
                                            (IntKind.wrap IntKind.u64
                                              (imax (intAt tensL (Int.toNat (IntKind.wrap IntKind.i64 (Ty.q ta + Ty.q tb))))
                                                (IntKind.wrap IntKind.i64 (0 - intAt tensL (Int.toNat (IntKind.wrap IntKind.i64 (Ty.q ta + Ty.q tb)))))))
                                            (Ty.q to) %
                                          IntKind.wrap IntKind.u64 (bnd to)))),
                                Value.string (ByteArray.mk #[])]),
                          Value.int IntKind.i64 2, Value.int IntKind.i64 0]))
                else
                  R
                    (Value.tuple
                      (Array.mk
                        [Value.agg
                            (Array.mk
                              [Value.int IntKind.i64
                                  (IntKind.wrap IntKind.i64
                                    (0 -
                                      IntKind.wrap IntKind.i64
                                        (fq
                                            (IntKind.wrap IntKind.u64
                                              (imax (IntKind.wrap IntKind.i64 (Vl.n a * Vl.n b)) (IntKind.wrap IntKind.i64 (0 - IntKind.wrap IntKind.i64 (Vl.n a * Vl.n b)))))
                                            (IntKind.wrap IntKind.u64
                                              (imax (intAt tensL (Int.toNat (IntKind.wrap IntKind.i64 (Ty.q ta + Ty.q tb))))
                                                (IntKind.wrap IntKind.i64 (0 - intAt tensL (Int.toNat (IntKind.wrap IntKind.i64 (Ty.q ta + Ty.q tb)))))))
                                            (Ty.q to) %
                                          IntKind.wrap IntKind.u64 (bnd to)))),
                                Value.string (ByteArray.mk #[])]),
                          Value.int IntKind.i64 0, Value.int IntKind.i64 0]))
              else
                bif
                    decide
                      (IntKind.wrap IntKind.u64 (bnd to) ≤
                        fq (IntKind.wrap IntKind.u64 (imax (IntKind.wrap IntKind.i64 (Vl.n a * Vl.n b)) (IntKind.wrap IntKind.i64 (0 - IntKind.wrap IntKind.i64 (Vl.n a * Vl.n b)))))
                          (IntKind.wrap IntKind.u64
                            (imax (intAt tensL (Int.toNat (IntKind.wrap IntKind.i64 (Ty.q ta + Ty.q tb))))
                              (IntKind.wrap IntKind.i64 (0 - intAt tensL (Int.toNat (IntKind.wrap IntKind.i64 (Ty.q ta + Ty.q tb)))))))
                          (Ty.q to)) then
                  R
                    (Value.tuple
                      (Array.mk
                        [Value.agg
                            (Array.mk
                              [Value.int IntKind.i64
                                  (IntKind.wrap IntKind.i64
                                    (fq
                                        (IntKind.wrap IntKind.u64
                                          (imax (IntKind.wrap IntKind.i64 (Vl.n a * Vl.n b)) (IntKind.wrap IntKind.i64 (0 - IntKind.wrap IntKind.i64 (Vl.n a * Vl.n b)))))
                                        (IntKind.wrap IntKind.u64
                                          (imax (intAt tensL (Int.toNat (IntKind.wrap IntKind.i64 (Ty.q ta + Ty.q tb))))
                                            (IntKind.wrap IntKind.i64 (0 - intAt tensL (Int.toNat (IntKind.wrap IntKind.i64 (Ty.q ta + Ty.q tb)))))))
                                        (Ty.q to) %
                                      IntKind.wrap IntKind.u64 (bnd to))),
                                Value.string (ByteArray.mk #[])]),
                          Value.int IntKind.i64 2, Value.int IntKind.i64 0]))
                else
                  R
                    (Value.tuple
                      (Array.mk
                        [Value.agg
                            (Array.mk
                              [Value.int IntKind.i64
                                  (IntKind.wrap IntKind.i64
                                    (fq
                                        (IntKind.wrap IntKind.u64
                                          (imax (IntKind.wrap IntKind.i64 (Vl.n a * Vl.n b)) (IntKind.wrap IntKind.i64 (0 - IntKind.wrap IntKind.i64 (Vl.n a * Vl.n b)))))
                                        (IntKind.wrap IntKind.u64
                                          (imax (intAt tensL (Int.toNat (IntKind.wrap IntKind.i64 (Ty.q ta + Ty.q tb))))
                                            (IntKind.wrap IntKind.i64 (0 - intAt tensL (Int.toNat (IntKind.wrap IntKind.i64 (Ty.q ta + Ty.q tb)))))))
                                        (Ty.q to) %
                                      IntKind.wrap IntKind.u64 (bnd to))),
                                Value.string (ByteArray.mk #[])]),
                          Value.int IntKind.i64 0, Value.int IntKind.i64 0]))
            else False
          else False
        else False
      else False) := by kernel_rfl

theorem d37_9 (a : Vl) (ta : Ty) (b : Vl) (tb : Ty) (to : Ty) (R : Value → Prop) : bodyR Try.prog G20 noL Try.f37 [Enc.enc (9 : Int), Enc.enc a, Enc.enc ta, Enc.enc b, Enc.enc tb, Enc.enc to] (fun _ => none) 0 (fun v _ _ => R v) = (
    bif fst4 (fits a ta) (fits b tb) (check to) (same2 ta tb to) != 0 then
      R
        (Value.tuple
          (Array.mk
            [Value.agg (Array.mk [Value.int IntKind.i64 0, Value.string (ByteArray.mk #[])]), Value.int IntKind.i64 0,
              Value.int IntKind.i64 (fst4 (fits a ta) (fits b tb) (check to) (same2 ta tb to))]))
    else
      bif Vl.n b == 0 then
        R (Value.tuple (Array.mk [Value.agg (Array.mk [Value.int IntKind.i64 0, Value.string (ByteArray.mk #[])]), Value.int IntKind.i64 3, Value.int IntKind.i64 0]))
      else
        bif decide (0 ≤ imax (Ty.q ta) (Ty.q tb) ∧ imax (Ty.q ta) (Ty.q tb) < 19) && isIntAt IntKind.i64 tensL (Int.toNat (imax (Ty.q ta) (Ty.q tb))) then
          bif
              decide (0 ≤ IntKind.wrap IntKind.i64 (imax (Ty.q ta) (Ty.q tb) - Ty.q ta) ∧ IntKind.wrap IntKind.i64 (imax (Ty.q ta) (Ty.q tb) - Ty.q ta) < 19) &&
                isIntAt IntKind.i64 tensL (Int.toNat (IntKind.wrap IntKind.i64 (imax (Ty.q ta) (Ty.q tb) - Ty.q ta))) then
            bif
                decide (0 ≤ IntKind.wrap IntKind.i64 (imax (Ty.q ta) (Ty.q tb) - Ty.q tb) ∧ IntKind.wrap IntKind.i64 (imax (Ty.q ta) (Ty.q tb) - Ty.q tb) < 19) &&
                  isIntAt IntKind.i64 tensL (Int.toNat (IntKind.wrap IntKind.i64 (imax (Ty.q ta) (Ty.q tb) - Ty.q tb))) then
              bif decide (Valid to) then
                bif
                    dgOK
                      (IntKind.wrap IntKind.u64
                        (imax (IntKind.wrap IntKind.i64 (Vl.n a * intAt tensL (Int.toNat (IntKind.wrap IntKind.i64 (imax (Ty.q ta) (Ty.q tb) - Ty.q ta)))))
                          (IntKind.wrap IntKind.i64 (0 - IntKind.wrap IntKind.i64 (Vl.n a * intAt tensL (Int.toNat (IntKind.wrap IntKind.i64 (imax (Ty.q ta) (Ty.q tb) - Ty.q ta))))))))
                      (IntKind.wrap IntKind.u64
                        (imax (IntKind.wrap IntKind.i64 (Vl.n b * intAt tensL (Int.toNat (IntKind.wrap IntKind.i64 (imax (Ty.q ta) (Ty.q tb) - Ty.q tb)))))
                          (IntKind.wrap IntKind.i64 (0 - IntKind.wrap IntKind.i64 (Vl.n b * intAt tensL (Int.toNat (IntKind.wrap IntKind.i64 (imax (Ty.q ta) (Ty.q tb) - Ty.q tb))))))))
                      (Ty.q to) (IntKind.wrap IntKind.u64 (bnd to)) then
                  bif
                      !decide (IntKind.wrap IntKind.i64 (Vl.n a * intAt tensL (Int.toNat (IntKind.wrap IntKind.i64 (imax (Ty.q ta) (Ty.q tb) - Ty.q ta)))) < 0) ==
                          decide (IntKind.wrap IntKind.i64 (Vl.n b * intAt tensL (Int.toNat (IntKind.wrap IntKind.i64 (imax (Ty.q ta) (Ty.q tb) - Ty.q tb)))) < 0) then
                    bif
                        decide
                          (IntKind.wrap IntKind.u64 (bnd to) ≤
                            fq
                              (IntKind.wrap IntKind.u64
                                (imax (IntKind.wrap IntKind.i64 (Vl.n a * intAt tensL (Int.toNat (IntKind.wrap IntKind.i64 (imax (Ty.q ta) (Ty.q tb) - Ty.q ta)))))
                                  (IntKind.wrap IntKind.i64
                                    (0 - IntKind.wrap IntKind.i64 (Vl.n a * intAt tensL (Int.toNat (IntKind.wrap IntKind.i64 (imax (Ty.q ta) (Ty.q tb) - Ty.q ta))))))))
                              (IntKind.wrap IntKind.u64
                                (imax (IntKind.wrap IntKind.i64 (Vl.n b * intAt tensL (Int.toNat (IntKind.wrap IntKind.i64 (imax (Ty.q ta) (Ty.q tb) - Ty.q tb)))))
                                  (IntKind.wrap IntKind.i64
                                    (0 - IntKind.wrap IntKind.i64 (Vl.n b * intAt tensL (Int.toNat (IntKind.wrap IntKind.i64 (imax (Ty.q ta) (Ty.q tb) - Ty.q tb))))))))
                              (Ty.q to)) then
                      R
                        (Value.tuple
                          (Array.mk
                            [Value.agg
                                (Array.mk
                                  [Value.int IntKind.i64
                                      (IntKind.wrap IntKind.i64
                                        (0 -
                                          IntKind.wrap IntKind.i64
                                            (fq
                                                (IntKind.wrap IntKind.u64
                                                  (imax (IntKind.wrap IntKind.i64 (Vl.n a * intAt tensL (Int.toNat (IntKind.wrap IntKind.i64 (imax (Ty.q ta) (Ty.q tb) - Ty.q ta)))))
                                                    (IntKind.wrap IntKind.i64
                                                      (0 -
                                                        IntKind.wrap IntKind.i64 (Vl.n a * intAt tensL (Int.toNat (IntKind.wrap IntKind.i64 (imax (Ty.q ta) (Ty.q tb) - Ty.q ta))))))))
                                                (IntKind.wrap IntKind.u64
                                                  (imax (IntKind.wrap IntKind.i64 (Vl.n b * intAt tensL (Int.toNat (IntKind.wrap IntKind.i64 (imax (Ty.q ta) (Ty.q tb) - Ty.q tb)))))
                                                    (IntKind.wrap IntKind.i64
                                                      (0 -
                                                        IntKind.wrap IntKind.i64 (Vl.n b * intAt tensL (Int.toNat (IntKind.wrap IntKind.i64 (imax (Ty.q ta) (Ty.q tb) - Ty.q tb))))))))
                                                (Ty.q to) %
                                              IntKind.wrap IntKind.u64 (bnd to)))),
                                    Value.string (ByteArray.mk #[])]),
                              Value.int IntKind.i64 2, Value.int IntKind.i64 0]))
                    else
                      R
                        (Value.tuple
                          (Array.mk
                            [Value.agg
                                (Array.mk
                                  [Value.int IntKind.i64
                                      (IntKind.wrap IntKind.i64
                                        (0 -
                                          IntKind.wrap IntKind.i64
                                            (fq
                                                (IntKind.wrap IntKind.u64
                                                  (imax (IntKind.wrap IntKind.i64 (Vl.n a * intAt tensL (Int.toNat (IntKind.wrap IntKind.i64 (imax (Ty.q ta) (Ty.q tb) - Ty.q ta)))))
                                                    (IntKind.wrap IntKind.i64
                                                      (0 -
                                                        IntKind.wrap IntKind.i64 (Vl.n a * intAt tensL (Int.toNat (IntKind.wrap IntKind.i64 (imax (Ty.q ta) (Ty.q tb) - Ty.q ta))))))))
                                                (IntKind.wrap IntKind.u64
                                                  (imax (IntKind.wrap IntKind.i64 (Vl.n b * intAt tensL (Int.toNat (IntKind.wrap IntKind.i64 (imax (Ty.q ta) (Ty.q tb) - Ty.q tb)))))
                                                    (IntKind.wrap IntKind.i64
                                                      (0 -
                                                        IntKind.wrap IntKind.i64 (Vl.n b * intAt tensL (Int.toNat (IntKind.wrap IntKind.i64 (imax (Ty.q ta) (Ty.q tb) - Ty.q tb))))))))
                                                (Ty.q to) %
                                              IntKind.wrap IntKind.u64 (bnd to)))),
                                    Value.string (ByteArray.mk #[])]),
                              Value.int IntKind.i64 0, Value.int IntKind.i64 0]))
                  else
                    bif
                        decide
                          (IntKind.wrap IntKind.u64 (bnd to) ≤
                            fq
                              (IntKind.wrap IntKind.u64
                                (imax (IntKind.wrap IntKind.i64 (Vl.n a * intAt tensL (Int.toNat (IntKind.wrap IntKind.i64 (imax (Ty.q ta) (Ty.q tb) - Ty.q ta)))))
                                  (IntKind.wrap IntKind.i64
                                    (0 - IntKind.wrap IntKind.i64 (Vl.n a * intAt tensL (Int.toNat (IntKind.wrap IntKind.i64 (imax (Ty.q ta) (Ty.q tb) - Ty.q ta))))))))
                              (IntKind.wrap IntKind.u64
                                (imax (IntKind.wrap IntKind.i64 (Vl.n b * intAt tensL (Int.toNat (IntKind.wrap IntKind.i64 (imax (Ty.q ta) (Ty.q tb) - Ty.q tb)))))
                                  (IntKind.wrap IntKind.i64
                                    (0 - IntKind.wrap IntKind.i64 (Vl.n b * intAt tensL (Int.toNat (IntKind.wrap IntKind.i64 (imax (Ty.q ta) (Ty.q tb) - Ty.q tb))))))))
                              (Ty.q to)) then
                      R
                        (Value.tuple
                          (Array.mk
                            [Value.agg
                                (Array.mk
                                  [Value.int IntKind.i64
                                      (IntKind.wrap IntKind.i64
                                        (fq
                                            (IntKind.wrap IntKind.u64
                                              (imax (IntKind.wrap IntKind.i64 (Vl.n a * intAt tensL (Int.toNat (IntKind.wrap IntKind.i64 (imax (Ty.q ta) (Ty.q tb) - Ty.q ta)))))
                                                (IntKind.wrap IntKind.i64
                                                  (0 - IntKind.wrap IntKind.i64 (Vl.n a * intAt tensL (Int.toNat (IntKind.wrap IntKind.i64 (imax (Ty.q ta) (Ty.q tb) - Ty.q ta))))))))
                                            (IntKind.wrap IntKind.u64
                                              (imax (IntKind.wrap IntKind.i64 (Vl.n b * intAt tensL (Int.toNat (IntKind.wrap IntKind.i64 (imax (Ty.q ta) (Ty.q tb) - Ty.q tb)))))
                                                (IntKind.wrap IntKind.i64
                                                  (0 - IntKind.wrap IntKind.i64 (Vl.n b * intAt tensL (Int.toNat (IntKind.wrap IntKind.i64 (imax (Ty.q ta) (Ty.q tb) - Ty.q tb))))))))
                                            (Ty.q to) %
                                          IntKind.wrap IntKind.u64 (bnd to))),
                                    Value.string (ByteArray.mk #[])]),
                              Value.int IntKind.i64 2, Value.int IntKind.i64 0]))
                    else
                      R
                        (Value.tuple
                          (Array.mk
                            [Value.agg
                                (Array.mk
                                  [Value.int IntKind.i64
                                      (IntKind.wrap IntKind.i64
                                        (fq
                                            (IntKind.wrap IntKind.u64
                                              (imax (IntKind.wrap IntKind.i64 (Vl.n a * intAt tensL (Int.toNat (IntKind.wrap IntKind.i64 (imax (Ty.q ta) (Ty.q tb) - Ty.q ta)))))
                                                (IntKind.wrap IntKind.i64
                                                  (0 - IntKind.wrap IntKind.i64 (Vl.n a * intAt tensL (Int.toNat (IntKind.wrap IntKind.i64 (imax (Ty.q ta) (Ty.q tb) - Ty.q ta))))))))
                                            (IntKind.wrap IntKind.u64
                                              (imax (IntKind.wrap IntKind.i64 (Vl.n b * intAt tensL (Int.toNat (IntKind.wrap IntKind.i64 (imax (Ty.q ta) (Ty.q tb) - Ty.q tb)))))
                                                (IntKind.wrap IntKind.i64
                                                  (0 - IntKind.wrap IntKind.i64 (Vl.n b * intAt tensL (Int.toNat (IntKind.wrap IntKind.i64 (imax (Ty.q ta) (Ty.q tb) - Ty.q tb))))))))
                                            (Ty.q to) %
                                          IntKind.wrap IntKind.u64 (bnd to))),
                                    Value.string (ByteArray.mk #[])]),
                              Value.int IntKind.i64 0, Value.int IntKind.i64 0]))
                else False
              else False
            else False
          else False
        else False) := by kernel_rfl

theorem d38_6 (a : Vl) (ta : Ty) (b : Vl) (tb : Ty) (to : Ty) (R : Value → Prop) : bodyR Try.prog G20 noL Try.f38 [Enc.enc (6 : Int), Enc.enc a, Enc.enc ta, Enc.enc b, Enc.enc tb, Enc.enc to] (fun _ => none) 0 (fun v _ _ => R v) = (
    bif opnds 6 a ta b tb != 0 then
      R (Value.tuple (Array.mk [Value.agg (Array.mk [Value.int IntKind.i64 0, Value.string (ByteArray.mk #[])]), Value.int IntKind.i64 0, Value.int IntKind.i64 (opnds 6 a ta b tb)]))
    else
      bif check to != 0 then
        R (Value.tuple (Array.mk [Value.agg (Array.mk [Value.int IntKind.i64 0, Value.string (ByteArray.mk #[])]), Value.int IntKind.i64 0, Value.int IntKind.i64 (check to)]))
      else
        bif Ty.k ta != Ty.k tb then
          R (Value.tuple (Array.mk [Value.agg (Array.mk [Value.int IntKind.i64 0, Value.string (ByteArray.mk #[])]), Value.int IntKind.i64 0, Value.int IntKind.i64 5]))
        else
          bif Ty.k ta != Ty.k to then
            R (Value.tuple (Array.mk [Value.agg (Array.mk [Value.int IntKind.i64 0, Value.string (ByteArray.mk #[])]), Value.int IntKind.i64 0, Value.int IntKind.i64 5]))
          else
            bif
                decide
                  (-18 ≤ IntKind.wrap IntKind.i64 (imax (Ty.q ta) (Ty.q tb) - Ty.q ta) ∧
                    IntKind.wrap IntKind.i64 (imax (Ty.q ta) (Ty.q tb) - Ty.q ta) ≤ 18 ∧
                      R64 (Vl.n a) ∧ R64 (scl (Vl.n a) (IntKind.wrap IntKind.i64 (imax (Ty.q ta) (Ty.q tb) - Ty.q ta)))) then
              bif
                  decide
                    (-18 ≤ IntKind.wrap IntKind.i64 (imax (Ty.q ta) (Ty.q tb) - Ty.q tb) ∧
                      IntKind.wrap IntKind.i64 (imax (Ty.q ta) (Ty.q tb) - Ty.q tb) ≤ 18 ∧
                        R64 (Vl.n b) ∧ R64 (scl (Vl.n b) (IntKind.wrap IntKind.i64 (imax (Ty.q ta) (Ty.q tb) - Ty.q tb)))) then
                bif
                    decide
                      (-P18 ≤ scl (Vl.n a) (IntKind.wrap IntKind.i64 (imax (Ty.q ta) (Ty.q tb) - Ty.q ta)) ∧
                        scl (Vl.n a) (IntKind.wrap IntKind.i64 (imax (Ty.q ta) (Ty.q tb) - Ty.q ta)) ≤ P18 ∧
                          -P18 ≤ scl (Vl.n b) (IntKind.wrap IntKind.i64 (imax (Ty.q ta) (Ty.q tb) - Ty.q tb)) ∧
                            scl (Vl.n b) (IntKind.wrap IntKind.i64 (imax (Ty.q ta) (Ty.q tb) - Ty.q tb)) ≤ P18 ∧
                              dvOK 6 (scl (Vl.n b) (IntKind.wrap IntKind.i64 (imax (Ty.q ta) (Ty.q tb) - Ty.q tb)))) then
                  bif
                      decide
                        (Valid to ∧
                          0 ≤ imax (Ty.q ta) (Ty.q tb) ∧
                            imax (Ty.q ta) (Ty.q tb) ≤ 18 ∧
                              -4611686018427387904 ≤
                                  exN 6 (scl (Vl.n a) (IntKind.wrap IntKind.i64 (imax (Ty.q ta) (Ty.q tb) - Ty.q ta)))
                                    (scl (Vl.n b) (IntKind.wrap IntKind.i64 (imax (Ty.q ta) (Ty.q tb) - Ty.q tb))) ∧
                                exN 6 (scl (Vl.n a) (IntKind.wrap IntKind.i64 (imax (Ty.q ta) (Ty.q tb) - Ty.q ta)))
                                    (scl (Vl.n b) (IntKind.wrap IntKind.i64 (imax (Ty.q ta) (Ty.q tb) - Ty.q tb))) ≤
                                  4611686018427387904) then
                    bif
                        !decide
                            (InB
                              (scl
                                (exN 6 (scl (Vl.n a) (IntKind.wrap IntKind.i64 (imax (Ty.q ta) (Ty.q tb) - Ty.q ta)))
                                  (scl (Vl.n b) (IntKind.wrap IntKind.i64 (imax (Ty.q ta) (Ty.q tb) - Ty.q tb))))
                                (Ty.q to - imax (Ty.q ta) (Ty.q tb)))
                              to) then
                      R
                        (Value.tuple
                          (Array.mk
                            [Value.agg
                                (Array.mk
                                  [Value.int IntKind.i64
                                      (cutN
                                        (scl
                                          (exN 6 (scl (Vl.n a) (IntKind.wrap IntKind.i64 (imax (Ty.q ta) (Ty.q tb) - Ty.q ta)))
                                            (scl (Vl.n b) (IntKind.wrap IntKind.i64 (imax (Ty.q ta) (Ty.q tb) - Ty.q tb))))
                                          (Ty.q to - imax (Ty.q ta) (Ty.q tb)))
                                        to),
                                    Value.string (ByteArray.mk #[])]),
                              Value.int IntKind.i64 2, Value.int IntKind.i64 0]))
                    else
                      R
                        (Value.tuple
                          (Array.mk
                            [Value.agg
                                (Array.mk
                                  [Value.int IntKind.i64
                                      (cutN
                                        (scl
                                          (exN 6 (scl (Vl.n a) (IntKind.wrap IntKind.i64 (imax (Ty.q ta) (Ty.q tb) - Ty.q ta)))
                                            (scl (Vl.n b) (IntKind.wrap IntKind.i64 (imax (Ty.q ta) (Ty.q tb) - Ty.q tb))))
                                          (Ty.q to - imax (Ty.q ta) (Ty.q tb)))
                                        to),
                                    Value.string (ByteArray.mk #[])]),
                              Value.int IntKind.i64 0, Value.int IntKind.i64 0]))
                  else False
                else False
              else False
            else False) := by kernel_rfl

theorem d38_7 (a : Vl) (ta : Ty) (b : Vl) (tb : Ty) (to : Ty) (R : Value → Prop) : bodyR Try.prog G20 noL Try.f38 [Enc.enc (7 : Int), Enc.enc a, Enc.enc ta, Enc.enc b, Enc.enc tb, Enc.enc to] (fun _ => none) 0 (fun v _ _ => R v) = (
    bif opnds 7 a ta b tb != 0 then
      R (Value.tuple (Array.mk [Value.agg (Array.mk [Value.int IntKind.i64 0, Value.string (ByteArray.mk #[])]), Value.int IntKind.i64 0, Value.int IntKind.i64 (opnds 7 a ta b tb)]))
    else
      bif check to != 0 then
        R (Value.tuple (Array.mk [Value.agg (Array.mk [Value.int IntKind.i64 0, Value.string (ByteArray.mk #[])]), Value.int IntKind.i64 0, Value.int IntKind.i64 (check to)]))
      else
        bif Ty.k ta != Ty.k tb then
          R (Value.tuple (Array.mk [Value.agg (Array.mk [Value.int IntKind.i64 0, Value.string (ByteArray.mk #[])]), Value.int IntKind.i64 0, Value.int IntKind.i64 5]))
        else
          bif Ty.k ta != Ty.k to then
            R (Value.tuple (Array.mk [Value.agg (Array.mk [Value.int IntKind.i64 0, Value.string (ByteArray.mk #[])]), Value.int IntKind.i64 0, Value.int IntKind.i64 5]))
          else
            bif
                decide
                  (-18 ≤ IntKind.wrap IntKind.i64 (imax (Ty.q ta) (Ty.q tb) - Ty.q ta) ∧
                    IntKind.wrap IntKind.i64 (imax (Ty.q ta) (Ty.q tb) - Ty.q ta) ≤ 18 ∧
                      R64 (Vl.n a) ∧ R64 (scl (Vl.n a) (IntKind.wrap IntKind.i64 (imax (Ty.q ta) (Ty.q tb) - Ty.q ta)))) then
              bif
                  decide
                    (-18 ≤ IntKind.wrap IntKind.i64 (imax (Ty.q ta) (Ty.q tb) - Ty.q tb) ∧
                      IntKind.wrap IntKind.i64 (imax (Ty.q ta) (Ty.q tb) - Ty.q tb) ≤ 18 ∧
                        R64 (Vl.n b) ∧ R64 (scl (Vl.n b) (IntKind.wrap IntKind.i64 (imax (Ty.q ta) (Ty.q tb) - Ty.q tb)))) then
                bif
                    decide
                      (-P18 ≤ scl (Vl.n a) (IntKind.wrap IntKind.i64 (imax (Ty.q ta) (Ty.q tb) - Ty.q ta)) ∧
                        scl (Vl.n a) (IntKind.wrap IntKind.i64 (imax (Ty.q ta) (Ty.q tb) - Ty.q ta)) ≤ P18 ∧
                          -P18 ≤ scl (Vl.n b) (IntKind.wrap IntKind.i64 (imax (Ty.q ta) (Ty.q tb) - Ty.q tb)) ∧
                            scl (Vl.n b) (IntKind.wrap IntKind.i64 (imax (Ty.q ta) (Ty.q tb) - Ty.q tb)) ≤ P18 ∧
                              dvOK 7 (scl (Vl.n b) (IntKind.wrap IntKind.i64 (imax (Ty.q ta) (Ty.q tb) - Ty.q tb)))) then
                  bif
                      decide
                        (Valid to ∧
                          0 ≤ imax (Ty.q ta) (Ty.q tb) ∧
                            imax (Ty.q ta) (Ty.q tb) ≤ 18 ∧
                              -4611686018427387904 ≤
                                  exN 7 (scl (Vl.n a) (IntKind.wrap IntKind.i64 (imax (Ty.q ta) (Ty.q tb) - Ty.q ta)))
                                    (scl (Vl.n b) (IntKind.wrap IntKind.i64 (imax (Ty.q ta) (Ty.q tb) - Ty.q tb))) ∧
                                exN 7 (scl (Vl.n a) (IntKind.wrap IntKind.i64 (imax (Ty.q ta) (Ty.q tb) - Ty.q ta)))
                                    (scl (Vl.n b) (IntKind.wrap IntKind.i64 (imax (Ty.q ta) (Ty.q tb) - Ty.q tb))) ≤
                                  4611686018427387904) then
                    bif
                        !decide
                            (InB
                              (scl
                                (exN 7 (scl (Vl.n a) (IntKind.wrap IntKind.i64 (imax (Ty.q ta) (Ty.q tb) - Ty.q ta)))
                                  (scl (Vl.n b) (IntKind.wrap IntKind.i64 (imax (Ty.q ta) (Ty.q tb) - Ty.q tb))))
                                (Ty.q to - imax (Ty.q ta) (Ty.q tb)))
                              to) then
                      R
                        (Value.tuple
                          (Array.mk
                            [Value.agg
                                (Array.mk
                                  [Value.int IntKind.i64
                                      (cutN
                                        (scl
                                          (exN 7 (scl (Vl.n a) (IntKind.wrap IntKind.i64 (imax (Ty.q ta) (Ty.q tb) - Ty.q ta)))
                                            (scl (Vl.n b) (IntKind.wrap IntKind.i64 (imax (Ty.q ta) (Ty.q tb) - Ty.q tb))))
                                          (Ty.q to - imax (Ty.q ta) (Ty.q tb)))
                                        to),
                                    Value.string (ByteArray.mk #[])]),
                              Value.int IntKind.i64 2, Value.int IntKind.i64 0]))
                    else
                      R
                        (Value.tuple
                          (Array.mk
                            [Value.agg
                                (Array.mk
                                  [Value.int IntKind.i64
                                      (cutN
                                        (scl
                                          (exN 7 (scl (Vl.n a) (IntKind.wrap IntKind.i64 (imax (Ty.q ta) (Ty.q tb) - Ty.q ta)))
                                            (scl (Vl.n b) (IntKind.wrap IntKind.i64 (imax (Ty.q ta) (Ty.q tb) - Ty.q tb))))
                                          (Ty.q to - imax (Ty.q ta) (Ty.q tb)))
                                        to),
                                    Value.string (ByteArray.mk #[])]),
                              Value.int IntKind.i64 0, Value.int IntKind.i64 0]))
                  else False
                else False
              else False
            else False) := by kernel_rfl

theorem d38_8 (a : Vl) (ta : Ty) (b : Vl) (tb : Ty) (to : Ty) (R : Value → Prop) : bodyR Try.prog G20 noL Try.f38 [Enc.enc (8 : Int), Enc.enc a, Enc.enc ta, Enc.enc b, Enc.enc tb, Enc.enc to] (fun _ => none) 0 (fun v _ _ => R v) = (
    bif opnds 8 a ta b tb != 0 then
      R (Value.tuple (Array.mk [Value.agg (Array.mk [Value.int IntKind.i64 0, Value.string (ByteArray.mk #[])]), Value.int IntKind.i64 0, Value.int IntKind.i64 (opnds 8 a ta b tb)]))
    else
      bif check to != 0 then
        R (Value.tuple (Array.mk [Value.agg (Array.mk [Value.int IntKind.i64 0, Value.string (ByteArray.mk #[])]), Value.int IntKind.i64 0, Value.int IntKind.i64 (check to)]))
      else
        bif Ty.k ta != Ty.k tb then
          R (Value.tuple (Array.mk [Value.agg (Array.mk [Value.int IntKind.i64 0, Value.string (ByteArray.mk #[])]), Value.int IntKind.i64 0, Value.int IntKind.i64 5]))
        else
          bif Ty.k ta != Ty.k to then
            R (Value.tuple (Array.mk [Value.agg (Array.mk [Value.int IntKind.i64 0, Value.string (ByteArray.mk #[])]), Value.int IntKind.i64 0, Value.int IntKind.i64 5]))
          else
            bif
                decide
                  (Valid to ∧
                    0 ≤ IntKind.wrap IntKind.i64 (Ty.q ta + Ty.q tb) ∧
                      IntKind.wrap IntKind.i64 (Ty.q ta + Ty.q tb) ≤ 18 ∧
                        -4611686018427387904 ≤ IntKind.wrap IntKind.i64 (Vl.n a * Vl.n b) ∧ IntKind.wrap IntKind.i64 (Vl.n a * Vl.n b) ≤ 4611686018427387904) then
              bif !decide (InB (scl (IntKind.wrap IntKind.i64 (Vl.n a * Vl.n b)) (Ty.q to - IntKind.wrap IntKind.i64 (Ty.q ta + Ty.q tb))) to) then
                R
                  (Value.tuple
                    (Array.mk
                      [Value.agg
                          (Array.mk
                            [Value.int IntKind.i64 (cutN (scl (IntKind.wrap IntKind.i64 (Vl.n a * Vl.n b)) (Ty.q to - IntKind.wrap IntKind.i64 (Ty.q ta + Ty.q tb))) to),
                              Value.string (ByteArray.mk #[])]),
                        Value.int IntKind.i64 2, Value.int IntKind.i64 0]))
              else
                R
                  (Value.tuple
                    (Array.mk
                      [Value.agg
                          (Array.mk
                            [Value.int IntKind.i64 (cutN (scl (IntKind.wrap IntKind.i64 (Vl.n a * Vl.n b)) (Ty.q to - IntKind.wrap IntKind.i64 (Ty.q ta + Ty.q tb))) to),
                              Value.string (ByteArray.mk #[])]),
                        Value.int IntKind.i64 0, Value.int IntKind.i64 0]))
            else False) := by kernel_rfl

theorem d38_9 (a : Vl) (ta : Ty) (b : Vl) (tb : Ty) (to : Ty) (R : Value → Prop) : bodyR Try.prog G20 noL Try.f38 [Enc.enc (9 : Int), Enc.enc a, Enc.enc ta, Enc.enc b, Enc.enc tb, Enc.enc to] (fun _ => none) 0 (fun v _ _ => R v) = (
    bif opnds 9 a ta b tb != 0 then
      R (Value.tuple (Array.mk [Value.agg (Array.mk [Value.int IntKind.i64 0, Value.string (ByteArray.mk #[])]), Value.int IntKind.i64 0, Value.int IntKind.i64 (opnds 9 a ta b tb)]))
    else
      bif check to != 0 then
        R (Value.tuple (Array.mk [Value.agg (Array.mk [Value.int IntKind.i64 0, Value.string (ByteArray.mk #[])]), Value.int IntKind.i64 0, Value.int IntKind.i64 (check to)]))
      else
        bif Ty.k ta != Ty.k tb then
          R (Value.tuple (Array.mk [Value.agg (Array.mk [Value.int IntKind.i64 0, Value.string (ByteArray.mk #[])]), Value.int IntKind.i64 0, Value.int IntKind.i64 5]))
        else
          bif Ty.k ta != Ty.k to then
            R (Value.tuple (Array.mk [Value.agg (Array.mk [Value.int IntKind.i64 0, Value.string (ByteArray.mk #[])]), Value.int IntKind.i64 0, Value.int IntKind.i64 5]))
          else
            bif Vl.n b == 0 then
              R (Value.tuple (Array.mk [Value.agg (Array.mk [Value.int IntKind.i64 0, Value.string (ByteArray.mk #[])]), Value.int IntKind.i64 3, Value.int IntKind.i64 0]))
            else
              bif decide (dvOK2 (Vl.n a) ta (Vl.n b) tb to) then
                bif !decide (dvN (Vl.n a) ta (Vl.n b) tb to < bnd to) then
                  R
                    (Value.tuple
                      (Array.mk
                        [Value.agg
                            (Array.mk
                              [Value.int IntKind.i64 (if (Vl.n a < 0) ≠ (Vl.n b < 0) then -(dvN (Vl.n a) ta (Vl.n b) tb to % bnd to) else dvN (Vl.n a) ta (Vl.n b) tb to % bnd to),
                                Value.string (ByteArray.mk #[])]),
                          Value.int IntKind.i64 2, Value.int IntKind.i64 0]))
                else
                  R
                    (Value.tuple
                      (Array.mk
                        [Value.agg
                            (Array.mk
                              [Value.int IntKind.i64 (if (Vl.n a < 0) ≠ (Vl.n b < 0) then -(dvN (Vl.n a) ta (Vl.n b) tb to % bnd to) else dvN (Vl.n a) ta (Vl.n b) tb to % bnd to),
                                Value.string (ByteArray.mk #[])]),
                          Value.int IntKind.i64 0, Value.int IntKind.i64 0]))
              else False) := by kernel_rfl

end Go.Fx
