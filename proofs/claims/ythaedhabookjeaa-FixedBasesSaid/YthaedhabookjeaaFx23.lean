/-
  The laws of bases and of assigning.
-/
import Derived.Test.YthaedhabookjeaaFx22
set_option linter.unusedVariables false
set_option linter.unusedSimpArgs false
namespace Go.Fx
open Go Go.Ab Go.Proofs

def s16 (v : Vl) (t : Ty) : Bool × Value := (true, B true)
theorem fn16 : Fn1 Try.prog 16 Try.f16 := ⟨Try.func16, by kernel_rfl, by kernel_rfl, by kernel_rfl⟩
theorem v16 (v : Vl) (t : Ty) (R : Value → Prop) : bodyR Try.prog G19 noL Try.f16 [Enc.enc v, Enc.enc t] (fun _ => none) 0 (fun v _ _ => R v) = (
    bif !fits v t == 0 then R (Value.bool true)
    else
      bif check t != 0 then R (Value.bool false)
      else
        bif Ty.k (binT t) != 2 then R (Value.bool false)
        else
          bif Ty.k t == 2 then
            bif
                !(Ty.k (binT t) == Ty.k t &&
                    (Ty.p (binT t) == Ty.p t && (Ty.q (binT t) == Ty.q t && (Ty.v (binT t) == Ty.v t && (ByteArray.toList (Ty.s (binT t)) == ByteArray.toList (Ty.s t) && true))))) then
              R (Value.bool false)
            else
              bif asE v t (binT t) != 0 then R (Value.bool false)
              else
                bif asC v t (binT t) != 0 then R (Value.bool false)
                else
                  bif decide (pwOK 10 (Ty.q t)) then
                    bif decide (pw 10 (Ty.q t) ≠ 0) then
                      bif !(asN v t (binT t) == IntKind.wrap IntKind.i64 (Int.tdiv (Vl.n v) (pw 10 (Ty.q t))) && (ByteArray.toList e0 == ByteArray.toList e0 && true)) then
                        R (Value.bool false)
                      else
                        bif asE (Vl.mk (asN v t (binT t)) e0) (binT t) t == 0 then
                          bif asC (Vl.mk (asN v t (binT t)) e0) (binT t) t == 0 then
                            bif decide (pwOK 10 (Ty.q t)) then
                              bif decide (pw 10 (Ty.q t) ≠ 0) then
                                R
                                  (Value.bool
                                    (asN (Vl.mk (asN v t (binT t)) e0) (binT t) t == IntKind.wrap IntKind.i64 (Vl.n v - Int.tmod (Vl.n v) (pw 10 (Ty.q t))) &&
                                      (ByteArray.toList e0 == ByteArray.toList e0 && true)))
                              else False
                            else False
                          else R (Value.bool false)
                        else R (Value.bool false)
                    else False
                  else False
          else
            bif asE v t (binT t) != 0 then R (Value.bool false)
            else
              bif asC v t (binT t) != 0 then R (Value.bool false)
              else
                bif decide (pwOK 10 (Ty.q t)) then
                  bif decide (pw 10 (Ty.q t) ≠ 0) then
                    bif !(asN v t (binT t) == IntKind.wrap IntKind.i64 (Int.tdiv (Vl.n v) (pw 10 (Ty.q t))) && (ByteArray.toList e0 == ByteArray.toList e0 && true)) then
                      R (Value.bool false)
                    else
                      bif asE (Vl.mk (asN v t (binT t)) e0) (binT t) t == 0 then
                        bif asC (Vl.mk (asN v t (binT t)) e0) (binT t) t == 0 then
                          bif decide (pwOK 10 (Ty.q t)) then
                            bif decide (pw 10 (Ty.q t) ≠ 0) then
                              R
                                (Value.bool
                                  (asN (Vl.mk (asN v t (binT t)) e0) (binT t) t == IntKind.wrap IntKind.i64 (Vl.n v - Int.tmod (Vl.n v) (pw 10 (Ty.q t))) &&
                                    (ByteArray.toList e0 == ByteArray.toList e0 && true)))
                            else False
                          else False
                        else R (Value.bool false)
                      else R (Value.bool false)
                  else False
                else False) := by kernel_rfl
theorem ok16 : PureOK Try.prog 16 (sp2 s16) := by
  refine pure2 ok_G19 hmix fn16 lokf_none (Nat.le_of_ble_eq_true (by kernel_rfl)) fun v t hc => ?_
  rw [Does, v16]
  refine cond_intro (fun _ => rfl) (fun h => ?_)
  have h : Gd v t := gd_iff.1 (by simpa using h)
  obtain ⟨hv, hk, hq, h2⟩ := binT_valid h.1
  obtain ⟨a1, a2, a3, a4, a5, a6⟩ := bases h
  have r := valid_r h.1
  have p1 := pw_pos (b := 10) (by omega) t.q
  refine c_f (by rw [check0.2 h.1]; rfl) (c_f (by rw [hk]; rfl) ?_)
  refine cond_intro (fun k => ?_) (fun k => ?_)
  · refine c_f (by rw [h2 (by simpa using k), ty_eq rfl]; rfl) ?_
    refine c_f (by rw [a1]; rfl) (c_f (by rw [a2]; rfl) (c_t (by simp [pwOK]; omega) (c_t (by simp; omega) (c_f (by rw [a3]; simp) (c_t (by rw [a4]; rfl) (c_t (by rw [a5]; rfl) (c_t (by simp [pwOK]; omega) (c_t (by simp; omega) ?_))))))))
    rw [a6]
    simp [s16]
  · refine c_f (by rw [a1]; rfl) (c_f (by rw [a2]; rfl) (c_t (by simp [pwOK]; omega) (c_t (by simp; omega) (c_f (by rw [a3]; simp) (c_t (by rw [a4]; rfl) (c_t (by rw [a5]; rfl) (c_t (by simp [pwOK]; omega) (c_t (by simp; omega) ?_))))))))
    rw [a6]
    simp [s16]

def s15 (a : Vl) (b : Vl) (t : Ty) (u : Ty) (o : Ty) : Bool × Value := (true, B true)
theorem fn15 : Fn1 Try.prog 15 Try.f15 := ⟨Try.func15, by kernel_rfl, by kernel_rfl, by kernel_rfl⟩
theorem v15 (a : Vl) (b : Vl) (t : Ty) (u : Ty) (o : Ty) (R : Value → Prop) : bodyR Try.prog G19 noL Try.f15 [Enc.enc a, Enc.enc b, Enc.enc t, Enc.enc u, Enc.enc o] (fun _ => none) 0 (fun v _ _ => R v) = (
    bif !(fits a t == 0 && fits b t == 0 && Ty.k t == Ty.k t) then R (Value.bool true)
    else
      bif check u != 0 then R (Value.bool true)
      else
        bif check o != 0 then R (Value.bool true)
        else
          bif asE a t t != 0 then R (Value.bool false)
          else
            bif asC a t t != 0 then R (Value.bool false)
            else
              bif !(asN a t t == Vl.n a && (ByteArray.toList e0 == ByteArray.toList (Vl.s a) && true)) then R (Value.bool false)
              else
                bif asE a t o != 0 then R (Value.bool false)
                else
                  bif asE b t o != 0 then R (Value.bool false)
                  else
                    bif !fits (Vl.mk (asN a t o) e0) o == 0 then R (Value.bool false)
                    else
                      bif !fits (Vl.mk (asN b t o) e0) o == 0 then R (Value.bool false)
                      else
                        bif asC a t o != 0 then
                          bif asC a t o != 1 then R (Value.bool false)
                          else
                            bif asC b t o != 0 then
                              bif asC b t o != 1 then R (Value.bool false)
                              else
                                bif asC a t o == 0 then
                                  bif asC b t o == 0 then
                                    bif decide (Vl.n a ≤ Vl.n b) then
                                      bif decide (asN a t o > asN b t o) then R (Value.bool false)
                                      else
                                        bif asE (Vl.mk (asN a t o) e0) o o != 0 then R (Value.bool false)
                                        else
                                          bif asC (Vl.mk (asN a t o) e0) o o != 0 then R (Value.bool false)
                                          else
                                            bif !(asN (Vl.mk (asN a t o) e0) o o == asN a t o && (ByteArray.toList e0 == ByteArray.toList e0 && true)) then R (Value.bool false)
                                            else
                                              bif decide (Valid u ∧ Valid t) then
                                                bif !(Ty.k u == Ty.k t && decide (Ty.q t ≤ Ty.q u) && decide (Ty.p t - Ty.q t ≤ Ty.p u - Ty.q u)) then R (Value.bool true)
                                                else
                                                  bif asE a t u != 0 then R (Value.bool false)
                                                  else
                                                    bif asC a t u != 0 then R (Value.bool false)
                                                    else
                                                      bif asE (Vl.mk (asN a t u) e0) u t != 0 then R (Value.bool false)
                                                      else
                                                        bif asC (Vl.mk (asN a t u) e0) u t != 0 then R (Value.bool false)
                                                        else
                                                          bif !(asN (Vl.mk (asN a t u) e0) u t == Vl.n a && (ByteArray.toList e0 == ByteArray.toList (Vl.s a) && true)) then
                                                            R (Value.bool false)
                                                          else
                                                            bif asE (Vl.mk (asN a t u) e0) u o == 0 then
                                                              bif asC (Vl.mk (asN a t u) e0) u o == asC a t o then
                                                                R (Value.bool (asN (Vl.mk (asN a t u) e0) u o == asN a t o && (ByteArray.toList e0 == ByteArray.toList e0 && true)))
                                                              else R (Value.bool false)
                                                            else R (Value.bool false)
                                              else False
                                    else
                                      bif asE (Vl.mk (asN a t o) e0) o o != 0 then R (Value.bool false)
                                      else
                                        bif asC (Vl.mk (asN a t o) e0) o o != 0 then R (Value.bool false)
                                        else
                                          bif !(asN (Vl.mk (asN a t o) e0) o o == asN a t o && (ByteArray.toList e0 == ByteArray.toList e0 && true)) then R (Value.bool false)
                                          else
                                            bif decide (Valid u ∧ Valid t) then
                                              bif !(Ty.k u == Ty.k t && decide (Ty.q t ≤ Ty.q u) && decide (Ty.p t - Ty.q t ≤ Ty.p u - Ty.q u)) then R (Value.bool true)
                                              else
                                                bif asE a t u != 0 then R (Value.bool false)
                                                else
                                                  bif asC a t u != 0 then R (Value.bool false)
                                                  else
                                                    bif asE (Vl.mk (asN a t u) e0) u t != 0 then R (Value.bool false)
                                                    else
                                                      bif asC (Vl.mk (asN a t u) e0) u t != 0 then R (Value.bool false)
                                                      else
                                                        bif !(asN (Vl.mk (asN a t u) e0) u t == Vl.n a && (ByteArray.toList e0 == ByteArray.toList (Vl.s a) && true)) then
                                                          R (Value.bool false)
                                                        else
                                                          bif asE (Vl.mk (asN a t u) e0) u o == 0 then
                                                            bif asC (Vl.mk (asN a t u) e0) u o == asC a t o then
                                                              R (Value.bool (asN (Vl.mk (asN a t u) e0) u o == asN a t o && (ByteArray.toList e0 == ByteArray.toList e0 && true)))
                                                            else R (Value.bool false)
                                                          else R (Value.bool false)
                                            else False
                                  else
                                    bif asE (Vl.mk (asN a t o) e0) o o != 0 then R (Value.bool false)
                                    else
                                      bif asC (Vl.mk (asN a t o) e0) o o != 0 then R (Value.bool false)
                                      else
                                        bif !(asN (Vl.mk (asN a t o) e0) o o == asN a t o && (ByteArray.toList e0 == ByteArray.toList e0 && true)) then R (Value.bool false)
                                        else
                                          bif decide (Valid u ∧ Valid t) then
                                            bif !(Ty.k u == Ty.k t && decide (Ty.q t ≤ Ty.q u) && decide (Ty.p t - Ty.q t ≤ Ty.p u - Ty.q u)) then R (Value.bool true)
                                            else
                                              bif asE a t u != 0 then R (Value.bool false)
                                              else
                                                bif asC a t u != 0 then R (Value.bool false)
                                                else
                                                  bif asE (Vl.mk (asN a t u) e0) u t != 0 then R (Value.bool false)
                                                  else
                                                    bif asC (Vl.mk (asN a t u) e0) u t != 0 then R (Value.bool false)
                                                    else
                                                      bif !(asN (Vl.mk (asN a t u) e0) u t == Vl.n a && (ByteArray.toList e0 == ByteArray.toList (Vl.s a) && true)) then
                                                        R (Value.bool false)
                                                      else
                                                        bif asE (Vl.mk (asN a t u) e0) u o == 0 then
                                                          bif asC (Vl.mk (asN a t u) e0) u o == asC a t o then
                                                            R (Value.bool (asN (Vl.mk (asN a t u) e0) u o == asN a t o && (ByteArray.toList e0 == ByteArray.toList e0 && true)))
                                                          else R (Value.bool false)
                                                        else R (Value.bool false)
                                          else False
                                else
                                  bif asE (Vl.mk (asN a t o) e0) o o != 0 then R (Value.bool false)
                                  else
                                    bif asC (Vl.mk (asN a t o) e0) o o != 0 then R (Value.bool false)
                                    else
                                      bif !(asN (Vl.mk (asN a t o) e0) o o == asN a t o && (ByteArray.toList e0 == ByteArray.toList e0 && true)) then R (Value.bool false)
                                      else
                                        bif decide (Valid u ∧ Valid t) then
                                          bif !(Ty.k u == Ty.k t && decide (Ty.q t ≤ Ty.q u) && decide (Ty.p t - Ty.q t ≤ Ty.p u - Ty.q u)) then R (Value.bool true)
                                          else
                                            bif asE a t u != 0 then R (Value.bool false)
                                            else
                                              bif asC a t u != 0 then R (Value.bool false)
                                              else
                                                bif asE (Vl.mk (asN a t u) e0) u t != 0 then R (Value.bool false)
                                                else
                                                  bif asC (Vl.mk (asN a t u) e0) u t != 0 then R (Value.bool false)
                                                  else
                                                    bif !(asN (Vl.mk (asN a t u) e0) u t == Vl.n a && (ByteArray.toList e0 == ByteArray.toList (Vl.s a) && true)) then
                                                      R (Value.bool false)
                                                    else
                                                      bif asE (Vl.mk (asN a t u) e0) u o == 0 then
                                                        bif asC (Vl.mk (asN a t u) e0) u o == asC a t o then
                                                          R (Value.bool (asN (Vl.mk (asN a t u) e0) u o == asN a t o && (ByteArray.toList e0 == ByteArray.toList e0 && true)))
                                                        else R (Value.bool false)
                                                      else R (Value.bool false)
                                        else False
                            else
                              bif asC a t o == 0 then
                                bif asC b t o == 0 then
                                  bif decide (Vl.n a ≤ Vl.n b) then
                                    bif decide (asN a t o > asN b t o) then R (Value.bool false)
                                    else
                                      bif asE (Vl.mk (asN a t o) e0) o o != 0 then R (Value.bool false)
                                      else
                                        bif asC (Vl.mk (asN a t o) e0) o o != 0 then R (Value.bool false)
                                        else
                                          bif !(asN (Vl.mk (asN a t o) e0) o o == asN a t o && (ByteArray.toList e0 == ByteArray.toList e0 && true)) then R (Value.bool false)
                                          else
                                            bif decide (Valid u ∧ Valid t) then
                                              bif !(Ty.k u == Ty.k t && decide (Ty.q t ≤ Ty.q u) && decide (Ty.p t - Ty.q t ≤ Ty.p u - Ty.q u)) then R (Value.bool true)
                                              else
                                                bif asE a t u != 0 then R (Value.bool false)
                                                else
                                                  bif asC a t u != 0 then R (Value.bool false)
                                                  else
                                                    bif asE (Vl.mk (asN a t u) e0) u t != 0 then R (Value.bool false)
                                                    else
                                                      bif asC (Vl.mk (asN a t u) e0) u t != 0 then R (Value.bool false)
                                                      else
                                                        bif !(asN (Vl.mk (asN a t u) e0) u t == Vl.n a && (ByteArray.toList e0 == ByteArray.toList (Vl.s a) && true)) then
                                                          R (Value.bool false)
                                                        else
                                                          bif asE (Vl.mk (asN a t u) e0) u o == 0 then
                                                            bif asC (Vl.mk (asN a t u) e0) u o == asC a t o then
                                                              R (Value.bool (asN (Vl.mk (asN a t u) e0) u o == asN a t o && (ByteArray.toList e0 == ByteArray.toList e0 && true)))
                                                            else R (Value.bool false)
                                                          else R (Value.bool false)
                                            else False
                                  else
                                    bif asE (Vl.mk (asN a t o) e0) o o != 0 then R (Value.bool false)
                                    else
                                      bif asC (Vl.mk (asN a t o) e0) o o != 0 then R (Value.bool false)
                                      else
                                        bif !(asN (Vl.mk (asN a t o) e0) o o == asN a t o && (ByteArray.toList e0 == ByteArray.toList e0 && true)) then R (Value.bool false)
                                        else
                                          bif decide (Valid u ∧ Valid t) then
                                            bif !(Ty.k u == Ty.k t && decide (Ty.q t ≤ Ty.q u) && decide (Ty.p t - Ty.q t ≤ Ty.p u - Ty.q u)) then R (Value.bool true)
                                            else
                                              bif asE a t u != 0 then R (Value.bool false)
                                              else
                                                bif asC a t u != 0 then R (Value.bool false)
                                                else
                                                  bif asE (Vl.mk (asN a t u) e0) u t != 0 then R (Value.bool false)
                                                  else
                                                    bif asC (Vl.mk (asN a t u) e0) u t != 0 then R (Value.bool false)
                                                    else
                                                      bif !(asN (Vl.mk (asN a t u) e0) u t == Vl.n a && (ByteArray.toList e0 == ByteArray.toList (Vl.s a) && true)) then
                                                        R (Value.bool false)
                                                      else
                                                        bif asE (Vl.mk (asN a t u) e0) u o == 0 then
                                                          bif asC (Vl.mk (asN a t u) e0) u o == asC a t o then
                                                            R (Value.bool (asN (Vl.mk (asN a t u) e0) u o == asN a t o && (ByteArray.toList e0 == ByteArray.toList e0 && true)))
                                                          else R (Value.bool false)
                                                        else R (Value.bool false)
                                          else False
                                else
                                  bif asE (Vl.mk (asN a t o) e0) o o != 0 then R (Value.bool false)
                                  else
                                    bif asC (Vl.mk (asN a t o) e0) o o != 0 then R (Value.bool false)
                                    else
                                      bif !(asN (Vl.mk (asN a t o) e0) o o == asN a t o && (ByteArray.toList e0 == ByteArray.toList e0 && true)) then R (Value.bool false)
                                      else
                                        bif decide (Valid u ∧ Valid t) then
                                          bif !(Ty.k u == Ty.k t && decide (Ty.q t ≤ Ty.q u) && decide (Ty.p t - Ty.q t ≤ Ty.p u - Ty.q u)) then R (Value.bool true)
                                          else
                                            bif asE a t u != 0 then R (Value.bool false)
                                            else
                                              bif asC a t u != 0 then R (Value.bool false)
                                              else
                                                bif asE (Vl.mk (asN a t u) e0) u t != 0 then R (Value.bool false)
                                                else
                                                  bif asC (Vl.mk (asN a t u) e0) u t != 0 then R (Value.bool false)
                                                  else
                                                    bif !(asN (Vl.mk (asN a t u) e0) u t == Vl.n a && (ByteArray.toList e0 == ByteArray.toList (Vl.s a) && true)) then
                                                      R (Value.bool false)
                                                    else
                                                      bif asE (Vl.mk (asN a t u) e0) u o == 0 then
                                                        bif asC (Vl.mk (asN a t u) e0) u o == asC a t o then
                                                          R (Value.bool (asN (Vl.mk (asN a t u) e0) u o == asN a t o && (ByteArray.toList e0 == ByteArray.toList e0 && true)))
                                                        else R (Value.bool false)
                                                      else R (Value.bool false)
                                        else False
                              else
                                bif asE (Vl.mk (asN a t o) e0) o o != 0 then R (Value.bool false)
                                else
                                  bif asC (Vl.mk (asN a t o) e0) o o != 0 then R (Value.bool false)
                                  else
                                    bif !(asN (Vl.mk (asN a t o) e0) o o == asN a t o && (ByteArray.toList e0 == ByteArray.toList e0 && true)) then R (Value.bool false)
                                    else
                                      bif decide (Valid u ∧ Valid t) then
                                        bif !(Ty.k u == Ty.k t && decide (Ty.q t ≤ Ty.q u) && decide (Ty.p t - Ty.q t ≤ Ty.p u - Ty.q u)) then R (Value.bool true)
                                        else
                                          bif asE a t u != 0 then R (Value.bool false)
                                          else
                                            bif asC a t u != 0 then R (Value.bool false)
                                            else
                                              bif asE (Vl.mk (asN a t u) e0) u t != 0 then R (Value.bool false)
                                              else
                                                bif asC (Vl.mk (asN a t u) e0) u t != 0 then R (Value.bool false)
                                                else
                                                  bif !(asN (Vl.mk (asN a t u) e0) u t == Vl.n a && (ByteArray.toList e0 == ByteArray.toList (Vl.s a) && true)) then
                                                    R (Value.bool false)
                                                  else
                                                    bif asE (Vl.mk (asN a t u) e0) u o == 0 then
                                                      bif asC (Vl.mk (asN a t u) e0) u o == asC a t o then
                                                        R (Value.bool (asN (Vl.mk (asN a t u) e0) u o == asN a t o && (ByteArray.toList e0 == ByteArray.toList e0 && true)))
                                                      else R (Value.bool false)
                                                    else R (Value.bool false)
                                      else False
                        else
                          bif asC b t o != 0 then
                            bif asC b t o != 1 then R (Value.bool false)
                            else
                              bif asC a t o == 0 then
                                bif asC b t o == 0 then
                                  bif decide (Vl.n a ≤ Vl.n b) then
                                    bif decide (asN a t o > asN b t o) then R (Value.bool false)
                                    else
                                      bif asE (Vl.mk (asN a t o) e0) o o != 0 then R (Value.bool false)
                                      else
                                        bif asC (Vl.mk (asN a t o) e0) o o != 0 then R (Value.bool false)
                                        else
                                          bif !(asN (Vl.mk (asN a t o) e0) o o == asN a t o && (ByteArray.toList e0 == ByteArray.toList e0 && true)) then R (Value.bool false)
                                          else
                                            bif decide (Valid u ∧ Valid t) then
                                              bif !(Ty.k u == Ty.k t && decide (Ty.q t ≤ Ty.q u) && decide (Ty.p t - Ty.q t ≤ Ty.p u - Ty.q u)) then R (Value.bool true)
                                              else
                                                bif asE a t u != 0 then R (Value.bool false)
                                                else
                                                  bif asC a t u != 0 then R (Value.bool false)
                                                  else
                                                    bif asE (Vl.mk (asN a t u) e0) u t != 0 then R (Value.bool false)
                                                    else
                                                      bif asC (Vl.mk (asN a t u) e0) u t != 0 then R (Value.bool false)
                                                      else
                                                        bif !(asN (Vl.mk (asN a t u) e0) u t == Vl.n a && (ByteArray.toList e0 == ByteArray.toList (Vl.s a) && true)) then
                                                          R (Value.bool false)
                                                        else
                                                          bif asE (Vl.mk (asN a t u) e0) u o == 0 then
                                                            bif asC (Vl.mk (asN a t u) e0) u o == asC a t o then
                                                              R (Value.bool (asN (Vl.mk (asN a t u) e0) u o == asN a t o && (ByteArray.toList e0 == ByteArray.toList e0 && true)))
                                                            else R (Value.bool false)
                                                          else R (Value.bool false)
                                            else False
                                  else
                                    bif asE (Vl.mk (asN a t o) e0) o o != 0 then R (Value.bool false)
                                    else
                                      bif asC (Vl.mk (asN a t o) e0) o o != 0 then R (Value.bool false)
                                      else
                                        bif !(asN (Vl.mk (asN a t o) e0) o o == asN a t o && (ByteArray.toList e0 == ByteArray.toList e0 && true)) then R (Value.bool false)
                                        else
                                          bif decide (Valid u ∧ Valid t) then
                                            bif !(Ty.k u == Ty.k t && decide (Ty.q t ≤ Ty.q u) && decide (Ty.p t - Ty.q t ≤ Ty.p u - Ty.q u)) then R (Value.bool true)
                                            else
                                              bif asE a t u != 0 then R (Value.bool false)
                                              else
                                                bif asC a t u != 0 then R (Value.bool false)
                                                else
                                                  bif asE (Vl.mk (asN a t u) e0) u t != 0 then R (Value.bool false)
                                                  else
                                                    bif asC (Vl.mk (asN a t u) e0) u t != 0 then R (Value.bool false)
                                                    else
                                                      bif !(asN (Vl.mk (asN a t u) e0) u t == Vl.n a && (ByteArray.toList e0 == ByteArray.toList (Vl.s a) && true)) then
                                                        R (Value.bool false)
                                                      else
                                                        bif asE (Vl.mk (asN a t u) e0) u o == 0 then
                                                          bif asC (Vl.mk (asN a t u) e0) u o == asC a t o then
                                                            R (Value.bool (asN (Vl.mk (asN a t u) e0) u o == asN a t o && (ByteArray.toList e0 == ByteArray.toList e0 && true)))
                                                          else R (Value.bool false)
                                                        else R (Value.bool false)
                                          else False
                                else
                                  bif asE (Vl.mk (asN a t o) e0) o o != 0 then R (Value.bool false)
                                  else
                                    bif asC (Vl.mk (asN a t o) e0) o o != 0 then R (Value.bool false)
                                    else
                                      bif !(asN (Vl.mk (asN a t o) e0) o o == asN a t o && (ByteArray.toList e0 == ByteArray.toList e0 && true)) then R (Value.bool false)
                                      else
                                        bif decide (Valid u ∧ Valid t) then
                                          bif !(Ty.k u == Ty.k t && decide (Ty.q t ≤ Ty.q u) && decide (Ty.p t - Ty.q t ≤ Ty.p u - Ty.q u)) then R (Value.bool true)
                                          else
                                            bif asE a t u != 0 then R (Value.bool false)
                                            else
                                              bif asC a t u != 0 then R (Value.bool false)
                                              else
                                                bif asE (Vl.mk (asN a t u) e0) u t != 0 then R (Value.bool false)
                                                else
                                                  bif asC (Vl.mk (asN a t u) e0) u t != 0 then R (Value.bool false)
                                                  else
                                                    bif !(asN (Vl.mk (asN a t u) e0) u t == Vl.n a && (ByteArray.toList e0 == ByteArray.toList (Vl.s a) && true)) then
                                                      R (Value.bool false)
                                                    else
                                                      bif asE (Vl.mk (asN a t u) e0) u o == 0 then
                                                        bif asC (Vl.mk (asN a t u) e0) u o == asC a t o then
                                                          R (Value.bool (asN (Vl.mk (asN a t u) e0) u o == asN a t o && (ByteArray.toList e0 == ByteArray.toList e0 && true)))
                                                        else R (Value.bool false)
                                                      else R (Value.bool false)
                                        else False
                              else
                                bif asE (Vl.mk (asN a t o) e0) o o != 0 then R (Value.bool false)
                                else
                                  bif asC (Vl.mk (asN a t o) e0) o o != 0 then R (Value.bool false)
                                  else
                                    bif !(asN (Vl.mk (asN a t o) e0) o o == asN a t o && (ByteArray.toList e0 == ByteArray.toList e0 && true)) then R (Value.bool false)
                                    else
                                      bif decide (Valid u ∧ Valid t) then
                                        bif !(Ty.k u == Ty.k t && decide (Ty.q t ≤ Ty.q u) && decide (Ty.p t - Ty.q t ≤ Ty.p u - Ty.q u)) then R (Value.bool true)
                                        else
                                          bif asE a t u != 0 then R (Value.bool false)
                                          else
                                            bif asC a t u != 0 then R (Value.bool false)
                                            else
                                              bif asE (Vl.mk (asN a t u) e0) u t != 0 then R (Value.bool false)
                                              else
                                                bif asC (Vl.mk (asN a t u) e0) u t != 0 then R (Value.bool false)
                                                else
                                                  bif !(asN (Vl.mk (asN a t u) e0) u t == Vl.n a && (ByteArray.toList e0 == ByteArray.toList (Vl.s a) && true)) then
                                                    R (Value.bool false)
                                                  else
                                                    bif asE (Vl.mk (asN a t u) e0) u o == 0 then
                                                      bif asC (Vl.mk (asN a t u) e0) u o == asC a t o then
                                                        R (Value.bool (asN (Vl.mk (asN a t u) e0) u o == asN a t o && (ByteArray.toList e0 == ByteArray.toList e0 && true)))
                                                      else R (Value.bool false)
                                                    else R (Value.bool false)
                                      else False
                          else
                            bif asC a t o == 0 then
                              bif asC b t o == 0 then
                                bif decide (Vl.n a ≤ Vl.n b) then
                                  bif decide (asN a t o > asN b t o) then R (Value.bool false)
                                  else
                                    bif asE (Vl.mk (asN a t o) e0) o o != 0 then R (Value.bool false)
                                    else
                                      bif asC (Vl.mk (asN a t o) e0) o o != 0 then R (Value.bool false)
                                      else
                                        bif !(asN (Vl.mk (asN a t o) e0) o o == asN a t o && (ByteArray.toList e0 == ByteArray.toList e0 && true)) then R (Value.bool false)
                                        else
                                          bif decide (Valid u ∧ Valid t) then
                                            bif !(Ty.k u == Ty.k t && decide (Ty.q t ≤ Ty.q u) && decide (Ty.p t - Ty.q t ≤ Ty.p u - Ty.q u)) then R (Value.bool true)
                                            else
                                              bif asE a t u != 0 then R (Value.bool false)
                                              else
                                                bif asC a t u != 0 then R (Value.bool false)
                                                else
                                                  bif asE (Vl.mk (asN a t u) e0) u t != 0 then R (Value.bool false)
                                                  else
                                                    bif asC (Vl.mk (asN a t u) e0) u t != 0 then R (Value.bool false)
                                                    else
                                                      bif !(asN (Vl.mk (asN a t u) e0) u t == Vl.n a && (ByteArray.toList e0 == ByteArray.toList (Vl.s a) && true)) then
                                                        R (Value.bool false)
                                                      else
                                                        bif asE (Vl.mk (asN a t u) e0) u o == 0 then
                                                          bif asC (Vl.mk (asN a t u) e0) u o == asC a t o then
                                                            R (Value.bool (asN (Vl.mk (asN a t u) e0) u o == asN a t o && (ByteArray.toList e0 == ByteArray.toList e0 && true)))
                                                          else R (Value.bool false)
                                                        else R (Value.bool false)
                                          else False
                                else
                                  bif asE (Vl.mk (asN a t o) e0) o o != 0 then R (Value.bool false)
                                  else
                                    bif asC (Vl.mk (asN a t o) e0) o o != 0 then R (Value.bool false)
                                    else
                                      bif !(asN (Vl.mk (asN a t o) e0) o o == asN a t o && (ByteArray.toList e0 == ByteArray.toList e0 && true)) then R (Value.bool false)
                                      else
                                        bif decide (Valid u ∧ Valid t) then
                                          bif !(Ty.k u == Ty.k t && decide (Ty.q t ≤ Ty.q u) && decide (Ty.p t - Ty.q t ≤ Ty.p u - Ty.q u)) then R (Value.bool true)
                                          else
                                            bif asE a t u != 0 then R (Value.bool false)
                                            else
                                              bif asC a t u != 0 then R (Value.bool false)
                                              else
                                                bif asE (Vl.mk (asN a t u) e0) u t != 0 then R (Value.bool false)
                                                else
                                                  bif asC (Vl.mk (asN a t u) e0) u t != 0 then R (Value.bool false)
                                                  else
                                                    bif !(asN (Vl.mk (asN a t u) e0) u t == Vl.n a && (ByteArray.toList e0 == ByteArray.toList (Vl.s a) && true)) then
                                                      R (Value.bool false)
                                                    else
                                                      bif asE (Vl.mk (asN a t u) e0) u o == 0 then
                                                        bif asC (Vl.mk (asN a t u) e0) u o == asC a t o then
                                                          R (Value.bool (asN (Vl.mk (asN a t u) e0) u o == asN a t o && (ByteArray.toList e0 == ByteArray.toList e0 && true)))
                                                        else R (Value.bool false)
                                                      else R (Value.bool false)
                                        else False
                              else
                                bif asE (Vl.mk (asN a t o) e0) o o != 0 then R (Value.bool false)
                                else
                                  bif asC (Vl.mk (asN a t o) e0) o o != 0 then R (Value.bool false)
                                  else
                                    bif !(asN (Vl.mk (asN a t o) e0) o o == asN a t o && (ByteArray.toList e0 == ByteArray.toList e0 && true)) then R (Value.bool false)
                                    else
                                      bif decide (Valid u ∧ Valid t) then
                                        bif !(Ty.k u == Ty.k t && decide (Ty.q t ≤ Ty.q u) && decide (Ty.p t - Ty.q t ≤ Ty.p u - Ty.q u)) then R (Value.bool true)
                                        else
                                          bif asE a t u != 0 then R (Value.bool false)
                                          else
                                            bif asC a t u != 0 then R (Value.bool false)
                                            else
                                              bif asE (Vl.mk (asN a t u) e0) u t != 0 then R (Value.bool false)
                                              else
                                                bif asC (Vl.mk (asN a t u) e0) u t != 0 then R (Value.bool false)
                                                else
                                                  bif !(asN (Vl.mk (asN a t u) e0) u t == Vl.n a && (ByteArray.toList e0 == ByteArray.toList (Vl.s a) && true)) then
                                                    R (Value.bool false)
                                                  else
                                                    bif asE (Vl.mk (asN a t u) e0) u o == 0 then
                                                      bif asC (Vl.mk (asN a t u) e0) u o == asC a t o then
                                                        R (Value.bool (asN (Vl.mk (asN a t u) e0) u o == asN a t o && (ByteArray.toList e0 == ByteArray.toList e0 && true)))
                                                      else R (Value.bool false)
                                                    else R (Value.bool false)
                                      else False
                            else
                              bif asE (Vl.mk (asN a t o) e0) o o != 0 then R (Value.bool false)
                              else
                                bif asC (Vl.mk (asN a t o) e0) o o != 0 then R (Value.bool false)
                                else
                                  bif !(asN (Vl.mk (asN a t o) e0) o o == asN a t o && (ByteArray.toList e0 == ByteArray.toList e0 && true)) then R (Value.bool false)
                                  else
                                    bif decide (Valid u ∧ Valid t) then
                                      bif !(Ty.k u == Ty.k t && decide (Ty.q t ≤ Ty.q u) && decide (Ty.p t - Ty.q t ≤ Ty.p u - Ty.q u)) then R (Value.bool true)
                                      else
                                        bif asE a t u != 0 then R (Value.bool false)
                                        else
                                          bif asC a t u != 0 then R (Value.bool false)
                                          else
                                            bif asE (Vl.mk (asN a t u) e0) u t != 0 then R (Value.bool false)
                                            else
                                              bif asC (Vl.mk (asN a t u) e0) u t != 0 then R (Value.bool false)
                                              else
                                                bif !(asN (Vl.mk (asN a t u) e0) u t == Vl.n a && (ByteArray.toList e0 == ByteArray.toList (Vl.s a) && true)) then R (Value.bool false)
                                                else
                                                  bif asE (Vl.mk (asN a t u) e0) u o == 0 then
                                                    bif asC (Vl.mk (asN a t u) e0) u o == asC a t o then
                                                      R (Value.bool (asN (Vl.mk (asN a t u) e0) u o == asN a t o && (ByteArray.toList e0 == ByteArray.toList e0 && true)))
                                                    else R (Value.bool false)
                                                  else R (Value.bool false)
                                    else False) := by kernel_rfl
theorem ok15 : PureOK Try.prog 15 (sp5 s15) := by
  refine pure5 ok_G19 hmix fn15 lokf_none (Nat.le_of_ble_eq_true (by kernel_rfl)) fun a b t u o hc => ?_
  rw [Does, v15]
  refine cond_intro (fun _ => rfl) (fun h => ?_)
  refine cond_intro (fun _ => rfl) (fun h1 => ?_)
  refine cond_intro (fun _ => rfl) (fun h2 => ?_)
  obtain ⟨ha, hb, _⟩ := both_of h
  have hu : Valid u := check0.1 (by simpa using h1)
  have ho : Valid o := check0.1 (by simpa using h2)
  obtain ⟨a1, a2, a3⟩ := as_same ha
  obtain ⟨b1, _, _⟩ := as_ok ha ho
  obtain ⟨b2, _, _⟩ := as_ok hb ho
  have g1 := as_gd ha ho
  have g2 := as_gd hb ho
  obtain ⟨d1, d2, d3⟩ := as_same g1
  have hs : a.s.toList = e0.toList := by rw [gd_s ha, e0_nil]
  have mono := as_mono ha hb ho
  have C1 := as_C ha ho
  have C2 := as_C hb ho
  have wid : (!(u.k == t.k && decide (t.q ≤ u.q) && decide (t.p - t.q ≤ u.p - u.q))) = false →
      asE a t u = 0 ∧ asC a t u = 0 ∧ asE ⟨asN a t u, e0⟩ u t = 0 ∧ asC ⟨asN a t u, e0⟩ u t = 0 ∧ asN ⟨asN a t u, e0⟩ u t = a.n ∧ asE ⟨asN a t u, e0⟩ u o = 0 ∧ asC ⟨asN a t u, e0⟩ u o = asC a t o ∧ asN ⟨asN a t u, e0⟩ u o = asN a t o := fun w => by
    simp only [Bool.not_eq_false', Bool.and_eq_true, beq_iff_eq, decide_eq_true_eq] at w
    obtain ⟨⟨w1, w2⟩, w3⟩ := w
    obtain ⟨x1, x2, _⟩ := as_wide ha hu w1 w2 w3
    obtain ⟨y1, y2, y3⟩ := as_by ha hu ha.1 w1 w2 w3
    obtain ⟨z1, z2, z3⟩ := as_by ha hu ho w1 w2 w3
    exact ⟨x1, x2, y1, by rw [y3, a2], by rw [y2, a3], z1, z3, z2⟩
  refine c_f (by rw [a1]; rfl) (c_f (by rw [a2]; rfl) (c_f (by rw [a3, hs]; simp) (c_f (by rw [b1]; rfl) (c_f (by rw [b2]; rfl) (c_f (by rw [gd_iff.2 g1]; rfl) (c_f (by rw [gd_iff.2 g2]; rfl) ?_))))))
  simp only [d1, d2, d3]
  have hv : decide (Valid u ∧ Valid t) = true := decide_eq_true ⟨hu, ha.1⟩
  rw [hv]
  generalize asC a t o = x at *
  generalize asC b t o = y at *
  generalize asN a t o = m at *
  generalize asN b t o = n at *
  cases hw : !(u.k == t.k && decide (t.q ≤ u.q) && decide (t.p - t.q ≤ u.p - u.q))
  · obtain ⟨e1, e2, e3, e4, e5, e6, e7, e8⟩ := wid hw
    simp only [e1, e2, e3, e4, e5, e6, e7, e8, hs]
    rcases C1 with rfl | rfl <;> rcases C2 with rfl | rfl <;> simp [s15]
    intro h1
    exact mono rfl rfl h1
  · rcases C1 with rfl | rfl <;> rcases C2 with rfl | rfl <;> simp [s15]
    intro h1
    exact mono rfl rfl h1

end Go.Fx
