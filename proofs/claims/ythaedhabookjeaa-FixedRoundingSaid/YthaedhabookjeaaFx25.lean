/-
  The law of rounding.
-/
import Derived.Test.YthaedhabookjeaaFx24
set_option linter.unusedVariables false
set_option linter.unusedSimpArgs false
namespace Go.Fx
open Go Go.Ab Go.Proofs

def s17 (v : Vl) (t : Ty) (k : Int) : Bool × Value := (true, B true)
theorem fn17 : Fn1 Try.prog 17 Try.f17 := ⟨Try.func17, by kernel_rfl, by kernel_rfl, by kernel_rfl⟩
theorem v17 (v : Vl) (t : Ty) (k : Int) (R : Value → Prop) : bodyR Try.prog G19 noL Try.f17 [Enc.enc v, Enc.enc t, Enc.enc k] (fun _ => none) 0 (fun v _ _ => R v) = (
    bif !fits v t == 0 then R (Value.bool true)
    else
      bif decide (pwOK 10 (Ty.q t)) then
        bif check t != 0 then R (Value.bool false)
        else
          bif fits v t != 0 then R (Value.bool false)
          else
            bif fits v t != 0 then R (Value.bool false)
            else
              bif fits v t != 0 then R (Value.bool false)
              else
                bif !fits (Vl.mk (flN v t) e0) (whT t) == 0 then R (Value.bool false)
                else
                  bif !fits (Vl.mk (ceN v t) e0) (whT t) == 0 then R (Value.bool false)
                  else
                    bif decide (IntKind.wrap IntKind.i64 (flN v t * pw 10 (Ty.q t)) > Vl.n v) then R (Value.bool false)
                    else
                      bif decide (IntKind.wrap IntKind.i64 (Vl.n v - IntKind.wrap IntKind.i64 (flN v t * pw 10 (Ty.q t))) ≥ pw 10 (Ty.q t)) then R (Value.bool false)
                      else
                        bif decide (IntKind.wrap IntKind.i64 (ceN v t * pw 10 (Ty.q t)) < Vl.n v) then R (Value.bool false)
                        else
                          bif decide (IntKind.wrap IntKind.i64 (IntKind.wrap IntKind.i64 (ceN v t * pw 10 (Ty.q t)) - Vl.n v) ≥ pw 10 (Ty.q t)) then R (Value.bool false)
                          else
                            bif decide (Vl.n v ≥ 0) then
                              bif !(trN v t == flN v t && (ByteArray.toList e0 == ByteArray.toList e0 && true)) then R (Value.bool false)
                              else
                                bif decide (Vl.n v < 0) then
                                  bif !(trN v t == ceN v t && (ByteArray.toList e0 == ByteArray.toList e0 && true)) then R (Value.bool false)
                                  else
                                    bif fits (Vl.mk (IntKind.wrap IntKind.i64 (0 - Vl.n v)) e0) t != 0 then R (Value.bool false)
                                    else
                                      bif fits (Vl.mk (IntKind.wrap IntKind.i64 (0 - Vl.n v)) e0) t != 0 then R (Value.bool false)
                                      else
                                        bif
                                            !(flN (Vl.mk (IntKind.wrap IntKind.i64 (0 - Vl.n v)) e0) t == IntKind.wrap IntKind.i64 (0 - ceN v t) &&
                                                (ByteArray.toList e0 == ByteArray.toList e0 && true)) then
                                          R (Value.bool false)
                                        else
                                          bif
                                              !(trN (Vl.mk (IntKind.wrap IntKind.i64 (0 - Vl.n v)) e0) t == IntKind.wrap IntKind.i64 (0 - trN v t) &&
                                                  (ByteArray.toList e0 == ByteArray.toList e0 && true)) then
                                            R (Value.bool false)
                                          else
                                            bif decide (k < 0) then R (Value.bool (rnE v t k == 1))
                                            else
                                              bif decide (k > Ty.q t) then R (Value.bool (rnE v t k == 1))
                                              else
                                                bif rdE t k != 0 then R (Value.bool false)
                                                else
                                                  bif rnE v t k != 0 then R (Value.bool false)
                                                  else
                                                    bif rnE (Vl.mk (IntKind.wrap IntKind.i64 (0 - Vl.n v)) e0) t k != 0 then R (Value.bool false)
                                                    else
                                                      bif Ty.q (rdT t k) != k then R (Value.bool false)
                                                      else
                                                        bif !fits (Vl.mk (rnN v t k) e0) (rdT t k) == 0 then R (Value.bool false)
                                                        else
                                                          bif
                                                              !(rnN (Vl.mk (IntKind.wrap IntKind.i64 (0 - Vl.n v)) e0) t k == IntKind.wrap IntKind.i64 (0 - rnN v t k) &&
                                                                  (ByteArray.toList e0 == ByteArray.toList e0 && true)) then
                                                            R (Value.bool false)
                                                          else
                                                            bif decide (pwOK 10 (IntKind.wrap IntKind.i64 (Ty.q t - k))) then
                                                              bif decide (R63 (IntKind.wrap IntKind.i64 (rnN v t k * pw 10 (IntKind.wrap IntKind.i64 (Ty.q t - k))))) then
                                                                bif decide (R63 (Vl.n v)) then
                                                                  bif
                                                                      decide
                                                                        (IntKind.wrap IntKind.i64
                                                                            (2 *
                                                                              IntKind.wrap IntKind.i64
                                                                                (max (IntKind.wrap IntKind.i64 (rnN v t k * pw 10 (IntKind.wrap IntKind.i64 (Ty.q t - k))))
                                                                                    (-IntKind.wrap IntKind.i64 (rnN v t k * pw 10 (IntKind.wrap IntKind.i64 (Ty.q t - k)))) -
                                                                                  max (Vl.n v) (-Vl.n v))) ≤
                                                                          pw 10 (IntKind.wrap IntKind.i64 (Ty.q t - k))) then
                                                                    bif
                                                                        decide
                                                                          (IntKind.wrap IntKind.i64
                                                                              (-2 *
                                                                                IntKind.wrap IntKind.i64
                                                                                  (max (IntKind.wrap IntKind.i64 (rnN v t k * pw 10 (IntKind.wrap IntKind.i64 (Ty.q t - k))))
                                                                                      (-IntKind.wrap IntKind.i64 (rnN v t k * pw 10 (IntKind.wrap IntKind.i64 (Ty.q t - k)))) -
                                                                                    max (Vl.n v) (-Vl.n v))) <
                                                                            pw 10 (IntKind.wrap IntKind.i64 (Ty.q t - k))) then
                                                                      bif rnN v t k == 0 then R (Value.bool true) else R (Value.bool (decide (rnN v t k < 0) == decide (Vl.n v < 0)))
                                                                    else R (Value.bool false)
                                                                  else R (Value.bool false)
                                                                else False
                                                              else False
                                                            else False
                                else
                                  bif fits (Vl.mk (IntKind.wrap IntKind.i64 (0 - Vl.n v)) e0) t != 0 then R (Value.bool false)
                                  else
                                    bif fits (Vl.mk (IntKind.wrap IntKind.i64 (0 - Vl.n v)) e0) t != 0 then R (Value.bool false)
                                    else
                                      bif
                                          !(flN (Vl.mk (IntKind.wrap IntKind.i64 (0 - Vl.n v)) e0) t == IntKind.wrap IntKind.i64 (0 - ceN v t) &&
                                              (ByteArray.toList e0 == ByteArray.toList e0 && true)) then
                                        R (Value.bool false)
                                      else
                                        bif
                                            !(trN (Vl.mk (IntKind.wrap IntKind.i64 (0 - Vl.n v)) e0) t == IntKind.wrap IntKind.i64 (0 - trN v t) &&
                                                (ByteArray.toList e0 == ByteArray.toList e0 && true)) then
                                          R (Value.bool false)
                                        else
                                          bif decide (k < 0) then R (Value.bool (rnE v t k == 1))
                                          else
                                            bif decide (k > Ty.q t) then R (Value.bool (rnE v t k == 1))
                                            else
                                              bif rdE t k != 0 then R (Value.bool false)
                                              else
                                                bif rnE v t k != 0 then R (Value.bool false)
                                                else
                                                  bif rnE (Vl.mk (IntKind.wrap IntKind.i64 (0 - Vl.n v)) e0) t k != 0 then R (Value.bool false)
                                                  else
                                                    bif Ty.q (rdT t k) != k then R (Value.bool false)
                                                    else
                                                      bif !fits (Vl.mk (rnN v t k) e0) (rdT t k) == 0 then R (Value.bool false)
                                                      else
                                                        bif
                                                            !(rnN (Vl.mk (IntKind.wrap IntKind.i64 (0 - Vl.n v)) e0) t k == IntKind.wrap IntKind.i64 (0 - rnN v t k) &&
                                                                (ByteArray.toList e0 == ByteArray.toList e0 && true)) then
                                                          R (Value.bool false)
                                                        else
                                                          bif decide (pwOK 10 (IntKind.wrap IntKind.i64 (Ty.q t - k))) then
                                                            bif decide (R63 (IntKind.wrap IntKind.i64 (rnN v t k * pw 10 (IntKind.wrap IntKind.i64 (Ty.q t - k))))) then
                                                              bif decide (R63 (Vl.n v)) then
                                                                bif
                                                                    decide
                                                                      (IntKind.wrap IntKind.i64
                                                                          (2 *
                                                                            IntKind.wrap IntKind.i64
                                                                              (max (IntKind.wrap IntKind.i64 (rnN v t k * pw 10 (IntKind.wrap IntKind.i64 (Ty.q t - k))))
                                                                                  (-IntKind.wrap IntKind.i64 (rnN v t k * pw 10 (IntKind.wrap IntKind.i64 (Ty.q t - k)))) -
                                                                                max (Vl.n v) (-Vl.n v))) ≤
                                                                        pw 10 (IntKind.wrap IntKind.i64 (Ty.q t - k))) then
                                                                  bif
                                                                      decide
                                                                        (IntKind.wrap IntKind.i64
                                                                            (-2 *
                                                                              IntKind.wrap IntKind.i64
                                                                                (max (IntKind.wrap IntKind.i64 (rnN v t k * pw 10 (IntKind.wrap IntKind.i64 (Ty.q t - k))))
                                                                                    (-IntKind.wrap IntKind.i64 (rnN v t k * pw 10 (IntKind.wrap IntKind.i64 (Ty.q t - k)))) -
                                                                                  max (Vl.n v) (-Vl.n v))) <
                                                                          pw 10 (IntKind.wrap IntKind.i64 (Ty.q t - k))) then
                                                                    bif rnN v t k == 0 then R (Value.bool true) else R (Value.bool (decide (rnN v t k < 0) == decide (Vl.n v < 0)))
                                                                  else R (Value.bool false)
                                                                else R (Value.bool false)
                                                              else False
                                                            else False
                                                          else False
                            else
                              bif decide (Vl.n v < 0) then
                                bif !(trN v t == ceN v t && (ByteArray.toList e0 == ByteArray.toList e0 && true)) then R (Value.bool false)
                                else
                                  bif fits (Vl.mk (IntKind.wrap IntKind.i64 (0 - Vl.n v)) e0) t != 0 then R (Value.bool false)
                                  else
                                    bif fits (Vl.mk (IntKind.wrap IntKind.i64 (0 - Vl.n v)) e0) t != 0 then R (Value.bool false)
                                    else
                                      bif
                                          !(flN (Vl.mk (IntKind.wrap IntKind.i64 (0 - Vl.n v)) e0) t == IntKind.wrap IntKind.i64 (0 - ceN v t) &&
                                              (ByteArray.toList e0 == ByteArray.toList e0 && true)) then
                                        R (Value.bool false)
                                      else
                                        bif
                                            !(trN (Vl.mk (IntKind.wrap IntKind.i64 (0 - Vl.n v)) e0) t == IntKind.wrap IntKind.i64 (0 - trN v t) &&
                                                (ByteArray.toList e0 == ByteArray.toList e0 && true)) then
                                          R (Value.bool false)
                                        else
                                          bif decide (k < 0) then R (Value.bool (rnE v t k == 1))
                                          else
                                            bif decide (k > Ty.q t) then R (Value.bool (rnE v t k == 1))
                                            else
                                              bif rdE t k != 0 then R (Value.bool false)
                                              else
                                                bif rnE v t k != 0 then R (Value.bool false)
                                                else
                                                  bif rnE (Vl.mk (IntKind.wrap IntKind.i64 (0 - Vl.n v)) e0) t k != 0 then R (Value.bool false)
                                                  else
                                                    bif Ty.q (rdT t k) != k then R (Value.bool false)
                                                    else
                                                      bif !fits (Vl.mk (rnN v t k) e0) (rdT t k) == 0 then R (Value.bool false)
                                                      else
                                                        bif
                                                            !(rnN (Vl.mk (IntKind.wrap IntKind.i64 (0 - Vl.n v)) e0) t k == IntKind.wrap IntKind.i64 (0 - rnN v t k) &&
                                                                (ByteArray.toList e0 == ByteArray.toList e0 && true)) then
                                                          R (Value.bool false)
                                                        else
                                                          bif decide (pwOK 10 (IntKind.wrap IntKind.i64 (Ty.q t - k))) then
                                                            bif decide (R63 (IntKind.wrap IntKind.i64 (rnN v t k * pw 10 (IntKind.wrap IntKind.i64 (Ty.q t - k))))) then
                                                              bif decide (R63 (Vl.n v)) then
                                                                bif
                                                                    decide
                                                                      (IntKind.wrap IntKind.i64
                                                                          (2 *
                                                                            IntKind.wrap IntKind.i64
                                                                              (max (IntKind.wrap IntKind.i64 (rnN v t k * pw 10 (IntKind.wrap IntKind.i64 (Ty.q t - k))))
                                                                                  (-IntKind.wrap IntKind.i64 (rnN v t k * pw 10 (IntKind.wrap IntKind.i64 (Ty.q t - k)))) -
                                                                                max (Vl.n v) (-Vl.n v))) ≤
                                                                        pw 10 (IntKind.wrap IntKind.i64 (Ty.q t - k))) then
                                                                  bif
                                                                      decide
                                                                        (IntKind.wrap IntKind.i64
                                                                            (-2 *
                                                                              IntKind.wrap IntKind.i64
                                                                                (max (IntKind.wrap IntKind.i64 (rnN v t k * pw 10 (IntKind.wrap IntKind.i64 (Ty.q t - k))))
                                                                                    (-IntKind.wrap IntKind.i64 (rnN v t k * pw 10 (IntKind.wrap IntKind.i64 (Ty.q t - k)))) -
                                                                                  max (Vl.n v) (-Vl.n v))) <
                                                                          pw 10 (IntKind.wrap IntKind.i64 (Ty.q t - k))) then
                                                                    bif rnN v t k == 0 then R (Value.bool true) else R (Value.bool (decide (rnN v t k < 0) == decide (Vl.n v < 0)))
                                                                  else R (Value.bool false)
                                                                else R (Value.bool false)
                                                              else False
                                                            else False
                                                          else False
                              else
                                bif fits (Vl.mk (IntKind.wrap IntKind.i64 (0 - Vl.n v)) e0) t != 0 then R (Value.bool false)
                                else
                                  bif fits (Vl.mk (IntKind.wrap IntKind.i64 (0 - Vl.n v)) e0) t != 0 then R (Value.bool false)
                                  else
                                    bif
                                        !(flN (Vl.mk (IntKind.wrap IntKind.i64 (0 - Vl.n v)) e0) t == IntKind.wrap IntKind.i64 (0 - ceN v t) &&
                                            (ByteArray.toList e0 == ByteArray.toList e0 && true)) then
                                      R (Value.bool false)
                                    else
                                      bif
                                          !(trN (Vl.mk (IntKind.wrap IntKind.i64 (0 - Vl.n v)) e0) t == IntKind.wrap IntKind.i64 (0 - trN v t) &&
                                              (ByteArray.toList e0 == ByteArray.toList e0 && true)) then
                                        R (Value.bool false)
                                      else
                                        bif decide (k < 0) then R (Value.bool (rnE v t k == 1))
                                        else
                                          bif decide (k > Ty.q t) then R (Value.bool (rnE v t k == 1))
                                          else
                                            bif rdE t k != 0 then R (Value.bool false)
                                            else
                                              bif rnE v t k != 0 then R (Value.bool false)
                                              else
                                                bif rnE (Vl.mk (IntKind.wrap IntKind.i64 (0 - Vl.n v)) e0) t k != 0 then R (Value.bool false)
                                                else
                                                  bif Ty.q (rdT t k) != k then R (Value.bool false)
                                                  else
                                                    bif !fits (Vl.mk (rnN v t k) e0) (rdT t k) == 0 then R (Value.bool false)
                                                    else
                                                      bif
                                                          !(rnN (Vl.mk (IntKind.wrap IntKind.i64 (0 - Vl.n v)) e0) t k == IntKind.wrap IntKind.i64 (0 - rnN v t k) &&
                                                              (ByteArray.toList e0 == ByteArray.toList e0 && true)) then
                                                        R (Value.bool false)
                                                      else
                                                        bif decide (pwOK 10 (IntKind.wrap IntKind.i64 (Ty.q t - k))) then
                                                          bif decide (R63 (IntKind.wrap IntKind.i64 (rnN v t k * pw 10 (IntKind.wrap IntKind.i64 (Ty.q t - k))))) then
                                                            bif decide (R63 (Vl.n v)) then
                                                              bif
                                                                  decide
                                                                    (IntKind.wrap IntKind.i64
                                                                        (2 *
                                                                          IntKind.wrap IntKind.i64
                                                                            (max (IntKind.wrap IntKind.i64 (rnN v t k * pw 10 (IntKind.wrap IntKind.i64 (Ty.q t - k))))
                                                                                (-IntKind.wrap IntKind.i64 (rnN v t k * pw 10 (IntKind.wrap IntKind.i64 (Ty.q t - k)))) -
                                                                              max (Vl.n v) (-Vl.n v))) ≤
                                                                      pw 10 (IntKind.wrap IntKind.i64 (Ty.q t - k))) then
                                                                bif
                                                                    decide
                                                                      (IntKind.wrap IntKind.i64
                                                                          (-2 *
                                                                            IntKind.wrap IntKind.i64
                                                                              (max (IntKind.wrap IntKind.i64 (rnN v t k * pw 10 (IntKind.wrap IntKind.i64 (Ty.q t - k))))
                                                                                  (-IntKind.wrap IntKind.i64 (rnN v t k * pw 10 (IntKind.wrap IntKind.i64 (Ty.q t - k)))) -
                                                                                max (Vl.n v) (-Vl.n v))) <
                                                                        pw 10 (IntKind.wrap IntKind.i64 (Ty.q t - k))) then
                                                                  bif rnN v t k == 0 then R (Value.bool true) else R (Value.bool (decide (rnN v t k < 0) == decide (Vl.n v < 0)))
                                                                else R (Value.bool false)
                                                              else R (Value.bool false)
                                                            else False
                                                          else False
                                                        else False
      else False) := by kernel_rfl
theorem ok17 : PureOK Try.prog 17 (sp3 s17) := by
  refine pure3 ok_G19 hmix fn17 lokf_none (Nat.le_of_ble_eq_true (by kernel_rfl)) fun v t k hc => ?_
  rw [Does, v17]
  refine cond_intro (fun _ => rfl) (fun h => ?_)
  have h : Gd v t := gd_iff.1 (by simpa using h)
  have hf := gd_iff.2 h
  have P := roundP h
  have r := valid_r h.1
  refine c_t (by simp [pwOK]; omega) (c_f (by rw [check0.2 h.1]; rfl) (c_f (by rw [hf]; rfl) (c_f (by rw [hf]; rfl) (c_f (by rw [hf]; rfl) (c_f (by rw [gd_iff.2 P.wf]; rfl) (c_f (by rw [gd_iff.2 P.wc]; rfl) ?_))))))
  refine c_f (decide_eq_false (by have := P.f1; omega)) (c_f (decide_eq_false (by have := P.f2; omega)) (c_f (decide_eq_false (by have := P.c1; omega)) (c_f (decide_eq_false (by have := P.c2; omega)) ?_)))
  refine cond_intro (fun v0 => ?_) (fun v0 => ?_)
  · have v0 := of_decide_eq_true v0
    refine c_f (by rw [P.tf (by omega)]; simp) (c_f (decide_eq_false (by omega)) ?_)
    refine c_f (by rw [P.ng]; rfl) (c_f (by rw [P.ng]; rfl) (c_f (by rw [P.nf]; simp) (c_f (by rw [P.nt]; simp) ?_)))
    refine cond_intro (fun k1 => ?_) (fun k1 => ?_)
    · have : rnE v t k = 1 := by have := of_decide_eq_true k1; simp [rnE, hf]; omega
      rw [this]; rfl
    refine cond_intro (fun k2 => ?_) (fun k2 => ?_)
    · have : rnE v t k = 1 := by have := of_decide_eq_true k2; simp [rnE, hf]; omega
      rw [this]; rfl
    have hk : 0 ≤ k ∧ k ≤ t.q := by have := of_decide_eq_false k1; have := of_decide_eq_false k2; omega
    have K := roundK h hk
    rw [K.w]
    refine c_f (by rw [K.e1]; rfl) (c_f (by rw [K.e2]; rfl) (c_f (by rw [K.e3]; rfl) (c_f (by rw [K.q]; simp) (c_f (by rw [gd_iff.2 K.g]; rfl) (c_f (by rw [K.n]; simp) (c_t (decide_eq_true K.p) (c_t (decide_eq_true K.r1) (c_t (decide_eq_true K.r2) (c_t (decide_eq_true K.o1) (c_t (decide_eq_true K.o2) ?_))))))))))
    refine cond_intro (fun _ => rfl) (fun k3 => ?_)
    have k3 : rnN v t k ≠ 0 := by simpa using k3
    have : decide (rnN v t k < 0) = decide (v.n < 0) := by
      rcases K.s with s | s
      · exact absurd s k3
      · simp only [s]
    rw [this]
    simp [s17]
  · have v0 := of_decide_eq_false v0
    refine c_t (decide_eq_true (by omega)) (c_f (by rw [P.tc (by omega)]; simp) ?_)
    refine c_f (by rw [P.ng]; rfl) (c_f (by rw [P.ng]; rfl) (c_f (by rw [P.nf]; simp) (c_f (by rw [P.nt]; simp) ?_)))
    refine cond_intro (fun k1 => ?_) (fun k1 => ?_)
    · have : rnE v t k = 1 := by have := of_decide_eq_true k1; simp [rnE, hf]; omega
      rw [this]; rfl
    refine cond_intro (fun k2 => ?_) (fun k2 => ?_)
    · have : rnE v t k = 1 := by have := of_decide_eq_true k2; simp [rnE, hf]; omega
      rw [this]; rfl
    have hk : 0 ≤ k ∧ k ≤ t.q := by have := of_decide_eq_false k1; have := of_decide_eq_false k2; omega
    have K := roundK h hk
    rw [K.w]
    refine c_f (by rw [K.e1]; rfl) (c_f (by rw [K.e2]; rfl) (c_f (by rw [K.e3]; rfl) (c_f (by rw [K.q]; simp) (c_f (by rw [gd_iff.2 K.g]; rfl) (c_f (by rw [K.n]; simp) (c_t (decide_eq_true K.p) (c_t (decide_eq_true K.r1) (c_t (decide_eq_true K.r2) (c_t (decide_eq_true K.o1) (c_t (decide_eq_true K.o2) ?_))))))))))
    refine cond_intro (fun _ => rfl) (fun k3 => ?_)
    have k3 : rnN v t k ≠ 0 := by simpa using k3
    have : decide (rnN v t k < 0) = decide (v.n < 0) := by
      rcases K.s with s | s
      · exact absurd s k3
      · simp only [s]
    rw [this]
    simp [s17]

end Go.Fx
