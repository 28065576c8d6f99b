/-
  The law of totals.
-/
import Derived.Test.YthaedhabookjeaaFx39
set_option linter.unusedVariables false
set_option linter.unusedSimpArgs false
namespace Go.Fx
open Go Go.Ab Go.Proofs

/-- For the list that is nil: loops in full. -/
def Gn103 : Env := G65.addG 103 (inlQ Try.prog G65 noL Try.f103)
theorem ok_Gn103 : EnvOK Try.prog Gn103 := env_addG ok_G65 (gen_inlQ ok_G65 hmix fn103 lokf_none)
def Gn64 : Env := Gn103.addG 64 (inlQ Try.prog Gn103 noL Try.f64)
theorem ok_Gn64 : EnvOK Try.prog Gn64 := env_addG ok_Gn103 (gen_inlQ ok_Gn103 hmix fn64 lokf_none)
def Gn66 : Env := Gn64.addG 66 (inlQ Try.prog Gn64 noL Try.f66)
theorem ok_Gn66 : EnvOK Try.prog Gn66 := env_addG ok_Gn64 (gen_inlQ ok_Gn64 hmix fn66 lokf_none)
def Gn67 : Env := Gn66.addG 67 (inlQ Try.prog Gn66 noL Try.f67)
theorem ok_Gn67 : EnvOK Try.prog Gn67 := env_addG ok_Gn66 (gen_inlQ ok_Gn66 hmix fn67 lokf_none)
def Gn104 : Env := Gn67.addG 104 (inlQ Try.prog Gn67 noL Try.f104)
theorem ok_Gn104 : EnvOK Try.prog Gn104 := env_addG ok_Gn67 (gen_inlQ ok_Gn67 hmix fn104 lokf_none)
def Gn68 : Env := Gn104.addG 68 (inlQ Try.prog Gn104 noL Try.f68)
theorem ok_Gn68 : EnvOK Try.prog Gn68 := env_addG ok_Gn104 (gen_inlQ ok_Gn104 hmix fn68 lokf_none)
def Gn69 : Env := Gn68.add 69 s69
theorem ok_Gn69 : EnvOK Try.prog Gn69 := env_add ok_Gn68 ok69

theorem v19 (c : List Value) (ty : Nat) (n : Nat) (cap : Nat) (t : Ty) (k : Int) (R : Value → Prop) : (bodyQ Try.prog G69 noL Try.f19 [sl0 0 n cap, Enc.enc t, I k] (vw c ty) 3 (fun v _ _ => R v)) = (
    bif check t != 0 then R (Value.bool true)
    else
      bif decide ((↑n : Int) > 200) then R (Value.bool true)
      else
        bif idsLt 60 c && true then
          bif LSpec.pre S103_0 (c, ty, 0, n, cap, Ty.k t, Ty.p t, Ty.q t, Ty.v t, Ty.s t, 0, (↑n : Int), 0) then
            bif fbad t (List.drop (Int.toNat 0) (vlsA c 0 n)) 0 == -1 then
              bif idsLt 60 c && true then
                ∀ (x : Tmps),
                  bif vlsOK c 0 n && decide (n ≤ 1000) then
                    bif check t != 0 || (suE (vlsA c 0 n) t != 0 || (!fits (Vl.mk (suN (vlsA c 0 n) t) e0) (totT t) == 0 || (Ty.p (totT t) != most (Ty.k t) || true))) then
                      bif
                          check t != 0 ||
                            (suE (vlsA c 0 n) t != 0 || (!fits (Vl.mk (suN (vlsA c 0 n) t) e0) (totT t) == 0 || (Ty.p (totT t) != most (Ty.k t) || Ty.q (totT t) != Ty.q t))) then
                        R (Value.bool false)
                      else
                        bif Nat.ble (0 + n * 2) (List.length c) && List.all (List.take (n * 2) (List.drop 0 c)) cellOk && fitsA (0 + n) 24 then
                          ∀ (cap_1 : Nat) (tail : List Value),
                            tailOK tail cap_1 (0 + n) 2 = true →
                              bif idsLt 140 c && (idsLt 140 (List.take (n * 2) (List.drop 0 c) ++ tail) && true) then
                                bif
                                    LSpec.pre S67_0
                                      (c, ty, Ty.k t, Ty.p t, Ty.q t, Ty.v t, Ty.s t, Ty.k (totT t), Ty.p (totT t), Ty.q (totT t), Ty.v (totT t), Ty.s (totT t), suN (vlsA c 0 n) t, e0,
                                        List.take (n * 2) (List.drop 0 c) ++ tail, 0 + n, cap_1, 0, IntKind.wrap IntKind.i64 ((↑(0 + n) : Int) - 1)) then
                                  ∀ (d' : List Value) (i' j' : Int),
                                    RevOK (List.take (n * 2) (List.drop 0 c) ++ tail) d' (0 + n) →
                                      bif idsLt 140 c && (idsLt 140 d' && true) then
                                        ∀ (x : Tmps),
                                          bif decide (0 ≤ imax 0 (imin k (↑n : Int)) ∧ imax 0 (imin k (↑n : Int)) ≤ (↑n : Int) ∧ (↑n : Int) ≤ (↑cap : Int)) then
                                            bif decide ((0 : Int) ≤ 0 ∧ 0 ≤ imax 0 (imin k (↑n : Int)) ∧ imax 0 (imin k (↑n : Int)) ≤ (↑cap : Int)) then
                                              bif decide (IntKind.wrap IntKind.i64 (0 + (↑(n - Int.toNat (imax 0 (imin k (↑n : Int)))) : Int)) < 0) then False
                                              else
                                                bif
                                                    decide
                                                      (IntKind.wrap IntKind.i64
                                                          (IntKind.wrap IntKind.i64 (0 + (↑(n - Int.toNat (imax 0 (imin k (↑n : Int)))) : Int)) +
                                                            (↑(Int.toNat (imax 0 (imin k (↑n : Int))) - 0) : Int)) <
                                                        0) then
                                                  False
                                                else
                                                  bif
                                                      decide
                                                        (IntKind.wrap IntKind.i64
                                                            (IntKind.wrap IntKind.i64 (0 + (↑(n - Int.toNat (imax 0 (imin k (↑n : Int)))) : Int)) +
                                                              (↑(Int.toNat (imax 0 (imin k (↑n : Int))) - 0) : Int)) <
                                                          0) then
                                                    False
                                                  else
                                                    bif
                                                        decide
                                                          (IntKind.wrap IntKind.i64
                                                              (IntKind.wrap IntKind.i64
                                                                  (IntKind.wrap IntKind.i64 (0 + (↑(n - Int.toNat (imax 0 (imin k (↑n : Int)))) : Int)) +
                                                                    (↑(Int.toNat (imax 0 (imin k (↑n : Int))) - 0) : Int)) -
                                                                IntKind.wrap IntKind.i64 (0 - 0)) >
                                                            0) then
                                                      bif
                                                          decide
                                                              (0 ≤
                                                                IntKind.wrap IntKind.i64
                                                                  (IntKind.wrap IntKind.i64
                                                                      (IntKind.wrap IntKind.i64 (0 + (↑(n - Int.toNat (imax 0 (imin k (↑n : Int)))) : Int)) +
                                                                        (↑(Int.toNat (imax 0 (imin k (↑n : Int))) - 0) : Int)) -
                                                                    IntKind.wrap IntKind.i64 (0 - 0))) &&
                                                            fitsA
                                                              (Int.toNat
                                                                (IntKind.wrap IntKind.i64
                                                                  (IntKind.wrap IntKind.i64
                                                                      (IntKind.wrap IntKind.i64 (0 + (↑(n - Int.toNat (imax 0 (imin k (↑n : Int)))) : Int)) +
                                                                        (↑(Int.toNat (imax 0 (imin k (↑n : Int))) - 0) : Int)) -
                                                                    IntKind.wrap IntKind.i64 (0 - 0))))
                                                              24 then
                                                        bif
                                                            Nat.beq
                                                              (Int.toNat
                                                                (IntKind.wrap IntKind.i64
                                                                  (IntKind.wrap IntKind.i64
                                                                      (IntKind.wrap IntKind.i64 (0 + (↑(n - Int.toNat (imax 0 (imin k (↑n : Int)))) : Int)) +
                                                                        (↑(Int.toNat (imax 0 (imin k (↑n : Int))) - 0) : Int)) -
                                                                    IntKind.wrap IntKind.i64 (0 - 0))))
                                                              0 then
                                                          bif
                                                              Nat.ble
                                                                    ((bif Nat.beq cap (Int.toNat (imax 0 (imin k (↑n : Int)))) then 0
                                                                      else 0 + Int.toNat (imax 0 (imin k (↑n : Int))) * 2) +
                                                                      (n - Int.toNat (imax 0 (imin k (↑n : Int)))) * 2)
                                                                    (List.length c) &&
                                                                  List.all
                                                                    (List.take ((n - Int.toNat (imax 0 (imin k (↑n : Int)))) * 2)
                                                                      (List.drop
                                                                        (bif Nat.beq cap (Int.toNat (imax 0 (imin k (↑n : Int)))) then 0
                                                                        else 0 + Int.toNat (imax 0 (imin k (↑n : Int))) * 2)
                                                                        c))
                                                                    cellOk &&
                                                                fitsA (n - Int.toNat (imax 0 (imin k (↑n : Int)))) 24 then
                                                            bif Nat.beq (n - Int.toNat (imax 0 (imin k (↑n : Int)))) 0 then
                                                              bif
                                                                  Nat.ble ((bif Nat.beq cap 0 then 0 else 0 + 0 * 2) + (Int.toNat (imax 0 (imin k (↑n : Int))) - 0) * 2)
                                                                        (List.length c) &&
                                                                      List.all
                                                                        (List.take ((Int.toNat (imax 0 (imin k (↑n : Int))) - 0) * 2)
                                                                          (List.drop (bif Nat.beq cap 0 then 0 else 0 + 0 * 2) c))
                                                                        cellOk &&
                                                                    fitsA (Int.toNat (imax 0 (imin k (↑n : Int))) - 0) 24 then
                                                                bif Nat.beq (Int.toNat (imax 0 (imin k (↑n : Int))) - 0) 0 then
                                                                  bif vlsOK d' 0 (0 + n) && decide (0 + n ≤ 1000) then
                                                                    bif
                                                                        suE (vlsA d' 0 (0 + n)) t != 0 ||
                                                                          (suE [] t != 0 ||
                                                                            (!(suN (vlsA d' 0 (0 + n)) t == suN (vlsA c 0 n) t &&
                                                                                  (ByteArray.toList e0 == ByteArray.toList e0 && true)) ||
                                                                              (!(suN [] t == suN (vlsA c 0 n) t && (ByteArray.toList e0 == ByteArray.toList e0 && true)) ||
                                                                                (suC (vlsA d' 0 (0 + n)) t != suC (vlsA c 0 n) t || true)))) then
                                                                      bif
                                                                          suE (vlsA d' 0 (0 + n)) t != 0 ||
                                                                            (suE [] t != 0 ||
                                                                              (!(suN (vlsA d' 0 (0 + n)) t == suN (vlsA c 0 n) t &&
                                                                                    (ByteArray.toList e0 == ByteArray.toList e0 && true)) ||
                                                                                (!(suN [] t == suN (vlsA c 0 n) t && (ByteArray.toList e0 == ByteArray.toList e0 && true)) ||
                                                                                  (suC (vlsA d' 0 (0 + n)) t != suC (vlsA c 0 n) t || suC [] t != suC (vlsA c 0 n) t)))) then
                                                                        R (Value.bool false)
                                                                      else
                                                                        bif decide ((0 : Int) ≤ 0 ∧ 0 ≤ imax 0 (imin k (↑n : Int)) ∧ imax 0 (imin k (↑n : Int)) ≤ (↑cap : Int)) then
                                                                          bif
                                                                              vlsOK c (bif Nat.beq cap 0 then 0 else 0 + 0 * 2) (Int.toNat (imax 0 (imin k (↑n : Int))) - 0) &&
                                                                                decide (Int.toNat (imax 0 (imin k (↑n : Int))) - 0 ≤ 1000) then
                                                                            bif
                                                                                decide
                                                                                  (0 ≤ imax 0 (imin k (↑n : Int)) ∧
                                                                                    imax 0 (imin k (↑n : Int)) ≤ (↑n : Int) ∧ (↑n : Int) ≤ (↑cap : Int)) then
                                                                              bif
                                                                                  vlsOK c
                                                                                      (bif Nat.beq cap (Int.toNat (imax 0 (imin k (↑n : Int)))) then 0
                                                                                      else 0 + Int.toNat (imax 0 (imin k (↑n : Int))) * 2)
                                                                                      (n - Int.toNat (imax 0 (imin k (↑n : Int)))) &&
                                                                                    decide (n - Int.toNat (imax 0 (imin k (↑n : Int))) ≤ 1000) then
                                                                                bif
                                                                                    suE (vlsA c (bif Nat.beq cap 0 then 0 else 0 + 0 * 2) (Int.toNat (imax 0 (imin k (↑n : Int))) - 0))
                                                                                          t !=
                                                                                        0 ||
                                                                                      (suE
                                                                                            (vlsA c
                                                                                              (bif Nat.beq cap (Int.toNat (imax 0 (imin k (↑n : Int)))) then 0
                                                                                              else 0 + Int.toNat (imax 0 (imin k (↑n : Int))) * 2)
                                                                                              (n - Int.toNat (imax 0 (imin k (↑n : Int)))))
                                                                                            t !=
                                                                                          0 ||
                                                                                        (!fits
                                                                                                (Vl.mk
                                                                                                  (suN
                                                                                                    (vlsA c (bif Nat.beq cap 0 then 0 else 0 + 0 * 2)
                                                                                                      (Int.toNat (imax 0 (imin k (↑n : Int))) - 0))
                                                                                                    t)
                                                                                                  e0)
                                                                                                (totT t) ==
                                                                                              0 ||
                                                                                          (!fits
                                                                                                  (Vl.mk
                                                                                                    (suN
                                                                                                      (vlsA c
                                                                                                        (bif Nat.beq cap (Int.toNat (imax 0 (imin k (↑n : Int)))) then 0
                                                                                                        else 0 + Int.toNat (imax 0 (imin k (↑n : Int))) * 2)
                                                                                                        (n - Int.toNat (imax 0 (imin k (↑n : Int)))))
                                                                                                      t)
                                                                                                    e0)
                                                                                                  (totT t) ==
                                                                                                0 ||
                                                                                            decide (most (Ty.k t) ≤ Ty.p t ∧ Valid t ∨ most (Ty.k t) = most (Ty.k t)) &&
                                                                                              (decide (pw (base (Ty.k t)) (most (Ty.k t)) ≠ 0) && true)))) then
                                                                                  bif
                                                                                      suE
                                                                                            (vlsA c (bif Nat.beq cap 0 then 0 else 0 + 0 * 2)
                                                                                              (Int.toNat (imax 0 (imin k (↑n : Int))) - 0))
                                                                                            t !=
                                                                                          0 ||
                                                                                        (suE
                                                                                              (vlsA c
                                                                                                (bif Nat.beq cap (Int.toNat (imax 0 (imin k (↑n : Int)))) then 0
                                                                                                else 0 + Int.toNat (imax 0 (imin k (↑n : Int))) * 2)
                                                                                                (n - Int.toNat (imax 0 (imin k (↑n : Int)))))
                                                                                              t !=
                                                                                            0 ||
                                                                                          (!fits
                                                                                                  (Vl.mk
                                                                                                    (suN
                                                                                                      (vlsA c (bif Nat.beq cap 0 then 0 else 0 + 0 * 2)
                                                                                                        (Int.toNat (imax 0 (imin k (↑n : Int))) - 0))
                                                                                                      t)
                                                                                                    e0)
                                                                                                  (totT t) ==
                                                                                                0 ||
                                                                                            (!fits
                                                                                                    (Vl.mk
                                                                                                      (suN
                                                                                                        (vlsA c
                                                                                                          (bif Nat.beq cap (Int.toNat (imax 0 (imin k (↑n : Int)))) then 0
                                                                                                          else 0 + Int.toNat (imax 0 (imin k (↑n : Int))) * 2)
                                                                                                          (n - Int.toNat (imax 0 (imin k (↑n : Int)))))
                                                                                                        t)
                                                                                                      e0)
                                                                                                    (totT t) ==
                                                                                                  0 ||
                                                                                              Int.tmod
                                                                                                  (IntKind.wrap IntKind.i64
                                                                                                    (IntKind.wrap IntKind.i64
                                                                                                        (suN
                                                                                                            (vlsA c (bif Nat.beq cap 0 then 0 else 0 + 0 * 2)
                                                                                                              (Int.toNat (imax 0 (imin k (↑n : Int))) - 0))
                                                                                                            t +
                                                                                                          suN
                                                                                                            (vlsA c
                                                                                                              (bif Nat.beq cap (Int.toNat (imax 0 (imin k (↑n : Int)))) then 0
                                                                                                              else 0 + Int.toNat (imax 0 (imin k (↑n : Int))) * 2)
                                                                                                              (n - Int.toNat (imax 0 (imin k (↑n : Int)))))
                                                                                                            t) -
                                                                                                      suN (vlsA c 0 n) t))
                                                                                                  (pw (base (Ty.k t)) (most (Ty.k t))) !=
                                                                                                0))) then
                                                                                    R (Value.bool false)
                                                                                  else
                                                                                    bif vlsOK c 0 n && decide (n ≤ 1000) then
                                                                                      bif !Prod.fst (addGo (totT t) t (vlsA c 0 n) 0 0) || (suC (vlsA c 0 n) t == 0 || true) then
                                                                                        R
                                                                                          (Value.bool
                                                                                            (!Prod.fst (addGo (totT t) t (vlsA c 0 n) 0 0) ||
                                                                                              suC (vlsA c 0 n) t == 0 &&
                                                                                                ((if Prod.fst (addGo (totT t) t (vlsA c 0 n) 0 0) = true then
                                                                                                      Prod.fst (Prod.snd (addGo (totT t) t (vlsA c 0 n) 0 0))
                                                                                                    else 0) ==
                                                                                                    suN (vlsA c 0 n) t &&
                                                                                                  (ByteArray.toList e0 == ByteArray.toList e0 && true))))
                                                                                      else False
                                                                                    else False
                                                                                else False
                                                                              else False
                                                                            else False
                                                                          else False
                                                                        else False
                                                                    else False
                                                                  else False
                                                                else
                                                                  ∀ (cap_2 : Nat) (tail : List Value),
                                                                    tailOK tail cap_2 (Int.toNat (imax 0 (imin k (↑n : Int))) - 0) 2 = true →
                                                                      bif vlsOK d' 0 (0 + n) && decide (0 + n ≤ 1000) then
                                                                        bif
                                                                            vlsOK
                                                                                (List.take ((Int.toNat (imax 0 (imin k (↑n : Int))) - 0) * 2)
                                                                                    (List.drop (bif Nat.beq cap 0 then 0 else 0 + 0 * 2) c) ++
                                                                                  tail)
                                                                                0 (Int.toNat (imax 0 (imin k (↑n : Int))) - 0) &&
                                                                              decide (Int.toNat (imax 0 (imin k (↑n : Int))) - 0 ≤ 1000) then
                                                                          bif
                                                                              suE (vlsA d' 0 (0 + n)) t != 0 ||
                                                                                (suE
                                                                                      (vlsA
                                                                                        (List.take ((Int.toNat (imax 0 (imin k (↑n : Int))) - 0) * 2)
                                                                                            (List.drop (bif Nat.beq cap 0 then 0 else 0 + 0 * 2) c) ++
                                                                                          tail)
                                                                                        0 (Int.toNat (imax 0 (imin k (↑n : Int))) - 0))
                                                                                      t !=
                                                                                    0 ||
                                                                                  (!(suN (vlsA d' 0 (0 + n)) t == suN (vlsA c 0 n) t &&
                                                                                        (ByteArray.toList e0 == ByteArray.toList e0 && true)) ||
                                                                                    (!(suN
                                                                                              (vlsA
                                                                                                (List.take ((Int.toNat (imax 0 (imin k (↑n : Int))) - 0) * 2)
                                                                                                    (List.drop (bif Nat.beq cap 0 then 0 else 0 + 0 * 2) c) ++
                                                                                                  tail)
                                                                                                0 (Int.toNat (imax 0 (imin k (↑n : Int))) - 0))
                                                                                              t ==
                                                                                            suN (vlsA c 0 n) t &&
                                                                                          (ByteArray.toList e0 == ByteArray.toList e0 && true)) ||
                                                                                      (suC (vlsA d' 0 (0 + n)) t != suC (vlsA c 0 n) t || true)))) then
                                                                            bif
                                                                                suE (vlsA d' 0 (0 + n)) t != 0 ||
                                                                                  (suE
                                                                                        (vlsA
                                                                                          (List.take ((Int.toNat (imax 0 (imin k (↑n : Int))) - 0) * 2)
                                                                                              (List.drop (bif Nat.beq cap 0 then 0 else 0 + 0 * 2) c) ++
                                                                                            tail)
                                                                                          0 (Int.toNat (imax 0 (imin k (↑n : Int))) - 0))
                                                                                        t !=
                                                                                      0 ||
                                                                                    (!(suN (vlsA d' 0 (0 + n)) t == suN (vlsA c 0 n) t &&
                                                                                          (ByteArray.toList e0 == ByteArray.toList e0 && true)) ||
                                                                                      (!(suN
                                                                                                (vlsA
                                                                                                  (List.take ((Int.toNat (imax 0 (imin k (↑n : Int))) - 0) * 2)
                                                                                                      (List.drop (bif Nat.beq cap 0 then 0 else 0 + 0 * 2) c) ++
                                                                                                    tail)
                                                                                                  0 (Int.toNat (imax 0 (imin k (↑n : Int))) - 0))
                                                                                                t ==
                                                                                              suN (vlsA c 0 n) t &&
                                                                                            (ByteArray.toList e0 == ByteArray.toList e0 && true)) ||
                                                                                        (suC (vlsA d' 0 (0 + n)) t != suC (vlsA c 0 n) t ||
                                                                                          suC
                                                                                              (vlsA
                                                                                                (List.take ((Int.toNat (imax 0 (imin k (↑n : Int))) - 0) * 2)
                                                                                                    (List.drop (bif Nat.beq cap 0 then 0 else 0 + 0 * 2) c) ++
                                                                                                  tail)
                                                                                                0 (Int.toNat (imax 0 (imin k (↑n : Int))) - 0))
                                                                                              t !=
                                                                                            suC (vlsA c 0 n) t)))) then
                                                                              R (Value.bool false)
                                                                            else
                                                                              bif decide ((0 : Int) ≤ 0 ∧ 0 ≤ imax 0 (imin k (↑n : Int)) ∧ imax 0 (imin k (↑n : Int)) ≤ (↑cap : Int)) then
                                                                                bif
                                                                                    vlsOK c (bif Nat.beq cap 0 then 0 else 0 + 0 * 2) (Int.toNat (imax 0 (imin k (↑n : Int))) - 0) &&
                                                                                      decide (Int.toNat (imax 0 (imin k (↑n : Int))) - 0 ≤ 1000) then
                                                                                  bif
                                                                                      decide
                                                                                        (0 ≤ imax 0 (imin k (↑n : Int)) ∧
                                                                                          imax 0 (imin k (↑n : Int)) ≤ (↑n : Int) ∧ (↑n : Int) ≤ (↑cap : Int)) then
                                                                                    bif
                                                                                        vlsOK c
                                                                                            (bif Nat.beq cap (Int.toNat (imax 0 (imin k (↑n : Int)))) then 0
                                                                                            else 0 + Int.toNat (imax 0 (imin k (↑n : Int))) * 2)
                                                                                            (n - Int.toNat (imax 0 (imin k (↑n : Int)))) &&
                                                                                          decide (n - Int.toNat (imax 0 (imin k (↑n : Int))) ≤ 1000) then
                                                                                      bif
                                                                                          suE
                                                                                                (vlsA c (bif Nat.beq cap 0 then 0 else 0 + 0 * 2)
                                                                                                  (Int.toNat (imax 0 (imin k (↑n : Int))) - 0))
                                                                                                t !=
                                                                                              0 ||
                                                                                            (suE
                                                                                                  (vlsA c
                                                                                                    (bif Nat.beq cap (Int.toNat (imax 0 (imin k (↑n : Int)))) then 0
                                                                                                    else 0 + Int.toNat (imax 0 (imin k (↑n : Int))) * 2)
                                                                                                    (n - Int.toNat (imax 0 (imin k (↑n : Int)))))
                                                                                                  t !=
                                                                                                0 ||
                                                                                              (!fits
                                                                                                      (Vl.mk
                                                                                                        (suN
                                                                                                          (vlsA c (bif Nat.beq cap 0 then 0 else 0 + 0 * 2)
                                                                                                            (Int.toNat (imax 0 (imin k (↑n : Int))) - 0))
                                                                                                          t)
                                                                                                        e0)
                                                                                                      (totT t) ==
                                                                                                    0 ||
                                                                                                (!fits
                                                                                                        (Vl.mk
                                                                                                          (suN
                                                                                                            (vlsA c
                                                                                                              (bif Nat.beq cap (Int.toNat (imax 0 (imin k (↑n : Int)))) then 0
                                                                                                              else 0 + Int.toNat (imax 0 (imin k (↑n : Int))) * 2)
                                                                                                              (n - Int.toNat (imax 0 (imin k (↑n : Int)))))
                                                                                                            t)
                                                                                                          e0)
                                                                                                        (totT t) ==
                                                                                                      0 ||
                                                                                                  decide (most (Ty.k t) ≤ Ty.p t ∧ Valid t ∨ most (Ty.k t) = most (Ty.k t)) &&
                                                                                                    (decide (pw (base (Ty.k t)) (most (Ty.k t)) ≠ 0) && true)))) then
                                                                                        bif
                                                                                            suE
                                                                                                  (vlsA c (bif Nat.beq cap 0 then 0 else 0 + 0 * 2)
                                                                                                    (Int.toNat (imax 0 (imin k (↑n : Int))) - 0))
                                                                                                  t !=
                                                                                                0 ||
                                                                                              (suE
                                                                                                    (vlsA c
                                                                                                      (bif Nat.beq cap (Int.toNat (imax 0 (imin k (↑n : Int)))) then 0
                                                                                                      else 0 + Int.toNat (imax 0 (imin k (↑n : Int))) * 2)
                                                                                                      (n - Int.toNat (imax 0 (imin k (↑n : Int)))))
                                                                                                    t !=
                                                                                                  0 ||
                                                                                                (!fits
                                                                                                        (Vl.mk
                                                                                                          (suN
                                                                                                            (vlsA c (bif Nat.beq cap 0 then 0 else 0 + 0 * 2)
                                                                                                              (Int.toNat (imax 0 (imin k (↑n : Int))) - 0))
                                                                                                            t)
                                                                                                          e0)
                                                                                                        (totT t) ==
                                                                                                      0 ||
                                                                                                  (!fits
                                                                                                          (Vl.mk
                                                                                                            (suN
                                                                                                              (vlsA c
                                                                                                                (bif Nat.beq cap (Int.toNat (imax 0 (imin k (↑n : Int)))) then 0
                                                                                                                else 0 + Int.toNat (imax 0 (imin k (↑n : Int))) * 2)
                                                                                                                (n - Int.toNat (imax 0 (imin k (↑n : Int)))))
                                                                                                              t)
                                                                                                            e0)
                                                                                                          (totT t) ==
                                                                                                        0 ||
                                                                                                    Int.tmod
                                                                                                        (IntKind.wrap IntKind.i64
                                                                                                          (IntKind.wrap IntKind.i64
                                                                                                              (suN
                                                                                                                  (vlsA c (bif Nat.beq cap 0 then 0 else 0 + 0 * 2)
                                                                                                                    (Int.toNat (imax 0 (imin k (↑n : Int))) - 0))
                                                                                                                  t +
                                                                                                                suN
                                                                                                                  (vlsA c
                                                                                                                    (bif Nat.beq cap (Int.toNat (imax 0 (imin k (↑n : Int)))) then 0
                                                                                                                    else 0 + Int.toNat (imax 0 (imin k (↑n : Int))) * 2)
                                                                                                                    (n - Int.toNat (imax 0 (imin k (↑n : Int)))))
                                                                                                                  t) -
                                                                                                            suN (vlsA c 0 n) t))
                                                                                                        (pw (base (Ty.k t)) (most (Ty.k t))) !=
                                                                                                      0))) then
                                                                                          R (Value.bool false)
                                                                                        else
                                                                                          bif vlsOK c 0 n && decide (n ≤ 1000) then
                                                                                            bif !Prod.fst (addGo (totT t) t (vlsA c 0 n) 0 0) || (suC (vlsA c 0 n) t == 0 || true) then
                                                                                              R
                                                                                                (Value.bool
                                                                                                  (!Prod.fst (addGo (totT t) t (vlsA c 0 n) 0 0) ||
                                                                                                    suC (vlsA c 0 n) t == 0 &&
                                                                                                      ((if Prod.fst (addGo (totT t) t (vlsA c 0 n) 0 0) = true then
                                                                                                            Prod.fst (Prod.snd (addGo (totT t) t (vlsA c 0 n) 0 0))
                                                                                                          else 0) ==
                                                                                                          suN (vlsA c 0 n) t &&
                                                                                                        (ByteArray.toList e0 == ByteArray.toList e0 && true))))
                                                                                            else False
                                                                                          else False
                                                                                      else False
                                                                                    else False
                                                                                  else False
                                                                                else False
                                                                              else False
                                                                          else False
                                                                        else False
                                                                      else False
                                                              else False
                                                            else
                                                              ∀ (cap_2 : Nat) (tail : List Value),
                                                                tailOK tail cap_2 (n - Int.toNat (imax 0 (imin k (↑n : Int)))) 2 = true →
                                                                  bif
                                                                      Nat.beq
                                                                                (List.length
                                                                                  (List.take ((n - Int.toNat (imax 0 (imin k (↑n : Int)))) * 2)
                                                                                      (List.drop
                                                                                        (bif Nat.beq cap (Int.toNat (imax 0 (imin k (↑n : Int)))) then 0
                                                                                        else 0 + Int.toNat (imax 0 (imin k (↑n : Int))) * 2)
                                                                                        c) ++
                                                                                    tail))
                                                                                (cap_2 * 2) &&
                                                                              Nat.ble (n - Int.toNat (imax 0 (imin k (↑n : Int)))) cap_2 &&
                                                                            Nat.ble cap_2 9223372036854775807 &&
                                                                          (Nat.ble ((bif Nat.beq cap 0 then 0 else 0 + 0 * 2) + (Int.toNat (imax 0 (imin k (↑n : Int))) - 0) * 2)
                                                                              (List.length c) &&
                                                                            List.all
                                                                              (List.take ((Int.toNat (imax 0 (imin k (↑n : Int))) - 0) * 2)
                                                                                (List.drop (bif Nat.beq cap 0 then 0 else 0 + 0 * 2) c))
                                                                              cellOk) &&
                                                                        fitsA (n - Int.toNat (imax 0 (imin k (↑n : Int))) + (Int.toNat (imax 0 (imin k (↑n : Int))) - 0)) 24 then
                                                                    ∀ (cap_3 : Nat) (tail_1 : List Value),
                                                                      tailOK tail_1 cap_3 (n - Int.toNat (imax 0 (imin k (↑n : Int))) + (Int.toNat (imax 0 (imin k (↑n : Int))) - 0))
                                                                            2 =
                                                                          true →
                                                                        bif vlsOK d' 0 (0 + n) && decide (0 + n ≤ 1000) then
                                                                          bif
                                                                              vlsOK
                                                                                  (List.take ((n - Int.toNat (imax 0 (imin k (↑n : Int)))) * 2)
                                                                                        (List.take ((n - Int.toNat (imax 0 (imin k (↑n : Int)))) * 2)
                                                                                            (List.drop
                                                                                              (bif Nat.beq cap (Int.toNat (imax 0 (imin k (↑n : Int)))) then 0
                                                                                              else 0 + Int.toNat (imax 0 (imin k (↑n : Int))) * 2)
                                                                                              c) ++
                                                                                          tail) ++
                                                                                      List.take ((Int.toNat (imax 0 (imin k (↑n : Int))) - 0) * 2)
                                                                                        (List.drop (bif Nat.beq cap 0 then 0 else 0 + 0 * 2) c) ++
                                                                                    tail_1)
                                                                                  0 (n - Int.toNat (imax 0 (imin k (↑n : Int))) + (Int.toNat (imax 0 (imin k (↑n : Int))) - 0)) &&
                                                                                decide
                                                                                  (n - Int.toNat (imax 0 (imin k (↑n : Int))) + (Int.toNat (imax 0 (imin k (↑n : Int))) - 0) ≤
                                                                                    1000) then
                                                                            bif
                                                                                suE (vlsA d' 0 (0 + n)) t != 0 ||
                                                                                  (suE
                                                                                        (vlsA
                                                                                          (List.take ((n - Int.toNat (imax 0 (imin k (↑n : Int)))) * 2)
                                                                                                (List.take ((n - Int.toNat (imax 0 (imin k (↑n : Int)))) * 2)
                                                                                                    (List.drop
                                                                                                      (bif Nat.beq cap (Int.toNat (imax 0 (imin k (↑n : Int)))) then 0
                                                                                                      else 0 + Int.toNat (imax 0 (imin k (↑n : Int))) * 2)
                                                                                                      c) ++
                                                                                                  tail) ++
                                                                                              List.take ((Int.toNat (imax 0 (imin k (↑n : Int))) - 0) * 2)
                                                                                                (List.drop (bif Nat.beq cap 0 then 0 else 0 + 0 * 2) c) ++
                                                                                            tail_1)
                                                                                          0 (n - Int.toNat (imax 0 (imin k (↑n : Int))) + (Int.toNat (imax 0 (imin k (↑n : Int))) - 0)))
                                                                                        t !=
                                                                                      0 ||
                                                                                    (!(suN (vlsA d' 0 (0 + n)) t == suN (vlsA c 0 n) t &&
                                                                                          (ByteArray.toList e0 == ByteArray.toList e0 && true)) ||
                                                                                      (!(suN
                                                                                                (vlsA
                                                                                                  (List.take ((n - Int.toNat (imax 0 (imin k (↑n : Int)))) * 2)
                                                                                                        (List.take ((n - Int.toNat (imax 0 (imin k (↑n : Int)))) * 2)
                                                                                                            (List.drop
                                                                                                              (bif Nat.beq cap (Int.toNat (imax 0 (imin k (↑n : Int)))) then 0
                                                                                                              else 0 + Int.toNat (imax 0 (imin k (↑n : Int))) * 2)
                                                                                                              c) ++
                                                                                                          tail) ++
                                                                                                      List.take ((Int.toNat (imax 0 (imin k (↑n : Int))) - 0) * 2)
                                                                                                        (List.drop (bif Nat.beq cap 0 then 0 else 0 + 0 * 2) c) ++
                                                                                                    tail_1)
                                                                                                  0
                                                                                                  (n - Int.toNat (imax 0 (imin k (↑n : Int))) +
                                                                                                    (Int.toNat (imax 0 (imin k (↑n : Int))) - 0)))
                                                                                                t ==
                                                                                              suN (vlsA c 0 n) t &&
                                                                                            (ByteArray.toList e0 == ByteArray.toList e0 && true)) ||
                                                                                        (suC (vlsA d' 0 (0 + n)) t != suC (vlsA c 0 n) t || true)))) then
                                                                              bif
                                                                                  suE (vlsA d' 0 (0 + n)) t != 0 ||
                                                                                    (suE
                                                                                          (vlsA
                                                                                            (List.take ((n - Int.toNat (imax 0 (imin k (↑n : Int)))) * 2)
                                                                                                  (List.take ((n - Int.toNat (imax 0 (imin k (↑n : Int)))) * 2)
                                                                                                      (List.drop
                                                                                                        (bif Nat.beq cap (Int.toNat (imax 0 (imin k (↑n : Int)))) then 0
                                                                                                        else 0 + Int.toNat (imax 0 (imin k (↑n : Int))) * 2)
                                                                                                        c) ++
                                                                                                    tail) ++
                                                                                                List.take ((Int.toNat (imax 0 (imin k (↑n : Int))) - 0) * 2)
                                                                                                  (List.drop (bif Nat.beq cap 0 then 0 else 0 + 0 * 2) c) ++
                                                                                              tail_1)
                                                                                            0
                                                                                            (n - Int.toNat (imax 0 (imin k (↑n : Int))) + (Int.toNat (imax 0 (imin k (↑n : Int))) - 0)))
                                                                                          t !=
                                                                                        0 ||
                                                                                      (!(suN (vlsA d' 0 (0 + n)) t == suN (vlsA c 0 n) t &&
                                                                                            (ByteArray.toList e0 == ByteArray.toList e0 && true)) ||
                                                                                        (!(suN
                                                                                                  (vlsA
                                                                                                    (List.take ((n - Int.toNat (imax 0 (imin k (↑n : Int)))) * 2)
                                                                                                          (List.take ((n - Int.toNat (imax 0 (imin k (↑n : Int)))) * 2)
                                                                                                              (List.drop
                                                                                                                (bif Nat.beq cap (Int.toNat (imax 0 (imin k (↑n : Int)))) then 0
                                                                                                                else 0 + Int.toNat (imax 0 (imin k (↑n : Int))) * 2)
                                                                                                                c) ++
                                                                                                            tail) ++
                                                                                                        List.take ((Int.toNat (imax 0 (imin k (↑n : Int))) - 0) * 2)
                                                                                                          (List.drop (bif Nat.beq cap 0 then 0 else 0 + 0 * 2) c) ++
                                                                                                      tail_1)
                                                                                                    0
                                                                                                    (n - Int.toNat (imax 0 (imin k (↑n : Int))) +
                                                                                                      (Int.toNat (imax 0 (imin k (↑n : Int))) - 0)))
                                                                                                  t ==
                                                                                                suN (vlsA c 0 n) t &&
                                                                                              (ByteArray.toList e0 == ByteArray.toList e0 && true)) ||
                                                                                          (suC (vlsA d' 0 (0 + n)) t != suC (vlsA c 0 n) t ||
                                                                                            suC
                                                                                                (vlsA
                                                                                                  (List.take ((n - Int.toNat (imax 0 (imin k (↑n : Int)))) * 2)
                                                                                                        (List.take ((n - Int.toNat (imax 0 (imin k (↑n : Int)))) * 2)
                                                                                                            (List.drop
                                                                                                              (bif Nat.beq cap (Int.toNat (imax 0 (imin k (↑n : Int)))) then 0
                                                                                                              else 0 + Int.toNat (imax 0 (imin k (↑n : Int))) * 2)
                                                                                                              c) ++
                                                                                                          tail) ++
                                                                                                      List.take ((Int.toNat (imax 0 (imin k (↑n : Int))) - 0) * 2)
                                                                                                        (List.drop (bif Nat.beq cap 0 then 0 else 0 + 0 * 2) c) ++
                                                                                                    tail_1)
                                                                                                  0
                                                                                                  (n - Int.toNat (imax 0 (imin k (↑n : Int))) +
                                                                                                    (Int.toNat (imax 0 (imin k (↑n : Int))) - 0)))
                                                                                                t !=
                                                                                              suC (vlsA c 0 n) t)))) then
                                                                                R (Value.bool false)
                                                                              else
                                                                                bif decide ((0 : Int) ≤ 0 ∧ 0 ≤ imax 0 (imin k (↑n : Int)) ∧ imax 0 (imin k (↑n : Int)) ≤ (↑cap : Int)) then
                                                                                  bif
                                                                                      vlsOK c (bif Nat.beq cap 0 then 0 else 0 + 0 * 2) (Int.toNat (imax 0 (imin k (↑n : Int))) - 0) &&
                                                                                        decide (Int.toNat (imax 0 (imin k (↑n : Int))) - 0 ≤ 1000) then
                                                                                    bif
                                                                                        decide
                                                                                          (0 ≤ imax 0 (imin k (↑n : Int)) ∧
                                                                                            imax 0 (imin k (↑n : Int)) ≤ (↑n : Int) ∧ (↑n : Int) ≤ (↑cap : Int)) then
                                                                                      bif
                                                                                          vlsOK c
                                                                                              (bif Nat.beq cap (Int.toNat (imax 0 (imin k (↑n : Int)))) then 0
                                                                                              else 0 + Int.toNat (imax 0 (imin k (↑n : Int))) * 2)
                                                                                              (n - Int.toNat (imax 0 (imin k (↑n : Int)))) &&
                                                                                            decide (n - Int.toNat (imax 0 (imin k (↑n : Int))) ≤ 1000) then
                                                                                        bif
                                                                                            suE
                                                                                                  (vlsA c (bif Nat.beq cap 0 then 0 else 0 + 0 * 2)
                                                                                                    (Int.toNat (imax 0 (imin k (↑n : Int))) - 0))
                                                                                                  t !=
                                                                                                0 ||
                                                                                              (suE
                                                                                                    (vlsA c
                                                                                                      (bif Nat.beq cap (Int.toNat (imax 0 (imin k (↑n : Int)))) then 0
                                                                                                      else 0 + Int.toNat (imax 0 (imin k (↑n : Int))) * 2)
                                                                                                      (n - Int.toNat (imax 0 (imin k (↑n : Int)))))
                                                                                                    t !=
                                                                                                  0 ||
                                                                                                (!fits
                                                                                                        (Vl.mk
                                                                                                          (suN
                                                                                                            (vlsA c (bif Nat.beq cap 0 then 0 else 0 + 0 * 2)
                                                                                                              (Int.toNat (imax 0 (imin k (↑n : Int))) - 0))
                                                                                                            t)
                                                                                                          e0)
                                                                                                        (totT t) ==
                                                                                                      0 ||
                                                                                                  (!fits
                                                                                                          (Vl.mk
                                                                                                            (suN
                                                                                                              (vlsA c
                                                                                                                (bif Nat.beq cap (Int.toNat (imax 0 (imin k (↑n : Int)))) then 0
                                                                                                                else 0 + Int.toNat (imax 0 (imin k (↑n : Int))) * 2)
                                                                                                                (n - Int.toNat (imax 0 (imin k (↑n : Int)))))
                                                                                                              t)
                                                                                                            e0)
                                                                                                          (totT t) ==
                                                                                                        0 ||
                                                                                                    decide (most (Ty.k t) ≤ Ty.p t ∧ Valid t ∨ most (Ty.k t) = most (Ty.k t)) &&
                                                                                                      (decide (pw (base (Ty.k t)) (most (Ty.k t)) ≠ 0) && true)))) then
                                                                                          bif
                                                                                              suE
                                                                                                    (vlsA c (bif Nat.beq cap 0 then 0 else 0 + 0 * 2)
                                                                                                      (Int.toNat (imax 0 (imin k (↑n : Int))) - 0))
                                                                                                    t !=
                                                                                                  0 ||
                                                                                                (suE
                                                                                                      (vlsA c
                                                                                                        (bif Nat.beq cap (Int.toNat (imax 0 (imin k (↑n : Int)))) then 0
                                                                                                        else 0 + Int.toNat (imax 0 (imin k (↑n : Int))) * 2)
                                                                                                        (n - Int.toNat (imax 0 (imin k (↑n : Int)))))
                                                                                                      t !=
                                                                                                    0 ||
                                                                                                  (!fits
                                                                                                          (Vl.mk
                                                                                                            (suN
                                                                                                              (vlsA c (bif Nat.beq cap 0 then 0 else 0 + 0 * 2)
                                                                                                                (Int.toNat (imax 0 (imin k (↑n : Int))) - 0))
                                                                                                              t)
                                                                                                            e0)
                                                                                                          (totT t) ==
                                                                                                        0 ||
                                                                                                    (!fits
                                                                                                            (Vl.mk
                                                                                                              (suN
                                                                                                                (vlsA c
                                                                                                                  (bif Nat.beq cap (Int.toNat (imax 0 (imin k (↑n : Int)))) then 0
                                                                                                                  else 0 + Int.toNat (imax 0 (imin k (↑n : Int))) * 2)
                                                                                                                  (n - Int.toNat (imax 0 (imin k (↑n : Int)))))
                                                                                                                t)
                                                                                                              e0)
                                                                                                            (totT t) ==
                                                                                                          0 ||
                                                                                                      Int.tmod
                                                                                                          (IntKind.wrap IntKind.i64
                                                                                                            (IntKind.wrap IntKind.i64
                                                                                                                (suN
                                                                                                                    (vlsA c (bif Nat.beq cap 0 then 0 else 0 + 0 * 2)
                                                                                                                      (Int.toNat (imax 0 (imin k (↑n : Int))) - 0))
                                                                                                                    t +
                                                                                                                  suN
                                                                                                                    (vlsA c
                                                                                                                      (bif Nat.beq cap (Int.toNat (imax 0 (imin k (↑n : Int)))) then 0
                                                                                                                      else 0 + Int.toNat (imax 0 (imin k (↑n : Int))) * 2)
                                                                                                                      (n - Int.toNat (imax 0 (imin k (↑n : Int)))))
                                                                                                                    t) -
                                                                                                              suN (vlsA c 0 n) t))
                                                                                                          (pw (base (Ty.k t)) (most (Ty.k t))) !=
                                                                                                        0))) then
                                                                                            R (Value.bool false)
                                                                                          else
                                                                                            bif vlsOK c 0 n && decide (n ≤ 1000) then
                                                                                              bif
                                                                                                  !Prod.fst (addGo (totT t) t (vlsA c 0 n) 0 0) ||
                                                                                                    (suC (vlsA c 0 n) t == 0 || true) then
                                                                                                R
                                                                                                  (Value.bool
                                                                                                    (!Prod.fst (addGo (totT t) t (vlsA c 0 n) 0 0) ||
                                                                                                      suC (vlsA c 0 n) t == 0 &&
                                                                                                        ((if Prod.fst (addGo (totT t) t (vlsA c 0 n) 0 0) = true then
                                                                                                              Prod.fst (Prod.snd (addGo (totT t) t (vlsA c 0 n) 0 0))
                                                                                                            else 0) ==
                                                                                                            suN (vlsA c 0 n) t &&
                                                                                                          (ByteArray.toList e0 == ByteArray.toList e0 && true))))
                                                                                              else False
                                                                                            else False
                                                                                        else False
                                                                                      else False
                                                                                    else False
                                                                                  else False
                                                                                else False
                                                                            else False
                                                                          else False
                                                                        else False
                                                                  else False
                                                          else False
                                                        else
                                                          ∀ (cap_2 : Nat) (tail : List Value),
                                                            tailOK tail cap_2
                                                                  (Int.toNat
                                                                    (IntKind.wrap IntKind.i64
                                                                      (IntKind.wrap IntKind.i64
                                                                          (IntKind.wrap IntKind.i64 (0 + (↑(n - Int.toNat (imax 0 (imin k (↑n : Int)))) : Int)) +
                                                                            (↑(Int.toNat (imax 0 (imin k (↑n : Int))) - 0) : Int)) -
                                                                        IntKind.wrap IntKind.i64 (0 - 0))))
                                                                  2 =
                                                                true →
                                                              bif
                                                                  Nat.beq (bif Nat.beq cap_2 0 then 0 else 0 + 0 * 2) 0 &&
                                                                            Nat.beq
                                                                              (List.length
                                                                                (zrow (Value.agg (Array.mk [Value.int IntKind.i64 0, Value.string (ByteArray.mk #[])]))
                                                                                    (Int.toNat
                                                                                      (IntKind.wrap IntKind.i64
                                                                                        (IntKind.wrap IntKind.i64
                                                                                            (IntKind.wrap IntKind.i64 (0 + (↑(n - Int.toNat (imax 0 (imin k (↑n : Int)))) : Int)) +
                                                                                              (↑(Int.toNat (imax 0 (imin k (↑n : Int))) - 0) : Int)) -
                                                                                          IntKind.wrap IntKind.i64 (0 - 0)))) ++
                                                                                  tail))
                                                                              ((cap_2 - 0) * 2) &&
                                                                          true &&
                                                                        Nat.ble (cap_2 - 0) 9223372036854775807 &&
                                                                      (Nat.ble
                                                                          ((bif Nat.beq cap (Int.toNat (imax 0 (imin k (↑n : Int)))) then 0
                                                                            else 0 + Int.toNat (imax 0 (imin k (↑n : Int))) * 2) +
                                                                            (n - Int.toNat (imax 0 (imin k (↑n : Int)))) * 2)
                                                                          (List.length c) &&
                                                                        List.all
                                                                          (List.take ((n - Int.toNat (imax 0 (imin k (↑n : Int)))) * 2)
                                                                            (List.drop
                                                                              (bif Nat.beq cap (Int.toNat (imax 0 (imin k (↑n : Int)))) then 0
                                                                              else 0 + Int.toNat (imax 0 (imin k (↑n : Int))) * 2)
                                                                              c))
                                                                          cellOk) &&
                                                                    fitsA (Int.toNat 0 - 0 + (n - Int.toNat (imax 0 (imin k (↑n : Int))))) 24 then
                                                                ∀ (cap_3 : Nat) (tail : List Value),
                                                                  tailOK tail cap_3 (Int.toNat 0 - 0 + (n - Int.toNat (imax 0 (imin k (↑n : Int))))) 2 = true →
                                                                    bif
                                                                        Nat.beq
                                                                                  (List.length
                                                                                    (List.take ((n - Int.toNat (imax 0 (imin k (↑n : Int)))) * 2)
                                                                                        (List.drop
                                                                                          (bif Nat.beq cap (Int.toNat (imax 0 (imin k (↑n : Int)))) then 0
                                                                                          else 0 + Int.toNat (imax 0 (imin k (↑n : Int))) * 2)
                                                                                          c) ++
                                                                                      tail))
                                                                                  (cap_3 * 2) &&
                                                                                Nat.ble (Int.toNat 0 - 0 + (n - Int.toNat (imax 0 (imin k (↑n : Int))))) cap_3 &&
                                                                              Nat.ble cap_3 9223372036854775807 &&
                                                                            (Nat.ble ((bif Nat.beq cap 0 then 0 else 0 + 0 * 2) + (Int.toNat (imax 0 (imin k (↑n : Int))) - 0) * 2)
                                                                                (List.length c) &&
                                                                              List.all
                                                                                (List.take ((Int.toNat (imax 0 (imin k (↑n : Int))) - 0) * 2)
                                                                                  (List.drop (bif Nat.beq cap 0 then 0 else 0 + 0 * 2) c))
                                                                                cellOk) &&
                                                                          fitsA
                                                                            (Int.toNat 0 - 0 + (n - Int.toNat (imax 0 (imin k (↑n : Int)))) +
                                                                              (Int.toNat (imax 0 (imin k (↑n : Int))) - 0))
                                                                            24 then
                                                                      ∀ (cap_4 : Nat) (tail_1 : List Value),
                                                                        tailOK tail_1 cap_4
                                                                              (Int.toNat 0 - 0 + (n - Int.toNat (imax 0 (imin k (↑n : Int)))) +
                                                                                (Int.toNat (imax 0 (imin k (↑n : Int))) - 0))
                                                                              2 =
                                                                            true →
                                                                          bif vlsOK d' 0 (0 + n) && decide (0 + n ≤ 1000) then
                                                                            bif
                                                                                vlsOK
                                                                                    (List.take ((Int.toNat 0 - 0 + (n - Int.toNat (imax 0 (imin k (↑n : Int))))) * 2)
                                                                                          (List.take ((n - Int.toNat (imax 0 (imin k (↑n : Int)))) * 2)
                                                                                              (List.drop
                                                                                                (bif Nat.beq cap (Int.toNat (imax 0 (imin k (↑n : Int)))) then 0
                                                                                                else 0 + Int.toNat (imax 0 (imin k (↑n : Int))) * 2)
                                                                                                c) ++
                                                                                            tail) ++
                                                                                        List.take ((Int.toNat (imax 0 (imin k (↑n : Int))) - 0) * 2)
                                                                                          (List.drop (bif Nat.beq cap 0 then 0 else 0 + 0 * 2) c) ++
                                                                                      tail_1)
                                                                                    0
                                                                                    (Int.toNat 0 - 0 + (n - Int.toNat (imax 0 (imin k (↑n : Int)))) +
                                                                                      (Int.toNat (imax 0 (imin k (↑n : Int))) - 0)) &&
                                                                                  decide
                                                                                    (Int.toNat 0 - 0 + (n - Int.toNat (imax 0 (imin k (↑n : Int)))) +
                                                                                        (Int.toNat (imax 0 (imin k (↑n : Int))) - 0) ≤
                                                                                      1000) then
                                                                              bif
                                                                                  suE (vlsA d' 0 (0 + n)) t != 0 ||
                                                                                    (suE
                                                                                          (vlsA
                                                                                            (List.take ((Int.toNat 0 - 0 + (n - Int.toNat (imax 0 (imin k (↑n : Int))))) * 2)
                                                                                                  (List.take ((n - Int.toNat (imax 0 (imin k (↑n : Int)))) * 2)
                                                                                                      (List.drop
                                                                                                        (bif Nat.beq cap (Int.toNat (imax 0 (imin k (↑n : Int)))) then 0
                                                                                                        else 0 + Int.toNat (imax 0 (imin k (↑n : Int))) * 2)
                                                                                                        c) ++
                                                                                                    tail) ++
                                                                                                List.take ((Int.toNat (imax 0 (imin k (↑n : Int))) - 0) * 2)
                                                                                                  (List.drop (bif Nat.beq cap 0 then 0 else 0 + 0 * 2) c) ++
                                                                                              tail_1)
                                                                                            0
                                                                                            (Int.toNat 0 - 0 + (n - Int.toNat (imax 0 (imin k (↑n : Int)))) +
                                                                                              (Int.toNat (imax 0 (imin k (↑n : Int))) - 0)))
                                                                                          t !=
                                                                                        0 ||
                                                                                      (!(suN (vlsA d' 0 (0 + n)) t == suN (vlsA c 0 n) t &&
                                                                                            (ByteArray.toList e0 == ByteArray.toList e0 && true)) ||
                                                                                        (!(suN
                                                                                                  (vlsA
                                                                                                    (List.take ((Int.toNat 0 - 0 + (n - Int.toNat (imax 0 (imin k (↑n : Int))))) * 2)
                                                                                                          (List.take ((n - Int.toNat (imax 0 (imin k (↑n : Int)))) * 2)
                                                                                                              (List.drop
                                                                                                                (bif Nat.beq cap (Int.toNat (imax 0 (imin k (↑n : Int)))) then 0
                                                                                                                else 0 + Int.toNat (imax 0 (imin k (↑n : Int))) * 2)
                                                                                                                c) ++
                                                                                                            tail) ++
                                                                                                        List.take ((Int.toNat (imax 0 (imin k (↑n : Int))) - 0) * 2)
                                                                                                          (List.drop (bif Nat.beq cap 0 then 0 else 0 + 0 * 2) c) ++
                                                                                                      tail_1)
                                                                                                    0
                                                                                                    (Int.toNat 0 - 0 + (n - Int.toNat (imax 0 (imin k (↑n : Int)))) +
                                                                                                      (Int.toNat (imax 0 (imin k (↑n : Int))) - 0)))
                                                                                                  t ==
                                                                                                suN (vlsA c 0 n) t &&
                                                                                              (ByteArray.toList e0 == ByteArray.toList e0 && true)) ||
                                                                                          (suC (vlsA d' 0 (0 + n)) t != suC (vlsA c 0 n) t || true)))) then
                                                                                bif
                                                                                    suE (vlsA d' 0 (0 + n)) t != 0 ||
                                                                                      (suE
                                                                                            (vlsA
                                                                                              (List.take ((Int.toNat 0 - 0 + (n - Int.toNat (imax 0 (imin k (↑n : Int))))) * 2)
                                                                                                    (List.take ((n - Int.toNat (imax 0 (imin k (↑n : Int)))) * 2)
                                                                                                        (List.drop
                                                                                                          (bif Nat.beq cap (Int.toNat (imax 0 (imin k (↑n : Int)))) then 0
                                                                                                          else 0 + Int.toNat (imax 0 (imin k (↑n : Int))) * 2)
                                                                                                          c) ++
                                                                                                      tail) ++
                                                                                                  List.take ((Int.toNat (imax 0 (imin k (↑n : Int))) - 0) * 2)
                                                                                                    (List.drop (bif Nat.beq cap 0 then 0 else 0 + 0 * 2) c) ++
                                                                                                tail_1)
                                                                                              0
                                                                                              (Int.toNat 0 - 0 + (n - Int.toNat (imax 0 (imin k (↑n : Int)))) +
                                                                                                (Int.toNat (imax 0 (imin k (↑n : Int))) - 0)))
                                                                                            t !=
                                                                                          0 ||
                                                                                        (!(suN (vlsA d' 0 (0 + n)) t == suN (vlsA c 0 n) t &&
                                                                                              (ByteArray.toList e0 == ByteArray.toList e0 && true)) ||
                                                                                          (!(suN
                                                                                                    (vlsA
                                                                                                      (List.take ((Int.toNat 0 - 0 + (n - Int.toNat (imax 0 (imin k (↑n : Int))))) * 2)
                                                                                                            (List.take ((n - Int.toNat (imax 0 (imin k (↑n : Int)))) * 2)
                                                                                                                (List.drop
                                                                                                                  (bif Nat.beq cap (Int.toNat (imax 0 (imin k (↑n : Int)))) then 0
                                                                                                                  else 0 + Int.toNat (imax 0 (imin k (↑n : Int))) * 2)
                                                                                                                  c) ++
                                                                                                              tail) ++
                                                                                                          List.take ((Int.toNat (imax 0 (imin k (↑n : Int))) - 0) * 2)
                                                                                                            (List.drop (bif Nat.beq cap 0 then 0 else 0 + 0 * 2) c) ++
                                                                                                        tail_1)
                                                                                                      0
                                                                                                      (Int.toNat 0 - 0 + (n - Int.toNat (imax 0 (imin k (↑n : Int)))) +
                                                                                                        (Int.toNat (imax 0 (imin k (↑n : Int))) - 0)))
                                                                                                    t ==
                                                                                                  suN (vlsA c 0 n) t &&
                                                                                                (ByteArray.toList e0 == ByteArray.toList e0 && true)) ||
                                                                                            (suC (vlsA d' 0 (0 + n)) t != suC (vlsA c 0 n) t ||
                                                                                              suC
                                                                                                  (vlsA
                                                                                                    (List.take ((Int.toNat 0 - 0 + (n - Int.toNat (imax 0 (imin k (↑n : Int))))) * 2)
                                                                                                          (List.take ((n - Int.toNat (imax 0 (imin k (↑n : Int)))) * 2)
                                                                                                              (List.drop
                                                                                                                (bif Nat.beq cap (Int.toNat (imax 0 (imin k (↑n : Int)))) then 0
                                                                                                                else 0 + Int.toNat (imax 0 (imin k (↑n : Int))) * 2)
                                                                                                                c) ++
                                                                                                            tail) ++
                                                                                                        List.take ((Int.toNat (imax 0 (imin k (↑n : Int))) - 0) * 2)
                                                                                                          (List.drop (bif Nat.beq cap 0 then 0 else 0 + 0 * 2) c) ++
                                                                                                      tail_1)
                                                                                                    0
                                                                                                    (Int.toNat 0 - 0 + (n - Int.toNat (imax 0 (imin k (↑n : Int)))) +
                                                                                                      (Int.toNat (imax 0 (imin k (↑n : Int))) - 0)))
                                                                                                  t !=
                                                                                                suC (vlsA c 0 n) t)))) then
                                                                                  R (Value.bool false)
                                                                                else
                                                                                  bif decide ((0 : Int) ≤ 0 ∧ 0 ≤ imax 0 (imin k (↑n : Int)) ∧ imax 0 (imin k (↑n : Int)) ≤ (↑cap : Int)) then
                                                                                    bif
                                                                                        vlsOK c (bif Nat.beq cap 0 then 0 else 0 + 0 * 2)
                                                                                            (Int.toNat (imax 0 (imin k (↑n : Int))) - 0) &&
                                                                                          decide (Int.toNat (imax 0 (imin k (↑n : Int))) - 0 ≤ 1000) then
                                                                                      bif
                                                                                          decide
                                                                                            (0 ≤ imax 0 (imin k (↑n : Int)) ∧
                                                                                              imax 0 (imin k (↑n : Int)) ≤ (↑n : Int) ∧ (↑n : Int) ≤ (↑cap : Int)) then
                                                                                        bif
                                                                                            vlsOK c
                                                                                                (bif Nat.beq cap (Int.toNat (imax 0 (imin k (↑n : Int)))) then 0
                                                                                                else 0 + Int.toNat (imax 0 (imin k (↑n : Int))) * 2)
                                                                                                (n - Int.toNat (imax 0 (imin k (↑n : Int)))) &&
                                                                                              decide (n - Int.toNat (imax 0 (imin k (↑n : Int))) ≤ 1000) then
                                                                                          bif
                                                                                              suE
                                                                                                    (vlsA c (bif Nat.beq cap 0 then 0 else 0 + 0 * 2)
                                                                                                      (Int.toNat (imax 0 (imin k (↑n : Int))) - 0))
                                                                                                    t !=
                                                                                                  0 ||
                                                                                                (suE
                                                                                                      (vlsA c
                                                                                                        (bif Nat.beq cap (Int.toNat (imax 0 (imin k (↑n : Int)))) then 0
                                                                                                        else 0 + Int.toNat (imax 0 (imin k (↑n : Int))) * 2)
                                                                                                        (n - Int.toNat (imax 0 (imin k (↑n : Int)))))
                                                                                                      t !=
                                                                                                    0 ||
                                                                                                  (!fits
                                                                                                          (Vl.mk
                                                                                                            (suN
                                                                                                              (vlsA c (bif Nat.beq cap 0 then 0 else 0 + 0 * 2)
                                                                                                                (Int.toNat (imax 0 (imin k (↑n : Int))) - 0))
                                                                                                              t)
                                                                                                            e0)
                                                                                                          (totT t) ==
                                                                                                        0 ||
                                                                                                    (!fits
                                                                                                            (Vl.mk
                                                                                                              (suN
                                                                                                                (vlsA c
                                                                                                                  (bif Nat.beq cap (Int.toNat (imax 0 (imin k (↑n : Int)))) then 0
                                                                                                                  else 0 + Int.toNat (imax 0 (imin k (↑n : Int))) * 2)
                                                                                                                  (n - Int.toNat (imax 0 (imin k (↑n : Int)))))
                                                                                                                t)
                                                                                                              e0)
                                                                                                            (totT t) ==
                                                                                                          0 ||
                                                                                                      decide (most (Ty.k t) ≤ Ty.p t ∧ Valid t ∨ most (Ty.k t) = most (Ty.k t)) &&
                                                                                                        (decide (pw (base (Ty.k t)) (most (Ty.k t)) ≠ 0) && true)))) then
                                                                                            bif
                                                                                                suE
                                                                                                      (vlsA c (bif Nat.beq cap 0 then 0 else 0 + 0 * 2)
                                                                                                        (Int.toNat (imax 0 (imin k (↑n : Int))) - 0))
                                                                                                      t !=
                                                                                                    0 ||
                                                                                                  (suE
                                                                                                        (vlsA c
                                                                                                          (bif Nat.beq cap (Int.toNat (imax 0 (imin k (↑n : Int)))) then 0
                                                                                                          else 0 + Int.toNat (imax 0 (imin k (↑n : Int))) * 2)
                                                                                                          (n - Int.toNat (imax 0 (imin k (↑n : Int)))))
                                                                                                        t !=
                                                                                                      0 ||
                                                                                                    (!fits
                                                                                                            (Vl.mk
                                                                                                              (suN
                                                                                                                (vlsA c (bif Nat.beq cap 0 then 0 else 0 + 0 * 2)
                                                                                                                  (Int.toNat (imax 0 (imin k (↑n : Int))) - 0))
                                                                                                                t)
                                                                                                              e0)
                                                                                                            (totT t) ==
                                                                                                          0 ||
                                                                                                      (!fits
                                                                                                              (Vl.mk
                                                                                                                (suN
                                                                                                                  (vlsA c
                                                                                                                    (bif Nat.beq cap (Int.toNat (imax 0 (imin k (↑n : Int)))) then 0
                                                                                                                    else 0 + Int.toNat (imax 0 (imin k (↑n : Int))) * 2)
                                                                                                                    (n - Int.toNat (imax 0 (imin k (↑n : Int)))))
                                                                                                                  t)
                                                                                                                e0)
                                                                                                              (totT t) ==
                                                                                                            0 ||
                                                                                                        Int.tmod
                                                                                                            (IntKind.wrap IntKind.i64
                                                                                                              (IntKind.wrap IntKind.i64
                                                                                                                  (suN
                                                                                                                      (vlsA c (bif Nat.beq cap 0 then 0 else 0 + 0 * 2)
                                                                                                                        (Int.toNat (imax 0 (imin k (↑n : Int))) - 0))
                                                                                                                      t +
                                                                                                                    suN
                                                                                                                      (vlsA c
                                                                                                                        (bif Nat.beq cap (Int.toNat (imax 0 (imin k (↑n : Int)))) then 0
                                                                                                                        else 0 + Int.toNat (imax 0 (imin k (↑n : Int))) * 2)
                                                                                                                        (n - Int.toNat (imax 0 (imin k (↑n : Int)))))
                                                                                                                      t) -
                                                                                                                suN (vlsA c 0 n) t))
                                                                                                            (pw (base (Ty.k t)) (most (Ty.k t))) !=
                                                                                                          0))) then
                                                                                              R (Value.bool false)
                                                                                            else
                                                                                              bif vlsOK c 0 n && decide (n ≤ 1000) then
                                                                                                bif
                                                                                                    !Prod.fst (addGo (totT t) t (vlsA c 0 n) 0 0) ||
                                                                                                      (suC (vlsA c 0 n) t == 0 || true) then
                                                                                                  R
                                                                                                    (Value.bool
                                                                                                      (!Prod.fst (addGo (totT t) t (vlsA c 0 n) 0 0) ||
                                                                                                        suC (vlsA c 0 n) t == 0 &&
                                                                                                          ((if Prod.fst (addGo (totT t) t (vlsA c 0 n) 0 0) = true then
                                                                                                                Prod.fst (Prod.snd (addGo (totT t) t (vlsA c 0 n) 0 0))
                                                                                                              else 0) ==
                                                                                                              suN (vlsA c 0 n) t &&
                                                                                                            (ByteArray.toList e0 == ByteArray.toList e0 && true))))
                                                                                                else False
                                                                                              else False
                                                                                          else False
                                                                                        else False
                                                                                      else False
                                                                                    else False
                                                                                  else False
                                                                              else False
                                                                            else False
                                                                          else False
                                                                    else False
                                                              else False
                                                      else False
                                                    else
                                                      bif
                                                          Nat.ble
                                                                ((bif Nat.beq cap (Int.toNat (imax 0 (imin k (↑n : Int)))) then 0 else 0 + Int.toNat (imax 0 (imin k (↑n : Int))) * 2) +
                                                                  (n - Int.toNat (imax 0 (imin k (↑n : Int)))) * 2)
                                                                (List.length c) &&
                                                              List.all
                                                                (List.take ((n - Int.toNat (imax 0 (imin k (↑n : Int)))) * 2)
                                                                  (List.drop
                                                                    (bif Nat.beq cap (Int.toNat (imax 0 (imin k (↑n : Int)))) then 0
                                                                    else 0 + Int.toNat (imax 0 (imin k (↑n : Int))) * 2)
                                                                    c))
                                                                cellOk &&
                                                            fitsA (n - Int.toNat (imax 0 (imin k (↑n : Int)))) 24 then
                                                        bif Nat.beq (n - Int.toNat (imax 0 (imin k (↑n : Int)))) 0 then
                                                          bif
                                                              Nat.ble ((bif Nat.beq cap 0 then 0 else 0 + 0 * 2) + (Int.toNat (imax 0 (imin k (↑n : Int))) - 0) * 2) (List.length c) &&
                                                                  List.all
                                                                    (List.take ((Int.toNat (imax 0 (imin k (↑n : Int))) - 0) * 2)
                                                                      (List.drop (bif Nat.beq cap 0 then 0 else 0 + 0 * 2) c))
                                                                    cellOk &&
                                                                fitsA (Int.toNat (imax 0 (imin k (↑n : Int))) - 0) 24 then
                                                            bif Nat.beq (Int.toNat (imax 0 (imin k (↑n : Int))) - 0) 0 then
                                                              bif vlsOK d' 0 (0 + n) && decide (0 + n ≤ 1000) then
                                                                bif
                                                                    suE (vlsA d' 0 (0 + n)) t != 0 ||
                                                                      (suE [] t != 0 ||
                                                                        (!(suN (vlsA d' 0 (0 + n)) t == suN (vlsA c 0 n) t && (ByteArray.toList e0 == ByteArray.toList e0 && true)) ||
                                                                          (!(suN [] t == suN (vlsA c 0 n) t && (ByteArray.toList e0 == ByteArray.toList e0 && true)) ||
                                                                            (suC (vlsA d' 0 (0 + n)) t != suC (vlsA c 0 n) t || true)))) then
                                                                  bif
                                                                      suE (vlsA d' 0 (0 + n)) t != 0 ||
                                                                        (suE [] t != 0 ||
                                                                          (!(suN (vlsA d' 0 (0 + n)) t == suN (vlsA c 0 n) t && (ByteArray.toList e0 == ByteArray.toList e0 && true)) ||
                                                                            (!(suN [] t == suN (vlsA c 0 n) t && (ByteArray.toList e0 == ByteArray.toList e0 && true)) ||
                                                                              (suC (vlsA d' 0 (0 + n)) t != suC (vlsA c 0 n) t || suC [] t != suC (vlsA c 0 n) t)))) then
                                                                    R (Value.bool false)
                                                                  else
                                                                    bif decide ((0 : Int) ≤ 0 ∧ 0 ≤ imax 0 (imin k (↑n : Int)) ∧ imax 0 (imin k (↑n : Int)) ≤ (↑cap : Int)) then
                                                                      bif
                                                                          vlsOK c (bif Nat.beq cap 0 then 0 else 0 + 0 * 2) (Int.toNat (imax 0 (imin k (↑n : Int))) - 0) &&
                                                                            decide (Int.toNat (imax 0 (imin k (↑n : Int))) - 0 ≤ 1000) then
                                                                        bif
                                                                            decide
                                                                              (0 ≤ imax 0 (imin k (↑n : Int)) ∧
                                                                                imax 0 (imin k (↑n : Int)) ≤ (↑n : Int) ∧ (↑n : Int) ≤ (↑cap : Int)) then
                                                                          bif
                                                                              vlsOK c
                                                                                  (bif Nat.beq cap (Int.toNat (imax 0 (imin k (↑n : Int)))) then 0
                                                                                  else 0 + Int.toNat (imax 0 (imin k (↑n : Int))) * 2)
                                                                                  (n - Int.toNat (imax 0 (imin k (↑n : Int)))) &&
                                                                                decide (n - Int.toNat (imax 0 (imin k (↑n : Int))) ≤ 1000) then
                                                                            bif
                                                                                suE (vlsA c (bif Nat.beq cap 0 then 0 else 0 + 0 * 2) (Int.toNat (imax 0 (imin k (↑n : Int))) - 0)) t !=
                                                                                    0 ||
                                                                                  (suE
                                                                                        (vlsA c
                                                                                          (bif Nat.beq cap (Int.toNat (imax 0 (imin k (↑n : Int)))) then 0
                                                                                          else 0 + Int.toNat (imax 0 (imin k (↑n : Int))) * 2)
                                                                                          (n - Int.toNat (imax 0 (imin k (↑n : Int)))))
                                                                                        t !=
                                                                                      0 ||
                                                                                    (!fits
                                                                                            (Vl.mk
                                                                                              (suN
                                                                                                (vlsA c (bif Nat.beq cap 0 then 0 else 0 + 0 * 2)
                                                                                                  (Int.toNat (imax 0 (imin k (↑n : Int))) - 0))
                                                                                                t)
                                                                                              e0)
                                                                                            (totT t) ==
                                                                                          0 ||
                                                                                      (!fits
                                                                                              (Vl.mk
                                                                                                (suN
                                                                                                  (vlsA c
                                                                                                    (bif Nat.beq cap (Int.toNat (imax 0 (imin k (↑n : Int)))) then 0
                                                                                                    else 0 + Int.toNat (imax 0 (imin k (↑n : Int))) * 2)
                                                                                                    (n - Int.toNat (imax 0 (imin k (↑n : Int)))))
                                                                                                  t)
                                                                                                e0)
                                                                                              (totT t) ==
                                                                                            0 ||
                                                                                        decide (most (Ty.k t) ≤ Ty.p t ∧ Valid t ∨ most (Ty.k t) = most (Ty.k t)) &&
                                                                                          (decide (pw (base (Ty.k t)) (most (Ty.k t)) ≠ 0) && true)))) then
                                                                              bif
                                                                                  suE (vlsA c (bif Nat.beq cap 0 then 0 else 0 + 0 * 2) (Int.toNat (imax 0 (imin k (↑n : Int))) - 0))
                                                                                        t !=
                                                                                      0 ||
                                                                                    (suE
                                                                                          (vlsA c
                                                                                            (bif Nat.beq cap (Int.toNat (imax 0 (imin k (↑n : Int)))) then 0
                                                                                            else 0 + Int.toNat (imax 0 (imin k (↑n : Int))) * 2)
                                                                                            (n - Int.toNat (imax 0 (imin k (↑n : Int)))))
                                                                                          t !=
                                                                                        0 ||
                                                                                      (!fits
                                                                                              (Vl.mk
                                                                                                (suN
                                                                                                  (vlsA c (bif Nat.beq cap 0 then 0 else 0 + 0 * 2)
                                                                                                    (Int.toNat (imax 0 (imin k (↑n : Int))) - 0))
                                                                                                  t)
                                                                                                e0)
                                                                                              (totT t) ==
                                                                                            0 ||
                                                                                        (!fits
                                                                                                (Vl.mk
                                                                                                  (suN
                                                                                                    (vlsA c
                                                                                                      (bif Nat.beq cap (Int.toNat (imax 0 (imin k (↑n : Int)))) then 0
                                                                                                      else 0 + Int.toNat (imax 0 (imin k (↑n : Int))) * 2)
                                                                                                      (n - Int.toNat (imax 0 (imin k (↑n : Int)))))
                                                                                                    t)
                                                                                                  e0)
                                                                                                (totT t) ==
                                                                                              0 ||
                                                                                          Int.tmod
                                                                                              (IntKind.wrap IntKind.i64
                                                                                                (IntKind.wrap IntKind.i64
                                                                                                    (suN
                                                                                                        (vlsA c (bif Nat.beq cap 0 then 0 else 0 + 0 * 2)
                                                                                                          (Int.toNat (imax 0 (imin k (↑n : Int))) - 0))
                                                                                                        t +
                                                                                                      suN
                                                                                                        (vlsA c
                                                                                                          (bif Nat.beq cap (Int.toNat (imax 0 (imin k (↑n : Int)))) then 0
                                                                                                          else 0 + Int.toNat (imax 0 (imin k (↑n : Int))) * 2)
                                                                                                          (n - Int.toNat (imax 0 (imin k (↑n : Int)))))
                                                                                                        t) -
                                                                                                  suN (vlsA c 0 n) t))
                                                                                              (pw (base (Ty.k t)) (most (Ty.k t))) !=
                                                                                            0))) then
                                                                                R (Value.bool false)
                                                                              else
                                                                                bif vlsOK c 0 n && decide (n ≤ 1000) then
                                                                                  bif !Prod.fst (addGo (totT t) t (vlsA c 0 n) 0 0) || (suC (vlsA c 0 n) t == 0 || true) then
                                                                                    R
                                                                                      (Value.bool
                                                                                        (!Prod.fst (addGo (totT t) t (vlsA c 0 n) 0 0) ||
                                                                                          suC (vlsA c 0 n) t == 0 &&
                                                                                            ((if Prod.fst (addGo (totT t) t (vlsA c 0 n) 0 0) = true then
                                                                                                  Prod.fst (Prod.snd (addGo (totT t) t (vlsA c 0 n) 0 0))
                                                                                                else 0) ==
                                                                                                suN (vlsA c 0 n) t &&
                                                                                              (ByteArray.toList e0 == ByteArray.toList e0 && true))))
                                                                                  else False
                                                                                else False
                                                                            else False
                                                                          else False
                                                                        else False
                                                                      else False
                                                                    else False
                                                                else False
                                                              else False
                                                            else
                                                              ∀ (cap_2 : Nat) (tail : List Value),
                                                                tailOK tail cap_2 (Int.toNat (imax 0 (imin k (↑n : Int))) - 0) 2 = true →
                                                                  bif vlsOK d' 0 (0 + n) && decide (0 + n ≤ 1000) then
                                                                    bif
                                                                        vlsOK
                                                                            (List.take ((Int.toNat (imax 0 (imin k (↑n : Int))) - 0) * 2)
                                                                                (List.drop (bif Nat.beq cap 0 then 0 else 0 + 0 * 2) c) ++
                                                                              tail)
                                                                            0 (Int.toNat (imax 0 (imin k (↑n : Int))) - 0) &&
                                                                          decide (Int.toNat (imax 0 (imin k (↑n : Int))) - 0 ≤ 1000) then
                                                                      bif
                                                                          suE (vlsA d' 0 (0 + n)) t != 0 ||
                                                                            (suE
                                                                                  (vlsA
                                                                                    (List.take ((Int.toNat (imax 0 (imin k (↑n : Int))) - 0) * 2)
                                                                                        (List.drop (bif Nat.beq cap 0 then 0 else 0 + 0 * 2) c) ++
                                                                                      tail)
                                                                                    0 (Int.toNat (imax 0 (imin k (↑n : Int))) - 0))
                                                                                  t !=
                                                                                0 ||
                                                                              (!(suN (vlsA d' 0 (0 + n)) t == suN (vlsA c 0 n) t &&
                                                                                    (ByteArray.toList e0 == ByteArray.toList e0 && true)) ||
                                                                                (!(suN
                                                                                          (vlsA
                                                                                            (List.take ((Int.toNat (imax 0 (imin k (↑n : Int))) - 0) * 2)
                                                                                                (List.drop (bif Nat.beq cap 0 then 0 else 0 + 0 * 2) c) ++
                                                                                              tail)
                                                                                            0 (Int.toNat (imax 0 (imin k (↑n : Int))) - 0))
                                                                                          t ==
                                                                                        suN (vlsA c 0 n) t &&
                                                                                      (ByteArray.toList e0 == ByteArray.toList e0 && true)) ||
                                                                                  (suC (vlsA d' 0 (0 + n)) t != suC (vlsA c 0 n) t || true)))) then
                                                                        bif
                                                                            suE (vlsA d' 0 (0 + n)) t != 0 ||
                                                                              (suE
                                                                                    (vlsA
                                                                                      (List.take ((Int.toNat (imax 0 (imin k (↑n : Int))) - 0) * 2)
                                                                                          (List.drop (bif Nat.beq cap 0 then 0 else 0 + 0 * 2) c) ++
                                                                                        tail)
                                                                                      0 (Int.toNat (imax 0 (imin k (↑n : Int))) - 0))
                                                                                    t !=
                                                                                  0 ||
                                                                                (!(suN (vlsA d' 0 (0 + n)) t == suN (vlsA c 0 n) t &&
                                                                                      (ByteArray.toList e0 == ByteArray.toList e0 && true)) ||
                                                                                  (!(suN
                                                                                            (vlsA
                                                                                              (List.take ((Int.toNat (imax 0 (imin k (↑n : Int))) - 0) * 2)
                                                                                                  (List.drop (bif Nat.beq cap 0 then 0 else 0 + 0 * 2) c) ++
                                                                                                tail)
                                                                                              0 (Int.toNat (imax 0 (imin k (↑n : Int))) - 0))
                                                                                            t ==
                                                                                          suN (vlsA c 0 n) t &&
                                                                                        (ByteArray.toList e0 == ByteArray.toList e0 && true)) ||
                                                                                    (suC (vlsA d' 0 (0 + n)) t != suC (vlsA c 0 n) t ||
                                                                                      suC
                                                                                          (vlsA
                                                                                            (List.take ((Int.toNat (imax 0 (imin k (↑n : Int))) - 0) * 2)
                                                                                                (List.drop (bif Nat.beq cap 0 then 0 else 0 + 0 * 2) c) ++
                                                                                              tail)
                                                                                            0 (Int.toNat (imax 0 (imin k (↑n : Int))) - 0))
                                                                                          t !=
                                                                                        suC (vlsA c 0 n) t)))) then
                                                                          R (Value.bool false)
                                                                        else
                                                                          bif decide ((0 : Int) ≤ 0 ∧ 0 ≤ imax 0 (imin k (↑n : Int)) ∧ imax 0 (imin k (↑n : Int)) ≤ (↑cap : Int)) then
                                                                            bif
                                                                                vlsOK c (bif Nat.beq cap 0 then 0 else 0 + 0 * 2) (Int.toNat (imax 0 (imin k (↑n : Int))) - 0) &&
                                                                                  decide (Int.toNat (imax 0 (imin k (↑n : Int))) - 0 ≤ 1000) then
                                                                              bif
                                                                                  decide
                                                                                    (0 ≤ imax 0 (imin k (↑n : Int)) ∧
                                                                                      imax 0 (imin k (↑n : Int)) ≤ (↑n : Int) ∧ (↑n : Int) ≤ (↑cap : Int)) then
                                                                                bif
                                                                                    vlsOK c
                                                                                        (bif Nat.beq cap (Int.toNat (imax 0 (imin k (↑n : Int)))) then 0
                                                                                        else 0 + Int.toNat (imax 0 (imin k (↑n : Int))) * 2)
                                                                                        (n - Int.toNat (imax 0 (imin k (↑n : Int)))) &&
                                                                                      decide (n - Int.toNat (imax 0 (imin k (↑n : Int))) ≤ 1000) then
                                                                                  bif
                                                                                      suE
                                                                                            (vlsA c (bif Nat.beq cap 0 then 0 else 0 + 0 * 2)
                                                                                              (Int.toNat (imax 0 (imin k (↑n : Int))) - 0))
                                                                                            t !=
                                                                                          0 ||
                                                                                        (suE
                                                                                              (vlsA c
                                                                                                (bif Nat.beq cap (Int.toNat (imax 0 (imin k (↑n : Int)))) then 0
                                                                                                else 0 + Int.toNat (imax 0 (imin k (↑n : Int))) * 2)
                                                                                                (n - Int.toNat (imax 0 (imin k (↑n : Int)))))
                                                                                              t !=
                                                                                            0 ||
                                                                                          (!fits
                                                                                                  (Vl.mk
                                                                                                    (suN
                                                                                                      (vlsA c (bif Nat.beq cap 0 then 0 else 0 + 0 * 2)
                                                                                                        (Int.toNat (imax 0 (imin k (↑n : Int))) - 0))
                                                                                                      t)
                                                                                                    e0)
                                                                                                  (totT t) ==
                                                                                                0 ||
                                                                                            (!fits
                                                                                                    (Vl.mk
                                                                                                      (suN
                                                                                                        (vlsA c
                                                                                                          (bif Nat.beq cap (Int.toNat (imax 0 (imin k (↑n : Int)))) then 0
                                                                                                          else 0 + Int.toNat (imax 0 (imin k (↑n : Int))) * 2)
                                                                                                          (n - Int.toNat (imax 0 (imin k (↑n : Int)))))
                                                                                                        t)
                                                                                                      e0)
                                                                                                    (totT t) ==
                                                                                                  0 ||
                                                                                              decide (most (Ty.k t) ≤ Ty.p t ∧ Valid t ∨ most (Ty.k t) = most (Ty.k t)) &&
                                                                                                (decide (pw (base (Ty.k t)) (most (Ty.k t)) ≠ 0) && true)))) then
                                                                                    bif
                                                                                        suE
                                                                                              (vlsA c (bif Nat.beq cap 0 then 0 else 0 + 0 * 2)
                                                                                                (Int.toNat (imax 0 (imin k (↑n : Int))) - 0))
                                                                                              t !=
                                                                                            0 ||
                                                                                          (suE
                                                                                                (vlsA c
                                                                                                  (bif Nat.beq cap (Int.toNat (imax 0 (imin k (↑n : Int)))) then 0
                                                                                                  else 0 + Int.toNat (imax 0 (imin k (↑n : Int))) * 2)
                                                                                                  (n - Int.toNat (imax 0 (imin k (↑n : Int)))))
                                                                                                t !=
                                                                                              0 ||
                                                                                            (!fits
                                                                                                    (Vl.mk
                                                                                                      (suN
                                                                                                        (vlsA c (bif Nat.beq cap 0 then 0 else 0 + 0 * 2)
                                                                                                          (Int.toNat (imax 0 (imin k (↑n : Int))) - 0))
                                                                                                        t)
                                                                                                      e0)
                                                                                                    (totT t) ==
                                                                                                  0 ||
                                                                                              (!fits
                                                                                                      (Vl.mk
                                                                                                        (suN
                                                                                                          (vlsA c
                                                                                                            (bif Nat.beq cap (Int.toNat (imax 0 (imin k (↑n : Int)))) then 0
                                                                                                            else 0 + Int.toNat (imax 0 (imin k (↑n : Int))) * 2)
                                                                                                            (n - Int.toNat (imax 0 (imin k (↑n : Int)))))
                                                                                                          t)
                                                                                                        e0)
                                                                                                      (totT t) ==
                                                                                                    0 ||
                                                                                                Int.tmod
                                                                                                    (IntKind.wrap IntKind.i64
                                                                                                      (IntKind.wrap IntKind.i64
                                                                                                          (suN
                                                                                                              (vlsA c (bif Nat.beq cap 0 then 0 else 0 + 0 * 2)
                                                                                                                (Int.toNat (imax 0 (imin k (↑n : Int))) - 0))
                                                                                                              t +
                                                                                                            suN
                                                                                                              (vlsA c
                                                                                                                (bif Nat.beq cap (Int.toNat (imax 0 (imin k (↑n : Int)))) then 0
                                                                                                                else 0 + Int.toNat (imax 0 (imin k (↑n : Int))) * 2)
                                                                                                                (n - Int.toNat (imax 0 (imin k (↑n : Int)))))
                                                                                                              t) -
                                                                                                        suN (vlsA c 0 n) t))
                                                                                                    (pw (base (Ty.k t)) (most (Ty.k t))) !=
                                                                                                  0))) then
                                                                                      R (Value.bool false)
                                                                                    else
                                                                                      bif vlsOK c 0 n && decide (n ≤ 1000) then
                                                                                        bif !Prod.fst (addGo (totT t) t (vlsA c 0 n) 0 0) || (suC (vlsA c 0 n) t == 0 || true) then
                                                                                          R
                                                                                            (Value.bool
                                                                                              (!Prod.fst (addGo (totT t) t (vlsA c 0 n) 0 0) ||
                                                                                                suC (vlsA c 0 n) t == 0 &&
                                                                                                  ((if Prod.fst (addGo (totT t) t (vlsA c 0 n) 0 0) = true then
                                                                                                        Prod.fst (Prod.snd (addGo (totT t) t (vlsA c 0 n) 0 0))
                                                                                                      else 0) ==
                                                                                                      suN (vlsA c 0 n) t &&
                                                                                                    (ByteArray.toList e0 == ByteArray.toList e0 && true))))
                                                                                        else False
                                                                                      else False
                                                                                  else False
                                                                                else False
                                                                              else False
                                                                            else False
                                                                          else False
                                                                      else False
                                                                    else False
                                                                  else False
                                                          else False
                                                        else
                                                          ∀ (cap_2 : Nat) (tail : List Value),
                                                            tailOK tail cap_2 (n - Int.toNat (imax 0 (imin k (↑n : Int)))) 2 = true →
                                                              bif
                                                                  Nat.beq
                                                                            (List.length
                                                                              (List.take ((n - Int.toNat (imax 0 (imin k (↑n : Int)))) * 2)
                                                                                  (List.drop
                                                                                    (bif Nat.beq cap (Int.toNat (imax 0 (imin k (↑n : Int)))) then 0
                                                                                    else 0 + Int.toNat (imax 0 (imin k (↑n : Int))) * 2)
                                                                                    c) ++
                                                                                tail))
                                                                            (cap_2 * 2) &&
                                                                          Nat.ble (n - Int.toNat (imax 0 (imin k (↑n : Int)))) cap_2 &&
                                                                        Nat.ble cap_2 9223372036854775807 &&
                                                                      (Nat.ble ((bif Nat.beq cap 0 then 0 else 0 + 0 * 2) + (Int.toNat (imax 0 (imin k (↑n : Int))) - 0) * 2)
                                                                          (List.length c) &&
                                                                        List.all
                                                                          (List.take ((Int.toNat (imax 0 (imin k (↑n : Int))) - 0) * 2)
                                                                            (List.drop (bif Nat.beq cap 0 then 0 else 0 + 0 * 2) c))
                                                                          cellOk) &&
                                                                    fitsA (n - Int.toNat (imax 0 (imin k (↑n : Int))) + (Int.toNat (imax 0 (imin k (↑n : Int))) - 0)) 24 then
                                                                ∀ (cap_3 : Nat) (tail_1 : List Value),
                                                                  tailOK tail_1 cap_3 (n - Int.toNat (imax 0 (imin k (↑n : Int))) + (Int.toNat (imax 0 (imin k (↑n : Int))) - 0)) 2 =
                                                                      true →
                                                                    bif vlsOK d' 0 (0 + n) && decide (0 + n ≤ 1000) then
                                                                      bif
                                                                          vlsOK
                                                                              (List.take ((n - Int.toNat (imax 0 (imin k (↑n : Int)))) * 2)
                                                                                    (List.take ((n - Int.toNat (imax 0 (imin k (↑n : Int)))) * 2)
                                                                                        (List.drop
                                                                                          (bif Nat.beq cap (Int.toNat (imax 0 (imin k (↑n : Int)))) then 0
                                                                                          else 0 + Int.toNat (imax 0 (imin k (↑n : Int))) * 2)
                                                                                          c) ++
                                                                                      tail) ++
                                                                                  List.take ((Int.toNat (imax 0 (imin k (↑n : Int))) - 0) * 2)
                                                                                    (List.drop (bif Nat.beq cap 0 then 0 else 0 + 0 * 2) c) ++
                                                                                tail_1)
                                                                              0 (n - Int.toNat (imax 0 (imin k (↑n : Int))) + (Int.toNat (imax 0 (imin k (↑n : Int))) - 0)) &&
                                                                            decide
                                                                              (n - Int.toNat (imax 0 (imin k (↑n : Int))) + (Int.toNat (imax 0 (imin k (↑n : Int))) - 0) ≤ 1000) then
                                                                        bif
                                                                            suE (vlsA d' 0 (0 + n)) t != 0 ||
                                                                              (suE
                                                                                    (vlsA
                                                                                      (List.take ((n - Int.toNat (imax 0 (imin k (↑n : Int)))) * 2)
                                                                                            (List.take ((n - Int.toNat (imax 0 (imin k (↑n : Int)))) * 2)
                                                                                                (List.drop
                                                                                                  (bif Nat.beq cap (Int.toNat (imax 0 (imin k (↑n : Int)))) then 0
                                                                                                  else 0 + Int.toNat (imax 0 (imin k (↑n : Int))) * 2)
                                                                                                  c) ++
                                                                                              tail) ++
                                                                                          List.take ((Int.toNat (imax 0 (imin k (↑n : Int))) - 0) * 2)
                                                                                            (List.drop (bif Nat.beq cap 0 then 0 else 0 + 0 * 2) c) ++
                                                                                        tail_1)
                                                                                      0 (n - Int.toNat (imax 0 (imin k (↑n : Int))) + (Int.toNat (imax 0 (imin k (↑n : Int))) - 0)))
                                                                                    t !=
                                                                                  0 ||
                                                                                (!(suN (vlsA d' 0 (0 + n)) t == suN (vlsA c 0 n) t &&
                                                                                      (ByteArray.toList e0 == ByteArray.toList e0 && true)) ||
                                                                                  (!(suN
                                                                                            (vlsA
                                                                                              (List.take ((n - Int.toNat (imax 0 (imin k (↑n : Int)))) * 2)
                                                                                                    (List.take ((n - Int.toNat (imax 0 (imin k (↑n : Int)))) * 2)
                                                                                                        (List.drop
                                                                                                          (bif Nat.beq cap (Int.toNat (imax 0 (imin k (↑n : Int)))) then 0
                                                                                                          else 0 + Int.toNat (imax 0 (imin k (↑n : Int))) * 2)
                                                                                                          c) ++
                                                                                                      tail) ++
                                                                                                  List.take ((Int.toNat (imax 0 (imin k (↑n : Int))) - 0) * 2)
                                                                                                    (List.drop (bif Nat.beq cap 0 then 0 else 0 + 0 * 2) c) ++
                                                                                                tail_1)
                                                                                              0
                                                                                              (n - Int.toNat (imax 0 (imin k (↑n : Int))) +
                                                                                                (Int.toNat (imax 0 (imin k (↑n : Int))) - 0)))
                                                                                            t ==
                                                                                          suN (vlsA c 0 n) t &&
                                                                                        (ByteArray.toList e0 == ByteArray.toList e0 && true)) ||
                                                                                    (suC (vlsA d' 0 (0 + n)) t != suC (vlsA c 0 n) t || true)))) then
                                                                          bif
                                                                              suE (vlsA d' 0 (0 + n)) t != 0 ||
                                                                                (suE
                                                                                      (vlsA
                                                                                        (List.take ((n - Int.toNat (imax 0 (imin k (↑n : Int)))) * 2)
                                                                                              (List.take ((n - Int.toNat (imax 0 (imin k (↑n : Int)))) * 2)
                                                                                                  (List.drop
                                                                                                    (bif Nat.beq cap (Int.toNat (imax 0 (imin k (↑n : Int)))) then 0
                                                                                                    else 0 + Int.toNat (imax 0 (imin k (↑n : Int))) * 2)
                                                                                                    c) ++
                                                                                                tail) ++
                                                                                            List.take ((Int.toNat (imax 0 (imin k (↑n : Int))) - 0) * 2)
                                                                                              (List.drop (bif Nat.beq cap 0 then 0 else 0 + 0 * 2) c) ++
                                                                                          tail_1)
                                                                                        0 (n - Int.toNat (imax 0 (imin k (↑n : Int))) + (Int.toNat (imax 0 (imin k (↑n : Int))) - 0)))
                                                                                      t !=
                                                                                    0 ||
                                                                                  (!(suN (vlsA d' 0 (0 + n)) t == suN (vlsA c 0 n) t &&
                                                                                        (ByteArray.toList e0 == ByteArray.toList e0 && true)) ||
                                                                                    (!(suN
                                                                                              (vlsA
                                                                                                (List.take ((n - Int.toNat (imax 0 (imin k (↑n : Int)))) * 2)
                                                                                                      (List.take ((n - Int.toNat (imax 0 (imin k (↑n : Int)))) * 2)
                                                                                                          (List.drop
                                                                                                            (bif Nat.beq cap (Int.toNat (imax 0 (imin k (↑n : Int)))) then 0
                                                                                                            else 0 + Int.toNat (imax 0 (imin k (↑n : Int))) * 2)
                                                                                                            c) ++
                                                                                                        tail) ++
                                                                                                    List.take ((Int.toNat (imax 0 (imin k (↑n : Int))) - 0) * 2)
                                                                                                      (List.drop (bif Nat.beq cap 0 then 0 else 0 + 0 * 2) c) ++
                                                                                                  tail_1)
                                                                                                0
                                                                                                (n - Int.toNat (imax 0 (imin k (↑n : Int))) +
                                                                                                  (Int.toNat (imax 0 (imin k (↑n : Int))) - 0)))
                                                                                              t ==
                                                                                            suN (vlsA c 0 n) t &&
                                                                                          (ByteArray.toList e0 == ByteArray.toList e0 && true)) ||
                                                                                      (suC (vlsA d' 0 (0 + n)) t != suC (vlsA c 0 n) t ||
                                                                                        suC
                                                                                            (vlsA
                                                                                              (List.take ((n - Int.toNat (imax 0 (imin k (↑n : Int)))) * 2)
                                                                                                    (List.take ((n - Int.toNat (imax 0 (imin k (↑n : Int)))) * 2)
                                                                                                        (List.drop
                                                                                                          (bif Nat.beq cap (Int.toNat (imax 0 (imin k (↑n : Int)))) then 0
                                                                                                          else 0 + Int.toNat (imax 0 (imin k (↑n : Int))) * 2)
                                                                                                          c) ++
                                                                                                      tail) ++
                                                                                                  List.take ((Int.toNat (imax 0 (imin k (↑n : Int))) - 0) * 2)
                                                                                                    (List.drop (bif Nat.beq cap 0 then 0 else 0 + 0 * 2) c) ++
                                                                                                tail_1)
                                                                                              0
                                                                                              (n - Int.toNat (imax 0 (imin k (↑n : Int))) +
                                                                                                (Int.toNat (imax 0 (imin k (↑n : Int))) - 0)))
                                                                                            t !=
                                                                                          suC (vlsA c 0 n) t)))) then
                                                                            R (Value.bool false)
                                                                          else
                                                                            bif decide ((0 : Int) ≤ 0 ∧ 0 ≤ imax 0 (imin k (↑n : Int)) ∧ imax 0 (imin k (↑n : Int)) ≤ (↑cap : Int)) then
                                                                              bif
                                                                                  vlsOK c (bif Nat.beq cap 0 then 0 else 0 + 0 * 2) (Int.toNat (imax 0 (imin k (↑n : Int))) - 0) &&
                                                                                    decide (Int.toNat (imax 0 (imin k (↑n : Int))) - 0 ≤ 1000) then
                                                                                bif
                                                                                    decide
                                                                                      (0 ≤ imax 0 (imin k (↑n : Int)) ∧
                                                                                        imax 0 (imin k (↑n : Int)) ≤ (↑n : Int) ∧ (↑n : Int) ≤ (↑cap : Int)) then
                                                                                  bif
                                                                                      vlsOK c
                                                                                          (bif Nat.beq cap (Int.toNat (imax 0 (imin k (↑n : Int)))) then 0
                                                                                          else 0 + Int.toNat (imax 0 (imin k (↑n : Int))) * 2)
                                                                                          (n - Int.toNat (imax 0 (imin k (↑n : Int)))) &&
                                                                                        decide (n - Int.toNat (imax 0 (imin k (↑n : Int))) ≤ 1000) then
                                                                                    bif
                                                                                        suE
                                                                                              (vlsA c (bif Nat.beq cap 0 then 0 else 0 + 0 * 2)
                                                                                                (Int.toNat (imax 0 (imin k (↑n : Int))) - 0))
                                                                                              t !=
                                                                                            0 ||
                                                                                          (suE
                                                                                                (vlsA c
                                                                                                  (bif Nat.beq cap (Int.toNat (imax 0 (imin k (↑n : Int)))) then 0
                                                                                                  else 0 + Int.toNat (imax 0 (imin k (↑n : Int))) * 2)
                                                                                                  (n - Int.toNat (imax 0 (imin k (↑n : Int)))))
                                                                                                t !=
                                                                                              0 ||
                                                                                            (!fits
                                                                                                    (Vl.mk
                                                                                                      (suN
                                                                                                        (vlsA c (bif Nat.beq cap 0 then 0 else 0 + 0 * 2)
                                                                                                          (Int.toNat (imax 0 (imin k (↑n : Int))) - 0))
                                                                                                        t)
                                                                                                      e0)
                                                                                                    (totT t) ==
                                                                                                  0 ||
                                                                                              (!fits
                                                                                                      (Vl.mk
                                                                                                        (suN
                                                                                                          (vlsA c
                                                                                                            (bif Nat.beq cap (Int.toNat (imax 0 (imin k (↑n : Int)))) then 0
                                                                                                            else 0 + Int.toNat (imax 0 (imin k (↑n : Int))) * 2)
                                                                                                            (n - Int.toNat (imax 0 (imin k (↑n : Int)))))
                                                                                                          t)
                                                                                                        e0)
                                                                                                      (totT t) ==
                                                                                                    0 ||
                                                                                                decide (most (Ty.k t) ≤ Ty.p t ∧ Valid t ∨ most (Ty.k t) = most (Ty.k t)) &&
                                                                                                  (decide (pw (base (Ty.k t)) (most (Ty.k t)) ≠ 0) && true)))) then
                                                                                      bif
                                                                                          suE
                                                                                                (vlsA c (bif Nat.beq cap 0 then 0 else 0 + 0 * 2)
                                                                                                  (Int.toNat (imax 0 (imin k (↑n : Int))) - 0))
                                                                                                t !=
                                                                                              0 ||
                                                                                            (suE
                                                                                                  (vlsA c
                                                                                                    (bif Nat.beq cap (Int.toNat (imax 0 (imin k (↑n : Int)))) then 0
                                                                                                    else 0 + Int.toNat (imax 0 (imin k (↑n : Int))) * 2)
                                                                                                    (n - Int.toNat (imax 0 (imin k (↑n : Int)))))
                                                                                                  t !=
                                                                                                0 ||
                                                                                              (!fits
                                                                                                      (Vl.mk
                                                                                                        (suN
                                                                                                          (vlsA c (bif Nat.beq cap 0 then 0 else 0 + 0 * 2)
                                                                                                            (Int.toNat (imax 0 (imin k (↑n : Int))) - 0))
                                                                                                          t)
                                                                                                        e0)
                                                                                                      (totT t) ==
                                                                                                    0 ||
                                                                                                (!fits
                                                                                                        (Vl.mk
                                                                                                          (suN
                                                                                                            (vlsA c
                                                                                                              (bif Nat.beq cap (Int.toNat (imax 0 (imin k (↑n : Int)))) then 0
                                                                                                              else 0 + Int.toNat (imax 0 (imin k (↑n : Int))) * 2)
                                                                                                              (n - Int.toNat (imax 0 (imin k (↑n : Int)))))
                                                                                                            t)
                                                                                                          e0)
                                                                                                        (totT t) ==
                                                                                                      0 ||
                                                                                                  Int.tmod
                                                                                                      (IntKind.wrap IntKind.i64
                                                                                                        (IntKind.wrap IntKind.i64
                                                                                                            (suN
                                                                                                                (vlsA c (bif Nat.beq cap 0 then 0 else 0 + 0 * 2)
                                                                                                                  (Int.toNat (imax 0 (imin k (↑n : Int))) - 0))
                                                                                                                t +
                                                                                                              suN
                                                                                                                (vlsA c
                                                                                                                  (bif Nat.beq cap (Int.toNat (imax 0 (imin k (↑n : Int)))) then 0
                                                                                                                  else 0 + Int.toNat (imax 0 (imin k (↑n : Int))) * 2)
                                                                                                                  (n - Int.toNat (imax 0 (imin k (↑n : Int)))))
                                                                                                                t) -
                                                                                                          suN (vlsA c 0 n) t))
                                                                                                      (pw (base (Ty.k t)) (most (Ty.k t))) !=
                                                                                                    0))) then
                                                                                        R (Value.bool false)
                                                                                      else
                                                                                        bif vlsOK c 0 n && decide (n ≤ 1000) then
                                                                                          bif !Prod.fst (addGo (totT t) t (vlsA c 0 n) 0 0) || (suC (vlsA c 0 n) t == 0 || true) then
                                                                                            R
                                                                                              (Value.bool
                                                                                                (!Prod.fst (addGo (totT t) t (vlsA c 0 n) 0 0) ||
                                                                                                  suC (vlsA c 0 n) t == 0 &&
                                                                                                    ((if Prod.fst (addGo (totT t) t (vlsA c 0 n) 0 0) = true then
                                                                                                          Prod.fst (Prod.snd (addGo (totT t) t (vlsA c 0 n) 0 0))
                                                                                                        else 0) ==
                                                                                                        suN (vlsA c 0 n) t &&
                                                                                                      (ByteArray.toList e0 == ByteArray.toList e0 && true))))
                                                                                          else False
                                                                                        else False
                                                                                    else False
                                                                                  else False
                                                                                else False
                                                                              else False
                                                                            else False
                                                                        else False
                                                                      else False
                                                                    else False
                                                              else False
                                                      else False
                                            else False
                                          else False
                                      else False
                                else False
                              else False
                        else False
                    else False
                  else False
              else False
            else
              bif idsLt 60 c && true then
                ∀ (x : Tmps),
                  bif decide (fbad t (List.drop (Int.toNat 0) (vlsA c 0 n)) 0 ≥ 0) then R (Value.bool true)
                  else
                    bif vlsOK c 0 n && decide (n ≤ 1000) then
                      bif check t != 0 || (suE (vlsA c 0 n) t != 0 || (!fits (Vl.mk (suN (vlsA c 0 n) t) e0) (totT t) == 0 || (Ty.p (totT t) != most (Ty.k t) || true))) then
                        bif
                            check t != 0 ||
                              (suE (vlsA c 0 n) t != 0 || (!fits (Vl.mk (suN (vlsA c 0 n) t) e0) (totT t) == 0 || (Ty.p (totT t) != most (Ty.k t) || Ty.q (totT t) != Ty.q t))) then
                          R (Value.bool false)
                        else
                          bif Nat.ble (0 + n * 2) (List.length c) && List.all (List.take (n * 2) (List.drop 0 c)) cellOk && fitsA (0 + n) 24 then
                            ∀ (cap : Nat) (tail : List Value), tailOK tail cap (0 + n) 2 = true → bif idsLt 140 c && true then False else False
                          else False
                      else False
                    else False
              else False
          else False
        else False) := by kernel_rfl

theorem v19n (t : Ty) (k : Int) (R : Value → Prop) : (bodyQ Try.prog Gn69 noL Try.f19 [.slice none 0 0, Enc.enc t, I k] (fun _ => none) 3 (fun v _ _ => R v)) = (
    bif check t != 0 then R (Value.bool true)
    else
      bif check t != 0 || (suE [] t != 0 || (!fits (Vl.mk (suN [] t) e0) (totT t) == 0 || (Ty.p (totT t) != most (Ty.k t) || true))) then
        bif check t != 0 || (suE [] t != 0 || (!fits (Vl.mk (suN [] t) e0) (totT t) == 0 || (Ty.p (totT t) != most (Ty.k t) || Ty.q (totT t) != Ty.q t))) then R (Value.bool false)
        else
          bif decide (0 ≤ imax 0 (imin k 0) ∧ imax 0 (imin k 0) ≤ 0 ∧ (0 : Int) ≤ 0) then
            bif decide ((0 : Int) ≤ 0 ∧ 0 ≤ imax 0 (imin k 0) ∧ imax 0 (imin k 0) ≤ 0) then
              bif
                  suE [] t != 0 ||
                    (suE [] t != 0 ||
                      (!(suN [] t == suN [] t && (ByteArray.toList e0 == ByteArray.toList e0 && true)) ||
                        (!(suN [] t == suN [] t && (ByteArray.toList e0 == ByteArray.toList e0 && true)) || (suC [] t != suC [] t || true)))) then
                bif
                    suE [] t != 0 ||
                      (suE [] t != 0 ||
                        (!(suN [] t == suN [] t && (ByteArray.toList e0 == ByteArray.toList e0 && true)) ||
                          (!(suN [] t == suN [] t && (ByteArray.toList e0 == ByteArray.toList e0 && true)) || (suC [] t != suC [] t || suC [] t != suC [] t)))) then
                  R (Value.bool false)
                else
                  bif decide ((0 : Int) ≤ 0 ∧ 0 ≤ imax 0 (imin k 0) ∧ imax 0 (imin k 0) ≤ 0) then
                    bif decide (0 ≤ imax 0 (imin k 0) ∧ imax 0 (imin k 0) ≤ 0 ∧ (0 : Int) ≤ 0) then
                      bif
                          suE [] t != 0 ||
                            (suE [] t != 0 ||
                              (!fits (Vl.mk (suN [] t) e0) (totT t) == 0 ||
                                (!fits (Vl.mk (suN [] t) e0) (totT t) == 0 ||
                                  decide (most (Ty.k t) ≤ Ty.p t ∧ Valid t ∨ most (Ty.k t) = most (Ty.k t)) && (decide (pw (base (Ty.k t)) (most (Ty.k t)) ≠ 0) && true)))) then
                        bif
                            suE [] t != 0 ||
                              (suE [] t != 0 ||
                                (!fits (Vl.mk (suN [] t) e0) (totT t) == 0 ||
                                  (!fits (Vl.mk (suN [] t) e0) (totT t) == 0 ||
                                    Int.tmod (IntKind.wrap IntKind.i64 (IntKind.wrap IntKind.i64 (suN [] t + suN [] t) - suN [] t)) (pw (base (Ty.k t)) (most (Ty.k t))) != 0))) then
                          R (Value.bool false)
                        else
                          bif suC [] t == 0 || true then
                            R
                              (Value.bool
                                (!Prod.fst (addGo (totT t) t [] 0 0) ||
                                  suC [] t == 0 &&
                                    ((if Prod.fst (addGo (totT t) t [] 0 0) = true then Prod.fst (Prod.snd (addGo (totT t) t [] 0 0)) else 0) == suN [] t &&
                                      (ByteArray.toList e0 == ByteArray.toList e0 && true))))
                          else False
                      else False
                    else False
                  else False
              else False
            else False
          else False
      else False) := by kernel_rfl

end Go.Fx
