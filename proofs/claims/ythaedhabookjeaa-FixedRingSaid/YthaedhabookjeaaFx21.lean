/-
  The law of the ring.
-/
import Derived.Test.YthaedhabookjeaaFx20
set_option linter.unusedVariables false
set_option linter.unusedSimpArgs false
namespace Go.Fx
open Go Go.Ab Go.Proofs

def s13 (a : Vl) (ta : Ty) (b : Vl) (tb : Ty) (c : Vl) (tc : Ty) : Bool × Value := (true, B true)
theorem fn13 : Fn1 Try.prog 13 Try.f13 := ⟨Try.func13, by kernel_rfl, by kernel_rfl, by kernel_rfl⟩
theorem v13 (a : Vl) (ta : Ty) (b : Vl) (tb : Ty) (c : Vl) (tc : Ty) (R : Value → Prop) : bodyR Try.prog G19 noL Try.f13 [Enc.enc a, Enc.enc ta, Enc.enc b, Enc.enc tb, Enc.enc c, Enc.enc tc] (fun _ => none) 0 (fun v _ _ => R v) = (
    bif !(fits a ta == 0 && fits b tb == 0 && Ty.k ta == Ty.k tb) then R (Value.bool true)
    else
      bif !(fits b tb == 0 && fits c tc == 0 && Ty.k tb == Ty.k tc) then R (Value.bool true)
      else
        bif resE 6 ta tb != 0 then R (Value.bool false)
        else
          bif resE 6 tb ta != 0 then R (Value.bool false)
          else
            bif doE 6 a ta b tb != 0 then R (Value.bool false)
            else
              bif doE 6 b tb a ta != 0 then R (Value.bool false)
              else
                bif
                    !(Ty.k (resT 6 ta tb) == Ty.k (resT 6 tb ta) &&
                        (Ty.p (resT 6 ta tb) == Ty.p (resT 6 tb ta) &&
                          (Ty.q (resT 6 ta tb) == Ty.q (resT 6 tb ta) &&
                            (Ty.v (resT 6 ta tb) == Ty.v (resT 6 tb ta) && (ByteArray.toList (Ty.s (resT 6 ta tb)) == ByteArray.toList (Ty.s (resT 6 tb ta)) && true))))) then
                  R (Value.bool false)
                else
                  bif !(doN 6 a ta b tb == doN 6 b tb a ta && (ByteArray.toList e0 == ByteArray.toList e0 && true)) then R (Value.bool false)
                  else
                    bif doC 6 a ta b tb != doC 6 b tb a ta then R (Value.bool false)
                    else
                      bif resE 8 ta tb != 0 then R (Value.bool false)
                      else
                        bif resE 8 tb ta != 0 then R (Value.bool false)
                        else
                          bif doE 8 a ta b tb != 0 then R (Value.bool false)
                          else
                            bif doE 8 b tb a ta != 0 then R (Value.bool false)
                            else
                              bif
                                  !(Ty.k (resT 8 ta tb) == Ty.k (resT 8 tb ta) &&
                                      (Ty.p (resT 8 ta tb) == Ty.p (resT 8 tb ta) &&
                                        (Ty.q (resT 8 ta tb) == Ty.q (resT 8 tb ta) &&
                                          (Ty.v (resT 8 ta tb) == Ty.v (resT 8 tb ta) &&
                                            (ByteArray.toList (Ty.s (resT 8 ta tb)) == ByteArray.toList (Ty.s (resT 8 tb ta)) && true))))) then
                                R (Value.bool false)
                              else
                                bif !(doN 8 a ta b tb == doN 8 b tb a ta && (ByteArray.toList e0 == ByteArray.toList e0 && true)) then R (Value.bool false)
                                else
                                  bif doC 8 a ta b tb != doC 8 b tb a ta then R (Value.bool false)
                                  else
                                    bif resE 12 ta tb != 0 then R (Value.bool false)
                                    else
                                      bif resE 12 tb ta != 0 then R (Value.bool false)
                                      else
                                        bif doE 12 a ta b tb != 0 then R (Value.bool false)
                                        else
                                          bif doE 12 b tb a ta != 0 then R (Value.bool false)
                                          else
                                            bif
                                                !(Ty.k (resT 12 ta tb) == Ty.k (resT 12 tb ta) &&
                                                    (Ty.p (resT 12 ta tb) == Ty.p (resT 12 tb ta) &&
                                                      (Ty.q (resT 12 ta tb) == Ty.q (resT 12 tb ta) &&
                                                        (Ty.v (resT 12 ta tb) == Ty.v (resT 12 tb ta) &&
                                                          (ByteArray.toList (Ty.s (resT 12 ta tb)) == ByteArray.toList (Ty.s (resT 12 tb ta)) && true))))) then
                                              R (Value.bool false)
                                            else
                                              bif !(doN 12 a ta b tb == doN 12 b tb a ta && (ByteArray.toList e0 == ByteArray.toList e0 && true)) then R (Value.bool false)
                                              else
                                                bif doC 12 a ta b tb != doC 12 b tb a ta then R (Value.bool false)
                                                else
                                                  bif resE 13 ta tb != 0 then R (Value.bool false)
                                                  else
                                                    bif resE 13 tb ta != 0 then R (Value.bool false)
                                                    else
                                                      bif doE 13 a ta b tb != 0 then R (Value.bool false)
                                                      else
                                                        bif doE 13 b tb a ta != 0 then R (Value.bool false)
                                                        else
                                                          bif
                                                              !(Ty.k (resT 13 ta tb) == Ty.k (resT 13 tb ta) &&
                                                                  (Ty.p (resT 13 ta tb) == Ty.p (resT 13 tb ta) &&
                                                                    (Ty.q (resT 13 ta tb) == Ty.q (resT 13 tb ta) &&
                                                                      (Ty.v (resT 13 ta tb) == Ty.v (resT 13 tb ta) &&
                                                                        (ByteArray.toList (Ty.s (resT 13 ta tb)) == ByteArray.toList (Ty.s (resT 13 tb ta)) && true))))) then
                                                            R (Value.bool false)
                                                          else
                                                            bif !(doN 13 a ta b tb == doN 13 b tb a ta && (ByteArray.toList e0 == ByteArray.toList e0 && true)) then
                                                              R (Value.bool false)
                                                            else
                                                              bif doC 13 a ta b tb != doC 13 b tb a ta then R (Value.bool false)
                                                              else
                                                                bif !(resE 6 ta tb == 0 && doE 6 a ta b tb == 0 && doC 6 a ta b tb == 0) then R (Value.bool true)
                                                                else
                                                                  bif !(resE 6 tb tc == 0 && doE 6 b tb c tc == 0 && doC 6 b tb c tc == 0) then R (Value.bool true)
                                                                  else
                                                                    bif
                                                                        resE 7 (resT 6 ta tb) tb == 0 && doE 7 (Vl.mk (doN 6 a ta b tb) e0) (resT 6 ta tb) b tb == 0 &&
                                                                          doC 7 (Vl.mk (doN 6 a ta b tb) e0) (resT 6 ta tb) b tb == 0 then
                                                                      bif
                                                                          !(cmE (Vl.mk (doN 7 (Vl.mk (doN 6 a ta b tb) e0) (resT 6 ta tb) b tb) e0) (resT 7 (resT 6 ta tb) tb) a ta ==
                                                                                0 &&
                                                                              cmN (Vl.mk (doN 7 (Vl.mk (doN 6 a ta b tb) e0) (resT 6 ta tb) b tb) e0) (resT 7 (resT 6 ta tb) tb) a ta ==
                                                                                0) then
                                                                        R (Value.bool false)
                                                                      else
                                                                        bif
                                                                            resE 6 (resT 6 ta tb) tc == 0 && doE 6 (Vl.mk (doN 6 a ta b tb) e0) (resT 6 ta tb) c tc == 0 &&
                                                                              doC 6 (Vl.mk (doN 6 a ta b tb) e0) (resT 6 ta tb) c tc == 0 then
                                                                          bif
                                                                              resE 6 ta (resT 6 tb tc) == 0 && doE 6 a ta (Vl.mk (doN 6 b tb c tc) e0) (resT 6 tb tc) == 0 &&
                                                                                doC 6 a ta (Vl.mk (doN 6 b tb c tc) e0) (resT 6 tb tc) == 0 then
                                                                            bif Ty.q (resT 6 (resT 6 ta tb) tc) != Ty.q (resT 6 ta (resT 6 tb tc)) then R (Value.bool false)
                                                                            else
                                                                              bif
                                                                                  !(cmE (Vl.mk (doN 6 (Vl.mk (doN 6 a ta b tb) e0) (resT 6 ta tb) c tc) e0) (resT 6 (resT 6 ta tb) tc)
                                                                                          (Vl.mk (doN 6 a ta (Vl.mk (doN 6 b tb c tc) e0) (resT 6 tb tc)) e0)
                                                                                          (resT 6 ta (resT 6 tb tc)) ==
                                                                                        0 &&
                                                                                      cmN (Vl.mk (doN 6 (Vl.mk (doN 6 a ta b tb) e0) (resT 6 ta tb) c tc) e0) (resT 6 (resT 6 ta tb) tc)
                                                                                          (Vl.mk (doN 6 a ta (Vl.mk (doN 6 b tb c tc) e0) (resT 6 tb tc)) e0)
                                                                                          (resT 6 ta (resT 6 tb tc)) ==
                                                                                        0) then
                                                                                R (Value.bool false)
                                                                              else
                                                                                bif decide (IntKind.wrap IntKind.i64 (Ty.q ta + imax (Ty.q tb) (Ty.q tc)) > most (Ty.k ta)) then
                                                                                  R (Value.bool true)
                                                                                else
                                                                                  bif !(resE 8 ta tb == 0 && doE 8 a ta b tb == 0 && doC 8 a ta b tb == 0) then R (Value.bool true)
                                                                                  else
                                                                                    bif !(resE 8 ta tc == 0 && doE 8 a ta c tc == 0 && doC 8 a ta c tc == 0) then R (Value.bool true)
                                                                                    else
                                                                                      bif
                                                                                          !(resE 8 ta (resT 6 tb tc) == 0 &&
                                                                                                doE 8 a ta (Vl.mk (doN 6 b tb c tc) e0) (resT 6 tb tc) == 0 &&
                                                                                              doC 8 a ta (Vl.mk (doN 6 b tb c tc) e0) (resT 6 tb tc) == 0) then
                                                                                        R (Value.bool true)
                                                                                      else
                                                                                        bif
                                                                                            !(resE 6 (resT 8 ta tb) (resT 8 ta tc) == 0 &&
                                                                                                  doE 6 (Vl.mk (doN 8 a ta b tb) e0) (resT 8 ta tb) (Vl.mk (doN 8 a ta c tc) e0)
                                                                                                      (resT 8 ta tc) ==
                                                                                                    0 &&
                                                                                                doC 6 (Vl.mk (doN 8 a ta b tb) e0) (resT 8 ta tb) (Vl.mk (doN 8 a ta c tc) e0)
                                                                                                    (resT 8 ta tc) ==
                                                                                                  0) then
                                                                                          R (Value.bool true)
                                                                                        else
                                                                                          R
                                                                                            (Value.bool
                                                                                              (cmE
                                                                                                    (Vl.mk
                                                                                                      (doN 6 (Vl.mk (doN 8 a ta b tb) e0) (resT 8 ta tb) (Vl.mk (doN 8 a ta c tc) e0)
                                                                                                        (resT 8 ta tc))
                                                                                                      e0)
                                                                                                    (resT 6 (resT 8 ta tb) (resT 8 ta tc))
                                                                                                    (Vl.mk (doN 8 a ta (Vl.mk (doN 6 b tb c tc) e0) (resT 6 tb tc)) e0)
                                                                                                    (resT 8 ta (resT 6 tb tc)) ==
                                                                                                  0 &&
                                                                                                cmN
                                                                                                    (Vl.mk
                                                                                                      (doN 6 (Vl.mk (doN 8 a ta b tb) e0) (resT 8 ta tb) (Vl.mk (doN 8 a ta c tc) e0)
                                                                                                        (resT 8 ta tc))
                                                                                                      e0)
                                                                                                    (resT 6 (resT 8 ta tb) (resT 8 ta tc))
                                                                                                    (Vl.mk (doN 8 a ta (Vl.mk (doN 6 b tb c tc) e0) (resT 6 tb tc)) e0)
                                                                                                    (resT 8 ta (resT 6 tb tc)) ==
                                                                                                  0))
                                                                          else
                                                                            bif decide (IntKind.wrap IntKind.i64 (Ty.q ta + imax (Ty.q tb) (Ty.q tc)) > most (Ty.k ta)) then
                                                                              R (Value.bool true)
                                                                            else
                                                                              bif !(resE 8 ta tb == 0 && doE 8 a ta b tb == 0 && doC 8 a ta b tb == 0) then R (Value.bool true)
                                                                              else
                                                                                bif !(resE 8 ta tc == 0 && doE 8 a ta c tc == 0 && doC 8 a ta c tc == 0) then R (Value.bool true)
                                                                                else
                                                                                  bif
                                                                                      !(resE 8 ta (resT 6 tb tc) == 0 && doE 8 a ta (Vl.mk (doN 6 b tb c tc) e0) (resT 6 tb tc) == 0 &&
                                                                                          doC 8 a ta (Vl.mk (doN 6 b tb c tc) e0) (resT 6 tb tc) == 0) then
                                                                                    R (Value.bool true)
                                                                                  else
                                                                                    bif
                                                                                        !(resE 6 (resT 8 ta tb) (resT 8 ta tc) == 0 &&
                                                                                              doE 6 (Vl.mk (doN 8 a ta b tb) e0) (resT 8 ta tb) (Vl.mk (doN 8 a ta c tc) e0)
                                                                                                  (resT 8 ta tc) ==
                                                                                                0 &&
                                                                                            doC 6 (Vl.mk (doN 8 a ta b tb) e0) (resT 8 ta tb) (Vl.mk (doN 8 a ta c tc) e0)
                                                                                                (resT 8 ta tc) ==
                                                                                              0) then
                                                                                      R (Value.bool true)
                                                                                    else
                                                                                      R
                                                                                        (Value.bool
                                                                                          (cmE
                                                                                                (Vl.mk
                                                                                                  (doN 6 (Vl.mk (doN 8 a ta b tb) e0) (resT 8 ta tb) (Vl.mk (doN 8 a ta c tc) e0)
                                                                                                    (resT 8 ta tc))
                                                                                                  e0)
                                                                                                (resT 6 (resT 8 ta tb) (resT 8 ta tc))
                                                                                                (Vl.mk (doN 8 a ta (Vl.mk (doN 6 b tb c tc) e0) (resT 6 tb tc)) e0)
                                                                                                (resT 8 ta (resT 6 tb tc)) ==
                                                                                              0 &&
                                                                                            cmN
                                                                                                (Vl.mk
                                                                                                  (doN 6 (Vl.mk (doN 8 a ta b tb) e0) (resT 8 ta tb) (Vl.mk (doN 8 a ta c tc) e0)
                                                                                                    (resT 8 ta tc))
                                                                                                  e0)
                                                                                                (resT 6 (resT 8 ta tb) (resT 8 ta tc))
                                                                                                (Vl.mk (doN 8 a ta (Vl.mk (doN 6 b tb c tc) e0) (resT 6 tb tc)) e0)
                                                                                                (resT 8 ta (resT 6 tb tc)) ==
                                                                                              0))
                                                                        else
                                                                          bif decide (IntKind.wrap IntKind.i64 (Ty.q ta + imax (Ty.q tb) (Ty.q tc)) > most (Ty.k ta)) then
                                                                            R (Value.bool true)
                                                                          else
                                                                            bif !(resE 8 ta tb == 0 && doE 8 a ta b tb == 0 && doC 8 a ta b tb == 0) then R (Value.bool true)
                                                                            else
                                                                              bif !(resE 8 ta tc == 0 && doE 8 a ta c tc == 0 && doC 8 a ta c tc == 0) then R (Value.bool true)
                                                                              else
                                                                                bif
                                                                                    !(resE 8 ta (resT 6 tb tc) == 0 && doE 8 a ta (Vl.mk (doN 6 b tb c tc) e0) (resT 6 tb tc) == 0 &&
                                                                                        doC 8 a ta (Vl.mk (doN 6 b tb c tc) e0) (resT 6 tb tc) == 0) then
                                                                                  R (Value.bool true)
                                                                                else
                                                                                  bif
                                                                                      !(resE 6 (resT 8 ta tb) (resT 8 ta tc) == 0 &&
                                                                                            doE 6 (Vl.mk (doN 8 a ta b tb) e0) (resT 8 ta tb) (Vl.mk (doN 8 a ta c tc) e0)
                                                                                                (resT 8 ta tc) ==
                                                                                              0 &&
                                                                                          doC 6 (Vl.mk (doN 8 a ta b tb) e0) (resT 8 ta tb) (Vl.mk (doN 8 a ta c tc) e0)
                                                                                              (resT 8 ta tc) ==
                                                                                            0) then
                                                                                    R (Value.bool true)
                                                                                  else
                                                                                    R
                                                                                      (Value.bool
                                                                                        (cmE
                                                                                              (Vl.mk
                                                                                                (doN 6 (Vl.mk (doN 8 a ta b tb) e0) (resT 8 ta tb) (Vl.mk (doN 8 a ta c tc) e0)
                                                                                                  (resT 8 ta tc))
                                                                                                e0)
                                                                                              (resT 6 (resT 8 ta tb) (resT 8 ta tc))
                                                                                              (Vl.mk (doN 8 a ta (Vl.mk (doN 6 b tb c tc) e0) (resT 6 tb tc)) e0)
                                                                                              (resT 8 ta (resT 6 tb tc)) ==
                                                                                            0 &&
                                                                                          cmN
                                                                                              (Vl.mk
                                                                                                (doN 6 (Vl.mk (doN 8 a ta b tb) e0) (resT 8 ta tb) (Vl.mk (doN 8 a ta c tc) e0)
                                                                                                  (resT 8 ta tc))
                                                                                                e0)
                                                                                              (resT 6 (resT 8 ta tb) (resT 8 ta tc))
                                                                                              (Vl.mk (doN 8 a ta (Vl.mk (doN 6 b tb c tc) e0) (resT 6 tb tc)) e0)
                                                                                              (resT 8 ta (resT 6 tb tc)) ==
                                                                                            0))
                                                                    else
                                                                      bif
                                                                          resE 6 (resT 6 ta tb) tc == 0 && doE 6 (Vl.mk (doN 6 a ta b tb) e0) (resT 6 ta tb) c tc == 0 &&
                                                                            doC 6 (Vl.mk (doN 6 a ta b tb) e0) (resT 6 ta tb) c tc == 0 then
                                                                        bif
                                                                            resE 6 ta (resT 6 tb tc) == 0 && doE 6 a ta (Vl.mk (doN 6 b tb c tc) e0) (resT 6 tb tc) == 0 &&
                                                                              doC 6 a ta (Vl.mk (doN 6 b tb c tc) e0) (resT 6 tb tc) == 0 then
                                                                          bif Ty.q (resT 6 (resT 6 ta tb) tc) != Ty.q (resT 6 ta (resT 6 tb tc)) then R (Value.bool false)
                                                                          else
                                                                            bif
                                                                                !(cmE (Vl.mk (doN 6 (Vl.mk (doN 6 a ta b tb) e0) (resT 6 ta tb) c tc) e0) (resT 6 (resT 6 ta tb) tc)
                                                                                        (Vl.mk (doN 6 a ta (Vl.mk (doN 6 b tb c tc) e0) (resT 6 tb tc)) e0)
                                                                                        (resT 6 ta (resT 6 tb tc)) ==
                                                                                      0 &&
                                                                                    cmN (Vl.mk (doN 6 (Vl.mk (doN 6 a ta b tb) e0) (resT 6 ta tb) c tc) e0) (resT 6 (resT 6 ta tb) tc)
                                                                                        (Vl.mk (doN 6 a ta (Vl.mk (doN 6 b tb c tc) e0) (resT 6 tb tc)) e0)
                                                                                        (resT 6 ta (resT 6 tb tc)) ==
                                                                                      0) then
                                                                              R (Value.bool false)
                                                                            else
                                                                              bif decide (IntKind.wrap IntKind.i64 (Ty.q ta + imax (Ty.q tb) (Ty.q tc)) > most (Ty.k ta)) then
                                                                                R (Value.bool true)
                                                                              else
                                                                                bif !(resE 8 ta tb == 0 && doE 8 a ta b tb == 0 && doC 8 a ta b tb == 0) then R (Value.bool true)
                                                                                else
                                                                                  bif !(resE 8 ta tc == 0 && doE 8 a ta c tc == 0 && doC 8 a ta c tc == 0) then R (Value.bool true)
                                                                                  else
                                                                                    bif
                                                                                        !(resE 8 ta (resT 6 tb tc) == 0 &&
                                                                                              doE 8 a ta (Vl.mk (doN 6 b tb c tc) e0) (resT 6 tb tc) == 0 &&
                                                                                            doC 8 a ta (Vl.mk (doN 6 b tb c tc) e0) (resT 6 tb tc) == 0) then
                                                                                      R (Value.bool true)
                                                                                    else
                                                                                      bif
                                                                                          !(resE 6 (resT 8 ta tb) (resT 8 ta tc) == 0 &&
                                                                                                doE 6 (Vl.mk (doN 8 a ta b tb) e0) (resT 8 ta tb) (Vl.mk (doN 8 a ta c tc) e0)
                                                                                                    (resT 8 ta tc) ==
                                                                                                  0 &&
                                                                                              doC 6 (Vl.mk (doN 8 a ta b tb) e0) (resT 8 ta tb) (Vl.mk (doN 8 a ta c tc) e0)
                                                                                                  (resT 8 ta tc) ==
                                                                                                0) then
                                                                                        R (Value.bool true)
                                                                                      else
                                                                                        R
                                                                                          (Value.bool
                                                                                            (cmE
                                                                                                  (Vl.mk
                                                                                                    (doN 6 (Vl.mk (doN 8 a ta b tb) e0) (resT 8 ta tb) (Vl.mk (doN 8 a ta c tc) e0)
                                                                                                      (resT 8 ta tc))
                                                                                                    e0)
                                                                                                  (resT 6 (resT 8 ta tb) (resT 8 ta tc))
                                                                                                  (Vl.mk (doN 8 a ta (Vl.mk (doN 6 b tb c tc) e0) (resT 6 tb tc)) e0)
                                                                                                  (resT 8 ta (resT 6 tb tc)) ==
                                                                                                0 &&
                                                                                              cmN
                                                                                                  (Vl.mk
                                                                                                    (doN 6 (Vl.mk (doN 8 a ta b tb) e0) (resT 8 ta tb) (Vl.mk (doN 8 a ta c tc) e0)
                                                                                                      (resT 8 ta tc))
                                                                                                    e0)
                                                                                                  (resT 6 (resT 8 ta tb) (resT 8 ta tc))
                                                                                                  (Vl.mk (doN 8 a ta (Vl.mk (doN 6 b tb c tc) e0) (resT 6 tb tc)) e0)
                                                                                                  (resT 8 ta (resT 6 tb tc)) ==
                                                                                                0))
                                                                        else
                                                                          bif decide (IntKind.wrap IntKind.i64 (Ty.q ta + imax (Ty.q tb) (Ty.q tc)) > most (Ty.k ta)) then
                                                                            R (Value.bool true)
                                                                          else
                                                                            bif !(resE 8 ta tb == 0 && doE 8 a ta b tb == 0 && doC 8 a ta b tb == 0) then R (Value.bool true)
                                                                            else
                                                                              bif !(resE 8 ta tc == 0 && doE 8 a ta c tc == 0 && doC 8 a ta c tc == 0) then R (Value.bool true)
                                                                              else
                                                                                bif
                                                                                    !(resE 8 ta (resT 6 tb tc) == 0 && doE 8 a ta (Vl.mk (doN 6 b tb c tc) e0) (resT 6 tb tc) == 0 &&
                                                                                        doC 8 a ta (Vl.mk (doN 6 b tb c tc) e0) (resT 6 tb tc) == 0) then
                                                                                  R (Value.bool true)
                                                                                else
                                                                                  bif
                                                                                      !(resE 6 (resT 8 ta tb) (resT 8 ta tc) == 0 &&
                                                                                            doE 6 (Vl.mk (doN 8 a ta b tb) e0) (resT 8 ta tb) (Vl.mk (doN 8 a ta c tc) e0)
                                                                                                (resT 8 ta tc) ==
                                                                                              0 &&
                                                                                          doC 6 (Vl.mk (doN 8 a ta b tb) e0) (resT 8 ta tb) (Vl.mk (doN 8 a ta c tc) e0)
                                                                                              (resT 8 ta tc) ==
                                                                                            0) then
                                                                                    R (Value.bool true)
                                                                                  else
                                                                                    R
                                                                                      (Value.bool
                                                                                        (cmE
                                                                                              (Vl.mk
                                                                                                (doN 6 (Vl.mk (doN 8 a ta b tb) e0) (resT 8 ta tb) (Vl.mk (doN 8 a ta c tc) e0)
                                                                                                  (resT 8 ta tc))
                                                                                                e0)
                                                                                              (resT 6 (resT 8 ta tb) (resT 8 ta tc))
                                                                                              (Vl.mk (doN 8 a ta (Vl.mk (doN 6 b tb c tc) e0) (resT 6 tb tc)) e0)
                                                                                              (resT 8 ta (resT 6 tb tc)) ==
                                                                                            0 &&
                                                                                          cmN
                                                                                              (Vl.mk
                                                                                                (doN 6 (Vl.mk (doN 8 a ta b tb) e0) (resT 8 ta tb) (Vl.mk (doN 8 a ta c tc) e0)
                                                                                                  (resT 8 ta tc))
                                                                                                e0)
                                                                                              (resT 6 (resT 8 ta tb) (resT 8 ta tc))
                                                                                              (Vl.mk (doN 8 a ta (Vl.mk (doN 6 b tb c tc) e0) (resT 6 tb tc)) e0)
                                                                                              (resT 8 ta (resT 6 tb tc)) ==
                                                                                            0))
                                                                      else
                                                                        bif decide (IntKind.wrap IntKind.i64 (Ty.q ta + imax (Ty.q tb) (Ty.q tc)) > most (Ty.k ta)) then
                                                                          R (Value.bool true)
                                                                        else
                                                                          bif !(resE 8 ta tb == 0 && doE 8 a ta b tb == 0 && doC 8 a ta b tb == 0) then R (Value.bool true)
                                                                          else
                                                                            bif !(resE 8 ta tc == 0 && doE 8 a ta c tc == 0 && doC 8 a ta c tc == 0) then R (Value.bool true)
                                                                            else
                                                                              bif
                                                                                  !(resE 8 ta (resT 6 tb tc) == 0 && doE 8 a ta (Vl.mk (doN 6 b tb c tc) e0) (resT 6 tb tc) == 0 &&
                                                                                      doC 8 a ta (Vl.mk (doN 6 b tb c tc) e0) (resT 6 tb tc) == 0) then
                                                                                R (Value.bool true)
                                                                              else
                                                                                bif
                                                                                    !(resE 6 (resT 8 ta tb) (resT 8 ta tc) == 0 &&
                                                                                          doE 6 (Vl.mk (doN 8 a ta b tb) e0) (resT 8 ta tb) (Vl.mk (doN 8 a ta c tc) e0)
                                                                                              (resT 8 ta tc) ==
                                                                                            0 &&
                                                                                        doC 6 (Vl.mk (doN 8 a ta b tb) e0) (resT 8 ta tb) (Vl.mk (doN 8 a ta c tc) e0) (resT 8 ta tc) ==
                                                                                          0) then
                                                                                  R (Value.bool true)
                                                                                else
                                                                                  R
                                                                                    (Value.bool
                                                                                      (cmE
                                                                                            (Vl.mk
                                                                                              (doN 6 (Vl.mk (doN 8 a ta b tb) e0) (resT 8 ta tb) (Vl.mk (doN 8 a ta c tc) e0)
                                                                                                (resT 8 ta tc))
                                                                                              e0)
                                                                                            (resT 6 (resT 8 ta tb) (resT 8 ta tc))
                                                                                            (Vl.mk (doN 8 a ta (Vl.mk (doN 6 b tb c tc) e0) (resT 6 tb tc)) e0)
                                                                                            (resT 8 ta (resT 6 tb tc)) ==
                                                                                          0 &&
                                                                                        cmN
                                                                                            (Vl.mk
                                                                                              (doN 6 (Vl.mk (doN 8 a ta b tb) e0) (resT 8 ta tb) (Vl.mk (doN 8 a ta c tc) e0)
                                                                                                (resT 8 ta tc))
                                                                                              e0)
                                                                                            (resT 6 (resT 8 ta tb) (resT 8 ta tc))
                                                                                            (Vl.mk (doN 8 a ta (Vl.mk (doN 6 b tb c tc) e0) (resT 6 tb tc)) e0)
                                                                                            (resT 8 ta (resT 6 tb tc)) ==
                                                                                          0))) := by kernel_rfl
theorem ok13 : PureOK Try.prog 13 (sp6 s13) := by
  refine pure6 ok_G19 hmix fn13 lokf_none (Nat.le_of_ble_eq_true (by kernel_rfl)) fun a ta b tb c tc hc => ?_
  rw [Does, v13]
  refine cond_intro (fun _ => rfl) (fun h => ?_)
  refine cond_intro (fun _ => rfl) (fun h' => ?_)
  obtain ⟨ha, hb, hk⟩ := both_of h
  obtain ⟨_, hc, hk'⟩ := both_of h'
  have E := resT_bin (op := 6) (by omega) (by omega) ha.1 hb.1 hk
  have E' := resT_bin (op := 6) (by omega) (by omega) hb.1 ha.1 hk.symm
  have D := do_two (op := 6) (by omega) (by omega) ha hb hk
  have D' := do_two (op := 6) (by omega) (by omega) hb ha hk.symm
  obtain ⟨q1, q2, q3⟩ := do_comm (op := 6) (by omega) ha hb hk
  refine c_f (by rw [E.2]; rfl) (c_f (by rw [E'.2]; rfl) (c_f (by rw [D.1]; rfl) (c_f (by rw [D'.1]; rfl) (c_f (by rw [q1, ty_eq rfl]; rfl) (c_f (by rw [q2]; simp) (c_f (by rw [q3]; simp) ?_))))))
  clear E E' D D' q1 q2 q3
  have E := resT_bin (op := 8) (by omega) (by omega) ha.1 hb.1 hk
  have E' := resT_bin (op := 8) (by omega) (by omega) hb.1 ha.1 hk.symm
  have D := do_two (op := 8) (by omega) (by omega) ha hb hk
  have D' := do_two (op := 8) (by omega) (by omega) hb ha hk.symm
  obtain ⟨q1, q2, q3⟩ := do_comm (op := 8) (by omega) ha hb hk
  refine c_f (by rw [E.2]; rfl) (c_f (by rw [E'.2]; rfl) (c_f (by rw [D.1]; rfl) (c_f (by rw [D'.1]; rfl) (c_f (by rw [q1, ty_eq rfl]; rfl) (c_f (by rw [q2]; simp) (c_f (by rw [q3]; simp) ?_))))))
  clear E E' D D' q1 q2 q3
  have E := resT_bin (op := 12) (by omega) (by omega) ha.1 hb.1 hk
  have E' := resT_bin (op := 12) (by omega) (by omega) hb.1 ha.1 hk.symm
  have D := do_two (op := 12) (by omega) (by omega) ha hb hk
  have D' := do_two (op := 12) (by omega) (by omega) hb ha hk.symm
  obtain ⟨q1, q2, q3⟩ := do_comm (op := 12) (by omega) ha hb hk
  refine c_f (by rw [E.2]; rfl) (c_f (by rw [E'.2]; rfl) (c_f (by rw [D.1]; rfl) (c_f (by rw [D'.1]; rfl) (c_f (by rw [q1, ty_eq rfl]; rfl) (c_f (by rw [q2]; simp) (c_f (by rw [q3]; simp) ?_))))))
  clear E E' D D' q1 q2 q3
  have E := resT_bin (op := 13) (by omega) (by omega) ha.1 hb.1 hk
  have E' := resT_bin (op := 13) (by omega) (by omega) hb.1 ha.1 hk.symm
  have D := do_two (op := 13) (by omega) (by omega) ha hb hk
  have D' := do_two (op := 13) (by omega) (by omega) hb ha hk.symm
  obtain ⟨q1, q2, q3⟩ := do_comm (op := 13) (by omega) ha hb hk
  refine c_f (by rw [E.2]; rfl) (c_f (by rw [E'.2]; rfl) (c_f (by rw [D.1]; rfl) (c_f (by rw [D'.1]; rfl) (c_f (by rw [q1, ty_eq rfl]; rfl) (c_f (by rw [q2]; simp) (c_f (by rw [q3]; simp) ?_))))))
  clear E E' D D' q1 q2 q3
  refine cond_intro (fun _ => rfl) (fun k1 => ?_)
  refine cond_intro (fun _ => rfl) (fun k2 => ?_)
  refine cond_intro (fun k3 => ?_) (fun k3 => ?_)
  · refine c_f (by rw [two_0 (ring_back ha hb hk (calc_c k1) (calc_c' k3))]; rfl) ?_
    refine cond_intro (fun k4 => ?_) (fun k4 => ?_)
    · refine cond_intro (fun k5 => ?_) (fun k5 => ?_)
      · obtain ⟨p1, p2⟩ := ring_assoc ha hb hc hk hk' (calc_c k1) (calc_c k2) (calc_c' k4) (calc_c' k5)
        refine c_f (by rw [p1]; simp) (c_f (by rw [two_0 p2]; rfl) ?_)
        refine cond_intro (fun _ => rfl) (fun q1 => ?_)
        have q1 := of_decide_eq_false q1
        have ra := valid_r ha.1
        have rb := valid_r hb.1
        have rc := valid_r hc.1
        rw [imax_max, w64 (by omega)] at q1
        refine cond_intro (fun _ => rfl) (fun q2 => ?_)
        refine cond_intro (fun _ => rfl) (fun q3 => ?_)
        refine cond_intro (fun _ => rfl) (fun q4 => ?_)
        refine cond_intro (fun _ => rfl) (fun q5 => ?_)
        rw [two_0 (ring_mul ha hb hc hk hk' (by omega) (calc_c k2) (calc_c q2) (calc_c q3) (calc_c q4) (calc_c q5))]
        rfl
      · refine cond_intro (fun _ => rfl) (fun q1 => ?_)
        have q1 := of_decide_eq_false q1
        have ra := valid_r ha.1
        have rb := valid_r hb.1
        have rc := valid_r hc.1
        rw [imax_max, w64 (by omega)] at q1
        refine cond_intro (fun _ => rfl) (fun q2 => ?_)
        refine cond_intro (fun _ => rfl) (fun q3 => ?_)
        refine cond_intro (fun _ => rfl) (fun q4 => ?_)
        refine cond_intro (fun _ => rfl) (fun q5 => ?_)
        rw [two_0 (ring_mul ha hb hc hk hk' (by omega) (calc_c k2) (calc_c q2) (calc_c q3) (calc_c q4) (calc_c q5))]
        rfl
    · refine cond_intro (fun _ => rfl) (fun q1 => ?_)
      have q1 := of_decide_eq_false q1
      have ra := valid_r ha.1
      have rb := valid_r hb.1
      have rc := valid_r hc.1
      rw [imax_max, w64 (by omega)] at q1
      refine cond_intro (fun _ => rfl) (fun q2 => ?_)
      refine cond_intro (fun _ => rfl) (fun q3 => ?_)
      refine cond_intro (fun _ => rfl) (fun q4 => ?_)
      refine cond_intro (fun _ => rfl) (fun q5 => ?_)
      rw [two_0 (ring_mul ha hb hc hk hk' (by omega) (calc_c k2) (calc_c q2) (calc_c q3) (calc_c q4) (calc_c q5))]
      rfl
  · refine cond_intro (fun k4 => ?_) (fun k4 => ?_)
    · refine cond_intro (fun k5 => ?_) (fun k5 => ?_)
      · obtain ⟨p1, p2⟩ := ring_assoc ha hb hc hk hk' (calc_c k1) (calc_c k2) (calc_c' k4) (calc_c' k5)
        refine c_f (by rw [p1]; simp) (c_f (by rw [two_0 p2]; rfl) ?_)
        refine cond_intro (fun _ => rfl) (fun q1 => ?_)
        have q1 := of_decide_eq_false q1
        have ra := valid_r ha.1
        have rb := valid_r hb.1
        have rc := valid_r hc.1
        rw [imax_max, w64 (by omega)] at q1
        refine cond_intro (fun _ => rfl) (fun q2 => ?_)
        refine cond_intro (fun _ => rfl) (fun q3 => ?_)
        refine cond_intro (fun _ => rfl) (fun q4 => ?_)
        refine cond_intro (fun _ => rfl) (fun q5 => ?_)
        rw [two_0 (ring_mul ha hb hc hk hk' (by omega) (calc_c k2) (calc_c q2) (calc_c q3) (calc_c q4) (calc_c q5))]
        rfl
      · refine cond_intro (fun _ => rfl) (fun q1 => ?_)
        have q1 := of_decide_eq_false q1
        have ra := valid_r ha.1
        have rb := valid_r hb.1
        have rc := valid_r hc.1
        rw [imax_max, w64 (by omega)] at q1
        refine cond_intro (fun _ => rfl) (fun q2 => ?_)
        refine cond_intro (fun _ => rfl) (fun q3 => ?_)
        refine cond_intro (fun _ => rfl) (fun q4 => ?_)
        refine cond_intro (fun _ => rfl) (fun q5 => ?_)
        rw [two_0 (ring_mul ha hb hc hk hk' (by omega) (calc_c k2) (calc_c q2) (calc_c q3) (calc_c q4) (calc_c q5))]
        rfl
    · refine cond_intro (fun _ => rfl) (fun q1 => ?_)
      have q1 := of_decide_eq_false q1
      have ra := valid_r ha.1
      have rb := valid_r hb.1
      have rc := valid_r hc.1
      rw [imax_max, w64 (by omega)] at q1
      refine cond_intro (fun _ => rfl) (fun q2 => ?_)
      refine cond_intro (fun _ => rfl) (fun q3 => ?_)
      refine cond_intro (fun _ => rfl) (fun q4 => ?_)
      refine cond_intro (fun _ => rfl) (fun q5 => ?_)
      rw [two_0 (ring_mul ha hb hc hk hk' (by omega) (calc_c k2) (calc_c q2) (calc_c q3) (calc_c q4) (calc_c q5))]
      rfl

end Go.Fx
