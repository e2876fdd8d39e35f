/- The law on stuffed bits comes to true: it is walked along its one way; no condition but the named facts. -/
import Derived.Deep.CutRange
import Derived.Deep.DeepCutAuto
import Derived.Test.YtoeninciicickaaPure0
import Derived.Test.YtoeninciicickaaLaw
import Derived.Test.YtoeninciicickaaPA1
import Derived.Test.YtoeninciicickaaPA5
import Derived.Test.YtoeninciicickaaPA8
import Derived.Test.YtoeninciicickaaPA12
import Derived.Test.YtoeninciicickaaPA13
import Derived.Test.YtoeninciicickaaPA16
import Derived.Test.YtoeninciicickaaPA17
import Derived.Test.YtoeninciicickaaPA18
import Derived.Test.YtoeninciicickaaPA20
import Derived.Test.YtoeninciicickaaPA25
import Derived.Test.YtoeninciicickaaPA27
import Derived.Test.YtoeninciicickaaPA29
import Derived.Test.YtoeninciicickaaPA31
import Derived.Test.YtoeninciicickaaPA33
namespace Go.Proofs.Ytoeninciicickaa.PA
open Go.RowKit Go.Proofs.YtoeninciicickaaW.PrintWords Go.Proofs.YtoeninciicickaaW.PrintLast Go.Proofs.YtoeninciicickaaW.PrintMore
set_option linter.unusedVariables false
set_option linter.unusedSimpArgs false
/-- The row of ones behind j bits. -/
def rowTo (r : Int) : List Int → Nat → Int
  | [], _ => r
  | _ :: _, 0 => r
  | x :: l, j + 1 => rowTo ((r + 1) * x) l j
theorem rowTo_step (l : List Int) : ∀ (r : Int) (j : Nat), j < l.length → rowTo r l (j + 1) = (rowTo r l j + 1) * rd l (j : Int) := by
  induction l with
  | nil => intro r j h; simp at h
  | cons x l ih =>
    intro r j h
    cases j with
    | zero => cases l <;> simp [rowTo, rd]
    | succ j =>
      have := ih ((r + 1) * x) j (by simpa using h)
      simp only [rowTo]
      rw [this]
      simp [rd]
set_option maxHeartbeats 8000000 in
set_option maxRecDepth 100000 in
theorem bits_walk (A : Option Addr) (c : Nat) (l : List Int) (B : Option Addr) (e : Nat) (m : List Int) (W : World) (hA : Kd.C (Kd.int .u8) W A l.length l) (hAL : l.length ≤ c) (hB : Kd.C (Kd.int .u8) W B m.length m) (hBL : m.length ≤ e)
    (kq : Nat) (X R Y Q Z T V U : List Int) (ok one three five : Bool) (sm : Int)
    (HRL_ : R.length ≤ 1000)
    (HBig_ : laws_big.f l m = some false)
    (HD1_ : spec_DrawStuffBits.f kq l = some X)
    (HI1_ : impl_StuffBits.f kq X = some (R, ok))
    (HS1_ : spec_StuffBits.f kq X = some (R, ok))
    (HE1_ : laws_zSame.f kq R R = some true)
    (HU1_ : ok = true → impl_UnstuffBits.f kq R = some (X, true))
    (HEX_ : laws_zSame.f kq X X = some true)
    (HZ1_ : ok = true → laws_zSum.f kq R = some sm ∧ laws_zSum.f kq X = some sm)
    (HRow_ : ok = true → ∀ j, j ≤ R.length → 0 ≤ rowTo 0 R j ∧ rowTo 0 R j ≤ 5)
    (HD2_ : spec_DrawUnstuffBits.f kq m = some Y)
    (HI2_ : impl_UnstuffBits.f kq Y = some (Q, one))
    (HS2_ : spec_UnstuffBits.f kq Y = some (Q, one))
    (HE2_ : laws_zSame.f kq Q Q = some true)
    (HU2_ : one = true → impl_StuffBits.f kq Q = some (Y, true))
    (HEY_ : laws_zSame.f kq Y Y = some true)
    (HD3_ : spec_DrawBitsOf.f kq m = some Z)
    (HI3_ : impl_BitsOf.f kq Z = some (T, three))
    (HS3_ : spec_BitsOf.f kq Z = some (T, three))
    (HE3_ : laws_zSame.f kq T T = some true)
    (HD4_ : spec_DrawFromBits.f kq m = some V)
    (HI4_ : impl_FromBits.f kq V = some (U, five))
    (HS4_ : spec_FromBits.f kq V = some (U, five))
    (HE4_ : laws_zSame.f kq U U = some true)
    (HU3_ : three = true → impl_FromBits.f kq T = some (Z, true) ∧ T.length = 8 * Z.length ∧ Z.length ≤ 40)
    (HEZ_ : laws_zSame.f kq Z Z = some true)
    (HU4_ : five = true → impl_BitsOf.f kq U = some (V, true))
    (HEV_ : laws_zSame.f kq V V = some true)
    :
    Calls Try.prog 3 #[.slice A l.length c, .slice B m.length e] W fun e W' => e = .returned (.bool true) ∧ Below W.heap.size W W' := by
  have HA := Aside0.mk hA
  have HB := Aside0.mk hB
  have HAL := Aside0.mk hAL
  have HBL := Aside0.mk hBL
  have HRL := Aside0.mk HRL_
  have HBig := Aside0.mk HBig_
  have HD1 := Aside0.mk HD1_
  have HI1 := Aside0.mk HI1_
  have HS1 := Aside0.mk HS1_
  have HE1 := Aside0.mk HE1_
  have HU1 := Aside0.mk HU1_
  have HEX := Aside0.mk HEX_
  have HZ1 := Aside0.mk HZ1_
  have HRow := Aside0.mk HRow_
  have HD2 := Aside0.mk HD2_
  have HI2 := Aside0.mk HI2_
  have HS2 := Aside0.mk HS2_
  have HE2 := Aside0.mk HE2_
  have HU2 := Aside0.mk HU2_
  have HEY := Aside0.mk HEY_
  have HD3 := Aside0.mk HD3_
  have HI3 := Aside0.mk HI3_
  have HS3 := Aside0.mk HS3_
  have HE3 := Aside0.mk HE3_
  have HD4 := Aside0.mk HD4_
  have HI4 := Aside0.mk HI4_
  have HS4 := Aside0.mk HS4_
  have HE4 := Aside0.mk HE4_
  have HU3 := Aside0.mk HU3_
  have HEZ := Aside0.mk HEZ_
  have HU4 := Aside0.mk HU4_
  have HEV := Aside0.mk HEV_
  clear hA hB hAL hBL HRL_ HBig_ HD1_ HI1_ HS1_ HE1_ HU1_ HEX_ HZ1_ HRow_ HD2_ HI2_ HS2_ HE2_ HU2_ HEY_ HD3_ HI3_ HS3_ HE3_ HD4_ HI4_ HS4_ HE4_ HU3_ HEZ_ HU4_ HEV_
  go_enter Try.func3, Try.ntmps3
  go_wp2_with fail
  (refine (laws_big.calls A c l B e m false _ (Kd.C_below HA.out (by repeat (first | exact (Below.refl _ _) | apply pw_below_drewN | apply below_drew | apply below_alloc))) HAL.out (Kd.C_below HB.out (by repeat (first | exact (Below.refl _ _) | apply pw_below_drewN | apply below_drew | apply below_alloc))) HBL.out HBig.out).mono ?_)
  rintro e w' ⟨rfl, ⟨nd0, rfl⟩⟩
  go_wp2_with fail
  (refine (spec_DrawStuffBits.calls kq A c l _ _ (Kd.C_below HA.out (by repeat (first | exact (Below.refl _ _) | apply pw_below_drewN | apply below_drew | apply below_alloc))) HAL.out HD1.out).mono ?_)
  rintro e w1 ⟨v1, rfl, hr, hb⟩
  have HB1 := Aside0.mk (show Below W.heap.size W w1 from lw_then (by repeat (first | exact (Below.refl _ _) | apply pw_below_drewN | apply below_drew | apply below_alloc)) hb)
  obtain ⟨Av1, cv1, rfl⟩ := Kd.R_slice hr
  have Hv1 := Aside0.mk (Kd.R_reads' hr)
  clear hr
  clear hb
  go_wp2_with fail
  (refine (impl_StuffBits.calls kq Av1 cv1 X _ _ _ (Kd.C_below Hv1.out.2.2 (by repeat (first | exact (Below.refl _ _) | apply pw_below_drewN | apply below_drew | apply below_alloc))) Hv1.out.2.1 HI1.out).mono ?_)
  rintro e w2 ⟨v2, rfl, hr, hb⟩
  have HB2 := Aside0.mk (show Below w1.heap.size w1 w2 from lw_then (by repeat (first | exact (Below.refl _ _) | apply pw_below_drewN | apply below_drew | apply below_alloc)) hb)
  obtain ⟨Av2, cv2, rfl⟩ := Kd.R_slice hr
  have Hv2 := Aside0.mk (Kd.R_reads' hr)
  clear hr
  clear hb
  go_wp2_with fail
  (refine (spec_StuffBits.calls kq Av1 cv1 X _ _ _ (Kd.C_below Hv1.out.2.2 (by repeat (first | exact HB2.out | apply pw_below_drewN | apply below_drew | apply below_alloc))) Hv1.out.2.1 HS1.out).mono ?_)
  rintro e w3 ⟨v3, rfl, hr, hb⟩
  have HB3 := Aside0.mk (show Below w2.heap.size w2 w3 from lw_then (by repeat (first | exact (Below.refl _ _) | apply pw_below_drewN | apply below_drew | apply below_alloc)) hb)
  obtain ⟨Av3, cv3, rfl⟩ := Kd.R_slice hr
  have Hv3 := Aside0.mk (Kd.R_reads' hr)
  clear hr
  clear hb
  go_wp2_with fail
  (refine (laws_zSame.calls kq Av2 cv2 R Av3 cv3 R true _ (Kd.C_below Hv2.out.2.2 (by repeat (first | exact HB3.out | apply pw_below_drewN | apply below_drew | apply below_alloc))) Hv2.out.2.1 (Kd.C_below Hv3.out.2.2 (by repeat (first | exact (Below.refl _ _) | apply pw_below_drewN | apply below_drew | apply below_alloc))) Hv3.out.2.1 HE1.out).mono ?_)
  rintro e w' ⟨rfl, ⟨nd1, rfl⟩⟩
  go_upto_if 60 with (fail)
  go_cut [] from 10 to 93 (fun wx => Below w3.heap.size w3 wx)
  case first =>
    cases ok
    focus
      go_wp2_with fail
      go_meet
      case rel => exact (by repeat (first | exact (Below.refl _ _) | apply pw_below_drewN | apply below_drew | apply below_alloc))
    focus
      go_wp2_with fail
      (refine (impl_UnstuffBits.calls kq Av2 cv2 R _ _ _ (Kd.C_below Hv2.out.2.2 (by repeat (first | exact HB3.out | apply pw_below_drewN | apply below_drew | apply below_alloc))) Hv2.out.2.1 (HU1.out (by trivial))).mono ?_)
      rintro e w4 ⟨v4, rfl, hr, hb⟩
      have HB4 := Aside0.mk (show Below w3.heap.size w3 w4 from lw_then (by repeat (first | exact (Below.refl _ _) | apply pw_below_drewN | apply below_drew | apply below_alloc)) hb)
      obtain ⟨Av4, cv4, rfl⟩ := Kd.R_slice hr
      have Hv4 := Aside0.mk (Kd.R_reads' hr)
      clear hr
      clear hb
      go_wp2_with fail
      (refine (laws_zSame.calls kq Av4 cv4 X Av1 cv1 X true _ (Kd.C_below Hv4.out.2.2 (by repeat (first | exact (Below.refl _ _) | apply pw_below_drewN | apply below_drew | apply below_alloc))) Hv4.out.2.1 (Kd.C_below Hv1.out.2.2 (by repeat (first | exact (lw_then (lw_then HB2.out HB3.out) HB4.out) | apply pw_below_drewN | apply below_drew | apply below_alloc))) Hv1.out.2.1 HEX.out).mono ?_)
      rintro e w' ⟨rfl, ⟨nd2, rfl⟩⟩
      go_wp2_with fail
      (refine (laws_zSum.calls kq Av2 cv2 R sm _ (Kd.C_below Hv2.out.2.2 (by repeat (first | exact (lw_then HB3.out HB4.out) | apply pw_below_drewN | apply below_drew | apply below_alloc))) Hv2.out.2.1 (HZ1.out (by trivial)).1).mono ?_)
      rintro e w' ⟨rfl, ⟨nd3, rfl⟩⟩
      go_wp2_with fail
      (refine (laws_zSum.calls kq Av1 cv1 X sm _ (Kd.C_below Hv1.out.2.2 (by repeat (first | exact (lw_then (lw_then HB2.out HB3.out) HB4.out) | apply pw_below_drewN | apply below_drew | apply below_alloc))) Hv1.out.2.1 (HZ1.out (by trivial)).2).mono ?_)
      rintro e w' ⟨rfl, ⟨nd4, rfl⟩⟩
      go_wp2_with fail
      go_loopg [12, 83] (R.length) (fun kr v12 v83 w' => ∃ j : Nat, v12 = .int .i64 (rowTo 0 R j) ∧ v83 = .int .i64 j ∧ Aside0 (j + kr = R.length) ∧ Aside0 (Below w4.heap.size w4 w'))
      case atStart => exact ⟨0, by cases R <;> rfl, rfl, ⟨by omega⟩, ⟨by repeat (first | exact Below.refl _ _ | apply pw_below_drewN | apply below_drew)⟩⟩
      case round =>
        obtain ⟨j, rfl, rfl, HJ, HW⟩ := hrel
        cases gk with
        | zero =>
          have hd : decide (j < R.length) = false := decide_eq_false (by have := HJ.out; omega)
          go_wp2_with fail
          go_meet
          case rel => exact (by repeat (first | exact (lw_then HB4.out HW.out) | apply pw_below_drewN | apply below_drew | apply below_alloc))
        | succ k1 =>
          have hj : j < R.length := by have := HJ.out; omega
          have hd : decide (j < R.length) = true := decide_eq_true hj
          obtain ⟨ai, eA, hxi⟩ := Kd.at_int Hv2.out.2.2 (j : Int) (by omega) (by omega)
          subst eA
          rw [Int.toNat_natCast] at hxi
          have hc := pw_cell_below (lw_then (lw_then HB3.out HB4.out) HW.out) hxi
          have hr0 := HRow.out (by trivial) j (by omega)
          have hr1 := HRow.out (by trivial) (j + 1) (by omega)
          have hst : wrap64 (wrap64 (rowTo 0 R j + 1) * rd R (j : Int)) = rowTo 0 R (j + 1) := by
            rw [w64 (x := rowTo 0 R j + 1) (by omega) (by omega), ← rowTo_step R 0 j hj, w64 (by omega) (by omega)]
          have d5 : decide (rowTo 0 R (j + 1) > 5) = false := decide_eq_false (by omega)
          clear hr0 hr1
          have hrl := HRL.out
          have hwj : wrap64 ((j : Int) + 1) = (j : Int) + 1 := w64 (by omega) (by omega)
          clear hrl
          go_wp2_with fail
          go_roundg k1
          case measure => have := HJ.out; omega
          case rel => exact ⟨j + 1, by rw [hst], by have := HRL.out; go_num, ⟨by have := HJ.out; omega⟩, ⟨by repeat (first | exact HW.out | apply pw_below_drewN | apply below_drew)⟩⟩
  case rest =>
    generalize wc = w5 at hcut ⊢
    have HB5 := Aside0.mk (show Below w3.heap.size w3 w5 from hcut)
    clear hcut
    go_wp2_with fail
    (refine (spec_DrawUnstuffBits.calls kq B e m _ _ (Kd.C_below HB.out (by repeat (first | exact (lw_then (lw_then (lw_then HB1.out HB2.out) HB3.out) HB5.out) | apply pw_below_drewN | apply below_drew | apply below_alloc))) HBL.out HD2.out).mono ?_)
    rintro e w6 ⟨v5, rfl, hr, hb⟩
    have HB6 := Aside0.mk (show Below w5.heap.size w5 w6 from lw_then (by repeat (first | exact (Below.refl _ _) | apply pw_below_drewN | apply below_drew | apply below_alloc)) hb)
    obtain ⟨Av5, cv5, rfl⟩ := Kd.R_slice hr
    have Hv5 := Aside0.mk (Kd.R_reads' hr)
    clear hr
    clear hb
    go_wp2_with fail
    (refine (impl_UnstuffBits.calls kq Av5 cv5 Y _ _ _ (Kd.C_below Hv5.out.2.2 (by repeat (first | exact (Below.refl _ _) | apply pw_below_drewN | apply below_drew | apply below_alloc))) Hv5.out.2.1 HI2.out).mono ?_)
    rintro e w7 ⟨v6, rfl, hr, hb⟩
    have HB7 := Aside0.mk (show Below w6.heap.size w6 w7 from lw_then (by repeat (first | exact (Below.refl _ _) | apply pw_below_drewN | apply below_drew | apply below_alloc)) hb)
    obtain ⟨Av6, cv6, rfl⟩ := Kd.R_slice hr
    have Hv6 := Aside0.mk (Kd.R_reads' hr)
    clear hr
    clear hb
    go_wp2_with fail
    (refine (spec_UnstuffBits.calls kq Av5 cv5 Y _ _ _ (Kd.C_below Hv5.out.2.2 (by repeat (first | exact HB7.out | apply pw_below_drewN | apply below_drew | apply below_alloc))) Hv5.out.2.1 HS2.out).mono ?_)
    rintro e w8 ⟨v7, rfl, hr, hb⟩
    have HB8 := Aside0.mk (show Below w7.heap.size w7 w8 from lw_then (by repeat (first | exact (Below.refl _ _) | apply pw_below_drewN | apply below_drew | apply below_alloc)) hb)
    obtain ⟨Av7, cv7, rfl⟩ := Kd.R_slice hr
    have Hv7 := Aside0.mk (Kd.R_reads' hr)
    clear hr
    clear hb
    go_wp2_with fail
    (refine (laws_zSame.calls kq Av6 cv6 Q Av7 cv7 Q true _ (Kd.C_below Hv6.out.2.2 (by repeat (first | exact HB8.out | apply pw_below_drewN | apply below_drew | apply below_alloc))) Hv6.out.2.1 (Kd.C_below Hv7.out.2.2 (by repeat (first | exact (Below.refl _ _) | apply pw_below_drewN | apply below_drew | apply below_alloc))) Hv7.out.2.1 HE2.out).mono ?_)
    rintro e w' ⟨rfl, ⟨nd5, rfl⟩⟩
    go_upto_if 115 with (fail)
    go_cut [] from 20 to 128 (fun wx => Below w8.heap.size w8 wx)
    case first =>
      cases one
      focus
        go_wp2_with fail
        go_meet
        case rel => exact (by repeat (first | exact (Below.refl _ _) | apply pw_below_drewN | apply below_drew | apply below_alloc))
      focus
        go_wp2_with fail
        (refine (impl_StuffBits.calls kq Av6 cv6 Q _ _ _ (Kd.C_below Hv6.out.2.2 (by repeat (first | exact HB8.out | apply pw_below_drewN | apply below_drew | apply below_alloc))) Hv6.out.2.1 (HU2.out (by trivial))).mono ?_)
        rintro e w9 ⟨v8, rfl, hr, hb⟩
        have HB9 := Aside0.mk (show Below w8.heap.size w8 w9 from lw_then (by repeat (first | exact (Below.refl _ _) | apply pw_below_drewN | apply below_drew | apply below_alloc)) hb)
        obtain ⟨Av8, cv8, rfl⟩ := Kd.R_slice hr
        have Hv8 := Aside0.mk (Kd.R_reads' hr)
        clear hr
        clear hb
        go_wp2_with fail
        (refine (laws_zSame.calls kq Av8 cv8 Y Av5 cv5 Y true _ (Kd.C_below Hv8.out.2.2 (by repeat (first | exact (Below.refl _ _) | apply pw_below_drewN | apply below_drew | apply below_alloc))) Hv8.out.2.1 (Kd.C_below Hv5.out.2.2 (by repeat (first | exact (lw_then (lw_then HB7.out HB8.out) HB9.out) | apply pw_below_drewN | apply below_drew | apply below_alloc))) Hv5.out.2.1 HEY.out).mono ?_)
        rintro e w' ⟨rfl, ⟨nd6, rfl⟩⟩
        go_wp2_with fail
        go_meet
        case rel => exact (by repeat (first | exact HB9.out | apply pw_below_drewN | apply below_drew | apply below_alloc))
    case rest =>
      generalize wc = w10 at hcut ⊢
      have HB10 := Aside0.mk (show Below w8.heap.size w8 w10 from hcut)
      clear hcut
      go_wp2_with fail
      (refine (spec_DrawBitsOf.calls kq B e m _ _ (Kd.C_below HB.out (by repeat (first | exact (lw_then (lw_then (lw_then (lw_then (lw_then (lw_then (lw_then HB1.out HB2.out) HB3.out) HB5.out) HB6.out) HB7.out) HB8.out) HB10.out) | apply pw_below_drewN | apply below_drew | apply below_alloc))) HBL.out HD3.out).mono ?_)
      rintro e w11 ⟨v9, rfl, hr, hb⟩
      have HB11 := Aside0.mk (show Below w10.heap.size w10 w11 from lw_then (by repeat (first | exact (Below.refl _ _) | apply pw_below_drewN | apply below_drew | apply below_alloc)) hb)
      obtain ⟨Av9, cv9, rfl⟩ := Kd.R_slice hr
      have Hv9 := Aside0.mk (Kd.R_reads' hr)
      clear hr
      clear hb
      go_wp2_with fail
      (refine (impl_BitsOf.calls kq Av9 cv9 Z _ _ _ (Kd.C_below Hv9.out.2.2 (by repeat (first | exact (Below.refl _ _) | apply pw_below_drewN | apply below_drew | apply below_alloc))) Hv9.out.2.1 HI3.out).mono ?_)
      rintro e w12 ⟨w1_, rfl, hr, hb⟩
      have HB12 := Aside0.mk (show Below w11.heap.size w11 w12 from lw_then (by repeat (first | exact (Below.refl _ _) | apply pw_below_drewN | apply below_drew | apply below_alloc)) hb)
      obtain ⟨Aw1_, cw1_, rfl⟩ := Kd.R_slice hr
      have Hw1_ := Aside0.mk (Kd.R_reads' hr)
      clear hr
      clear hb
      go_wp2_with fail
      (refine (spec_BitsOf.calls kq Av9 cv9 Z _ _ _ (Kd.C_below Hv9.out.2.2 (by repeat (first | exact HB12.out | apply pw_below_drewN | apply below_drew | apply below_alloc))) Hv9.out.2.1 HS3.out).mono ?_)
      rintro e w13 ⟨w2_, rfl, hr, hb⟩
      have HB13 := Aside0.mk (show Below w12.heap.size w12 w13 from lw_then (by repeat (first | exact (Below.refl _ _) | apply pw_below_drewN | apply below_drew | apply below_alloc)) hb)
      obtain ⟨Aw2_, cw2_, rfl⟩ := Kd.R_slice hr
      have Hw2_ := Aside0.mk (Kd.R_reads' hr)
      clear hr
      clear hb
      go_wp2_with fail
      (refine (spec_DrawFromBits.calls kq B e m _ _ (Kd.C_below HB.out (by repeat (first | exact (lw_then (lw_then (lw_then (lw_then (lw_then (lw_then (lw_then (lw_then (lw_then (lw_then HB1.out HB2.out) HB3.out) HB5.out) HB6.out) HB7.out) HB8.out) HB10.out) HB11.out) HB12.out) HB13.out) | apply pw_below_drewN | apply below_drew | apply below_alloc))) HBL.out HD4.out).mono ?_)
      rintro e w14 ⟨w3_, rfl, hr, hb⟩
      have HB14 := Aside0.mk (show Below w13.heap.size w13 w14 from lw_then (by repeat (first | exact (Below.refl _ _) | apply pw_below_drewN | apply below_drew | apply below_alloc)) hb)
      obtain ⟨Aw3_, cw3_, rfl⟩ := Kd.R_slice hr
      have Hw3_ := Aside0.mk (Kd.R_reads' hr)
      clear hr
      clear hb
      go_wp2_with fail
      (refine (impl_FromBits.calls kq Aw3_ cw3_ V _ _ _ (Kd.C_below Hw3_.out.2.2 (by repeat (first | exact (Below.refl _ _) | apply pw_below_drewN | apply below_drew | apply below_alloc))) Hw3_.out.2.1 HI4.out).mono ?_)
      rintro e w15 ⟨w4_, rfl, hr, hb⟩
      have HB15 := Aside0.mk (show Below w14.heap.size w14 w15 from lw_then (by repeat (first | exact (Below.refl _ _) | apply pw_below_drewN | apply below_drew | apply below_alloc)) hb)
      obtain ⟨Aw4_, cw4_, rfl⟩ := Kd.R_slice hr
      have Hw4_ := Aside0.mk (Kd.R_reads' hr)
      clear hr
      clear hb
      go_wp2_with fail
      (refine (spec_FromBits.calls kq Aw3_ cw3_ V _ _ _ (Kd.C_below Hw3_.out.2.2 (by repeat (first | exact HB15.out | apply pw_below_drewN | apply below_drew | apply below_alloc))) Hw3_.out.2.1 HS4.out).mono ?_)
      rintro e w16 ⟨w5_, rfl, hr, hb⟩
      have HB16 := Aside0.mk (show Below w15.heap.size w15 w16 from lw_then (by repeat (first | exact (Below.refl _ _) | apply pw_below_drewN | apply below_drew | apply below_alloc)) hb)
      obtain ⟨Aw5_, cw5_, rfl⟩ := Kd.R_slice hr
      have Hw5_ := Aside0.mk (Kd.R_reads' hr)
      clear hr
      clear hb
      go_wp2_with fail
      (refine (laws_zSame.calls kq Aw1_ cw1_ T Aw2_ cw2_ T true _ (Kd.C_below Hw1_.out.2.2 (by repeat (first | exact (lw_then (lw_then (lw_then HB13.out HB14.out) HB15.out) HB16.out) | apply pw_below_drewN | apply below_drew | apply below_alloc))) Hw1_.out.2.1 (Kd.C_below Hw2_.out.2.2 (by repeat (first | exact (lw_then (lw_then HB14.out HB15.out) HB16.out) | apply pw_below_drewN | apply below_drew | apply below_alloc))) Hw2_.out.2.1 HE3.out).mono ?_)
      rintro e w' ⟨rfl, ⟨nd7, rfl⟩⟩
      go_wp2_with fail
      (refine (laws_zSame.calls kq Aw4_ cw4_ U Aw5_ cw5_ U true _ (Kd.C_below Hw4_.out.2.2 (by repeat (first | exact HB16.out | apply pw_below_drewN | apply below_drew | apply below_alloc))) Hw4_.out.2.1 (Kd.C_below Hw5_.out.2.2 (by repeat (first | exact (Below.refl _ _) | apply pw_below_drewN | apply below_drew | apply below_alloc))) Hw5_.out.2.1 HE4.out).mono ?_)
      rintro e w' ⟨rfl, ⟨nd8, rfl⟩⟩
      go_upto_if 173 with (fail)
      go_cut [] from 32 to 194 (fun wx => Below w16.heap.size w16 wx)
      case first =>
        cases three
        focus
          go_wp2_with fail
          go_meet
          case rel => exact (by repeat (first | exact (Below.refl _ _) | apply pw_below_drewN | apply below_drew | apply below_alloc))
        focus
          go_wp2_with fail
          (refine (impl_FromBits.calls kq Aw1_ cw1_ T _ _ _ (Kd.C_below Hw1_.out.2.2 (by repeat (first | exact (lw_then (lw_then (lw_then HB13.out HB14.out) HB15.out) HB16.out) | apply pw_below_drewN | apply below_drew | apply below_alloc))) Hw1_.out.2.1 (HU3.out (by trivial)).1).mono ?_)
          rintro e w17 ⟨w6_, rfl, hr, hb⟩
          have HB17 := Aside0.mk (show Below w16.heap.size w16 w17 from lw_then (by repeat (first | exact (Below.refl _ _) | apply pw_below_drewN | apply below_drew | apply below_alloc)) hb)
          obtain ⟨Aw6_, cw6_, rfl⟩ := Kd.R_slice hr
          have Hw6_ := Aside0.mk (Kd.R_reads' hr)
          clear hr
          clear hb
          go_wp2_with fail
          (refine (laws_zSame.calls kq Aw6_ cw6_ Z Av9 cv9 Z true _ (Kd.C_below Hw6_.out.2.2 (by repeat (first | exact (Below.refl _ _) | apply pw_below_drewN | apply below_drew | apply below_alloc))) Hw6_.out.2.1 (Kd.C_below Hv9.out.2.2 (by repeat (first | exact (lw_then (lw_then (lw_then (lw_then (lw_then HB12.out HB13.out) HB14.out) HB15.out) HB16.out) HB17.out) | apply pw_below_drewN | apply below_drew | apply below_alloc))) Hv9.out.2.1 HEZ.out).mono ?_)
          rintro e w' ⟨rfl, ⟨nd9, rfl⟩⟩
          have hlen := (HU3.out (by trivial)).2
          have e8 : wrap64 (8 * (Z.length : Int)) = (T.length : Int) := by rw [w64 (by omega) (by omega)]; omega
          clear hlen
          go_wp2_with fail
          go_meet
          case rel => exact (by repeat (first | exact HB17.out | apply pw_below_drewN | apply below_drew | apply below_alloc))
      case rest =>
        generalize wc = w18 at hcut ⊢
        have HB18 := Aside0.mk (show Below w16.heap.size w16 w18 from hcut)
        clear hcut
        cases five
        focus
          go_wp2_with fail
          go_ret
          exact ⟨rfl, (by repeat (first | exact (lw_then (lw_then (lw_then (lw_then (lw_then (lw_then (lw_then (lw_then (lw_then (lw_then (lw_then (lw_then (lw_then (lw_then HB1.out HB2.out) HB3.out) HB5.out) HB6.out) HB7.out) HB8.out) HB10.out) HB11.out) HB12.out) HB13.out) HB14.out) HB15.out) HB16.out) HB18.out) | apply pw_below_drewN | apply below_drew | apply below_alloc))⟩
        focus
          go_wp2_with fail
          (refine (impl_BitsOf.calls kq Aw4_ cw4_ U _ _ _ (Kd.C_below Hw4_.out.2.2 (by repeat (first | exact (lw_then HB16.out HB18.out) | apply pw_below_drewN | apply below_drew | apply below_alloc))) Hw4_.out.2.1 (HU4.out (by trivial))).mono ?_)
          rintro e w19 ⟨w7_, rfl, hr, hb⟩
          have HB19 := Aside0.mk (show Below w18.heap.size w18 w19 from lw_then (by repeat (first | exact (Below.refl _ _) | apply pw_below_drewN | apply below_drew | apply below_alloc)) hb)
          obtain ⟨Aw7_, cw7_, rfl⟩ := Kd.R_slice hr
          have Hw7_ := Aside0.mk (Kd.R_reads' hr)
          clear hr
          clear hb
          go_wp2_with fail
          (refine (laws_zSame.calls kq Aw7_ cw7_ V Aw3_ cw3_ V true _ (Kd.C_below Hw7_.out.2.2 (by repeat (first | exact (Below.refl _ _) | apply pw_below_drewN | apply below_drew | apply below_alloc))) Hw7_.out.2.1 (Kd.C_below Hw3_.out.2.2 (by repeat (first | exact (lw_then (lw_then (lw_then HB15.out HB16.out) HB18.out) HB19.out) | apply pw_below_drewN | apply below_drew | apply below_alloc))) Hw3_.out.2.1 HEV.out).mono ?_)
          rintro e w' ⟨rfl, ⟨nd10, rfl⟩⟩
          go_wp2_with fail
          go_ret
          exact ⟨rfl, (by repeat (first | exact (lw_then (lw_then (lw_then (lw_then (lw_then (lw_then (lw_then (lw_then (lw_then (lw_then (lw_then (lw_then (lw_then (lw_then (lw_then HB1.out HB2.out) HB3.out) HB5.out) HB6.out) HB7.out) HB8.out) HB10.out) HB11.out) HB12.out) HB13.out) HB14.out) HB15.out) HB16.out) HB18.out) HB19.out) | apply pw_below_drewN | apply below_drew | apply below_alloc))⟩
end Go.Proofs.Ytoeninciicickaa.PA
