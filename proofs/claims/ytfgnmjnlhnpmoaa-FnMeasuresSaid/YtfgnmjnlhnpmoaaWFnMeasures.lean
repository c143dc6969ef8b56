/-
  The walk of FnMeasures.
-/
import Derived.Test.YtfgnmjnlhnpmoaaArg
import Derived.Test.YtfgnmjnlhnpmoaaKit2
import Derived.Test.YtfgnmjnlhnpmoaaKit5
import Derived.Test.YtfgnmjnlhnpmoaaMeasE
import Derived.Test.YtfgnmjnlhnpmoaaMeasM
import Derived.Test.YtfgnmjnlhnpmoaaPartOf
import Derived.Test.YtfgnmjnlhnpmoaaAmtOps
import Derived.Test.YtfgnmjnlhnpmoaaAmountF
import Derived.Test.YtfgnmjnlhnpmoaaSystem
import Derived.Test.YtfgnmjnlhnpmoaaValue
import Derived.OpenShut
import Derived.Deep.DeepCutAuto
import Derived.Deep.RegionHeld3
import Derived.Deep.CutBlock
set_option linter.unusedVariables false
namespace Go.Proofs.Ytfgnmjnlhnpmoaa.fnMeasures
open Go.ChangeShapes Go.WideShapes Go.ChangeAt Go.RowKit

set_option maxRecDepth 100000 in
set_option maxHeartbeats 16000000 in
/-- the walk: the law's text returns true; nothing that was there has turned. -/
theorem walk (A0 : Option Addr) (c0 : Nat) (l0 : List UInt8) (W : World) (h0 : K.Rd W 1 A0 l0.length (l0.map fun b => Value.int .u8 (b.toNat : Int))) (m0 : l0.length ≤ 9223372036854775807) :
    Calls Try.prog 14 #[.slice A0 l0.length c0] W fun e w' => e = .returned (.bool true) ∧ Below W.heap.size W w' := by
  by_cases hbig : 65536 < l0.length
  · have hd : decide (65536 < l0.length) = true := decide_eq_true hbig
    go_enter Try.func14, Try.ntmps14
    go_wp2_with fail
    refine (MeasD.rbig _ _ _ _).mono ?_
    rintro e w1 ⟨rfl, rfl⟩
    rw [hd]
    go_wp2_with fail
    go_ret
    exact ⟨rfl, Below.refl _ _⟩
  · have hd : decide (65536 < l0.length) = false := decide_eq_false hbig
    have hl : l0.length ≤ 65536 := by omega
    clear hbig
    go_enter Try.func14, Try.ntmps14
    go_wp2_with fail
    refine (MeasD.rbig _ _ _ _).mono ?_
    rintro e w0 ⟨rfl, rfl⟩
    rw [hd]
    clear hd
    have BB := Lib.hid (Below.refl W.heap.size W)
    have R := Lib.hid h0
    go_wp2_with fail
    refine (MeasD.properof A0 c0 l0 _ hl R.out).mono ?_
    rintro e w1 ⟨X1, n1, p, v, rfl, hv, h8, hnm, hc1, hc2, hr, hf, b1⟩
    replace R := Lib.hid (R.out.below b1)
    replace BB := Lib.hid (BB.out.trans (b1.mono BB.out.size))
    clear b1
    have RP := Lib.hid hr
    clear hr
    have hp7 : p.length ≤ 1048576 := by omega
    have HNM := Lib.hid (fun (u : M.Unit) (hu : u ∈ p) => show u.name.size ≤ 9223372036854775807 by have := hnm u hu; omega)
    clear hnm hf
    have HI := Lib.hid (fun w h => AmtOps.i_properof X1 n1 p v w hp7 HNM.out hc1 hc2 h (by omega))
    have HS := Lib.hid (fun w h => AmtOps.s_properof X1 n1 p v w hp7 HNM.out hc1 hc2 h (by omega))
    have hk7 := M.properOf_le p v hp7
    have HG := Lib.hid (fun h => M.properOf_value (l := p) (v := v) h)
    generalize M.properOf p v = Q at *
    obtain ⟨KL, ok⟩ := Q
    dsimp only at *
    have hoo : (ok != ok) = false := by simp
    have HV := Lib.hid (fun B d w h hb => Val.i_valuein X1 n1 p B d KL w hp7 hk7 HNM.out hc1 hc2 h hb)
    have HA := Lib.hid (fun B d w h hb => AmountF.i_amount X1 n1 p B d KL w hp7 hk7 HNM.out hc1 hc2 h hb)
    generalize M.valueIn p KL = Q at *
    obtain ⟨vn, one⟩ := Q
    dsimp only at *
    go_wp2_with fail
    refine (HI.out _ RP.out).mono ?_
    rintro e w2 ⟨X2, n2, rfl, q2, b2⟩
    replace R := Lib.hid (R.out.below b2)
    replace RP := Lib.hid (RP.out.below b2)
    replace BB := Lib.hid (BB.out.trans (b2.mono BB.out.size))
    clear b2
    have RC := Lib.hid q2.rd
    clear q2
    obtain ⟨ob, ho⟩ : ∃ o : Obj, o = .cells #[.slice X2 KL.length n2] 40 := ⟨_, rfl⟩
    have XA := Lib.hid (show K.Box (w2.alloc ob) w2.heap.size [.slice X2 KL.length n2] by rw [ho]; exact K.Box.new _ _ _)
    replace R := Lib.hid (R.out.alloc ob)
    replace RP := Lib.hid (RP.out.alloc ob)
    replace RC := Lib.hid (RC.out.alloc ob)
    replace BB := Lib.hid (BB.out.alloc BB.out.size ob)
    subst ho
    go_wp2_with fail
    refine (HS.out _ RP.out).mono ?_
    rintro e w3 ⟨X3, n3, rfl, q3, b3⟩
    replace R := Lib.hid (R.out.below b3)
    replace RP := Lib.hid (RP.out.below b3)
    replace RC := Lib.hid (RC.out.below b3)
    replace XA := Lib.hid (XA.out.below b3)
    replace BB := Lib.hid (BB.out.trans (b3.mono BB.out.size))
    clear b3
    have RD := Lib.hid q3.rd
    clear q3
    obtain ⟨ob, ho⟩ : ∃ o : Obj, o = .cells #[.slice X3 KL.length n3] 40 := ⟨_, rfl⟩
    have XB := Lib.hid (show K.Box (w3.alloc ob) w3.heap.size [.slice X3 KL.length n3] by rw [ho]; exact K.Box.new _ _ _)
    replace R := Lib.hid (R.out.alloc ob)
    replace RP := Lib.hid (RP.out.alloc ob)
    replace RC := Lib.hid (RC.out.alloc ob)
    replace XA := Lib.hid (XA.out.alloc ob)
    replace RD := Lib.hid (RD.out.alloc ob)
    replace BB := Lib.hid (BB.out.alloc BB.out.size ob)
    subst ho
    have XA_0 := XA.out.c1
    have XA_g := XA.out.1
    have XB_0 := XB.out.c1
    have XB_g := XB.out.1
    go_wp2_with fail
    refine (MeasD.ramount _ _ _ _ KL _ hk7 RC.out RD.out).mono ?_
    rintro e w4 ⟨rfl, b4⟩
    clear XA_0 XA_g XB_0 XB_g
    replace R := Lib.hid (R.out.below b4)
    replace RP := Lib.hid (RP.out.below b4)
    replace RC := Lib.hid (RC.out.below b4)
    replace XA := Lib.hid (XA.out.below b4)
    replace RD := Lib.hid (RD.out.below b4)
    replace XB := Lib.hid (XB.out.below b4)
    replace BB := Lib.hid (BB.out.trans (b4.mono BB.out.size))
    clear b4
    as_aux_lemma =>
      clear RD XB
      clear HI HS
      have XA_0 := XA.out.c1
      have XA_g := XA.out.1
      go_wp2_with fail
      refine (HV.out _ _ _ RP.out RC.out).mono ?_
      rintro e w5 ⟨rfl, b5⟩
      clear XA_0 XA_g
      replace R := Lib.hid (R.out.below b5)
      replace RP := Lib.hid (RP.out.below b5)
      replace RC := Lib.hid (RC.out.below b5)
      replace XA := Lib.hid (XA.out.below b5)
      replace BB := Lib.hid (BB.out.trans (b5.mono BB.out.size))
      clear b5
      go_upto_region 9 with fail
      go_cut [95] (fun vv wx => vv = .bool false ∧ Below w5.heap.size w5 wx)
      case first =>
        as_aux_lemma =>
          cases ok with
          | false =>
            go_wp2_with fail
            go_meet
            exact ⟨rfl, Below.refl _ _⟩
          | true =>
            obtain ⟨e1, e2⟩ := HG.out rfl
            rw [e2] at HA
            simp only [Prod.mk.injEq] at e1
            obtain ⟨e1, e3⟩ := e1
            clear HG e2
            subst e3
            subst e1
            have hvv : (vn != vn) = false := by simp
            have BB := Lib.hid (Below.refl w5.heap.size w5)
            have XA_0 := XA.out.c1
            have XA_g := XA.out.1
            go_wp2_with fail
            refine (HA.out _ _ _ RP.out RC.out).mono ?_
            rintro e w6 ⟨rfl, b6⟩
            clear XA_0 XA_g
            replace R := Lib.hid (R.out.below b6)
            replace RP := Lib.hid (RP.out.below b6)
            replace RC := Lib.hid (RC.out.below b6)
            replace XA := Lib.hid (XA.out.below b6)
            replace BB := Lib.hid (BB.out.trans (b6.mono BB.out.size))
            clear b6
            go_wp2_with fail
            go_meet
            exact ⟨rfl, BB.out⟩
      obtain ⟨rfl, bq⟩ := hcut
      rename World => wq1
      clear HG HV HA RP RC XA HNM hp7 hk7 h8 hc1 hc2 hoo hv
      replace R := Lib.hid (R.out.below bq)
      replace BB := Lib.hid (BB.out.trans (bq.mono BB.out.size))
      clear bq
      as_aux_lemma =>
        go_wp2_with fail
        refine (MeasD.sumof A0 c0 l0 _ hl R.out).mono ?_
        rintro e w7 ⟨X7, n7, p, Y7, d7, k, Z7, e7, k2, rfl, ⟨h8, hnm, hc1, hc2, hr, hf⟩, ⟨hk, hr1, hf1⟩, ⟨hk2, hr2, hf2⟩, b7⟩
        replace R := Lib.hid (R.out.below b7)
        replace BB := Lib.hid (BB.out.trans (b7.mono BB.out.size))
        clear b7
        have RP := Lib.hid hr
        clear hr
        have RX := Lib.hid hr1
        clear hr1
        have RY := Lib.hid hr2
        clear hr2
        have hp7 : p.length ≤ 1048576 := by omega
        have HNM := Lib.hid (fun (u : M.Unit) (hu : u ∈ p) => show u.name.size ≤ 9223372036854775807 by have := hnm u hu; omega)
        clear hnm hf
        clear hf1 hf2
        have hk17 : k.length ≤ 1048576 := by omega
        have hk27 : k2.length ≤ 1048576 := by omega
        obtain ⟨ob, ho⟩ : ∃ o : Obj, o = .cells #[.slice Y7 k.length d7] 40 := ⟨_, rfl⟩
        have XX := Lib.hid (show K.Box (w7.alloc ob) w7.heap.size [.slice Y7 k.length d7] by rw [ho]; exact K.Box.new _ _ _)
        replace R := Lib.hid (R.out.alloc ob)
        replace RP := Lib.hid (RP.out.alloc ob)
        replace RX := Lib.hid (RX.out.alloc ob)
        replace RY := Lib.hid (RY.out.alloc ob)
        replace BB := Lib.hid (BB.out.alloc BB.out.size ob)
        subst ho
        obtain ⟨ob, ho⟩ : ∃ o : Obj, o = .cells #[.slice Z7 k2.length e7] 40 := ⟨_, rfl⟩
        have XY := Lib.hid (show K.Box ((w7.alloc (.cells #[.slice Y7 k.length d7] 40)).alloc ob) (w7.alloc (.cells #[.slice Y7 k.length d7] 40)).heap.size [.slice Z7 k2.length e7] by rw [ho]; exact K.Box.new _ _ _)
        replace R := Lib.hid (R.out.alloc ob)
        replace RP := Lib.hid (RP.out.alloc ob)
        replace RX := Lib.hid (RX.out.alloc ob)
        replace RY := Lib.hid (RY.out.alloc ob)
        replace XX := Lib.hid (XX.out.alloc ob)
        replace BB := Lib.hid (BB.out.alloc BB.out.size ob)
        subst ho
        rw [World.size_alloc] at XY
        have HI := Lib.hid (fun w h h1 h2 => AmtOps.i_sum X7 n7 p Y7 d7 k Z7 e7 k2 w hp7 HNM.out hc1 hc2 h hk17 h1 hk27 h2)
        have HS := Lib.hid (fun w h h1 h2 => AmtOps.s_sum X7 n7 p Y7 d7 k Z7 e7 k2 w hp7 HNM.out hc1 hc2 h hk17 h1 hk27 h2)
        have hk7 := M.sumOf_le p k k2 hp7
        have HG := Lib.hid (fun h => M.sum_less (l := p) (a := k) (b := k2) h)
        generalize M.sumOf p k k2 = Q at *
        obtain ⟨KL, fine⟩ := Q
        dsimp only at *
        have hoo : (fine != fine) = false := by simp
        have XX_0 := XX.out.c1
        have XX_g := XX.out.1
        have XY_0 := XY.out.c1
        have XY_g := XY.out.1
        go_wp2_with fail
        refine (HI.out _ RP.out RX.out RY.out).mono ?_
        rintro e w8 ⟨X8, n8, rfl, q8, b8⟩
        clear XX_0 XX_g XY_0 XY_g
        replace R := Lib.hid (R.out.below b8)
        replace RP := Lib.hid (RP.out.below b8)
        replace RX := Lib.hid (RX.out.below b8)
        replace RY := Lib.hid (RY.out.below b8)
        replace XX := Lib.hid (XX.out.below b8)
        replace XY := Lib.hid (XY.out.below b8)
        replace BB := Lib.hid (BB.out.trans (b8.mono BB.out.size))
        clear b8
        have RC := Lib.hid q8.rd
        clear q8
        obtain ⟨ob, ho⟩ : ∃ o : Obj, o = .cells #[.slice X8 KL.length n8] 40 := ⟨_, rfl⟩
        have XA := Lib.hid (show K.Box (w8.alloc ob) w8.heap.size [.slice X8 KL.length n8] by rw [ho]; exact K.Box.new _ _ _)
        replace R := Lib.hid (R.out.alloc ob)
        replace RP := Lib.hid (RP.out.alloc ob)
        replace RX := Lib.hid (RX.out.alloc ob)
        replace RY := Lib.hid (RY.out.alloc ob)
        replace XX := Lib.hid (XX.out.alloc ob)
        replace XY := Lib.hid (XY.out.alloc ob)
        replace RC := Lib.hid (RC.out.alloc ob)
        replace BB := Lib.hid (BB.out.alloc BB.out.size ob)
        subst ho
        have XX_0 := XX.out.c1
        have XX_g := XX.out.1
        have XY_0 := XY.out.c1
        have XY_g := XY.out.1
        go_wp2_with fail
        refine (HS.out _ RP.out RX.out RY.out).mono ?_
        rintro e w9 ⟨X9, n9, rfl, q9, b9⟩
        clear XX_0 XX_g XY_0 XY_g
        replace R := Lib.hid (R.out.below b9)
        replace RP := Lib.hid (RP.out.below b9)
        replace RX := Lib.hid (RX.out.below b9)
        replace RY := Lib.hid (RY.out.below b9)
        replace XX := Lib.hid (XX.out.below b9)
        replace XY := Lib.hid (XY.out.below b9)
        replace RC := Lib.hid (RC.out.below b9)
        replace XA := Lib.hid (XA.out.below b9)
        replace BB := Lib.hid (BB.out.trans (b9.mono BB.out.size))
        clear b9
        have RD := Lib.hid q9.rd
        clear q9
        obtain ⟨ob, ho⟩ : ∃ o : Obj, o = .cells #[.slice X9 KL.length n9] 40 := ⟨_, rfl⟩
        have XB := Lib.hid (show K.Box (w9.alloc ob) w9.heap.size [.slice X9 KL.length n9] by rw [ho]; exact K.Box.new _ _ _)
        replace R := Lib.hid (R.out.alloc ob)
        replace RP := Lib.hid (RP.out.alloc ob)
        replace RX := Lib.hid (RX.out.alloc ob)
        replace RY := Lib.hid (RY.out.alloc ob)
        replace XX := Lib.hid (XX.out.alloc ob)
        replace XY := Lib.hid (XY.out.alloc ob)
        replace RC := Lib.hid (RC.out.alloc ob)
        replace XA := Lib.hid (XA.out.alloc ob)
        replace RD := Lib.hid (RD.out.alloc ob)
        replace BB := Lib.hid (BB.out.alloc BB.out.size ob)
        subst ho
        have XA_0 := XA.out.c1
        have XA_g := XA.out.1
        have XB_0 := XB.out.c1
        have XB_g := XB.out.1
        go_wp2_with fail
        refine (MeasD.ramount _ _ _ _ KL _ hk7 RC.out RD.out).mono ?_
        rintro e w10 ⟨rfl, b10⟩
        clear XA_0 XA_g XB_0 XB_g
        replace R := Lib.hid (R.out.below b10)
        replace RP := Lib.hid (RP.out.below b10)
        replace RX := Lib.hid (RX.out.below b10)
        replace RY := Lib.hid (RY.out.below b10)
        replace XX := Lib.hid (XX.out.below b10)
        replace XY := Lib.hid (XY.out.below b10)
        replace RC := Lib.hid (RC.out.below b10)
        replace XA := Lib.hid (XA.out.below b10)
        replace RD := Lib.hid (RD.out.below b10)
        replace XB := Lib.hid (XB.out.below b10)
        replace BB := Lib.hid (BB.out.trans (b10.mono BB.out.size))
        clear b10
        as_aux_lemma =>
          clear RD XB
          clear HI HS hoo
          go_upto_if 125 with fail
          go_cut [] (fun wx => Below w10.heap.size w10 wx)
          case first =>
            as_aux_lemma =>
              cases fine with
              | false =>
                go_wp2_with fail
                go_meet
                exact Below.refl _ _
              | true =>
                obtain ⟨e1, e2, e3, e4⟩ := HG.out rfl
                clear HG
                have HD := Lib.hid (fun w h h1 h2 => AmtOps.i_diff X7 n7 p X8 n8 KL Z7 e7 k2 w hp7 HNM.out hc1 hc2 h hk7 h1 hk27 h2)
                have hq7 := M.diffOf_le p KL k2 hp7
                generalize M.diffOf p KL k2 = Q at *
                obtain ⟨Rr, one⟩ := Q
                dsimp only at *
                have HV := Lib.hid (fun w h hb => Val.i_valuein X7 n7 p Y7 d7 k w hp7 hk17 HNM.out hc1 hc2 h hb)
                have HW := Lib.hid (fun B d w h hb => Val.i_valuein X7 n7 p B d Rr w hp7 hq7 HNM.out hc1 hc2 h hb)
                generalize M.valueIn p k = Q at *
                obtain ⟨nn, two⟩ := Q
                generalize M.valueIn p Rr = Q at *
                obtain ⟨mm, three⟩ := Q
                dsimp only at *
                subst e1
                subst e2
                subst e3
                subst e4
                have hnn : (nn != nn) = false := by simp
                have BB := Lib.hid (Below.refl w10.heap.size w10)
                have XA_0 := XA.out.c1
                have XA_g := XA.out.1
                have XY_0 := XY.out.c1
                have XY_g := XY.out.1
                go_wp2_with fail
                refine (HD.out _ RP.out RC.out RY.out).mono ?_
                rintro e w11 ⟨X11, n11, rfl, q11, b11⟩
                clear XA_0 XA_g XY_0 XY_g
                replace R := Lib.hid (R.out.below b11)
                replace RP := Lib.hid (RP.out.below b11)
                replace RX := Lib.hid (RX.out.below b11)
                replace RY := Lib.hid (RY.out.below b11)
                replace XX := Lib.hid (XX.out.below b11)
                replace XY := Lib.hid (XY.out.below b11)
                replace RC := Lib.hid (RC.out.below b11)
                replace XA := Lib.hid (XA.out.below b11)
                replace BB := Lib.hid (BB.out.trans (b11.mono BB.out.size))
                clear b11
                have RR := Lib.hid q11.rd
                clear q11
                obtain ⟨ob, ho⟩ : ∃ o : Obj, o = .cells #[.slice X11 Rr.length n11] 40 := ⟨_, rfl⟩
                have XR := Lib.hid (show K.Box (w11.alloc ob) w11.heap.size [.slice X11 Rr.length n11] by rw [ho]; exact K.Box.new _ _ _)
                replace R := Lib.hid (R.out.alloc ob)
                replace RP := Lib.hid (RP.out.alloc ob)
                replace RX := Lib.hid (RX.out.alloc ob)
                replace RY := Lib.hid (RY.out.alloc ob)
                replace XX := Lib.hid (XX.out.alloc ob)
                replace XY := Lib.hid (XY.out.alloc ob)
                replace RC := Lib.hid (RC.out.alloc ob)
                replace XA := Lib.hid (XA.out.alloc ob)
                replace RR := Lib.hid (RR.out.alloc ob)
                replace BB := Lib.hid (BB.out.alloc BB.out.size ob)
                subst ho
                have XX_0 := XX.out.c1
                have XX_g := XX.out.1
                go_wp2_with fail
                refine (HV.out _ RP.out RX.out).mono ?_
                rintro e w12 ⟨rfl, b12⟩
                clear XX_0 XX_g
                replace R := Lib.hid (R.out.below b12)
                replace RP := Lib.hid (RP.out.below b12)
                replace RX := Lib.hid (RX.out.below b12)
                replace RY := Lib.hid (RY.out.below b12)
                replace XX := Lib.hid (XX.out.below b12)
                replace XY := Lib.hid (XY.out.below b12)
                replace RC := Lib.hid (RC.out.below b12)
                replace XA := Lib.hid (XA.out.below b12)
                replace RR := Lib.hid (RR.out.below b12)
                replace XR := Lib.hid (XR.out.below b12)
                replace BB := Lib.hid (BB.out.trans (b12.mono BB.out.size))
                clear b12
                have XR_0 := XR.out.c1
                have XR_g := XR.out.1
                go_wp2_with fail
                refine (HW.out _ _ _ RP.out RR.out).mono ?_
                rintro e w13 ⟨rfl, b13⟩
                clear XR_0 XR_g
                replace R := Lib.hid (R.out.below b13)
                replace RP := Lib.hid (RP.out.below b13)
                replace RX := Lib.hid (RX.out.below b13)
                replace RY := Lib.hid (RY.out.below b13)
                replace XX := Lib.hid (XX.out.below b13)
                replace XY := Lib.hid (XY.out.below b13)
                replace RC := Lib.hid (RC.out.below b13)
                replace XA := Lib.hid (XA.out.below b13)
                replace RR := Lib.hid (RR.out.below b13)
                replace XR := Lib.hid (XR.out.below b13)
                replace BB := Lib.hid (BB.out.trans (b13.mono BB.out.size))
                clear b13
                go_wp2_with fail
                go_meet
                exact BB.out
          rename World => wq2
          have bq := hcut
          clear hcut HG RP RC RX RY XX XY XA HNM hp7 hk7 hk hk2 hk17 hk27 h8 hc1 hc2
          replace R := Lib.hid (R.out.below bq)
          replace BB := Lib.hid (BB.out.trans (bq.mono BB.out.size))
          clear bq
          as_aux_lemma =>
            go_wp2_with fail
            refine (MeasD.partof A0 c0 l0 _ hl R.out).mono ?_
            rintro e w14 ⟨X14, n14, p, Y14, d14, k, v, rfl, ⟨h8, hnm, hc1, hc2, hr, hf⟩, ⟨hk, hr1, hf1⟩, b14⟩
            replace R := Lib.hid (R.out.below b14)
            replace BB := Lib.hid (BB.out.trans (b14.mono BB.out.size))
            clear b14
            have RP := Lib.hid hr
            clear hr
            have RX := Lib.hid hr1
            clear hr1
            have hp7 : p.length ≤ 1048576 := by omega
            have HNM := Lib.hid (fun (u : M.Unit) (hu : u ∈ p) => show u.name.size ≤ 9223372036854775807 by have := hnm u hu; omega)
            clear hnm hf
            clear hf1
            have hk17 : k.length ≤ 1048576 := by omega
            obtain ⟨ob, ho⟩ : ∃ o : Obj, o = .cells #[.slice Y14 k.length d14] 40 := ⟨_, rfl⟩
            have XX := Lib.hid (show K.Box (w14.alloc ob) w14.heap.size [.slice Y14 k.length d14] by rw [ho]; exact K.Box.new _ _ _)
            replace R := Lib.hid (R.out.alloc ob)
            replace RP := Lib.hid (RP.out.alloc ob)
            replace RX := Lib.hid (RX.out.alloc ob)
            replace BB := Lib.hid (BB.out.alloc BB.out.size ob)
            subst ho
            have HI := Lib.hid (fun w h h1 => PartOf.i_part X14 n14 p Y14 d14 k v w hp7 HNM.out hc1 hc2 h hk17 h1)
            have HS := Lib.hid (fun w h h1 => PartOf.s_part X14 n14 p Y14 d14 k v w hp7 HNM.out hc1 hc2 h hk17 h1)
            obtain ⟨ha7, hb7⟩ := M.partOf_le p k v hp7
            have HG := Lib.hid (fun h => M.part_whole (l := p) (a := k) (n := v) h)
            generalize M.partOf p k v = Q at *
            obtain ⟨⟨Ra, Rb⟩, told⟩ := Q
            dsimp only at *
            have hoo : (told != told) = false := by simp
            have XX_0 := XX.out.c1
            have XX_g := XX.out.1
            go_wp2_with fail
            refine (HI.out _ RP.out RX.out).mono ?_
            rintro e w15 ⟨X15, n15, Y15, m15, rfl, q15, t15, b15⟩
            clear XX_0 XX_g
            replace R := Lib.hid (R.out.below b15)
            replace RP := Lib.hid (RP.out.below b15)
            replace RX := Lib.hid (RX.out.below b15)
            replace XX := Lib.hid (XX.out.below b15)
            replace BB := Lib.hid (BB.out.trans (b15.mono BB.out.size))
            clear b15
            have RA := Lib.hid q15
            clear q15
            have RB := Lib.hid t15
            clear t15
            obtain ⟨ob, ho⟩ : ∃ o : Obj, o = .cells #[.slice X15 Ra.length n15] 40 := ⟨_, rfl⟩
            have XA := Lib.hid (show K.Box (w15.alloc ob) w15.heap.size [.slice X15 Ra.length n15] by rw [ho]; exact K.Box.new _ _ _)
            replace R := Lib.hid (R.out.alloc ob)
            replace RP := Lib.hid (RP.out.alloc ob)
            replace RX := Lib.hid (RX.out.alloc ob)
            replace XX := Lib.hid (XX.out.alloc ob)
            replace RA := Lib.hid (RA.out.alloc ob)
            replace RB := Lib.hid (RB.out.alloc ob)
            replace BB := Lib.hid (BB.out.alloc BB.out.size ob)
            subst ho
            obtain ⟨ob, ho⟩ : ∃ o : Obj, o = .cells #[.slice Y15 Rb.length m15] 40 := ⟨_, rfl⟩
            have XB := Lib.hid (show K.Box ((w15.alloc (.cells #[.slice X15 Ra.length n15] 40)).alloc ob) (w15.alloc (.cells #[.slice X15 Ra.length n15] 40)).heap.size [.slice Y15 Rb.length m15] by rw [ho]; exact K.Box.new _ _ _)
            replace R := Lib.hid (R.out.alloc ob)
            replace RP := Lib.hid (RP.out.alloc ob)
            replace RX := Lib.hid (RX.out.alloc ob)
            replace XX := Lib.hid (XX.out.alloc ob)
            replace RA := Lib.hid (RA.out.alloc ob)
            replace RB := Lib.hid (RB.out.alloc ob)
            replace XA := Lib.hid (XA.out.alloc ob)
            replace BB := Lib.hid (BB.out.alloc BB.out.size ob)
            subst ho
            rw [World.size_alloc] at XB
            have XX_0 := XX.out.c1
            have XX_g := XX.out.1
            go_wp2_with fail
            refine (HS.out _ RP.out RX.out).mono ?_
            rintro e w16 ⟨X16, n16, Y16, m16, rfl, q16, t16, b16⟩
            clear XX_0 XX_g
            replace R := Lib.hid (R.out.below b16)
            replace RP := Lib.hid (RP.out.below b16)
            replace RX := Lib.hid (RX.out.below b16)
            replace XX := Lib.hid (XX.out.below b16)
            replace RA := Lib.hid (RA.out.below b16)
            replace RB := Lib.hid (RB.out.below b16)
            replace XA := Lib.hid (XA.out.below b16)
            replace XB := Lib.hid (XB.out.below b16)
            replace BB := Lib.hid (BB.out.trans (b16.mono BB.out.size))
            clear b16
            have RC := Lib.hid q16
            clear q16
            have RD := Lib.hid t16
            clear t16
            obtain ⟨ob, ho⟩ : ∃ o : Obj, o = .cells #[.slice X16 Ra.length n16] 40 := ⟨_, rfl⟩
            have XC := Lib.hid (show K.Box (w16.alloc ob) w16.heap.size [.slice X16 Ra.length n16] by rw [ho]; exact K.Box.new _ _ _)
            replace R := Lib.hid (R.out.alloc ob)
            replace RP := Lib.hid (RP.out.alloc ob)
            replace RX := Lib.hid (RX.out.alloc ob)
            replace XX := Lib.hid (XX.out.alloc ob)
            replace RA := Lib.hid (RA.out.alloc ob)
            replace RB := Lib.hid (RB.out.alloc ob)
            replace XA := Lib.hid (XA.out.alloc ob)
            replace XB := Lib.hid (XB.out.alloc ob)
            replace RC := Lib.hid (RC.out.alloc ob)
            replace RD := Lib.hid (RD.out.alloc ob)
            replace BB := Lib.hid (BB.out.alloc BB.out.size ob)
            subst ho
            obtain ⟨ob, ho⟩ : ∃ o : Obj, o = .cells #[.slice Y16 Rb.length m16] 40 := ⟨_, rfl⟩
            have XD := Lib.hid (show K.Box ((w16.alloc (.cells #[.slice X16 Ra.length n16] 40)).alloc ob) (w16.alloc (.cells #[.slice X16 Ra.length n16] 40)).heap.size [.slice Y16 Rb.length m16] by rw [ho]; exact K.Box.new _ _ _)
            replace R := Lib.hid (R.out.alloc ob)
            replace RP := Lib.hid (RP.out.alloc ob)
            replace RX := Lib.hid (RX.out.alloc ob)
            replace XX := Lib.hid (XX.out.alloc ob)
            replace RA := Lib.hid (RA.out.alloc ob)
            replace RB := Lib.hid (RB.out.alloc ob)
            replace XA := Lib.hid (XA.out.alloc ob)
            replace XB := Lib.hid (XB.out.alloc ob)
            replace RC := Lib.hid (RC.out.alloc ob)
            replace RD := Lib.hid (RD.out.alloc ob)
            replace XC := Lib.hid (XC.out.alloc ob)
            replace BB := Lib.hid (BB.out.alloc BB.out.size ob)
            subst ho
            rw [World.size_alloc] at XD
            have XA_0 := XA.out.c1
            have XA_g := XA.out.1
            have XC_0 := XC.out.c1
            have XC_g := XC.out.1
            have XB_0 := XB.out.c1
            have XB_g := XB.out.1
            have XD_0 := XD.out.c1
            have XD_g := XD.out.1
            go_wp2_with fail
            refine (MeasD.ramount _ _ _ _ Ra _ ha7 RA.out RC.out).mono ?_
            rintro e w17 ⟨rfl, b17⟩
            clear XA_0 XA_g XC_0 XC_g XB_0 XB_g XD_0 XD_g
            replace R := Lib.hid (R.out.below b17)
            replace RP := Lib.hid (RP.out.below b17)
            replace RX := Lib.hid (RX.out.below b17)
            replace XX := Lib.hid (XX.out.below b17)
            replace RA := Lib.hid (RA.out.below b17)
            replace RB := Lib.hid (RB.out.below b17)
            replace XA := Lib.hid (XA.out.below b17)
            replace XB := Lib.hid (XB.out.below b17)
            replace RC := Lib.hid (RC.out.below b17)
            replace RD := Lib.hid (RD.out.below b17)
            replace XC := Lib.hid (XC.out.below b17)
            replace XD := Lib.hid (XD.out.below b17)
            replace BB := Lib.hid (BB.out.trans (b17.mono BB.out.size))
            clear b17
            have XA_0 := XA.out.c1
            have XA_g := XA.out.1
            have XC_0 := XC.out.c1
            have XC_g := XC.out.1
            have XB_0 := XB.out.c1
            have XB_g := XB.out.1
            have XD_0 := XD.out.c1
            have XD_g := XD.out.1
            go_wp2_with fail
            refine (MeasD.ramount _ _ _ _ Rb _ hb7 RB.out RD.out).mono ?_
            rintro e w18 ⟨rfl, b18⟩
            clear XA_0 XA_g XC_0 XC_g XB_0 XB_g XD_0 XD_g
            replace R := Lib.hid (R.out.below b18)
            replace RP := Lib.hid (RP.out.below b18)
            replace RX := Lib.hid (RX.out.below b18)
            replace XX := Lib.hid (XX.out.below b18)
            replace RA := Lib.hid (RA.out.below b18)
            replace RB := Lib.hid (RB.out.below b18)
            replace XA := Lib.hid (XA.out.below b18)
            replace XB := Lib.hid (XB.out.below b18)
            replace RC := Lib.hid (RC.out.below b18)
            replace RD := Lib.hid (RD.out.below b18)
            replace XC := Lib.hid (XC.out.below b18)
            replace XD := Lib.hid (XD.out.below b18)
            replace BB := Lib.hid (BB.out.trans (b18.mono BB.out.size))
            clear b18
            as_aux_lemma =>
              clear RC RD XC XD
              clear HI HS hoo
              go_upto_if 197 with fail
              go_cut [] (fun wx => Below w18.heap.size w18 wx)
              case first =>
                as_aux_lemma =>
                  cases told with
                  | false =>
                    go_wp2_with fail
                    go_meet
                    exact Below.refl _ _
                  | true =>
                    obtain ⟨e1, e2, e3, e4, e5, e6, ⟨e7, e8⟩, e9, e10⟩ := HG.out rfl
                    clear HG
                    have HV := Lib.hid (fun w h hb => Val.i_valuein X14 n14 p Y14 d14 k w hp7 hk17 HNM.out hc1 hc2 h hb)
                    have HW := Lib.hid (fun w h hb => Val.i_valuein X14 n14 p X15 n15 Ra w hp7 ha7 HNM.out hc1 hc2 h hb)
                    have HX := Lib.hid (fun w h hb => Val.i_valuein X14 n14 p Y15 m15 Rb w hp7 hb7 HNM.out hc1 hc2 h hb)
                    generalize M.valueIn p k = Q at *
                    obtain ⟨wh, one⟩ := Q
                    generalize M.valueIn p Ra = Q at *
                    obtain ⟨pp, two⟩ := Q
                    generalize M.valueIn p Rb = Q at *
                    obtain ⟨ll, three⟩ := Q
                    dsimp only at *
                    subst e1
                    subst e2
                    subst e3
                    subst e4
                    have g1 : 0 ≤ pp * v := Int.mul_nonneg e9 (by omega)
                    have g2 : pp * v ≤ 102000000000000 * 1000 := Int.mul_le_mul e10 e8 (by omega) (by omega)
                    have s1 : IntKind.i64.wrap (pp * v) = pp * v := IntWalk.i64_in _ (by omega)
                    have s2 : IntKind.i64.wrap (pp * v + ll) = pp * v + ll := IntWalk.i64_in _ (by omega)
                    have c1 : ((pp * v + ll) != (pp * v + ll)) = false := by simp
                    have c2 : ¬ (ll < 0) := by omega
                    have c3 : ¬ (v ≤ ll) := by omega
                    clear g1 g2 e9 e10
                    have BB := Lib.hid (Below.refl w18.heap.size w18)
                    have XX_0 := XX.out.c1
                    have XX_g := XX.out.1
                    go_wp2_with fail
                    refine (HV.out _ RP.out RX.out).mono ?_
                    rintro e w19 ⟨rfl, b19⟩
                    clear XX_0 XX_g
                    replace R := Lib.hid (R.out.below b19)
                    replace RP := Lib.hid (RP.out.below b19)
                    replace RX := Lib.hid (RX.out.below b19)
                    replace XX := Lib.hid (XX.out.below b19)
                    replace RA := Lib.hid (RA.out.below b19)
                    replace RB := Lib.hid (RB.out.below b19)
                    replace XA := Lib.hid (XA.out.below b19)
                    replace XB := Lib.hid (XB.out.below b19)
                    replace BB := Lib.hid (BB.out.trans (b19.mono BB.out.size))
                    clear b19
                    have XA_0 := XA.out.c1
                    have XA_g := XA.out.1
                    go_wp2_with fail
                    refine (HW.out _ RP.out RA.out).mono ?_
                    rintro e w20 ⟨rfl, b20⟩
                    clear XA_0 XA_g
                    replace R := Lib.hid (R.out.below b20)
                    replace RP := Lib.hid (RP.out.below b20)
                    replace RX := Lib.hid (RX.out.below b20)
                    replace XX := Lib.hid (XX.out.below b20)
                    replace RA := Lib.hid (RA.out.below b20)
                    replace RB := Lib.hid (RB.out.below b20)
                    replace XA := Lib.hid (XA.out.below b20)
                    replace XB := Lib.hid (XB.out.below b20)
                    replace BB := Lib.hid (BB.out.trans (b20.mono BB.out.size))
                    clear b20
                    have XB_0 := XB.out.c1
                    have XB_g := XB.out.1
                    go_wp2_with fail
                    refine (HX.out _ RP.out RB.out).mono ?_
                    rintro e w21 ⟨rfl, b21⟩
                    clear XB_0 XB_g
                    replace R := Lib.hid (R.out.below b21)
                    replace RP := Lib.hid (RP.out.below b21)
                    replace RX := Lib.hid (RX.out.below b21)
                    replace XX := Lib.hid (XX.out.below b21)
                    replace RA := Lib.hid (RA.out.below b21)
                    replace RB := Lib.hid (RB.out.below b21)
                    replace XA := Lib.hid (XA.out.below b21)
                    replace XB := Lib.hid (XB.out.below b21)
                    replace BB := Lib.hid (BB.out.trans (b21.mono BB.out.size))
                    clear b21
                    go_wp2_with fail
                    go_meet
                    exact BB.out
              rename World => wq3
              have bq := hcut
              clear hcut HG RP RX RA RB XX XA XB HNM hp7 hk hk17 ha7 hb7 h8 hc1 hc2
              replace R := Lib.hid (R.out.below bq)
              replace BB := Lib.hid (BB.out.trans (bq.mono BB.out.size))
              clear bq
              as_aux_lemma =>
                go_wp2_with fail
                refine (MeasD.differenceof A0 c0 l0 _ hl R.out).mono ?_
                rintro e w22 ⟨X22, n22, p, Y22, d22, k, Z22, e22, k2, rfl, ⟨h8, hnm, hc1, hc2, hr, hf⟩, ⟨hk, hr1, hf1⟩, ⟨hk2, hr2, hf2⟩, b22⟩
                replace R := Lib.hid (R.out.below b22)
                replace BB := Lib.hid (BB.out.trans (b22.mono BB.out.size))
                clear b22
                have RP := Lib.hid hr
                clear hr
                have RX := Lib.hid hr1
                clear hr1
                have RY := Lib.hid hr2
                clear hr2
                have hp7 : p.length ≤ 1048576 := by omega
                have HNM := Lib.hid (fun (u : M.Unit) (hu : u ∈ p) => show u.name.size ≤ 9223372036854775807 by have := hnm u hu; omega)
                clear hnm hf
                clear hf1 hf2
                have hk17 : k.length ≤ 1048576 := by omega
                have hk27 : k2.length ≤ 1048576 := by omega
                obtain ⟨ob, ho⟩ : ∃ o : Obj, o = .cells #[.slice Y22 k.length d22] 40 := ⟨_, rfl⟩
                have XX := Lib.hid (show K.Box (w22.alloc ob) w22.heap.size [.slice Y22 k.length d22] by rw [ho]; exact K.Box.new _ _ _)
                replace R := Lib.hid (R.out.alloc ob)
                replace RP := Lib.hid (RP.out.alloc ob)
                replace RX := Lib.hid (RX.out.alloc ob)
                replace RY := Lib.hid (RY.out.alloc ob)
                replace BB := Lib.hid (BB.out.alloc BB.out.size ob)
                subst ho
                obtain ⟨ob, ho⟩ : ∃ o : Obj, o = .cells #[.slice Z22 k2.length e22] 40 := ⟨_, rfl⟩
                have XY := Lib.hid (show K.Box ((w22.alloc (.cells #[.slice Y22 k.length d22] 40)).alloc ob) (w22.alloc (.cells #[.slice Y22 k.length d22] 40)).heap.size [.slice Z22 k2.length e22] by rw [ho]; exact K.Box.new _ _ _)
                replace R := Lib.hid (R.out.alloc ob)
                replace RP := Lib.hid (RP.out.alloc ob)
                replace RX := Lib.hid (RX.out.alloc ob)
                replace RY := Lib.hid (RY.out.alloc ob)
                replace XX := Lib.hid (XX.out.alloc ob)
                replace BB := Lib.hid (BB.out.alloc BB.out.size ob)
                subst ho
                rw [World.size_alloc] at XY
                have HI := Lib.hid (fun w h h1 h2 => AmtOps.i_diff X22 n22 p Y22 d22 k Z22 e22 k2 w hp7 HNM.out hc1 hc2 h hk17 h1 hk27 h2)
                have HS := Lib.hid (fun w h h1 h2 => AmtOps.s_diff X22 n22 p Y22 d22 k Z22 e22 k2 w hp7 HNM.out hc1 hc2 h hk17 h1 hk27 h2)
                have hk7 := M.diffOf_le p k k2 hp7
                generalize M.diffOf p k k2 = Q at *
                obtain ⟨KL, known⟩ := Q
                dsimp only at *
                have hoo : (known == known) = true := by simp
                have HU := Lib.hid (fun w h => Sys.i_sys X22 n22 p w hp7 HNM.out hc1 hc2 h)
                have HT := Lib.hid (fun w h => Sys.s_issys X22 n22 p w hp7 HNM.out hc1 hc2 h)
                generalize M.sysOk p = so at *
                have hss : (so == so) = true := by simp
                have XX_0 := XX.out.c1
                have XX_g := XX.out.1
                have XY_0 := XY.out.c1
                have XY_g := XY.out.1
                go_wp2_with fail
                refine (HI.out _ RP.out RX.out RY.out).mono ?_
                rintro e w23 ⟨X23, n23, rfl, q23, b23⟩
                clear XX_0 XX_g XY_0 XY_g
                replace R := Lib.hid (R.out.below b23)
                replace RP := Lib.hid (RP.out.below b23)
                replace RX := Lib.hid (RX.out.below b23)
                replace RY := Lib.hid (RY.out.below b23)
                replace XX := Lib.hid (XX.out.below b23)
                replace XY := Lib.hid (XY.out.below b23)
                replace BB := Lib.hid (BB.out.trans (b23.mono BB.out.size))
                clear b23
                have RC := Lib.hid q23.rd
                clear q23
                obtain ⟨ob, ho⟩ : ∃ o : Obj, o = .cells #[.slice X23 KL.length n23] 40 := ⟨_, rfl⟩
                have XA := Lib.hid (show K.Box (w23.alloc ob) w23.heap.size [.slice X23 KL.length n23] by rw [ho]; exact K.Box.new _ _ _)
                replace R := Lib.hid (R.out.alloc ob)
                replace RP := Lib.hid (RP.out.alloc ob)
                replace RX := Lib.hid (RX.out.alloc ob)
                replace RY := Lib.hid (RY.out.alloc ob)
                replace XX := Lib.hid (XX.out.alloc ob)
                replace XY := Lib.hid (XY.out.alloc ob)
                replace RC := Lib.hid (RC.out.alloc ob)
                replace BB := Lib.hid (BB.out.alloc BB.out.size ob)
                subst ho
                have XX_0 := XX.out.c1
                have XX_g := XX.out.1
                have XY_0 := XY.out.c1
                have XY_g := XY.out.1
                go_wp2_with fail
                refine (HS.out _ RP.out RX.out RY.out).mono ?_
                rintro e w24 ⟨X24, n24, rfl, q24, b24⟩
                clear XX_0 XX_g XY_0 XY_g
                replace R := Lib.hid (R.out.below b24)
                replace RP := Lib.hid (RP.out.below b24)
                replace RX := Lib.hid (RX.out.below b24)
                replace RY := Lib.hid (RY.out.below b24)
                replace XX := Lib.hid (XX.out.below b24)
                replace XY := Lib.hid (XY.out.below b24)
                replace RC := Lib.hid (RC.out.below b24)
                replace XA := Lib.hid (XA.out.below b24)
                replace BB := Lib.hid (BB.out.trans (b24.mono BB.out.size))
                clear b24
                have RD := Lib.hid q24.rd
                clear q24
                obtain ⟨ob, ho⟩ : ∃ o : Obj, o = .cells #[.slice X24 KL.length n24] 40 := ⟨_, rfl⟩
                have XB := Lib.hid (show K.Box (w24.alloc ob) w24.heap.size [.slice X24 KL.length n24] by rw [ho]; exact K.Box.new _ _ _)
                replace R := Lib.hid (R.out.alloc ob)
                replace RP := Lib.hid (RP.out.alloc ob)
                replace RX := Lib.hid (RX.out.alloc ob)
                replace RY := Lib.hid (RY.out.alloc ob)
                replace XX := Lib.hid (XX.out.alloc ob)
                replace XY := Lib.hid (XY.out.alloc ob)
                replace RC := Lib.hid (RC.out.alloc ob)
                replace XA := Lib.hid (XA.out.alloc ob)
                replace RD := Lib.hid (RD.out.alloc ob)
                replace BB := Lib.hid (BB.out.alloc BB.out.size ob)
                subst ho
                have XA_0 := XA.out.c1
                have XA_g := XA.out.1
                have XB_0 := XB.out.c1
                have XB_g := XB.out.1
                go_wp2_with fail
                refine (MeasD.ramount _ _ _ _ KL _ hk7 RC.out RD.out).mono ?_
                rintro e w25 ⟨rfl, b25⟩
                clear XA_0 XA_g XB_0 XB_g
                replace R := Lib.hid (R.out.below b25)
                replace RP := Lib.hid (RP.out.below b25)
                replace RX := Lib.hid (RX.out.below b25)
                replace RY := Lib.hid (RY.out.below b25)
                replace XX := Lib.hid (XX.out.below b25)
                replace XY := Lib.hid (XY.out.below b25)
                replace RC := Lib.hid (RC.out.below b25)
                replace XA := Lib.hid (XA.out.below b25)
                replace RD := Lib.hid (RD.out.below b25)
                replace XB := Lib.hid (XB.out.below b25)
                replace BB := Lib.hid (BB.out.trans (b25.mono BB.out.size))
                clear b25
                go_wp2_with fail
                refine (HU.out _ RP.out).mono ?_
                rintro e w26 ⟨rfl, b26⟩
                replace R := Lib.hid (R.out.below b26)
                replace RP := Lib.hid (RP.out.below b26)
                replace RX := Lib.hid (RX.out.below b26)
                replace RY := Lib.hid (RY.out.below b26)
                replace XX := Lib.hid (XX.out.below b26)
                replace XY := Lib.hid (XY.out.below b26)
                replace RC := Lib.hid (RC.out.below b26)
                replace XA := Lib.hid (XA.out.below b26)
                replace RD := Lib.hid (RD.out.below b26)
                replace XB := Lib.hid (XB.out.below b26)
                replace BB := Lib.hid (BB.out.trans (b26.mono BB.out.size))
                clear b26
                go_wp2_with fail
                refine (HT.out _ RP.out).mono ?_
                rintro e w27 ⟨rfl, b27⟩
                replace R := Lib.hid (R.out.below b27)
                replace RP := Lib.hid (RP.out.below b27)
                replace RX := Lib.hid (RX.out.below b27)
                replace RY := Lib.hid (RY.out.below b27)
                replace XX := Lib.hid (XX.out.below b27)
                replace XY := Lib.hid (XY.out.below b27)
                replace RC := Lib.hid (RC.out.below b27)
                replace XA := Lib.hid (XA.out.below b27)
                replace RD := Lib.hid (RD.out.below b27)
                replace XB := Lib.hid (XB.out.below b27)
                replace BB := Lib.hid (BB.out.trans (b27.mono BB.out.size))
                clear b27
                go_wp2_with fail
                go_ret
                exact ⟨rfl, BB.out⟩
end Go.Proofs.Ytfgnmjnlhnpmoaa.fnMeasures
