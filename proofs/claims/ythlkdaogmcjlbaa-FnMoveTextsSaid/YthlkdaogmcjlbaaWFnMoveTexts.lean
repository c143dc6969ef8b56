/-
  The walk of FnMoveTexts.
-/
import Derived.Test.YthlkdaogmcjlbaaArg
import Derived.Test.YthlkdaogmcjlbaaKit2
import Derived.Test.YthlkdaogmcjlbaaKit5
import Derived.Test.YthlkdaogmcjlbaaMoveY
import Derived.Test.YthlkdaogmcjlbaaMoveV
import Derived.Test.YthlkdaogmcjlbaaMoveX
import Derived.Test.YthlkdaogmcjlbaaMoveQ
import Derived.Test.YthlkdaogmcjlbaaMoveWI
import Derived.Test.YthlkdaogmcjlbaaMoveWS
import Derived.Test.YthlkdaogmcjlbaaMoveN
import Derived.Test.YthlkdaogmcjlbaaMoveGM
import Derived.OpenShut
import Derived.Deep.DeepCutAuto
import Derived.Deep.RegionHeld3
import Derived.Deep.CutBlock
set_option linter.unusedVariables false
namespace Go.Proofs.Ythlkdaogmcjlbaa.fnMoveTexts
open Go.ChangeShapes Go.WideShapes Go.ChangeAt Go.RowKit
theorem text_small (l : List M.Move) : (M.movesText l).1.size ≤ 1048576 := by
  cases h : M.movesOk l with
  | false => rw [M.movesText_no h]; show ByteArray.empty.size ≤ 1048576; decide
  | true =>
    rw [M.movesText_yes h]
    have := (MoveD.txt_size h).2.2
    show (M.movesTxt l).size ≤ 1048576
    omega
set_option maxRecDepth 100000 in
set_option maxHeartbeats 16000000 in
/-- the walk: the law's text returns true; nothing that was there has turned. -/
theorem walk (A0 : Option Addr) (c0 : Nat) (l0 : List UInt8) (W : World) (h0 : K.Rd W 1 A0 l0.length (l0.map fun b => Value.int .u8 (b.toNat : Int))) (m0 : l0.length ≤ 9223372036854775807) :
    Calls Try.prog 7 #[.slice A0 l0.length c0] W fun e w' => e = .returned (.bool true) ∧ Below W.heap.size W w' := by
  by_cases hbig : 65536 < l0.length
  · have hd : decide (65536 < l0.length) = true := decide_eq_true hbig
    go_enter Try.func7, Try.ntmps7
    go_wp2_with fail
    refine (MoveV.vbig _ _ _ _).mono ?_
    rintro e w1 ⟨rfl, rfl⟩
    rw [hd]
    go_wp2_with fail
    go_ret
    exact ⟨rfl, Below.refl _ _⟩
  · have hd : decide (65536 < l0.length) = false := decide_eq_false hbig
    have hl : l0.length ≤ 65536 := by omega
    clear hbig
    go_enter Try.func7, Try.ntmps7
    go_wp2_with fail
    refine (MoveV.vbig _ _ _ _).mono ?_
    rintro e w0 ⟨rfl, rfl⟩
    rw [hd]
    clear hd
    have BB := Lib.hid (Below.refl W.heap.size W)
    have R := Lib.hid h0
    go_wp2_with fail
    refine (MoveD.text A0 c0 l0 _ hl R.out).mono ?_
    rintro e w1 ⟨X1, n1, ms, rfl, h63, hr, b1⟩
    replace R := Lib.hid (R.out.below b1)
    replace BB := Lib.hid (BB.out.trans (b1.mono BB.out.size))
    clear b1
    have RM := Lib.hid hr
    clear hr
    have hm7 : ms.length ≤ 1048576 := by omega
    have HI := Lib.hid (fun w h => MoveX.i_text X1 n1 ms w hm7 h)
    have HS := Lib.hid (fun w h => MoveX.s_text X1 n1 ms w hm7 h)
    have hts := text_small ms
    have HG := Lib.hid (fun h => M.text_back (l := ms) h)
    generalize M.movesText ms = Q at *
    obtain ⟨t, ok⟩ := Q
    dsimp only at *
    have HP := Lib.hid (fun w => MoveQ.i_parse t w hts)
    generalize M.parseMv t = Q at *
    obtain ⟨bk, rd⟩ := Q
    dsimp only at *
    go_wp2_with fail
    refine (HI.out _ RM.out).mono ?_
    rintro e w2 ⟨rfl, b2⟩
    replace R := Lib.hid (R.out.below b2)
    replace RM := Lib.hid (RM.out.below b2)
    replace BB := Lib.hid (BB.out.trans (b2.mono BB.out.size))
    clear b2
    go_wp2_with fail
    refine (HP.out _).mono ?_
    rintro e w3 ⟨X3, n3, rfl, q3, b3⟩
    replace R := Lib.hid (R.out.below b3)
    replace RM := Lib.hid (RM.out.below b3)
    replace BB := Lib.hid (BB.out.trans (b3.mono BB.out.size))
    clear b3
    have RC := Lib.hid q3.rd
    clear q3
    go_wp2_with fail
    refine (HS.out _ RM.out).mono ?_
    rintro e w4 ⟨rfl, b4⟩
    replace R := Lib.hid (R.out.below b4)
    replace RM := Lib.hid (RM.out.below b4)
    replace RC := Lib.hid (RC.out.below b4)
    replace BB := Lib.hid (BB.out.trans (b4.mono BB.out.size))
    clear b4
    clear HI HS HP
    have htt : (t.toList != t.toList) = false := by simp
    have hoo : (ok != ok) = false := by simp
    go_upto_region 7 with fail
    go_cut [80] (fun vv wx => vv = .bool false ∧ Below w4.heap.size w4 wx)
    case first =>
      as_aux_lemma =>
        cases ok with
        | false =>
          go_wp2_with fail
          go_meet
          exact ⟨rfl, Below.refl _ _⟩
        | true =>
          have e1 := HG.out rfl
          simp only [Prod.mk.injEq] at e1
          obtain ⟨e1, e2⟩ := e1
          clear HG
          subst e1
          subst e2
          have BB := Lib.hid (Below.refl w4.heap.size w4)
          go_wp2_with fail
          refine (MoveV.vmoves _ _ _ _ _ _ hm7 RC.out RM.out).mono ?_
          rintro e w5 ⟨rfl, b5⟩
          replace R := Lib.hid (R.out.below b5)
          replace RM := Lib.hid (RM.out.below b5)
          replace RC := Lib.hid (RC.out.below b5)
          replace BB := Lib.hid (BB.out.trans (b5.mono BB.out.size))
          clear b5
          go_wp2_with fail
          go_meet
          exact ⟨rfl, BB.out⟩
    obtain ⟨rfl, bq⟩ := hcut
    rename World => wq1
    clear HG RM RC hm7 h63 hts htt hoo
    replace R := Lib.hid (R.out.below bq)
    replace BB := Lib.hid (BB.out.trans (bq.mono BB.out.size))
    clear bq
    as_aux_lemma =>
      go_wp2_with fail
      refine (MoveD.parse A0 c0 l0 _ hl R.out).mono ?_
      rintro e w6 ⟨s, rfl, hs, b6⟩
      replace R := Lib.hid (R.out.below b6)
      replace BB := Lib.hid (BB.out.trans (b6.mono BB.out.size))
      clear b6
      have HI := Lib.hid (fun w => MoveQ.i_parse s w hs)
      have HS := Lib.hid (fun w => MoveQ.s_parse s w hs)
      have hx7 : (M.parseMv s).1.length ≤ 1048576 := by have := M.parseMv_le s; omega
      have HG := Lib.hid (fun h => M.read_back (s := s) h)
      generalize M.parseMv s = Q at *
      obtain ⟨xs, told⟩ := Q
      dsimp only at *
      have HT := Lib.hid (fun B d w h => MoveX.i_text B d xs w hx7 h)
      generalize M.movesText xs = Q at *
      obtain ⟨ag, one⟩ := Q
      dsimp only at *
      go_wp2_with fail
      refine (HI.out _).mono ?_
      rintro e w7 ⟨X7, n7, rfl, q7, b7⟩
      replace R := Lib.hid (R.out.below b7)
      replace BB := Lib.hid (BB.out.trans (b7.mono BB.out.size))
      clear b7
      have RX := Lib.hid q7.rd
      clear q7
      go_wp2_with fail
      refine (HT.out _ _ _ RX.out).mono ?_
      rintro e w8 ⟨rfl, b8⟩
      replace R := Lib.hid (R.out.below b8)
      replace RX := Lib.hid (RX.out.below b8)
      replace BB := Lib.hid (BB.out.trans (b8.mono BB.out.size))
      clear b8
      go_wp2_with fail
      refine (HS.out _).mono ?_
      rintro e w9 ⟨X9, n9, rfl, q9, b9⟩
      replace R := Lib.hid (R.out.below b9)
      replace RX := Lib.hid (RX.out.below b9)
      replace BB := Lib.hid (BB.out.trans (b9.mono BB.out.size))
      clear b9
      have RY := Lib.hid q9.rd
      clear q9
      clear HI HS HT
      have hoo : (told != told) = false := by simp
      have hss : (s.toList != s.toList) = false := by simp
      go_upto_region 13 with fail
      go_cut [118] (fun vv wx => vv = .bool false ∧ Below w9.heap.size w9 wx)
      case first =>
        as_aux_lemma =>
          have BB := Lib.hid (Below.refl w9.heap.size w9)
          cases told with
          | false =>
            clear HG
            go_wp2_with fail
            refine (MoveV.vmoves _ _ _ _ xs _ hx7 RX.out RY.out).mono ?_
            rintro e w10 ⟨rfl, b10⟩
            replace R := Lib.hid (R.out.below b10)
            replace RX := Lib.hid (RX.out.below b10)
            replace RY := Lib.hid (RY.out.below b10)
            replace BB := Lib.hid (BB.out.trans (b10.mono BB.out.size))
            clear b10
            go_wp2_with fail
            go_meet
            exact ⟨rfl, BB.out⟩
          | true =>
            have e1 := HG.out rfl
            simp only [Prod.mk.injEq] at e1
            obtain ⟨e1, e2⟩ := e1
            clear HG
            subst e1
            subst e2
            go_wp2_with fail
            refine (MoveV.vmoves _ _ _ _ xs _ hx7 RX.out RY.out).mono ?_
            rintro e w11 ⟨rfl, b11⟩
            replace R := Lib.hid (R.out.below b11)
            replace RX := Lib.hid (RX.out.below b11)
            replace RY := Lib.hid (RY.out.below b11)
            replace BB := Lib.hid (BB.out.trans (b11.mono BB.out.size))
            clear b11
            go_wp2_with fail
            go_meet
            exact ⟨rfl, BB.out⟩
      obtain ⟨rfl, bq⟩ := hcut
      rename World => wq2
      clear HG RX RY hx7 hs hss hoo
      replace R := Lib.hid (R.out.below bq)
      replace BB := Lib.hid (BB.out.trans (bq.mono BB.out.size))
      clear bq
      as_aux_lemma =>
        go_wp2_with fail
        refine (MoveD.merged A0 c0 l0 _ hl R.out).mono ?_
        rintro e w12 ⟨X12, n12, ms, rfl, h63, hr, b12⟩
        replace R := Lib.hid (R.out.below b12)
        replace BB := Lib.hid (BB.out.trans (b12.mono BB.out.size))
        clear b12
        have RM := Lib.hid hr
        clear hr
        have hm7 : ms.length ≤ 1048576 := by omega
        have HI := Lib.hid (fun w h => MoveW.i_merge X12 n12 ms w hm7 h)
        have HS := Lib.hid (fun w h => MoveW.s_merge X12 n12 ms w hm7 h)
        have hk7 : (M.mergedMv ms).1.length ≤ 1048576 := by have := M.mergedMv_le ms; omega
        have HG := Lib.hid (fun h => M.merged_great (l := ms) h)
        generalize M.mergedMv ms = Q at *
        obtain ⟨mg, fine⟩ := Q
        dsimp only at *
        go_wp2_with fail
        refine (HI.out _ RM.out).mono ?_
        rintro e w13 ⟨X13, n13, rfl, q13, b13⟩
        replace R := Lib.hid (R.out.below b13)
        replace RM := Lib.hid (RM.out.below b13)
        replace BB := Lib.hid (BB.out.trans (b13.mono BB.out.size))
        clear b13
        have RC := Lib.hid q13.rd
        clear q13
        go_wp2_with fail
        refine (HS.out _ RM.out).mono ?_
        rintro e w14 ⟨X14, n14, rfl, q14, b14⟩
        replace R := Lib.hid (R.out.below b14)
        replace RM := Lib.hid (RM.out.below b14)
        replace RC := Lib.hid (RC.out.below b14)
        replace BB := Lib.hid (BB.out.trans (b14.mono BB.out.size))
        clear b14
        have RD := Lib.hid q14.rd
        clear q14
        clear HI HS
        have hoo : (fine != fine) = false := by simp
        go_wp2_with fail
        refine (MoveV.vmoves _ _ _ _ mg _ hk7 RC.out RD.out).mono ?_
        rintro e w15 ⟨rfl, b15⟩
        replace R := Lib.hid (R.out.below b15)
        replace RM := Lib.hid (RM.out.below b15)
        replace RC := Lib.hid (RC.out.below b15)
        replace RD := Lib.hid (RD.out.below b15)
        replace BB := Lib.hid (BB.out.trans (b15.mono BB.out.size))
        clear b15
        as_aux_lemma =>
          clear RD
          go_upto_if 140 with fail
          go_cut [] (fun wx => Below w15.heap.size w15 wx)
          case first =>
            as_aux_lemma =>
              cases fine with
              | false =>
                go_wp2_with fail
                go_meet
                exact Below.refl _ _
              | true =>
                obtain ⟨e1, e2, e3, e4, e5, e6, e7⟩ := HG.out rfl
                clear HG
                have h8 : M.i64 8 := by unfold M.i64; decide
                have HA := Lib.hid (fun w h => MoveN.i_change X12 n12 ms 8 w hm7 h8 h)
                have HC := Lib.hid (fun w h => MoveN.i_change X13 n13 mg 8 w hk7 h8 h)
                have HE := Lib.hid (fun w h => MoveN.i_beadsOf X12 n12 ms w hm7 h)
                have HF := Lib.hid (fun w h => MoveN.i_beadsOf X13 n13 mg w hk7 h)
                generalize M.changeOf ms 8 = Q at *
                obtain ⟨va, two⟩ := Q
                dsimp only at *
                generalize M.changeOf mg 8 = Q at *
                obtain ⟨vb, three⟩ := Q
                dsimp only at *
                generalize M.beadsOf ms = Q at *
                obtain ⟨vp, four⟩ := Q
                dsimp only at *
                generalize M.beadsOf mg = Q at *
                obtain ⟨vq, five⟩ := Q
                dsimp only at *
                subst e1
                subst e2
                subst e3
                subst e4
                subst e5
                have hvv : (va != va) = false := by simp
                have hle : ¬ (vp < vq) := by omega
                have hll : ¬ ((ms.length : Int) < (mg.length : Int)) := by omega
                clear e6 e7 h8
                have BB := Lib.hid (Below.refl w15.heap.size w15)
                go_wp2_with fail
                refine (HA.out _ RM.out).mono ?_
                rintro e w16 ⟨rfl, b16⟩
                replace R := Lib.hid (R.out.below b16)
                replace RM := Lib.hid (RM.out.below b16)
                replace RC := Lib.hid (RC.out.below b16)
                replace BB := Lib.hid (BB.out.trans (b16.mono BB.out.size))
                clear b16
                go_wp2_with fail
                refine (HC.out _ RC.out).mono ?_
                rintro e w17 ⟨rfl, b17⟩
                replace R := Lib.hid (R.out.below b17)
                replace RM := Lib.hid (RM.out.below b17)
                replace RC := Lib.hid (RC.out.below b17)
                replace BB := Lib.hid (BB.out.trans (b17.mono BB.out.size))
                clear b17
                go_wp2_with fail
                refine (HE.out _ RM.out).mono ?_
                rintro e w18 ⟨rfl, b18⟩
                replace R := Lib.hid (R.out.below b18)
                replace RM := Lib.hid (RM.out.below b18)
                replace RC := Lib.hid (RC.out.below b18)
                replace BB := Lib.hid (BB.out.trans (b18.mono BB.out.size))
                clear b18
                go_wp2_with fail
                refine (HF.out _ RC.out).mono ?_
                rintro e w19 ⟨rfl, b19⟩
                replace R := Lib.hid (R.out.below b19)
                replace RM := Lib.hid (RM.out.below b19)
                replace RC := Lib.hid (RC.out.below b19)
                replace BB := Lib.hid (BB.out.trans (b19.mono BB.out.size))
                clear b19
                go_wp2_with fail
                go_meet
                exact BB.out
          rename World => wq3
          have bq := hcut
          clear hcut HG RM RC hm7 h63 hk7 hoo
          replace R := Lib.hid (R.out.below bq)
          replace BB := Lib.hid (BB.out.trans (bq.mono BB.out.size))
          clear bq
          as_aux_lemma =>
            go_wp2_with fail
            refine (MoveD.change A0 c0 l0 _ hl R.out).mono ?_
            rintro e w20 ⟨X20, n20, ms, v, rfl, h63, hv0, hv9, hr, b20⟩
            replace R := Lib.hid (R.out.below b20)
            replace BB := Lib.hid (BB.out.trans (b20.mono BB.out.size))
            clear b20
            have RM := Lib.hid hr
            clear hr
            have hm7 : ms.length ≤ 1048576 := by omega
            have h8 : M.i64 v := by unfold M.i64; omega
            have HI := Lib.hid (fun w h => MoveN.i_change X20 n20 ms v w hm7 h8 h)
            have HS := Lib.hid (fun w h => MoveN.s_change X20 n20 ms v w hm7 h8 h)
            generalize M.changeOf ms v = Q at *
            obtain ⟨va, ok⟩ := Q
            dsimp only at *
            go_wp2_with fail
            refine (HI.out _ RM.out).mono ?_
            rintro e w21 ⟨rfl, b21⟩
            replace R := Lib.hid (R.out.below b21)
            replace RM := Lib.hid (RM.out.below b21)
            replace BB := Lib.hid (BB.out.trans (b21.mono BB.out.size))
            clear b21
            go_wp2_with fail
            refine (HS.out _ RM.out).mono ?_
            rintro e w22 ⟨rfl, b22⟩
            replace R := Lib.hid (R.out.below b22)
            replace RM := Lib.hid (RM.out.below b22)
            replace BB := Lib.hid (BB.out.trans (b22.mono BB.out.size))
            clear b22
            clear HI HS
            have hvv : (va != va) = false := by simp
            have hoo : (ok != ok) = false := by simp
            go_upto_region 30 with fail
            go_cut [216] (fun vv wx => vv = .bool false ∧ Below w22.heap.size w22 wx)
            case first =>
              as_aux_lemma =>
                go_wp2_with fail
                go_meet
                exact ⟨rfl, Below.refl _ _⟩
            obtain ⟨rfl, bq⟩ := hcut
            rename World => wq4
            clear RM hm7 h63 h8 hv0 hv9 hvv hoo
            replace R := Lib.hid (R.out.below bq)
            replace BB := Lib.hid (BB.out.trans (bq.mono BB.out.size))
            clear bq
            as_aux_lemma =>
              go_wp2_with fail
              refine (MoveD.beadsof A0 c0 l0 _ hl R.out).mono ?_
              rintro e w23 ⟨X23, n23, ms, rfl, h63, hr, b23⟩
              replace R := Lib.hid (R.out.below b23)
              replace BB := Lib.hid (BB.out.trans (b23.mono BB.out.size))
              clear b23
              have RM := Lib.hid hr
              clear hr
              have hm7 : ms.length ≤ 1048576 := by omega
              have HI := Lib.hid (fun w h => MoveN.i_beadsOf X23 n23 ms w hm7 h)
              have HS := Lib.hid (fun w h => MoveN.s_beadsOf X23 n23 ms w hm7 h)
              generalize M.beadsOf ms = Q at *
              obtain ⟨va, ok⟩ := Q
              dsimp only at *
              go_wp2_with fail
              refine (HI.out _ RM.out).mono ?_
              rintro e w24 ⟨rfl, b24⟩
              replace R := Lib.hid (R.out.below b24)
              replace RM := Lib.hid (RM.out.below b24)
              replace BB := Lib.hid (BB.out.trans (b24.mono BB.out.size))
              clear b24
              go_wp2_with fail
              refine (HS.out _ RM.out).mono ?_
              rintro e w25 ⟨rfl, b25⟩
              replace R := Lib.hid (R.out.below b25)
              replace RM := Lib.hid (RM.out.below b25)
              replace BB := Lib.hid (BB.out.trans (b25.mono BB.out.size))
              clear b25
              clear HI HS
              have hvv : (va == va) = true := by simp
              have hoo : (ok == ok) = true := by simp
              go_wp2_with fail
              go_ret
              exact ⟨rfl, BB.out⟩
end Go.Proofs.Ythlkdaogmcjlbaa.fnMoveTexts
