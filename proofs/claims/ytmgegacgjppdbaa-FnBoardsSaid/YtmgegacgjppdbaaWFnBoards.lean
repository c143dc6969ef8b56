/-
  The walk of FnBoards.
-/
import Derived.Test.YtmgegacgjppdbaaArg
import Derived.Test.YtmgegacgjppdbaaKit2
import Derived.Test.YtmgegacgjppdbaaBoardE
import Derived.Test.YtmgegacgjppdbaaBoardC
import Derived.Test.YtmgegacgjppdbaaBoardW
import Derived.Test.YtmgegacgjppdbaaBoardJ
import Derived.Test.YtmgegacgjppdbaaBoardX
import Derived.Test.YtmgegacgjppdbaaBoardGM
import Derived.OpenShut
import Derived.Deep.DeepCutAuto
set_option linter.unusedVariables false
namespace Go.Proofs.Ytmgegacgjppdbaa.fnBoards
open Go.ChangeShapes Go.WideShapes Go.ChangeAt Go.RowKit
theorem text_flag (l k : List Int) : (M.boardText l k).2 = M.bOk l k := by
  cases h : M.bOk l k with
  | true => rw [M.boardText_yes h]
  | false => rw [M.boardText_no h]
theorem bvalue_bd {l k : List Int} (ok : (M.bValue l k).2 = true) : 0 ≤ (M.bValue l k).1 ∧ (M.bValue l k).1 ≤ 20000000 := by
  cases h : M.bOk l k with
  | true =>
    have := M.bVal_facts h 0 (Nat.zero_le _)
    rw [M.bValue_yes h]
    simpa using this
  | false => rw [M.bValue_no h] at ok; cases ok
set_option maxRecDepth 100000 in
set_option maxHeartbeats 16000000 in
/-- the walk: the law's text returns true; nothing that was there has turned. -/
theorem walk (A0 : Option Addr) (c0 : Nat) (l0 : List UInt8) (W : World) (h0 : K.Rd W 1 A0 l0.length (l0.map fun b => Value.int .u8 (b.toNat : Int))) (m0 : l0.length ≤ 9223372036854775807) :
    Calls Try.prog 15 #[.slice A0 l0.length c0] W fun e w' => e = .returned (.bool true) ∧ Below W.heap.size W w' := by
  by_cases hbig : 65536 < l0.length
  · have hd : decide (65536 < l0.length) = true := decide_eq_true hbig
    go_enter Try.func15, Try.ntmps15
    go_wp2_with fail
    refine (BoardE.rbig _ _ _ _).mono ?_
    rintro e w1 ⟨rfl, rfl⟩
    rw [hd]
    go_wp2_with fail
    go_ret
    exact ⟨rfl, Below.refl _ _⟩
  · have hd : decide (65536 < l0.length) = false := decide_eq_false hbig
    have hl : l0.length ≤ 65536 := by omega
    clear hbig
    go_enter Try.func15, Try.ntmps15
    go_wp2_with fail
    refine (BoardE.rbig _ _ _ _).mono ?_
    rintro e w0 ⟨rfl, rfl⟩
    rw [hd]
    clear hd
    have BB := Lib.hid (Below.refl W.heap.size W)
    have R := Lib.hid h0
    have RCD := R
    go_wp2_with fail
    refine (BoardE.carryat A0 c0 l0 _ hl R.out).mono ?_
    rintro e w1 ⟨A1, c1, l, B1, d1, k, ln, a, rfl, h7, k7, ra, rb, b1, _, _⟩
    replace R := Lib.hid (R.out.below b1)
    replace BB := Lib.hid (BB.out.trans (b1.mono BB.out.size))
    clear b1
    have RA := Lib.hid ra
    have RB := Lib.hid rb
    clear ra rb
    obtain ⟨ob, ho⟩ : ∃ o : Obj, o = .cells #[.slice A1 l.length c1, .slice B1 k.length d1] 27 := ⟨_, rfl⟩
    have XB := Lib.hid (show K.Box (w1.alloc ob) w1.heap.size [.slice A1 l.length c1, .slice B1 k.length d1] by rw [ho]; exact K.Box.new _ _ _)
    replace R := Lib.hid (R.out.alloc ob)
    replace RA := Lib.hid (RA.out.alloc ob)
    replace RB := Lib.hid (RB.out.alloc ob)
    replace BB := Lib.hid (BB.out.alloc BB.out.size ob)
    subst ho
    have hl7 : l.length ≤ 1048576 := by omega
    have hk7 : k.length ≤ 1048576 := by omega
    have HI := Lib.hid (fun w h h2 => BoardO.i_carry A1 c1 l B1 d1 k ln a w hl7 hk7 h h2)
    have HS := Lib.hid (fun w h h2 => BoardO.s_carry A1 c1 l B1 d1 k ln a w hl7 hk7 h h2)
    have hle := M.carryB_le l k ln a
    have HG := Lib.hid (fun ok => M.carry_great (l := l) (k := k) (line := ln) (a := a) ok)
    generalize M.carryB l k ln a = Q at *
    obtain ⟨⟨L, L2⟩, ok⟩ := Q
    dsimp only at *
    have hoo : (ok != ok) = false := by simp
    obtain ⟨XB_0, XB_1⟩ := XB.out.c2
    have XB_g := XB.out.1
    go_wp2_with fail
    refine (HI.out _ RA.out RB.out).mono ?_
    rintro e w2 ⟨X2, n2, Y2, m2, rfl, q2, v2, ap2, b2⟩
    clear XB_0 XB_1 XB_g
    replace R := Lib.hid (R.out.below b2)
    replace RA := Lib.hid (RA.out.below b2)
    replace RB := Lib.hid (RB.out.below b2)
    replace XB := Lib.hid (XB.out.below b2)
    replace BB := Lib.hid (BB.out.trans (b2.mono BB.out.size))
    clear b2
    have RCa := Lib.hid q2.rd
    have RCb := Lib.hid v2.rd
    clear q2 v2 ap2
    obtain ⟨ob, ho⟩ : ∃ o : Obj, o = .cells #[.slice X2 L.length n2, .slice Y2 L2.length m2] 27 := ⟨_, rfl⟩
    have XC := Lib.hid (show K.Box (w2.alloc ob) w2.heap.size [.slice X2 L.length n2, .slice Y2 L2.length m2] by rw [ho]; exact K.Box.new _ _ _)
    replace R := Lib.hid (R.out.alloc ob)
    replace RA := Lib.hid (RA.out.alloc ob)
    replace RB := Lib.hid (RB.out.alloc ob)
    replace XB := Lib.hid (XB.out.alloc ob)
    replace RCa := Lib.hid (RCa.out.alloc ob)
    replace RCb := Lib.hid (RCb.out.alloc ob)
    replace BB := Lib.hid (BB.out.alloc BB.out.size ob)
    subst ho
    obtain ⟨XB_0, XB_1⟩ := XB.out.c2
    have XB_g := XB.out.1
    go_wp2_with fail
    refine (HS.out _ RA.out RB.out).mono ?_
    rintro e w3 ⟨X3, n3, Y3, m3, rfl, q3, v3, ap3, b3⟩
    clear XB_0 XB_1 XB_g
    replace R := Lib.hid (R.out.below b3)
    replace RA := Lib.hid (RA.out.below b3)
    replace RB := Lib.hid (RB.out.below b3)
    replace XB := Lib.hid (XB.out.below b3)
    replace RCa := Lib.hid (RCa.out.below b3)
    replace RCb := Lib.hid (RCb.out.below b3)
    replace XC := Lib.hid (XC.out.below b3)
    replace BB := Lib.hid (BB.out.trans (b3.mono BB.out.size))
    clear b3
    have RDa := Lib.hid q3.rd
    have RDb := Lib.hid v3.rd
    clear q3 v3 ap3
    obtain ⟨ob, ho⟩ : ∃ o : Obj, o = .cells #[.slice X3 L.length n3, .slice Y3 L2.length m3] 27 := ⟨_, rfl⟩
    have XD := Lib.hid (show K.Box (w3.alloc ob) w3.heap.size [.slice X3 L.length n3, .slice Y3 L2.length m3] by rw [ho]; exact K.Box.new _ _ _)
    replace R := Lib.hid (R.out.alloc ob)
    replace RA := Lib.hid (RA.out.alloc ob)
    replace RB := Lib.hid (RB.out.alloc ob)
    replace XB := Lib.hid (XB.out.alloc ob)
    replace RCa := Lib.hid (RCa.out.alloc ob)
    replace RCb := Lib.hid (RCb.out.alloc ob)
    replace XC := Lib.hid (XC.out.alloc ob)
    replace RDa := Lib.hid (RDa.out.alloc ob)
    replace RDb := Lib.hid (RDb.out.alloc ob)
    replace BB := Lib.hid (BB.out.alloc BB.out.size ob)
    subst ho
    have hL7 : L.length ≤ 1048576 := by omega
    have hL8 : L2.length ≤ 1048576 := by omega
    obtain ⟨XC_0, XC_1⟩ := XC.out.c2
    have XC_g := XC.out.1
    obtain ⟨XD_0, XD_1⟩ := XD.out.c2
    have XD_g := XD.out.1
    go_wp2_with fail
    refine (BoardE.rboard _ _ _ _ L _ _ _ _ L2 _ hL7 hL8 RCa.out RDa.out RCb.out RDb.out).mono ?_
    rintro e w4 ⟨rfl, b4⟩
    clear XC_0 XC_1 XC_g XD_0 XD_1 XD_g
    replace R := Lib.hid (R.out.below b4)
    replace RA := Lib.hid (RA.out.below b4)
    replace RB := Lib.hid (RB.out.below b4)
    replace XB := Lib.hid (XB.out.below b4)
    replace RCa := Lib.hid (RCa.out.below b4)
    replace RCb := Lib.hid (RCb.out.below b4)
    replace XC := Lib.hid (XC.out.below b4)
    replace RDa := Lib.hid (RDa.out.below b4)
    replace RDb := Lib.hid (RDb.out.below b4)
    replace XD := Lib.hid (XD.out.below b4)
    replace BB := Lib.hid (BB.out.trans (b4.mono BB.out.size))
    clear b4
    clear XD RDa RDb
    go_upto_if 75 with fail
    go_cut [] (fun wx => Below w4.heap.size w4 wx)
    case first =>
      cases ok with
      | false =>
        go_wp2_with fail
        go_meet
        exact Below.refl _ _
      | true =>
        obtain ⟨e1, e2, e3, e4⟩ := HG.out rfl
        clear HG HI HS
        have BB := Lib.hid (Below.refl w4.heap.size w4)
        have HV1 := Lib.hid (fun w h h2 => BoardF.i_value A1 c1 l B1 d1 k w hl7 hk7 h h2)
        have HV2 := Lib.hid (fun w h h2 => BoardF.i_value X2 n2 L Y2 m2 L2 w hL7 hL8 h h2)
        have HBW := Lib.hid (fun w h h2 => BoardO.i_borrow X2 n2 L Y2 m2 L2 ln a w hL7 hL8 h h2)
        rw [e4] at HBW
        clear e4
        generalize M.bValue l k = V1 at *
        obtain ⟨v1, f1⟩ := V1
        generalize M.bValue L L2 = V2 at *
        obtain ⟨v2, f2⟩ := V2
        dsimp only at *
        subst e1 e2 e3
        have hvv : ∀ v : Int, (v != v) = false := fun v => by simp
        have hv2 := hvv v1
        clear hvv
        obtain ⟨XB_0, XB_1⟩ := XB.out.c2
        have XB_g := XB.out.1
        go_wp2_with fail
        refine (HV1.out _ RA.out RB.out).mono ?_
        rintro e w5 ⟨rfl, b5⟩
        clear XB_0 XB_1 XB_g
        replace R := Lib.hid (R.out.below b5)
        replace RA := Lib.hid (RA.out.below b5)
        replace RB := Lib.hid (RB.out.below b5)
        replace XB := Lib.hid (XB.out.below b5)
        replace RCa := Lib.hid (RCa.out.below b5)
        replace RCb := Lib.hid (RCb.out.below b5)
        replace XC := Lib.hid (XC.out.below b5)
        replace BB := Lib.hid (BB.out.trans (b5.mono BB.out.size))
        clear b5
        obtain ⟨XC_0, XC_1⟩ := XC.out.c2
        have XC_g := XC.out.1
        go_wp2_with fail
        refine (HV2.out _ RCa.out RCb.out).mono ?_
        rintro e w6 ⟨rfl, b6⟩
        clear XC_0 XC_1 XC_g
        replace R := Lib.hid (R.out.below b6)
        replace RA := Lib.hid (RA.out.below b6)
        replace RB := Lib.hid (RB.out.below b6)
        replace XB := Lib.hid (XB.out.below b6)
        replace RCa := Lib.hid (RCa.out.below b6)
        replace RCb := Lib.hid (RCb.out.below b6)
        replace XC := Lib.hid (XC.out.below b6)
        replace BB := Lib.hid (BB.out.trans (b6.mono BB.out.size))
        clear b6
        obtain ⟨XC_0, XC_1⟩ := XC.out.c2
        have XC_g := XC.out.1
        go_wp2_with fail
        refine (HBW.out _ RCa.out RCb.out).mono ?_
        rintro e w7 ⟨X7, n7, Y7, m7, rfl, q7, v7, ap7, b7⟩
        clear XC_0 XC_1 XC_g
        replace R := Lib.hid (R.out.below b7)
        replace RA := Lib.hid (RA.out.below b7)
        replace RB := Lib.hid (RB.out.below b7)
        replace XB := Lib.hid (XB.out.below b7)
        replace RCa := Lib.hid (RCa.out.below b7)
        replace RCb := Lib.hid (RCb.out.below b7)
        replace XC := Lib.hid (XC.out.below b7)
        replace BB := Lib.hid (BB.out.trans (b7.mono BB.out.size))
        clear b7
        have REa := Lib.hid q7.rd
        have REb := Lib.hid v7.rd
        clear q7 v7 ap7
        obtain ⟨ob, ho⟩ : ∃ o : Obj, o = .cells #[.slice X7 l.length n7, .slice Y7 k.length m7] 27 := ⟨_, rfl⟩
        have XE := Lib.hid (show K.Box (w7.alloc ob) w7.heap.size [.slice X7 l.length n7, .slice Y7 k.length m7] by rw [ho]; exact K.Box.new _ _ _)
        replace R := Lib.hid (R.out.alloc ob)
        replace RA := Lib.hid (RA.out.alloc ob)
        replace RB := Lib.hid (RB.out.alloc ob)
        replace XB := Lib.hid (XB.out.alloc ob)
        replace RCa := Lib.hid (RCa.out.alloc ob)
        replace RCb := Lib.hid (RCb.out.alloc ob)
        replace XC := Lib.hid (XC.out.alloc ob)
        replace REa := Lib.hid (REa.out.alloc ob)
        replace REb := Lib.hid (REb.out.alloc ob)
        replace BB := Lib.hid (BB.out.alloc BB.out.size ob)
        subst ho
        obtain ⟨XE_0, XE_1⟩ := XE.out.c2
        have XE_g := XE.out.1
        obtain ⟨XB_0, XB_1⟩ := XB.out.c2
        have XB_g := XB.out.1
        go_wp2_with fail
        refine (BoardE.rboard _ _ _ _ l _ _ _ _ k _ hl7 hk7 REa.out RA.out REb.out RB.out).mono ?_
        rintro e w8 ⟨rfl, b8⟩
        clear XE_0 XE_1 XE_g XB_0 XB_1 XB_g
        replace R := Lib.hid (R.out.below b8)
        replace RA := Lib.hid (RA.out.below b8)
        replace RB := Lib.hid (RB.out.below b8)
        replace XB := Lib.hid (XB.out.below b8)
        replace RCa := Lib.hid (RCa.out.below b8)
        replace RCb := Lib.hid (RCb.out.below b8)
        replace XC := Lib.hid (XC.out.below b8)
        replace REa := Lib.hid (REa.out.below b8)
        replace REb := Lib.hid (REb.out.below b8)
        replace XE := Lib.hid (XE.out.below b8)
        replace BB := Lib.hid (BB.out.trans (b8.mono BB.out.size))
        clear b8
        go_wp2_with fail
        go_meet
        exact BB.out
    rename World => wq1
    have bq := hcut
    clear hcut XB XC RA RB RCa RCb HG HI HS h7 k7 hl7 hk7 hle hL7 hL8 hoo
    replace R := Lib.hid (R.out.below bq)
    replace BB := Lib.hid (BB.out.trans (bq.mono BB.out.size))
    clear bq
    go_wp2_with fail
    refine (BoardE.borrowat A0 c0 l0 _ hl R.out).mono ?_
    rintro e w9 ⟨A9, c9, l, B9, d9, k, ln, a, rfl, h7, k7, ra, rb, b9, _, _⟩
    replace R := Lib.hid (R.out.below b9)
    replace BB := Lib.hid (BB.out.trans (b9.mono BB.out.size))
    clear b9
    have RA := Lib.hid ra
    have RB := Lib.hid rb
    clear ra rb
    obtain ⟨ob, ho⟩ : ∃ o : Obj, o = .cells #[.slice A9 l.length c9, .slice B9 k.length d9] 27 := ⟨_, rfl⟩
    have XB := Lib.hid (show K.Box (w9.alloc ob) w9.heap.size [.slice A9 l.length c9, .slice B9 k.length d9] by rw [ho]; exact K.Box.new _ _ _)
    replace R := Lib.hid (R.out.alloc ob)
    replace RA := Lib.hid (RA.out.alloc ob)
    replace RB := Lib.hid (RB.out.alloc ob)
    replace BB := Lib.hid (BB.out.alloc BB.out.size ob)
    subst ho
    have hl7 : l.length ≤ 1048576 := by omega
    have hk7 : k.length ≤ 1048576 := by omega
    have HI := Lib.hid (fun w h h2 => BoardO.i_borrow A9 c9 l B9 d9 k ln a w hl7 hk7 h h2)
    have HS := Lib.hid (fun w h h2 => BoardO.s_borrow A9 c9 l B9 d9 k ln a w hl7 hk7 h h2)
    have hle := M.borrowB_le l k ln a
    generalize M.borrowB l k ln a = Q at *
    obtain ⟨⟨L, L2⟩, ok⟩ := Q
    dsimp only at *
    have hoo : (ok != ok) = false := by simp
    obtain ⟨XB_0, XB_1⟩ := XB.out.c2
    have XB_g := XB.out.1
    go_wp2_with fail
    refine (HI.out _ RA.out RB.out).mono ?_
    rintro e w10 ⟨X10, n10, Y10, m10, rfl, q10, v10, ap10, b10⟩
    clear XB_0 XB_1 XB_g
    replace R := Lib.hid (R.out.below b10)
    replace RA := Lib.hid (RA.out.below b10)
    replace RB := Lib.hid (RB.out.below b10)
    replace XB := Lib.hid (XB.out.below b10)
    replace BB := Lib.hid (BB.out.trans (b10.mono BB.out.size))
    clear b10
    have RCa := Lib.hid q10.rd
    have RCb := Lib.hid v10.rd
    clear q10 v10 ap10
    obtain ⟨ob, ho⟩ : ∃ o : Obj, o = .cells #[.slice X10 L.length n10, .slice Y10 L2.length m10] 27 := ⟨_, rfl⟩
    have XC := Lib.hid (show K.Box (w10.alloc ob) w10.heap.size [.slice X10 L.length n10, .slice Y10 L2.length m10] by rw [ho]; exact K.Box.new _ _ _)
    replace R := Lib.hid (R.out.alloc ob)
    replace RA := Lib.hid (RA.out.alloc ob)
    replace RB := Lib.hid (RB.out.alloc ob)
    replace XB := Lib.hid (XB.out.alloc ob)
    replace RCa := Lib.hid (RCa.out.alloc ob)
    replace RCb := Lib.hid (RCb.out.alloc ob)
    replace BB := Lib.hid (BB.out.alloc BB.out.size ob)
    subst ho
    obtain ⟨XB_0, XB_1⟩ := XB.out.c2
    have XB_g := XB.out.1
    go_wp2_with fail
    refine (HS.out _ RA.out RB.out).mono ?_
    rintro e w11 ⟨X11, n11, Y11, m11, rfl, q11, v11, ap11, b11⟩
    clear XB_0 XB_1 XB_g
    replace R := Lib.hid (R.out.below b11)
    replace RA := Lib.hid (RA.out.below b11)
    replace RB := Lib.hid (RB.out.below b11)
    replace XB := Lib.hid (XB.out.below b11)
    replace RCa := Lib.hid (RCa.out.below b11)
    replace RCb := Lib.hid (RCb.out.below b11)
    replace XC := Lib.hid (XC.out.below b11)
    replace BB := Lib.hid (BB.out.trans (b11.mono BB.out.size))
    clear b11
    have RDa := Lib.hid q11.rd
    have RDb := Lib.hid v11.rd
    clear q11 v11 ap11
    obtain ⟨ob, ho⟩ : ∃ o : Obj, o = .cells #[.slice X11 L.length n11, .slice Y11 L2.length m11] 27 := ⟨_, rfl⟩
    have XD := Lib.hid (show K.Box (w11.alloc ob) w11.heap.size [.slice X11 L.length n11, .slice Y11 L2.length m11] by rw [ho]; exact K.Box.new _ _ _)
    replace R := Lib.hid (R.out.alloc ob)
    replace RA := Lib.hid (RA.out.alloc ob)
    replace RB := Lib.hid (RB.out.alloc ob)
    replace XB := Lib.hid (XB.out.alloc ob)
    replace RCa := Lib.hid (RCa.out.alloc ob)
    replace RCb := Lib.hid (RCb.out.alloc ob)
    replace XC := Lib.hid (XC.out.alloc ob)
    replace RDa := Lib.hid (RDa.out.alloc ob)
    replace RDb := Lib.hid (RDb.out.alloc ob)
    replace BB := Lib.hid (BB.out.alloc BB.out.size ob)
    subst ho
    have hL7 : L.length ≤ 1048576 := by omega
    have hL8 : L2.length ≤ 1048576 := by omega
    obtain ⟨XC_0, XC_1⟩ := XC.out.c2
    have XC_g := XC.out.1
    obtain ⟨XD_0, XD_1⟩ := XD.out.c2
    have XD_g := XD.out.1
    go_wp2_with fail
    refine (BoardE.rboard _ _ _ _ L _ _ _ _ L2 _ hL7 hL8 RCa.out RDa.out RCb.out RDb.out).mono ?_
    rintro e w12 ⟨rfl, b12⟩
    clear XC_0 XC_1 XC_g XD_0 XD_1 XD_g
    replace R := Lib.hid (R.out.below b12)
    replace RA := Lib.hid (RA.out.below b12)
    replace RB := Lib.hid (RB.out.below b12)
    replace XB := Lib.hid (XB.out.below b12)
    replace RCa := Lib.hid (RCa.out.below b12)
    replace RCb := Lib.hid (RCb.out.below b12)
    replace XC := Lib.hid (XC.out.below b12)
    replace RDa := Lib.hid (RDa.out.below b12)
    replace RDb := Lib.hid (RDb.out.below b12)
    replace XD := Lib.hid (XD.out.below b12)
    replace BB := Lib.hid (BB.out.trans (b12.mono BB.out.size))
    clear b12
    clear XB XC XD RA RB RCa RCb RDa RDb
    clear HI HS h7 k7 hl7 hk7 hle hL7 hL8 hoo
    go_wp2_with fail
    refine (BoardE.joinb A0 c0 l0 _ hl R.out).mono ?_
    rintro e w13 ⟨A13, c13, l, B13, d13, k, C13, u13, l2, D13, z13, k2, rfl, ⟨h7, k7, ra, rb⟩, ⟨h72, k72, rc, rd⟩, b13, _, _⟩
    replace R := Lib.hid (R.out.below b13)
    replace BB := Lib.hid (BB.out.trans (b13.mono BB.out.size))
    clear b13
    have RA := Lib.hid ra
    have RB := Lib.hid rb
    have RCC := Lib.hid rc
    have RDD := Lib.hid rd
    clear ra rb rc rd
    obtain ⟨ob, ho⟩ : ∃ o : Obj, o = .cells #[.slice A13 l.length c13, .slice B13 k.length d13] 27 := ⟨_, rfl⟩
    have XB := Lib.hid (show K.Box (w13.alloc ob) w13.heap.size [.slice A13 l.length c13, .slice B13 k.length d13] by rw [ho]; exact K.Box.new _ _ _)
    replace R := Lib.hid (R.out.alloc ob)
    replace RA := Lib.hid (RA.out.alloc ob)
    replace RB := Lib.hid (RB.out.alloc ob)
    replace RCC := Lib.hid (RCC.out.alloc ob)
    replace RDD := Lib.hid (RDD.out.alloc ob)
    replace BB := Lib.hid (BB.out.alloc BB.out.size ob)
    subst ho
    obtain ⟨ob, ho⟩ : ∃ o : Obj, o = .cells #[.slice C13 l2.length u13, .slice D13 k2.length z13] 27 := ⟨_, rfl⟩
    have XP := Lib.hid (show K.Box ((w13.alloc (.cells #[.slice A13 l.length c13, .slice B13 k.length d13] 27)).alloc ob) (w13.alloc (.cells #[.slice A13 l.length c13, .slice B13 k.length d13] 27)).heap.size [.slice C13 l2.length u13, .slice D13 k2.length z13] by rw [ho]; exact K.Box.new _ _ _)
    replace R := Lib.hid (R.out.alloc ob)
    replace RA := Lib.hid (RA.out.alloc ob)
    replace RB := Lib.hid (RB.out.alloc ob)
    replace RCC := Lib.hid (RCC.out.alloc ob)
    replace RDD := Lib.hid (RDD.out.alloc ob)
    replace XB := Lib.hid (XB.out.alloc ob)
    replace BB := Lib.hid (BB.out.alloc BB.out.size ob)
    subst ho
    rw [World.size_alloc] at XP
    have hl7 : l.length ≤ 1048576 := by omega
    have hk7 : k.length ≤ 1048576 := by omega
    have hl8 : l2.length ≤ 1048576 := by omega
    have hk8 : k2.length ≤ 1048576 := by omega
    have HI := Lib.hid (fun w h h2 h3 h4 => BoardJ.i_join A13 c13 l B13 d13 k C13 u13 l2 D13 z13 k2 w hl7 hk7 h h2 hl8 hk8 h3 h4)
    have HS := Lib.hid (fun w h h2 h3 h4 => BoardJ.s_join A13 c13 l B13 d13 k C13 u13 l2 D13 z13 k2 w hl7 hk7 h h2 hl8 hk8 h3 h4)
    have hle := M.joinB_le l k l2 k2
    have HG := Lib.hid (fun ok => M.join_great (l := l) (k := k) (l2 := l2) (k2 := k2) ok)
    have HVB := Lib.hid (fun ok => bvalue_bd (l := l) (k := k) ok)
    have HVC := Lib.hid (fun ok => bvalue_bd (l := l2) (k := k2) ok)
    generalize M.joinB l k l2 k2 = Q at *
    obtain ⟨⟨L, L2⟩, ok⟩ := Q
    dsimp only at *
    have hoo : (ok != ok) = false := by simp
    obtain ⟨XB_0, XB_1⟩ := XB.out.c2
    have XB_g := XB.out.1
    obtain ⟨XP_0, XP_1⟩ := XP.out.c2
    have XP_g := XP.out.1
    go_wp2_with fail
    refine (HI.out _ RA.out RB.out RCC.out RDD.out).mono ?_
    rintro e w14 ⟨X14, n14, Y14, m14, rfl, q14, v14, ap14, b14⟩
    clear XB_0 XB_1 XB_g XP_0 XP_1 XP_g
    replace R := Lib.hid (R.out.below b14)
    replace RA := Lib.hid (RA.out.below b14)
    replace RB := Lib.hid (RB.out.below b14)
    replace RCC := Lib.hid (RCC.out.below b14)
    replace RDD := Lib.hid (RDD.out.below b14)
    replace XB := Lib.hid (XB.out.below b14)
    replace XP := Lib.hid (XP.out.below b14)
    replace BB := Lib.hid (BB.out.trans (b14.mono BB.out.size))
    clear b14
    have RCa := Lib.hid q14.rd
    have RCb := Lib.hid v14.rd
    clear q14 v14 ap14
    obtain ⟨ob, ho⟩ : ∃ o : Obj, o = .cells #[.slice X14 L.length n14, .slice Y14 L2.length m14] 27 := ⟨_, rfl⟩
    have XC := Lib.hid (show K.Box (w14.alloc ob) w14.heap.size [.slice X14 L.length n14, .slice Y14 L2.length m14] by rw [ho]; exact K.Box.new _ _ _)
    replace R := Lib.hid (R.out.alloc ob)
    replace RA := Lib.hid (RA.out.alloc ob)
    replace RB := Lib.hid (RB.out.alloc ob)
    replace RCC := Lib.hid (RCC.out.alloc ob)
    replace RDD := Lib.hid (RDD.out.alloc ob)
    replace XB := Lib.hid (XB.out.alloc ob)
    replace XP := Lib.hid (XP.out.alloc ob)
    replace RCa := Lib.hid (RCa.out.alloc ob)
    replace RCb := Lib.hid (RCb.out.alloc ob)
    replace BB := Lib.hid (BB.out.alloc BB.out.size ob)
    subst ho
    obtain ⟨XB_0, XB_1⟩ := XB.out.c2
    have XB_g := XB.out.1
    obtain ⟨XP_0, XP_1⟩ := XP.out.c2
    have XP_g := XP.out.1
    go_wp2_with fail
    refine (HS.out _ RA.out RB.out RCC.out RDD.out).mono ?_
    rintro e w15 ⟨X15, n15, Y15, m15, rfl, q15, v15, ap15, b15⟩
    clear XB_0 XB_1 XB_g XP_0 XP_1 XP_g
    replace R := Lib.hid (R.out.below b15)
    replace RA := Lib.hid (RA.out.below b15)
    replace RB := Lib.hid (RB.out.below b15)
    replace RCC := Lib.hid (RCC.out.below b15)
    replace RDD := Lib.hid (RDD.out.below b15)
    replace XB := Lib.hid (XB.out.below b15)
    replace XP := Lib.hid (XP.out.below b15)
    replace RCa := Lib.hid (RCa.out.below b15)
    replace RCb := Lib.hid (RCb.out.below b15)
    replace XC := Lib.hid (XC.out.below b15)
    replace BB := Lib.hid (BB.out.trans (b15.mono BB.out.size))
    clear b15
    have RDa := Lib.hid q15.rd
    have RDb := Lib.hid v15.rd
    clear q15 v15 ap15
    obtain ⟨ob, ho⟩ : ∃ o : Obj, o = .cells #[.slice X15 L.length n15, .slice Y15 L2.length m15] 27 := ⟨_, rfl⟩
    have XD := Lib.hid (show K.Box (w15.alloc ob) w15.heap.size [.slice X15 L.length n15, .slice Y15 L2.length m15] by rw [ho]; exact K.Box.new _ _ _)
    replace R := Lib.hid (R.out.alloc ob)
    replace RA := Lib.hid (RA.out.alloc ob)
    replace RB := Lib.hid (RB.out.alloc ob)
    replace RCC := Lib.hid (RCC.out.alloc ob)
    replace RDD := Lib.hid (RDD.out.alloc ob)
    replace XB := Lib.hid (XB.out.alloc ob)
    replace XP := Lib.hid (XP.out.alloc ob)
    replace RCa := Lib.hid (RCa.out.alloc ob)
    replace RCb := Lib.hid (RCb.out.alloc ob)
    replace XC := Lib.hid (XC.out.alloc ob)
    replace RDa := Lib.hid (RDa.out.alloc ob)
    replace RDb := Lib.hid (RDb.out.alloc ob)
    replace BB := Lib.hid (BB.out.alloc BB.out.size ob)
    subst ho
    have hL7 : L.length ≤ 1048576 := by omega
    have hL8 : L2.length ≤ 1048576 := by omega
    obtain ⟨XC_0, XC_1⟩ := XC.out.c2
    have XC_g := XC.out.1
    obtain ⟨XD_0, XD_1⟩ := XD.out.c2
    have XD_g := XD.out.1
    go_wp2_with fail
    refine (BoardE.rboard _ _ _ _ L _ _ _ _ L2 _ hL7 hL8 RCa.out RDa.out RCb.out RDb.out).mono ?_
    rintro e w16 ⟨rfl, b16⟩
    clear XC_0 XC_1 XC_g XD_0 XD_1 XD_g
    replace R := Lib.hid (R.out.below b16)
    replace RA := Lib.hid (RA.out.below b16)
    replace RB := Lib.hid (RB.out.below b16)
    replace RCC := Lib.hid (RCC.out.below b16)
    replace RDD := Lib.hid (RDD.out.below b16)
    replace XB := Lib.hid (XB.out.below b16)
    replace XP := Lib.hid (XP.out.below b16)
    replace RCa := Lib.hid (RCa.out.below b16)
    replace RCb := Lib.hid (RCb.out.below b16)
    replace XC := Lib.hid (XC.out.below b16)
    replace RDa := Lib.hid (RDa.out.below b16)
    replace RDb := Lib.hid (RDb.out.below b16)
    replace XD := Lib.hid (XD.out.below b16)
    replace BB := Lib.hid (BB.out.trans (b16.mono BB.out.size))
    clear b16
    clear XD RDa RDb
    go_upto_if 169 with fail
    go_cut [] (fun wx => Below w16.heap.size w16 wx)
    case first =>
      cases ok with
      | false =>
        go_wp2_with fail
        go_meet
        exact Below.refl _ _
      | true =>
        obtain ⟨e1, e2, e3, e4⟩ := HG.out rfl
        have bd1 := HVB.out e1
        have bd2 := HVC.out e2
        clear HG HI HS HVB HVC
        have BB := Lib.hid (Below.refl w16.heap.size w16)
        have HV1 := Lib.hid (fun w h h2 => BoardF.i_value A13 c13 l B13 d13 k w hl7 hk7 h h2)
        have HV2 := Lib.hid (fun w h h2 => BoardF.i_value C13 u13 l2 D13 z13 k2 w hl8 hk8 h h2)
        have HV3 := Lib.hid (fun w h h2 => BoardF.i_value X14 n14 L Y14 m14 L2 w hL7 hL8 h h2)
        generalize M.bValue l k = V1 at *
        obtain ⟨v1, f1⟩ := V1
        generalize M.bValue l2 k2 = V2 at *
        obtain ⟨v2, f2⟩ := V2
        generalize M.bValue L L2 = V3 at *
        obtain ⟨v3, f3⟩ := V3
        dsimp only at *
        subst e1 e2 e3
        have hsum : IntKind.i64.wrap (v1 + v2) = v1 + v2 := IntWalk.i64_in _ (by omega)
        have hne : (v1 + v2 != v3) = false := by rw [e4]; simp
        clear e4
        obtain ⟨XB_0, XB_1⟩ := XB.out.c2
        have XB_g := XB.out.1
        go_wp2_with fail
        refine (HV1.out _ RA.out RB.out).mono ?_
        rintro e w17 ⟨rfl, b17⟩
        clear XB_0 XB_1 XB_g
        replace R := Lib.hid (R.out.below b17)
        replace RA := Lib.hid (RA.out.below b17)
        replace RB := Lib.hid (RB.out.below b17)
        replace RCC := Lib.hid (RCC.out.below b17)
        replace RDD := Lib.hid (RDD.out.below b17)
        replace XB := Lib.hid (XB.out.below b17)
        replace XP := Lib.hid (XP.out.below b17)
        replace RCa := Lib.hid (RCa.out.below b17)
        replace RCb := Lib.hid (RCb.out.below b17)
        replace XC := Lib.hid (XC.out.below b17)
        replace BB := Lib.hid (BB.out.trans (b17.mono BB.out.size))
        clear b17
        obtain ⟨XP_0, XP_1⟩ := XP.out.c2
        have XP_g := XP.out.1
        go_wp2_with fail
        refine (HV2.out _ RCC.out RDD.out).mono ?_
        rintro e w18 ⟨rfl, b18⟩
        clear XP_0 XP_1 XP_g
        replace R := Lib.hid (R.out.below b18)
        replace RA := Lib.hid (RA.out.below b18)
        replace RB := Lib.hid (RB.out.below b18)
        replace RCC := Lib.hid (RCC.out.below b18)
        replace RDD := Lib.hid (RDD.out.below b18)
        replace XB := Lib.hid (XB.out.below b18)
        replace XP := Lib.hid (XP.out.below b18)
        replace RCa := Lib.hid (RCa.out.below b18)
        replace RCb := Lib.hid (RCb.out.below b18)
        replace XC := Lib.hid (XC.out.below b18)
        replace BB := Lib.hid (BB.out.trans (b18.mono BB.out.size))
        clear b18
        obtain ⟨XC_0, XC_1⟩ := XC.out.c2
        have XC_g := XC.out.1
        go_wp2_with fail
        refine (HV3.out _ RCa.out RCb.out).mono ?_
        rintro e w19 ⟨rfl, b19⟩
        clear XC_0 XC_1 XC_g
        replace R := Lib.hid (R.out.below b19)
        replace RA := Lib.hid (RA.out.below b19)
        replace RB := Lib.hid (RB.out.below b19)
        replace RCC := Lib.hid (RCC.out.below b19)
        replace RDD := Lib.hid (RDD.out.below b19)
        replace XB := Lib.hid (XB.out.below b19)
        replace XP := Lib.hid (XP.out.below b19)
        replace RCa := Lib.hid (RCa.out.below b19)
        replace RCb := Lib.hid (RCb.out.below b19)
        replace XC := Lib.hid (XC.out.below b19)
        replace BB := Lib.hid (BB.out.trans (b19.mono BB.out.size))
        clear b19
        go_wp2_with fail
        go_meet
        exact BB.out
    rename World => wq2
    have bq := hcut
    clear hcut XB XC XP RA RB RCC RDD RCa RCb HG HI HS HVB HVC h7 k7 h72 k72 hl7 hk7 hl8 hk8 hle hL7 hL8 hoo
    replace R := Lib.hid (R.out.below bq)
    replace BB := Lib.hid (BB.out.trans (bq.mono BB.out.size))
    clear bq
    go_wp2_with fail
    refine (BoardE.counters A0 c0 l0 _ hl R.out).mono ?_
    rintro e w20 ⟨A20, c20, l, B20, d20, k, rfl, h7, k7, ra, rb, b20, _, _⟩
    replace R := Lib.hid (R.out.below b20)
    replace BB := Lib.hid (BB.out.trans (b20.mono BB.out.size))
    clear b20
    have RA := Lib.hid ra
    have RB := Lib.hid rb
    clear ra rb
    obtain ⟨ob, ho⟩ : ∃ o : Obj, o = .cells #[.slice A20 l.length c20, .slice B20 k.length d20] 27 := ⟨_, rfl⟩
    have XB := Lib.hid (show K.Box (w20.alloc ob) w20.heap.size [.slice A20 l.length c20, .slice B20 k.length d20] by rw [ho]; exact K.Box.new _ _ _)
    replace R := Lib.hid (R.out.alloc ob)
    replace RA := Lib.hid (RA.out.alloc ob)
    replace RB := Lib.hid (RB.out.alloc ob)
    replace BB := Lib.hid (BB.out.alloc BB.out.size ob)
    subst ho
    have hl7 : l.length ≤ 1048576 := by omega
    have hk7 : k.length ≤ 1048576 := by omega
    have HC1 := Lib.hid (fun w h h2 => BoardC.i_counters A20 c20 l B20 d20 k w hl7 hk7 h h2)
    have HC2 := Lib.hid (fun w h h2 => BoardC.s_counters A20 c20 l B20 d20 k w hl7 hk7 h h2)
    have HT1 := Lib.hid (fun w h h2 => BoardX.i_text A20 c20 l B20 d20 k w hl7 hk7 h h2)
    have HT2 := Lib.hid (fun w h h2 => BoardX.s_text A20 c20 l B20 d20 k w hl7 hk7 h h2)
    have HOK := Lib.hid (fun w h h2 => BoardF.i_board A20 c20 l B20 d20 k w hl7 hk7 h h2)
    rw [← text_flag] at HOK
    generalize M.counters l k = C at *
    obtain ⟨cn, cf⟩ := C
    generalize M.boardText l k = D at *
    obtain ⟨dt, df⟩ := D
    dsimp only at *
    have c1 : (cn != cn) = false := by simp
    have c2 : (cf != cf) = false := by simp
    have c3 : (dt.toList == dt.toList) = true := by simp
    have c4 : (df == df) = true := by simp
    obtain ⟨XB_0, XB_1⟩ := XB.out.c2
    have XB_g := XB.out.1
    go_wp2_with fail
    refine (HC1.out _ RA.out RB.out).mono ?_
    rintro e w21 ⟨rfl, b21⟩
    clear XB_0 XB_1 XB_g
    replace R := Lib.hid (R.out.below b21)
    replace RA := Lib.hid (RA.out.below b21)
    replace RB := Lib.hid (RB.out.below b21)
    replace XB := Lib.hid (XB.out.below b21)
    replace BB := Lib.hid (BB.out.trans (b21.mono BB.out.size))
    clear b21
    obtain ⟨XB_0, XB_1⟩ := XB.out.c2
    have XB_g := XB.out.1
    go_wp2_with fail
    refine (HC2.out _ RA.out RB.out).mono ?_
    rintro e w22 ⟨rfl, b22⟩
    clear XB_0 XB_1 XB_g
    replace R := Lib.hid (R.out.below b22)
    replace RA := Lib.hid (RA.out.below b22)
    replace RB := Lib.hid (RB.out.below b22)
    replace XB := Lib.hid (XB.out.below b22)
    replace BB := Lib.hid (BB.out.trans (b22.mono BB.out.size))
    clear b22
    obtain ⟨XB_0, XB_1⟩ := XB.out.c2
    have XB_g := XB.out.1
    go_wp2_with fail
    refine (HT1.out _ RA.out RB.out).mono ?_
    rintro e w23 ⟨rfl, b23⟩
    clear XB_0 XB_1 XB_g
    replace R := Lib.hid (R.out.below b23)
    replace RA := Lib.hid (RA.out.below b23)
    replace RB := Lib.hid (RB.out.below b23)
    replace XB := Lib.hid (XB.out.below b23)
    replace BB := Lib.hid (BB.out.trans (b23.mono BB.out.size))
    clear b23
    obtain ⟨XB_0, XB_1⟩ := XB.out.c2
    have XB_g := XB.out.1
    go_wp2_with fail
    refine (HT2.out _ RA.out RB.out).mono ?_
    rintro e w24 ⟨rfl, b24⟩
    clear XB_0 XB_1 XB_g
    replace R := Lib.hid (R.out.below b24)
    replace RA := Lib.hid (RA.out.below b24)
    replace RB := Lib.hid (RB.out.below b24)
    replace XB := Lib.hid (XB.out.below b24)
    replace BB := Lib.hid (BB.out.trans (b24.mono BB.out.size))
    clear b24
    obtain ⟨XB_0, XB_1⟩ := XB.out.c2
    have XB_g := XB.out.1
    go_wp2_with fail
    refine (HOK.out _ RA.out RB.out).mono ?_
    rintro e w25 ⟨rfl, b25⟩
    clear XB_0 XB_1 XB_g
    replace R := Lib.hid (R.out.below b25)
    replace RA := Lib.hid (RA.out.below b25)
    replace RB := Lib.hid (RB.out.below b25)
    replace XB := Lib.hid (XB.out.below b25)
    replace BB := Lib.hid (BB.out.trans (b25.mono BB.out.size))
    clear b25
    go_wp2_with fail
    go_ret
    exact ⟨rfl, BB.out⟩
end Go.Proofs.Ytmgegacgjppdbaa.fnBoards
