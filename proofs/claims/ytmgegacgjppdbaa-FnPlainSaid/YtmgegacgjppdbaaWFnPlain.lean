/-
  The walk of FnPlain.
-/
import Derived.Test.YtmgegacgjppdbaaArg
import Derived.Test.YtmgegacgjppdbaaKit2
import Derived.Test.YtmgegacgjppdbaaBoardE
import Derived.Test.YtmgegacgjppdbaaBoardK
import Derived.Test.YtmgegacgjppdbaaBoardT
import Derived.Test.YtmgegacgjppdbaaBoardR
import Derived.Test.YtmgegacgjppdbaaBoardS
import Derived.OpenShut
import Derived.Deep.DeepCutAuto
set_option linter.unusedVariables false
namespace Go.Proofs.Ytmgegacgjppdbaa.fnPlain
open Go.ChangeShapes Go.WideShapes Go.ChangeAt Go.RowKit
theorem bvalue_bd {l k : List Int} (ok : (M.bValue l k).2 = true) : 0 ≤ (M.bValue l k).1 ∧ (M.bValue l k).1 ≤ 20000000 := by
  cases h : M.bOk l k with
  | true =>
    have := M.bVal_facts h 0 (Nat.zero_le _)
    rw [M.bValue_yes h]
    simpa using this
  | false => rw [M.bValue_no h] at ok; cases ok
set_option maxRecDepth 100000 in
set_option maxHeartbeats 16000000 in
/-- the walk: the law's text returns true; nothing that was there has turned. -/
theorem walk (A0 : Option Addr) (c0 : Nat) (l0 : List UInt8) (W : World) (h0 : K.Rd W 1 A0 l0.length (l0.map fun b => Value.int .u8 (b.toNat : Int))) (m0 : l0.length ≤ 9223372036854775807) :
    Calls Try.prog 14 #[.slice A0 l0.length c0] W fun e w' => e = .returned (.bool true) ∧ Below W.heap.size W w' := by
  by_cases hbig : 65536 < l0.length
  · have hd : decide (65536 < l0.length) = true := decide_eq_true hbig
    go_enter Try.func14, Try.ntmps14
    go_wp2_with fail
    refine (BoardE.rbig _ _ _ _).mono ?_
    rintro e w1 ⟨rfl, rfl⟩
    rw [hd]
    go_wp2_with fail
    go_ret
    exact ⟨rfl, Below.refl _ _⟩
  · have hd : decide (65536 < l0.length) = false := decide_eq_false hbig
    have hl : l0.length ≤ 65536 := by omega
    clear hbig
    go_enter Try.func14, Try.ntmps14
    go_wp2_with fail
    refine (BoardE.rbig _ _ _ _).mono ?_
    rintro e w0 ⟨rfl, rfl⟩
    rw [hd]
    clear hd
    have BB := Lib.hid (Below.refl W.heap.size W)
    have R := Lib.hid h0
    go_wp2_with fail
    refine (BoardE.plainb A0 c0 l0 _ hl R.out).mono ?_
    rintro e w1 ⟨A1, c1, l, B1, d1, k, rfl, h7, k7, ra, rb, b1, _, _⟩
    replace R := Lib.hid (R.out.below b1)
    replace BB := Lib.hid (BB.out.trans (b1.mono BB.out.size))
    clear b1
    have RA := Lib.hid ra
    have RB := Lib.hid rb
    clear ra rb
    obtain ⟨ob, ho⟩ : ∃ o : Obj, o = .cells #[.slice A1 l.length c1, .slice B1 k.length d1] 27 := ⟨_, rfl⟩
    have XB := Lib.hid (show K.Box (w1.alloc ob) w1.heap.size [.slice A1 l.length c1, .slice B1 k.length d1] by rw [ho]; exact K.Box.new _ _ _)
    replace R := Lib.hid (R.out.alloc ob)
    replace RA := Lib.hid (RA.out.alloc ob)
    replace RB := Lib.hid (RB.out.alloc ob)
    replace BB := Lib.hid (BB.out.alloc BB.out.size ob)
    subst ho
    have hl7 : l.length ≤ 1048576 := by omega
    have hk7 : k.length ≤ 1048576 := by omega
    have HI := Lib.hid (fun w h h2 => BoardP.i_plain A1 c1 l B1 d1 k w hl7 hk7 h h2)
    have HS := Lib.hid (fun w h h2 => BoardP.s_plain A1 c1 l B1 d1 k w hl7 hk7 h h2)
    have hle := M.plainB_le l k
    have HG := Lib.hid (fun ok => M.plain_great (l := l) (k := k) ok)
    have HVB := Lib.hid (fun ok => bvalue_bd (l := l) (k := k) ok)
    generalize M.plainB l k = Q at *
    obtain ⟨⟨L, L2⟩, cnt, ok⟩ := Q
    dsimp only at *
    have hoo : (ok != ok) = false := by simp
    have hcc : (cnt != cnt) = false := by simp
    obtain ⟨XB_0, XB_1⟩ := XB.out.c2
    have XB_g := XB.out.1
    go_wp2_with fail
    refine (HI.out _ RA.out RB.out).mono ?_
    rintro e w2 ⟨X2, n2, Y2, m2, rfl, q2, v2, ap2, b2⟩
    clear XB_0 XB_1 XB_g
    replace R := Lib.hid (R.out.below b2)
    replace RA := Lib.hid (RA.out.below b2)
    replace RB := Lib.hid (RB.out.below b2)
    replace XB := Lib.hid (XB.out.below b2)
    replace BB := Lib.hid (BB.out.trans (b2.mono BB.out.size))
    clear b2
    have RCa := Lib.hid q2.rd
    have RCb := Lib.hid v2.rd
    clear q2 v2 ap2
    obtain ⟨ob, ho⟩ : ∃ o : Obj, o = .cells #[.slice X2 L.length n2, .slice Y2 L2.length m2] 27 := ⟨_, rfl⟩
    have XC := Lib.hid (show K.Box (w2.alloc ob) w2.heap.size [.slice X2 L.length n2, .slice Y2 L2.length m2] by rw [ho]; exact K.Box.new _ _ _)
    replace R := Lib.hid (R.out.alloc ob)
    replace RA := Lib.hid (RA.out.alloc ob)
    replace RB := Lib.hid (RB.out.alloc ob)
    replace XB := Lib.hid (XB.out.alloc ob)
    replace RCa := Lib.hid (RCa.out.alloc ob)
    replace RCb := Lib.hid (RCb.out.alloc ob)
    replace BB := Lib.hid (BB.out.alloc BB.out.size ob)
    subst ho
    obtain ⟨XB_0, XB_1⟩ := XB.out.c2
    have XB_g := XB.out.1
    go_wp2_with fail
    refine (HS.out _ RA.out RB.out).mono ?_
    rintro e w3 ⟨X3, n3, Y3, m3, rfl, q3, v3, ap3, b3⟩
    clear XB_0 XB_1 XB_g
    replace R := Lib.hid (R.out.below b3)
    replace RA := Lib.hid (RA.out.below b3)
    replace RB := Lib.hid (RB.out.below b3)
    replace XB := Lib.hid (XB.out.below b3)
    replace RCa := Lib.hid (RCa.out.below b3)
    replace RCb := Lib.hid (RCb.out.below b3)
    replace XC := Lib.hid (XC.out.below b3)
    replace BB := Lib.hid (BB.out.trans (b3.mono BB.out.size))
    clear b3
    have RDa := Lib.hid q3.rd
    have RDb := Lib.hid v3.rd
    clear q3 v3 ap3
    obtain ⟨ob, ho⟩ : ∃ o : Obj, o = .cells #[.slice X3 L.length n3, .slice Y3 L2.length m3] 27 := ⟨_, rfl⟩
    have XD := Lib.hid (show K.Box (w3.alloc ob) w3.heap.size [.slice X3 L.length n3, .slice Y3 L2.length m3] by rw [ho]; exact K.Box.new _ _ _)
    replace R := Lib.hid (R.out.alloc ob)
    replace RA := Lib.hid (RA.out.alloc ob)
    replace RB := Lib.hid (RB.out.alloc ob)
    replace XB := Lib.hid (XB.out.alloc ob)
    replace RCa := Lib.hid (RCa.out.alloc ob)
    replace RCb := Lib.hid (RCb.out.alloc ob)
    replace XC := Lib.hid (XC.out.alloc ob)
    replace RDa := Lib.hid (RDa.out.alloc ob)
    replace RDb := Lib.hid (RDb.out.alloc ob)
    replace BB := Lib.hid (BB.out.alloc BB.out.size ob)
    subst ho
    have hL7 : L.length ≤ 1048576 := by omega
    have hL8 : L2.length ≤ 1048576 := by omega
    obtain ⟨XC_0, XC_1⟩ := XC.out.c2
    have XC_g := XC.out.1
    obtain ⟨XD_0, XD_1⟩ := XD.out.c2
    have XD_g := XD.out.1
    go_wp2_with fail
    refine (BoardE.rboard _ _ _ _ L _ _ _ _ L2 _ hL7 hL8 RCa.out RDa.out RCb.out RDb.out).mono ?_
    rintro e w4 ⟨rfl, b4⟩
    clear XC_0 XC_1 XC_g XD_0 XD_1 XD_g
    replace R := Lib.hid (R.out.below b4)
    replace RA := Lib.hid (RA.out.below b4)
    replace RB := Lib.hid (RB.out.below b4)
    replace XB := Lib.hid (XB.out.below b4)
    replace RCa := Lib.hid (RCa.out.below b4)
    replace RCb := Lib.hid (RCb.out.below b4)
    replace XC := Lib.hid (XC.out.below b4)
    replace RDa := Lib.hid (RDa.out.below b4)
    replace RDb := Lib.hid (RDb.out.below b4)
    replace XD := Lib.hid (XD.out.below b4)
    replace BB := Lib.hid (BB.out.trans (b4.mono BB.out.size))
    clear b4
    clear XD RDa RDb
    go_upto_if 76 with fail
    go_cut [] (fun wx => Below w4.heap.size w4 wx)
    case first =>
      cases ok with
      | false =>
        go_wp2_with fail
        go_meet
        exact Below.refl _ _
      | true =>
        obtain ⟨e1, e2, e3, e4, e5, e6⟩ := HG.out rfl
        have bd1 := HVB.out e1
        clear HG HI HS HVB
        have BB := Lib.hid (Below.refl w4.heap.size w4)
        have HV1 := Lib.hid (fun w h h2 => BoardF.i_value A1 c1 l B1 d1 k w hl7 hk7 h h2)
        have HV2 := Lib.hid (fun w h h2 => BoardF.i_value X2 n2 L Y2 m2 L2 w hL7 hL8 h h2)
        have HPL := Lib.hid (fun w h h2 => BoardF.i_isplain X2 n2 L Y2 m2 L2 w hL7 hL8 h h2)
        have HST := Lib.hid (fun w => BoardS.i_set l.length (M.bValue l k).1 w (by omega))
        rw [e4] at HPL
        rw [e5] at HST
        clear e4 e5
        generalize M.bValue l k = V1 at *
        obtain ⟨v1, f1⟩ := V1
        generalize M.bValue L L2 = V2 at *
        obtain ⟨v2, f2⟩ := V2
        dsimp only at *
        subst e1 e2 e3
        have hvv : ∀ v : Int, (v != v) = false := fun v => by simp
        have hv2 := hvv v1
        clear hvv
        have hcn : decide (cnt < 0) = false := decide_eq_false (by omega)
        obtain ⟨XB_0, XB_1⟩ := XB.out.c2
        have XB_g := XB.out.1
        go_wp2_with fail
        refine (HV1.out _ RA.out RB.out).mono ?_
        rintro e w5 ⟨rfl, b5⟩
        clear XB_0 XB_1 XB_g
        replace R := Lib.hid (R.out.below b5)
        replace RA := Lib.hid (RA.out.below b5)
        replace RB := Lib.hid (RB.out.below b5)
        replace XB := Lib.hid (XB.out.below b5)
        replace RCa := Lib.hid (RCa.out.below b5)
        replace RCb := Lib.hid (RCb.out.below b5)
        replace XC := Lib.hid (XC.out.below b5)
        replace BB := Lib.hid (BB.out.trans (b5.mono BB.out.size))
        clear b5
        obtain ⟨XC_0, XC_1⟩ := XC.out.c2
        have XC_g := XC.out.1
        go_wp2_with fail
        refine (HV2.out _ RCa.out RCb.out).mono ?_
        rintro e w6 ⟨rfl, b6⟩
        clear XC_0 XC_1 XC_g
        replace R := Lib.hid (R.out.below b6)
        replace RA := Lib.hid (RA.out.below b6)
        replace RB := Lib.hid (RB.out.below b6)
        replace XB := Lib.hid (XB.out.below b6)
        replace RCa := Lib.hid (RCa.out.below b6)
        replace RCb := Lib.hid (RCb.out.below b6)
        replace XC := Lib.hid (XC.out.below b6)
        replace BB := Lib.hid (BB.out.trans (b6.mono BB.out.size))
        clear b6
        obtain ⟨XC_0, XC_1⟩ := XC.out.c2
        have XC_g := XC.out.1
        go_wp2_with fail
        refine (HPL.out _ RCa.out RCb.out).mono ?_
        rintro e w7 ⟨rfl, b7⟩
        clear XC_0 XC_1 XC_g
        replace R := Lib.hid (R.out.below b7)
        replace RA := Lib.hid (RA.out.below b7)
        replace RB := Lib.hid (RB.out.below b7)
        replace XB := Lib.hid (XB.out.below b7)
        replace RCa := Lib.hid (RCa.out.below b7)
        replace RCb := Lib.hid (RCb.out.below b7)
        replace XC := Lib.hid (XC.out.below b7)
        replace BB := Lib.hid (BB.out.trans (b7.mono BB.out.size))
        clear b7
        obtain ⟨XB_0, XB_1⟩ := XB.out.c2
        have XB_g := XB.out.1
        go_wp2_with fail
        refine (HST.out _).mono ?_
        rintro e w8 ⟨X8, n8, Y8, m8, rfl, q8, v8, ap8, b8⟩
        clear XB_0 XB_1 XB_g
        replace R := Lib.hid (R.out.below b8)
        replace RA := Lib.hid (RA.out.below b8)
        replace RB := Lib.hid (RB.out.below b8)
        replace XB := Lib.hid (XB.out.below b8)
        replace RCa := Lib.hid (RCa.out.below b8)
        replace RCb := Lib.hid (RCb.out.below b8)
        replace XC := Lib.hid (XC.out.below b8)
        replace BB := Lib.hid (BB.out.trans (b8.mono BB.out.size))
        clear b8
        have REa := Lib.hid q8.rd
        have REb := Lib.hid v8.rd
        clear q8 v8 ap8
        obtain ⟨ob, ho⟩ : ∃ o : Obj, o = .cells #[.slice X8 L.length n8, .slice Y8 L2.length m8] 27 := ⟨_, rfl⟩
        have XE := Lib.hid (show K.Box (w8.alloc ob) w8.heap.size [.slice X8 L.length n8, .slice Y8 L2.length m8] by rw [ho]; exact K.Box.new _ _ _)
        replace R := Lib.hid (R.out.alloc ob)
        replace RA := Lib.hid (RA.out.alloc ob)
        replace RB := Lib.hid (RB.out.alloc ob)
        replace XB := Lib.hid (XB.out.alloc ob)
        replace RCa := Lib.hid (RCa.out.alloc ob)
        replace RCb := Lib.hid (RCb.out.alloc ob)
        replace XC := Lib.hid (XC.out.alloc ob)
        replace REa := Lib.hid (REa.out.alloc ob)
        replace REb := Lib.hid (REb.out.alloc ob)
        replace BB := Lib.hid (BB.out.alloc BB.out.size ob)
        subst ho
        obtain ⟨XE_0, XE_1⟩ := XE.out.c2
        have XE_g := XE.out.1
        obtain ⟨XC_0, XC_1⟩ := XC.out.c2
        have XC_g := XC.out.1
        go_wp2_with fail
        refine (BoardE.rboard _ _ _ _ L _ _ _ _ L2 _ hL7 hL8 REa.out RCa.out REb.out RCb.out).mono ?_
        rintro e w9 ⟨rfl, b9⟩
        clear XE_0 XE_1 XE_g XC_0 XC_1 XC_g
        replace R := Lib.hid (R.out.below b9)
        replace RA := Lib.hid (RA.out.below b9)
        replace RB := Lib.hid (RB.out.below b9)
        replace XB := Lib.hid (XB.out.below b9)
        replace RCa := Lib.hid (RCa.out.below b9)
        replace RCb := Lib.hid (RCb.out.below b9)
        replace XC := Lib.hid (XC.out.below b9)
        replace REa := Lib.hid (REa.out.below b9)
        replace REb := Lib.hid (REb.out.below b9)
        replace XE := Lib.hid (XE.out.below b9)
        replace BB := Lib.hid (BB.out.trans (b9.mono BB.out.size))
        clear b9
        go_wp2_with fail
        go_meet
        exact BB.out
    rename World => wq1
    have bq := hcut
    clear hcut XB XC RA RB RCa RCb HG HI HS HVB h7 k7 hl7 hk7 hle hL7 hL8 hoo hcc
    replace R := Lib.hid (R.out.below bq)
    replace BB := Lib.hid (BB.out.trans (bq.mono BB.out.size))
    clear bq
    go_wp2_with fail
    refine (BoardE.takeb A0 c0 l0 _ hl R.out).mono ?_
    rintro e w10 ⟨A10, c10, l, B10, d10, k, C10, u10, l2, D10, z10, k2, rfl, ⟨h7, k7, ra, rb⟩, ⟨h72, k72, rc, rd⟩, b10, _, _⟩
    replace R := Lib.hid (R.out.below b10)
    replace BB := Lib.hid (BB.out.trans (b10.mono BB.out.size))
    clear b10
    have RA := Lib.hid ra
    have RB := Lib.hid rb
    have RCC := Lib.hid rc
    have RDD := Lib.hid rd
    clear ra rb rc rd
    obtain ⟨ob, ho⟩ : ∃ o : Obj, o = .cells #[.slice A10 l.length c10, .slice B10 k.length d10] 27 := ⟨_, rfl⟩
    have XB := Lib.hid (show K.Box (w10.alloc ob) w10.heap.size [.slice A10 l.length c10, .slice B10 k.length d10] by rw [ho]; exact K.Box.new _ _ _)
    replace R := Lib.hid (R.out.alloc ob)
    replace RA := Lib.hid (RA.out.alloc ob)
    replace RB := Lib.hid (RB.out.alloc ob)
    replace RCC := Lib.hid (RCC.out.alloc ob)
    replace RDD := Lib.hid (RDD.out.alloc ob)
    replace BB := Lib.hid (BB.out.alloc BB.out.size ob)
    subst ho
    obtain ⟨ob, ho⟩ : ∃ o : Obj, o = .cells #[.slice C10 l2.length u10, .slice D10 k2.length z10] 27 := ⟨_, rfl⟩
    have XP := Lib.hid (show K.Box ((w10.alloc (.cells #[.slice A10 l.length c10, .slice B10 k.length d10] 27)).alloc ob) (w10.alloc (.cells #[.slice A10 l.length c10, .slice B10 k.length d10] 27)).heap.size [.slice C10 l2.length u10, .slice D10 k2.length z10] by rw [ho]; exact K.Box.new _ _ _)
    replace R := Lib.hid (R.out.alloc ob)
    replace RA := Lib.hid (RA.out.alloc ob)
    replace RB := Lib.hid (RB.out.alloc ob)
    replace RCC := Lib.hid (RCC.out.alloc ob)
    replace RDD := Lib.hid (RDD.out.alloc ob)
    replace XB := Lib.hid (XB.out.alloc ob)
    replace BB := Lib.hid (BB.out.alloc BB.out.size ob)
    subst ho
    rw [World.size_alloc] at XP
    have hl7 : l.length ≤ 1048576 := by omega
    have hk7 : k.length ≤ 1048576 := by omega
    have hl8 : l2.length ≤ 1048576 := by omega
    have hk8 : k2.length ≤ 1048576 := by omega
    have HI := Lib.hid (fun w h h2 h3 h4 => BoardT.i_take A10 c10 l B10 d10 k C10 u10 l2 D10 z10 k2 w hl7 hk7 h h2 hl8 hk8 h3 h4)
    have HS := Lib.hid (fun w h h2 h3 h4 => BoardT.s_take A10 c10 l B10 d10 k C10 u10 l2 D10 z10 k2 w hl7 hk7 h h2 hl8 hk8 h3 h4)
    have hle := M.awayB_le l k l2 k2
    have HG := Lib.hid (fun ok => M.away_great (l := l) (k := k) (l2 := l2) (k2 := k2) ok)
    have HVB := Lib.hid (fun ok => bvalue_bd (l := l2) (k := k2) ok)
    generalize M.awayB l k l2 k2 = Q at *
    obtain ⟨⟨L, L2⟩, ok⟩ := Q
    dsimp only at *
    have HVC := Lib.hid (fun ok => bvalue_bd (l := L) (k := L2) ok)
    have hoo : (ok != ok) = false := by simp
    obtain ⟨XB_0, XB_1⟩ := XB.out.c2
    have XB_g := XB.out.1
    obtain ⟨XP_0, XP_1⟩ := XP.out.c2
    have XP_g := XP.out.1
    go_wp2_with fail
    refine (HI.out _ RA.out RB.out RCC.out RDD.out).mono ?_
    rintro e w11 ⟨X11, n11, Y11, m11, rfl, q11, v11, ap11, b11⟩
    clear XB_0 XB_1 XB_g XP_0 XP_1 XP_g
    replace R := Lib.hid (R.out.below b11)
    replace RA := Lib.hid (RA.out.below b11)
    replace RB := Lib.hid (RB.out.below b11)
    replace RCC := Lib.hid (RCC.out.below b11)
    replace RDD := Lib.hid (RDD.out.below b11)
    replace XB := Lib.hid (XB.out.below b11)
    replace XP := Lib.hid (XP.out.below b11)
    replace BB := Lib.hid (BB.out.trans (b11.mono BB.out.size))
    clear b11
    have RCa := Lib.hid q11.rd
    have RCb := Lib.hid v11.rd
    clear q11 v11 ap11
    obtain ⟨ob, ho⟩ : ∃ o : Obj, o = .cells #[.slice X11 L.length n11, .slice Y11 L2.length m11] 27 := ⟨_, rfl⟩
    have XC := Lib.hid (show K.Box (w11.alloc ob) w11.heap.size [.slice X11 L.length n11, .slice Y11 L2.length m11] by rw [ho]; exact K.Box.new _ _ _)
    replace R := Lib.hid (R.out.alloc ob)
    replace RA := Lib.hid (RA.out.alloc ob)
    replace RB := Lib.hid (RB.out.alloc ob)
    replace RCC := Lib.hid (RCC.out.alloc ob)
    replace RDD := Lib.hid (RDD.out.alloc ob)
    replace XB := Lib.hid (XB.out.alloc ob)
    replace XP := Lib.hid (XP.out.alloc ob)
    replace RCa := Lib.hid (RCa.out.alloc ob)
    replace RCb := Lib.hid (RCb.out.alloc ob)
    replace BB := Lib.hid (BB.out.alloc BB.out.size ob)
    subst ho
    obtain ⟨XB_0, XB_1⟩ := XB.out.c2
    have XB_g := XB.out.1
    obtain ⟨XP_0, XP_1⟩ := XP.out.c2
    have XP_g := XP.out.1
    go_wp2_with fail
    refine (HS.out _ RA.out RB.out RCC.out RDD.out).mono ?_
    rintro e w12 ⟨X12, n12, Y12, m12, rfl, q12, v12, ap12, b12⟩
    clear XB_0 XB_1 XB_g XP_0 XP_1 XP_g
    replace R := Lib.hid (R.out.below b12)
    replace RA := Lib.hid (RA.out.below b12)
    replace RB := Lib.hid (RB.out.below b12)
    replace RCC := Lib.hid (RCC.out.below b12)
    replace RDD := Lib.hid (RDD.out.below b12)
    replace XB := Lib.hid (XB.out.below b12)
    replace XP := Lib.hid (XP.out.below b12)
    replace RCa := Lib.hid (RCa.out.below b12)
    replace RCb := Lib.hid (RCb.out.below b12)
    replace XC := Lib.hid (XC.out.below b12)
    replace BB := Lib.hid (BB.out.trans (b12.mono BB.out.size))
    clear b12
    have RDa := Lib.hid q12.rd
    have RDb := Lib.hid v12.rd
    clear q12 v12 ap12
    obtain ⟨ob, ho⟩ : ∃ o : Obj, o = .cells #[.slice X12 L.length n12, .slice Y12 L2.length m12] 27 := ⟨_, rfl⟩
    have XD := Lib.hid (show K.Box (w12.alloc ob) w12.heap.size [.slice X12 L.length n12, .slice Y12 L2.length m12] by rw [ho]; exact K.Box.new _ _ _)
    replace R := Lib.hid (R.out.alloc ob)
    replace RA := Lib.hid (RA.out.alloc ob)
    replace RB := Lib.hid (RB.out.alloc ob)
    replace RCC := Lib.hid (RCC.out.alloc ob)
    replace RDD := Lib.hid (RDD.out.alloc ob)
    replace XB := Lib.hid (XB.out.alloc ob)
    replace XP := Lib.hid (XP.out.alloc ob)
    replace RCa := Lib.hid (RCa.out.alloc ob)
    replace RCb := Lib.hid (RCb.out.alloc ob)
    replace XC := Lib.hid (XC.out.alloc ob)
    replace RDa := Lib.hid (RDa.out.alloc ob)
    replace RDb := Lib.hid (RDb.out.alloc ob)
    replace BB := Lib.hid (BB.out.alloc BB.out.size ob)
    subst ho
    have hL7 : L.length ≤ 1048576 := by omega
    have hL8 : L2.length ≤ 1048576 := by omega
    obtain ⟨XC_0, XC_1⟩ := XC.out.c2
    have XC_g := XC.out.1
    obtain ⟨XD_0, XD_1⟩ := XD.out.c2
    have XD_g := XD.out.1
    go_wp2_with fail
    refine (BoardE.rboard _ _ _ _ L _ _ _ _ L2 _ hL7 hL8 RCa.out RDa.out RCb.out RDb.out).mono ?_
    rintro e w13 ⟨rfl, b13⟩
    clear XC_0 XC_1 XC_g XD_0 XD_1 XD_g
    replace R := Lib.hid (R.out.below b13)
    replace RA := Lib.hid (RA.out.below b13)
    replace RB := Lib.hid (RB.out.below b13)
    replace RCC := Lib.hid (RCC.out.below b13)
    replace RDD := Lib.hid (RDD.out.below b13)
    replace XB := Lib.hid (XB.out.below b13)
    replace XP := Lib.hid (XP.out.below b13)
    replace RCa := Lib.hid (RCa.out.below b13)
    replace RCb := Lib.hid (RCb.out.below b13)
    replace XC := Lib.hid (XC.out.below b13)
    replace RDa := Lib.hid (RDa.out.below b13)
    replace RDb := Lib.hid (RDb.out.below b13)
    replace XD := Lib.hid (XD.out.below b13)
    replace BB := Lib.hid (BB.out.trans (b13.mono BB.out.size))
    clear b13
    clear XD RDa RDb
    go_upto_if 159 with fail
    go_cut [] (fun wx => Below w13.heap.size w13 wx)
    case first =>
      cases ok with
      | false =>
        go_wp2_with fail
        go_meet
        exact Below.refl _ _
      | true =>
        obtain ⟨e1, e2, e3, e4⟩ := HG.out rfl
        have bd1 := HVB.out e2
        have bd2 := HVC.out e3
        clear HG HI HS HVB HVC
        have BB := Lib.hid (Below.refl w13.heap.size w13)
        have HV1 := Lib.hid (fun w h h2 => BoardF.i_value A10 c10 l B10 d10 k w hl7 hk7 h h2)
        have HV2 := Lib.hid (fun w h h2 => BoardF.i_value C10 u10 l2 D10 z10 k2 w hl8 hk8 h h2)
        have HV3 := Lib.hid (fun w h h2 => BoardF.i_value X11 n11 L Y11 m11 L2 w hL7 hL8 h h2)
        generalize M.bValue l k = V1 at *
        obtain ⟨v1, f1⟩ := V1
        generalize M.bValue l2 k2 = V2 at *
        obtain ⟨v2, f2⟩ := V2
        generalize M.bValue L L2 = V3 at *
        obtain ⟨v3, f3⟩ := V3
        dsimp only at *
        subst e1 e2 e3
        have hsum : IntKind.i64.wrap (v2 + v3) = v2 + v3 := IntWalk.i64_in _ (by omega)
        have hne : (v2 + v3 != v1) = false := by rw [e4]; simp
        clear e4
        obtain ⟨XB_0, XB_1⟩ := XB.out.c2
        have XB_g := XB.out.1
        go_wp2_with fail
        refine (HV1.out _ RA.out RB.out).mono ?_
        rintro e w14 ⟨rfl, b14⟩
        clear XB_0 XB_1 XB_g
        replace R := Lib.hid (R.out.below b14)
        replace RA := Lib.hid (RA.out.below b14)
        replace RB := Lib.hid (RB.out.below b14)
        replace RCC := Lib.hid (RCC.out.below b14)
        replace RDD := Lib.hid (RDD.out.below b14)
        replace XB := Lib.hid (XB.out.below b14)
        replace XP := Lib.hid (XP.out.below b14)
        replace RCa := Lib.hid (RCa.out.below b14)
        replace RCb := Lib.hid (RCb.out.below b14)
        replace XC := Lib.hid (XC.out.below b14)
        replace BB := Lib.hid (BB.out.trans (b14.mono BB.out.size))
        clear b14
        obtain ⟨XP_0, XP_1⟩ := XP.out.c2
        have XP_g := XP.out.1
        go_wp2_with fail
        refine (HV2.out _ RCC.out RDD.out).mono ?_
        rintro e w15 ⟨rfl, b15⟩
        clear XP_0 XP_1 XP_g
        replace R := Lib.hid (R.out.below b15)
        replace RA := Lib.hid (RA.out.below b15)
        replace RB := Lib.hid (RB.out.below b15)
        replace RCC := Lib.hid (RCC.out.below b15)
        replace RDD := Lib.hid (RDD.out.below b15)
        replace XB := Lib.hid (XB.out.below b15)
        replace XP := Lib.hid (XP.out.below b15)
        replace RCa := Lib.hid (RCa.out.below b15)
        replace RCb := Lib.hid (RCb.out.below b15)
        replace XC := Lib.hid (XC.out.below b15)
        replace BB := Lib.hid (BB.out.trans (b15.mono BB.out.size))
        clear b15
        obtain ⟨XC_0, XC_1⟩ := XC.out.c2
        have XC_g := XC.out.1
        go_wp2_with fail
        refine (HV3.out _ RCa.out RCb.out).mono ?_
        rintro e w16 ⟨rfl, b16⟩
        clear XC_0 XC_1 XC_g
        replace R := Lib.hid (R.out.below b16)
        replace RA := Lib.hid (RA.out.below b16)
        replace RB := Lib.hid (RB.out.below b16)
        replace RCC := Lib.hid (RCC.out.below b16)
        replace RDD := Lib.hid (RDD.out.below b16)
        replace XB := Lib.hid (XB.out.below b16)
        replace XP := Lib.hid (XP.out.below b16)
        replace RCa := Lib.hid (RCa.out.below b16)
        replace RCb := Lib.hid (RCb.out.below b16)
        replace XC := Lib.hid (XC.out.below b16)
        replace BB := Lib.hid (BB.out.trans (b16.mono BB.out.size))
        clear b16
        go_wp2_with fail
        go_meet
        exact BB.out
    rename World => wq2
    have bq := hcut
    clear hcut XB XC XP RA RB RCC RDD RCa RCb HG HI HS HVB HVC h7 k7 h72 k72 hl7 hk7 hl8 hk8 hle hL7 hL8 hoo
    replace R := Lib.hid (R.out.below bq)
    replace BB := Lib.hid (BB.out.trans (bq.mono BB.out.size))
    clear bq
    go_wp2_with fail
    refine (BoardE.setboard A0 c0 l0 _ hl R.out).mono ?_
    rintro e w17 ⟨la, va, rfl, hva, b17⟩
    replace R := Lib.hid (R.out.below b17)
    replace BB := Lib.hid (BB.out.trans (b17.mono BB.out.size))
    clear b17
    have HI := Lib.hid (fun w => BoardS.i_set la va w hva)
    have HS := Lib.hid (fun w => BoardS.s_set la va w hva)
    have hle := M.setB_le la va
    generalize M.setB la va = Q at *
    obtain ⟨⟨L, L2⟩, ok⟩ := Q
    dsimp only at *
    have hoo : (ok != ok) = false := by simp
    have hL7 : L.length ≤ 1048576 := by omega
    have hL8 : L2.length ≤ 1048576 := by omega
    go_wp2_with fail
    refine (HI.out _).mono ?_
    rintro e w18 ⟨X18, n18, Y18, m18, rfl, q18, v18, ap18, b18⟩
    replace R := Lib.hid (R.out.below b18)
    replace BB := Lib.hid (BB.out.trans (b18.mono BB.out.size))
    clear b18
    have RCa := Lib.hid q18.rd
    have RCb := Lib.hid v18.rd
    clear q18 v18 ap18
    obtain ⟨ob, ho⟩ : ∃ o : Obj, o = .cells #[.slice X18 L.length n18, .slice Y18 L2.length m18] 27 := ⟨_, rfl⟩
    have XC := Lib.hid (show K.Box (w18.alloc ob) w18.heap.size [.slice X18 L.length n18, .slice Y18 L2.length m18] by rw [ho]; exact K.Box.new _ _ _)
    replace R := Lib.hid (R.out.alloc ob)
    replace RCa := Lib.hid (RCa.out.alloc ob)
    replace RCb := Lib.hid (RCb.out.alloc ob)
    replace BB := Lib.hid (BB.out.alloc BB.out.size ob)
    subst ho
    go_wp2_with fail
    refine (HS.out _).mono ?_
    rintro e w19 ⟨X19, n19, Y19, m19, rfl, q19, v19, ap19, b19⟩
    replace R := Lib.hid (R.out.below b19)
    replace RCa := Lib.hid (RCa.out.below b19)
    replace RCb := Lib.hid (RCb.out.below b19)
    replace XC := Lib.hid (XC.out.below b19)
    replace BB := Lib.hid (BB.out.trans (b19.mono BB.out.size))
    clear b19
    have RDa := Lib.hid q19.rd
    have RDb := Lib.hid v19.rd
    clear q19 v19 ap19
    obtain ⟨ob, ho⟩ : ∃ o : Obj, o = .cells #[.slice X19 L.length n19, .slice Y19 L2.length m19] 27 := ⟨_, rfl⟩
    have XD := Lib.hid (show K.Box (w19.alloc ob) w19.heap.size [.slice X19 L.length n19, .slice Y19 L2.length m19] by rw [ho]; exact K.Box.new _ _ _)
    replace R := Lib.hid (R.out.alloc ob)
    replace RCa := Lib.hid (RCa.out.alloc ob)
    replace RCb := Lib.hid (RCb.out.alloc ob)
    replace XC := Lib.hid (XC.out.alloc ob)
    replace RDa := Lib.hid (RDa.out.alloc ob)
    replace RDb := Lib.hid (RDb.out.alloc ob)
    replace BB := Lib.hid (BB.out.alloc BB.out.size ob)
    subst ho
    obtain ⟨XC_0, XC_1⟩ := XC.out.c2
    have XC_g := XC.out.1
    obtain ⟨XD_0, XD_1⟩ := XD.out.c2
    have XD_g := XD.out.1
    go_wp2_with fail
    refine (BoardE.rboard _ _ _ _ L _ _ _ _ L2 _ hL7 hL8 RCa.out RDa.out RCb.out RDb.out).mono ?_
    rintro e w20 ⟨rfl, b20⟩
    clear XC_0 XC_1 XC_g XD_0 XD_1 XD_g
    replace R := Lib.hid (R.out.below b20)
    replace RCa := Lib.hid (RCa.out.below b20)
    replace RCb := Lib.hid (RCb.out.below b20)
    replace XC := Lib.hid (XC.out.below b20)
    replace RDa := Lib.hid (RDa.out.below b20)
    replace RDb := Lib.hid (RDb.out.below b20)
    replace XD := Lib.hid (XD.out.below b20)
    replace BB := Lib.hid (BB.out.trans (b20.mono BB.out.size))
    clear b20
    clear XC XD RCa RCb RDa RDb
    clear HI HS hle hL7 hL8 hoo
    go_wp2_with fail
    refine (BoardE.isplain A0 c0 l0 _ hl R.out).mono ?_
    rintro e w21 ⟨A21, c21, lU, B21, d21, kU, rfl, h7U, k7U, ra, rb, b21, _, _⟩
    replace R := Lib.hid (R.out.below b21)
    replace BB := Lib.hid (BB.out.trans (b21.mono BB.out.size))
    clear b21
    have RAU := Lib.hid ra
    have RBU := Lib.hid rb
    clear ra rb
    obtain ⟨ob, ho⟩ : ∃ o : Obj, o = .cells #[.slice A21 lU.length c21, .slice B21 kU.length d21] 27 := ⟨_, rfl⟩
    have XBU := Lib.hid (show K.Box (w21.alloc ob) w21.heap.size [.slice A21 lU.length c21, .slice B21 kU.length d21] by rw [ho]; exact K.Box.new _ _ _)
    replace R := Lib.hid (R.out.alloc ob)
    replace RAU := Lib.hid (RAU.out.alloc ob)
    replace RBU := Lib.hid (RBU.out.alloc ob)
    replace BB := Lib.hid (BB.out.alloc BB.out.size ob)
    subst ho
    have HIU := Lib.hid (fun w h h2 => BoardF.i_isplain A21 c21 lU B21 d21 kU w (by omega) (by omega) h h2)
    have HSU := Lib.hid (fun w h h2 => BoardF.s_isplain A21 c21 lU B21 d21 kU w (by omega) (by omega) h h2)
    generalize M.isPlain lU kU = PP at *
    obtain ⟨pU, fU⟩ := PP
    dsimp only at *
    have t1U : (pU == pU) = true := by simp
    have t2U : (fU == fU) = true := by simp
    obtain ⟨XBU_0, XBU_1⟩ := XBU.out.c2
    have XBU_g := XBU.out.1
    go_wp2_with fail
    refine (HIU.out _ RAU.out RBU.out).mono ?_
    rintro e w22 ⟨rfl, b22⟩
    clear XBU_0 XBU_1 XBU_g
    replace R := Lib.hid (R.out.below b22)
    replace RAU := Lib.hid (RAU.out.below b22)
    replace RBU := Lib.hid (RBU.out.below b22)
    replace XBU := Lib.hid (XBU.out.below b22)
    replace BB := Lib.hid (BB.out.trans (b22.mono BB.out.size))
    clear b22
    obtain ⟨XBU_0, XBU_1⟩ := XBU.out.c2
    have XBU_g := XBU.out.1
    go_wp2_with fail
    refine (HSU.out _ RAU.out RBU.out).mono ?_
    rintro e w23 ⟨rfl, b23⟩
    clear XBU_0 XBU_1 XBU_g
    replace R := Lib.hid (R.out.below b23)
    replace RAU := Lib.hid (RAU.out.below b23)
    replace RBU := Lib.hid (RBU.out.below b23)
    replace XBU := Lib.hid (XBU.out.below b23)
    replace BB := Lib.hid (BB.out.trans (b23.mono BB.out.size))
    clear b23
    go_wp2_with fail
    refine (BoardE.bvalue A0 c0 l0 _ hl R.out).mono ?_
    rintro e w24 ⟨A24, c24, lV, B24, d24, kV, rfl, h7V, k7V, ra, rb, b24, _, _⟩
    replace R := Lib.hid (R.out.below b24)
    replace RAU := Lib.hid (RAU.out.below b24)
    replace RBU := Lib.hid (RBU.out.below b24)
    replace XBU := Lib.hid (XBU.out.below b24)
    replace BB := Lib.hid (BB.out.trans (b24.mono BB.out.size))
    clear b24
    have RAV := Lib.hid ra
    have RBV := Lib.hid rb
    clear ra rb
    obtain ⟨ob, ho⟩ : ∃ o : Obj, o = .cells #[.slice A24 lV.length c24, .slice B24 kV.length d24] 27 := ⟨_, rfl⟩
    have XBV := Lib.hid (show K.Box (w24.alloc ob) w24.heap.size [.slice A24 lV.length c24, .slice B24 kV.length d24] by rw [ho]; exact K.Box.new _ _ _)
    replace R := Lib.hid (R.out.alloc ob)
    replace RAU := Lib.hid (RAU.out.alloc ob)
    replace RBU := Lib.hid (RBU.out.alloc ob)
    replace XBU := Lib.hid (XBU.out.alloc ob)
    replace RAV := Lib.hid (RAV.out.alloc ob)
    replace RBV := Lib.hid (RBV.out.alloc ob)
    replace BB := Lib.hid (BB.out.alloc BB.out.size ob)
    subst ho
    have HIV := Lib.hid (fun w h h2 => BoardF.i_value A24 c24 lV B24 d24 kV w (by omega) (by omega) h h2)
    have HSV := Lib.hid (fun w h h2 => BoardF.s_value A24 c24 lV B24 d24 kV w (by omega) (by omega) h h2)
    generalize M.bValue lV kV = VV at *
    obtain ⟨pV, fV⟩ := VV
    dsimp only at *
    have t1V : (pV == pV) = true := by simp
    have t2V : (fV == fV) = true := by simp
    obtain ⟨XBV_0, XBV_1⟩ := XBV.out.c2
    have XBV_g := XBV.out.1
    go_wp2_with fail
    refine (HIV.out _ RAV.out RBV.out).mono ?_
    rintro e w25 ⟨rfl, b25⟩
    clear XBV_0 XBV_1 XBV_g
    replace R := Lib.hid (R.out.below b25)
    replace RAU := Lib.hid (RAU.out.below b25)
    replace RBU := Lib.hid (RBU.out.below b25)
    replace XBU := Lib.hid (XBU.out.below b25)
    replace RAV := Lib.hid (RAV.out.below b25)
    replace RBV := Lib.hid (RBV.out.below b25)
    replace XBV := Lib.hid (XBV.out.below b25)
    replace BB := Lib.hid (BB.out.trans (b25.mono BB.out.size))
    clear b25
    obtain ⟨XBV_0, XBV_1⟩ := XBV.out.c2
    have XBV_g := XBV.out.1
    go_wp2_with fail
    refine (HSV.out _ RAV.out RBV.out).mono ?_
    rintro e w26 ⟨rfl, b26⟩
    clear XBV_0 XBV_1 XBV_g
    replace R := Lib.hid (R.out.below b26)
    replace RAU := Lib.hid (RAU.out.below b26)
    replace RBU := Lib.hid (RBU.out.below b26)
    replace XBU := Lib.hid (XBU.out.below b26)
    replace RAV := Lib.hid (RAV.out.below b26)
    replace RBV := Lib.hid (RBV.out.below b26)
    replace XBV := Lib.hid (XBV.out.below b26)
    replace BB := Lib.hid (BB.out.trans (b26.mono BB.out.size))
    clear b26
    go_wp2_with fail
    go_ret
    exact ⟨rfl, BB.out⟩
end Go.Proofs.Ytmgegacgjppdbaa.fnPlain
