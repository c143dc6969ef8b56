/-
  The walk of FnClasses.
-/
import Derived.Test.YtebbihckndjbeaaArg
import Derived.Test.YtebbihckndjbeaaKit2
import Derived.Test.YtebbihckndjbeaaPupilV
import Derived.Test.YtebbihckndjbeaaPupilC
import Derived.Test.YtebbihckndjbeaaPupilP
import Derived.Test.YtebbihckndjbeaaPupilI
import Derived.Test.YtebbihckndjbeaaPupilS
import Derived.Test.YtebbihckndjbeaaPupilF
import Derived.OpenShut
import Derived.Deep.DeepCutAuto
import Derived.Deep.RegionHeld3
import Derived.Deep.CutBlock
set_option linter.unusedVariables false
namespace Go.Proofs.Ytebbihckndjbeaa.fnClasses
open Go.ChangeShapes Go.WideShapes Go.ChangeAt Go.RowKit
theorem names_putIn {l : List M.Pupil} (hs : ∀ p ∈ l, p.name.size ≤ 9223372036854775807) (id q : Int) : ∀ p ∈ (M.putIn l id q).1, p.name.size ≤ 9223372036854775807 := by
  by_cases h : M.pupsOk l = true ∧ M.pIx l id < l.length ∧ M.pupsOk (M.withC l (M.pIx l id) q) = true
  · rw [M.putIn_yes h]; exact PupilW.names_withC hs h.2.1 q
  · rw [M.putIn_no h]; intro p hp; cases hp
theorem names_swapC {l : List M.Pupil} (hs : ∀ p ∈ l, p.name.size ≤ 9223372036854775807) (a b : Int) : ∀ p ∈ (M.swapC l a b).1, p.name.size ≤ 9223372036854775807 := by
  by_cases h : M.pupsOk l = true ∧ M.pIx l a < l.length ∧ M.pIx l b < l.length ∧ M.pIx l a ≠ M.pIx l b ∧ M.pupsOk (M.swapped l (M.pIx l a) (M.pIx l b)) = true
  · rw [M.swapC_yes h]; exact PupilS.names_swapped hs h.2.1 h.2.2.1
  · rw [M.swapC_no h]; intro p hp; cases hp
theorem classes_ok {l : List M.Pupil} {id : Int} (h : (M.classesFor l id).2 = true) (c : Int) (h1 : 1 ≤ c) (h9 : c ≤ 9) : (M.putIn l id c).2 = decide (c ∈ (M.classesFor l id).1) := by
  by_cases hy : M.pupsOk l = true ∧ M.pIx l id < l.length
  · exact M.putIn_ok hy.1 hy.2 h1 h9
  · rw [M.classesFor_no hy] at h; cases h
set_option maxRecDepth 100000 in
set_option maxHeartbeats 16000000 in
/-- the walk: the law's text returns true; nothing that was there has turned. -/
theorem walk (A0 : Option Addr) (c0 : Nat) (l0 : List UInt8) (W : World) (h0 : K.Rd W 1 A0 l0.length (l0.map fun b => Value.int .u8 (b.toNat : Int))) (m0 : l0.length ≤ 9223372036854775807) :
    Calls Try.prog 4 #[.slice A0 l0.length c0] W fun e w' => e = .returned (.bool true) ∧ Below W.heap.size W w' := by
  by_cases hbig : 65536 < l0.length
  · have hd : decide (65536 < l0.length) = true := decide_eq_true hbig
    go_enter Try.func4, Try.ntmps4
    go_wp2_with fail
    refine (PupilD.rbig _ _ _ _).mono ?_
    rintro e w1 ⟨rfl, rfl⟩
    rw [hd]
    go_wp2_with fail
    go_ret
    exact ⟨rfl, Below.refl _ _⟩
  · have hd : decide (65536 < l0.length) = false := decide_eq_false hbig
    have hl : l0.length ≤ 65536 := by omega
    clear hbig
    go_enter Try.func4, Try.ntmps4
    go_wp2_with fail
    refine (PupilD.rbig _ _ _ _).mono ?_
    rintro e w0 ⟨rfl, rfl⟩
    rw [hd]
    clear hd
    have BB := Lib.hid (Below.refl W.heap.size W)
    have R := Lib.hid h0
    go_wp2_with fail
    refine (PupilD.classesfor A0 c0 l0 _ hl R.out).mono ?_
    rintro e w1 ⟨X1, n1, p, x, rfl, h13, hpn, hrp, b1⟩
    replace R := Lib.hid (R.out.below b1)
    replace BB := Lib.hid (BB.out.trans (b1.mono BB.out.size))
    clear b1
    have RP := Lib.hid hrp
    clear hrp
    have hp7 : p.length ≤ 1048576 := by omega
    have HNM := Lib.hid (fun (z : M.Pupil) (hz : z ∈ p) => show z.name.size ≤ 9223372036854775807 by have := hpn z hz; omega)
    clear hpn
    have HI := Lib.hid (fun w h => PupilC.i_classes X1 n1 p x w hp7 HNM.out h)
    have HS := Lib.hid (fun w h => PupilC.s_classes X1 n1 p x w hp7 HNM.out h)
    have hle := M.classesFor_le p x
    have HG := Lib.hid (fun h => classes_ok (l := p) (id := x) h)
    generalize M.classesFor p x = Q at *
    obtain ⟨L, ok⟩ := Q
    dsimp only at *
    have hoo : (ok != ok) = false := by simp
    have hL7 : L.length ≤ 1048576 := by omega
    go_wp2_with fail
    refine (HI.out _ RP.out).mono ?_
    rintro e w2 ⟨X2, n2, rfl, q2, b2⟩
    replace R := Lib.hid (R.out.below b2)
    replace RP := Lib.hid (RP.out.below b2)
    replace BB := Lib.hid (BB.out.trans (b2.mono BB.out.size))
    clear b2
    have RC := Lib.hid q2.rd
    clear q2
    go_wp2_with fail
    refine (HS.out _ RP.out).mono ?_
    rintro e w3 ⟨X3, n3, rfl, q3, b3⟩
    replace R := Lib.hid (R.out.below b3)
    replace RP := Lib.hid (RP.out.below b3)
    replace RC := Lib.hid (RC.out.below b3)
    replace BB := Lib.hid (BB.out.trans (b3.mono BB.out.size))
    clear b3
    have RD := Lib.hid q3.rd
    clear q3
    go_wp2_with fail
    refine (PupilD.rints _ _ _ _ L _ hL7 RC.out RD.out).mono ?_
    rintro e w4 ⟨rfl, b4⟩
    replace R := Lib.hid (R.out.below b4)
    replace RP := Lib.hid (RP.out.below b4)
    replace RC := Lib.hid (RC.out.below b4)
    replace RD := Lib.hid (RD.out.below b4)
    replace BB := Lib.hid (BB.out.trans (b4.mono BB.out.size))
    clear b4
    clear RD
    clear HI HS
    go_upto_block 0 with fail
    go_cut [] (fun wx => Below w4.heap.size w4 wx)
    case first =>
      go_wp2_with fail
      go_loopw [9] (fun i wr => ∃ k : Nat, 1 ≤ k ∧ k ≤ 10 ∧ i = .int .i64 (k : Int) ∧ Hid (Below w4.heap.size w4 wr)) (fun i _ => 11 - (intOf i).toNat)
      case atStart => exact ⟨1, by omega, by omega, rfl, Lib.hid (Below.refl _ _)⟩
      case round =>
        obtain ⟨k, hk1, hk10, rfl, HB⟩ := hrel
        have RP1 := Lib.hid (RP.out.below HB.out)
        have RC1 := Lib.hid (RC.out.below HB.out)
        by_cases hk : k ≤ 9
        · have hkk : (k : Int) ≤ 9 := by omega
          have hkk1 : (1 : Int) ≤ (k : Int) := by omega
          cases ok with
          | false =>
            go_wp2_with fail
            go_meet
            exact HB.out
          | true =>
            have HPO := Lib.hid (HG.out rfl (k : Int) hkk1 hkk)
            have HI := Lib.hid (fun w h => PupilP.i_put X1 n1 p x (k : Int) w hp7 HNM.out h)
            have HIC := Lib.hid (fun h => M.inClass_put (l := p) (id := x) (c := (k : Int)) hkk1 hkk h)
            have HNP := Lib.hid (names_putIn HNM.out x (k : Int))
            have hlp := M.putIn_le p x (k : Int)
            generalize M.putIn p x (k : Int) = Q at *
            obtain ⟨P, one⟩ := Q
            dsimp only at *
            have hP7 : P.length ≤ 1048576 := by omega
            have HB := Lib.hid (HB.out)
            go_wp2_with fail
            refine (HI.out _ RP1.out).mono ?_
            rintro e u1 ⟨Xp, np, rfl, qp, c1⟩
            have HB1 := Lib.hid (HB.out.trans (c1.mono HB.out.size))
            have RC2 := Lib.hid (RC1.out.below c1)
            have RQ := Lib.hid qp.rd
            clear qp c1
            go_wp2_with fail
            refine (PupilD.rhas _ _ L (k : Int) _ hL7 RC2.out).mono ?_
            rintro e u2 ⟨rfl, rfl⟩
            rw [← HPO.out]
            have hoe : (one != one) = false := by simp
            have HN := Lib.hid (fun w h => PupilI.i_inclass Xp np P (k : Int) w hP7 HNP.out h)
            have hls := M.inClass_le P (k : Int)
            generalize M.inClass P (k : Int) = Q2 at *
            obtain ⟨S, two⟩ := Q2
            dsimp only at *
            have hS7 : S.length ≤ 1048576 := by omega
            go_wp2_with fail
            refine (HN.out _ RQ.out).mono ?_
            rintro e u3 ⟨Xs, ns, rfl, qs, c3⟩
            have HB3 := Lib.hid (HB1.out.trans (c3.mono HB1.out.size))
            have RS := Lib.hid qs.rd
            clear qs c3
            cases one with
            | false =>
              go_wp2_with fail
              go_roundw
              case rel => exact ⟨k + 1, by omega, by omega, by go_num, HB3⟩
              case measure => simp [intOf]; omega
            | true =>
              obtain ⟨e1, e2⟩ := HIC.out rfl
              have hm := decide_eq_true e2
              have HM := Lib.hid hm
              clear e2 hm
              subst e1
              go_wp2_with fail
              refine (PupilD.rhas _ _ S x _ hS7 RS.out).mono ?_
              rintro e u4 ⟨rfl, rfl⟩
              rw [HM.out]
              go_wp2_with fail
              go_roundw
              case rel => exact ⟨k + 1, by omega, by omega, by go_num, HB3⟩
              case measure => simp [intOf]; omega
        · have hkk : ¬ ((k : Int) ≤ 9) := by omega
          go_wp2_with fail
          go_meet
          exact HB.out
    rename World => wq1
    have bq := hcut
    clear hcut HG RP RC hp7 HNM h13 hle hL7 hoo
    replace R := Lib.hid (R.out.below bq)
    replace BB := Lib.hid (BB.out.trans (bq.mono BB.out.size))
    clear bq
    go_wp2_with fail
    refine (PupilD.swap A0 c0 l0 _ hl R.out).mono ?_
    rintro e w5 ⟨X5, n5, p, x, y, rfl, h13, hpn, hrp, b5⟩
    replace R := Lib.hid (R.out.below b5)
    replace BB := Lib.hid (BB.out.trans (b5.mono BB.out.size))
    clear b5
    have RP := Lib.hid hrp
    clear hrp
    have hp7 : p.length ≤ 1048576 := by omega
    have HNM := Lib.hid (fun (z : M.Pupil) (hz : z ∈ p) => show z.name.size ≤ 9223372036854775807 by have := hpn z hz; omega)
    clear hpn
    have HI := Lib.hid (fun w h => PupilS.i_swap X5 n5 p x y w hp7 HNM.out h)
    have HS := Lib.hid (fun w h => PupilS.s_swap X5 n5 p x y w hp7 HNM.out h)
    have hle := M.swapC_le p x y
    have HG := Lib.hid (fun h => M.swapC_back (l := p) (a := x) (b := y) h)
    have HNS := Lib.hid (names_swapC HNM.out x y)
    generalize M.swapC p x y = Q at *
    obtain ⟨L, ok⟩ := Q
    dsimp only at *
    have hoo : (ok != ok) = false := by simp
    have hL7 : L.length ≤ 1048576 := by omega
    go_wp2_with fail
    refine (HI.out _ RP.out).mono ?_
    rintro e w6 ⟨X6, n6, rfl, q6, b6⟩
    replace R := Lib.hid (R.out.below b6)
    replace RP := Lib.hid (RP.out.below b6)
    replace BB := Lib.hid (BB.out.trans (b6.mono BB.out.size))
    clear b6
    have RC := Lib.hid q6.rd
    clear q6
    go_wp2_with fail
    refine (HS.out _ RP.out).mono ?_
    rintro e w7 ⟨X7, n7, rfl, q7, b7⟩
    replace R := Lib.hid (R.out.below b7)
    replace RP := Lib.hid (RP.out.below b7)
    replace RC := Lib.hid (RC.out.below b7)
    replace BB := Lib.hid (BB.out.trans (b7.mono BB.out.size))
    clear b7
    have RD := Lib.hid q7.rd
    clear q7
    go_wp2_with fail
    refine (PupilD.rpupils _ _ _ _ L _ hL7 RC.out RD.out).mono ?_
    rintro e w8 ⟨rfl, b8⟩
    replace R := Lib.hid (R.out.below b8)
    replace RP := Lib.hid (RP.out.below b8)
    replace RC := Lib.hid (RC.out.below b8)
    replace RD := Lib.hid (RD.out.below b8)
    replace BB := Lib.hid (BB.out.trans (b8.mono BB.out.size))
    clear b8
    clear RD
    clear HI HS
    go_upto_if 130 with fail
    go_cut [] (fun wx => Below w8.heap.size w8 wx)
    case first =>
      cases ok with
      | false =>
        go_wp2_with fail
        go_meet
        exact Below.refl _ _
      | true =>
        have e1 := HG.out rfl
        have HI := Lib.hid (fun w h => PupilS.i_swap X6 n6 L x y w hL7 HNS.out h)
        rw [e1] at HI
        clear HG e1
        have BB := Lib.hid (Below.refl w8.heap.size w8)
        go_wp2_with fail
        refine (HI.out _ RC.out).mono ?_
        rintro e w9 ⟨X9, n9, rfl, q9, b9⟩
        replace R := Lib.hid (R.out.below b9)
        replace RP := Lib.hid (RP.out.below b9)
        replace RC := Lib.hid (RC.out.below b9)
        replace BB := Lib.hid (BB.out.trans (b9.mono BB.out.size))
        clear b9
        have RE := Lib.hid q9.rd
        clear q9
        go_wp2_with fail
        refine (PupilD.rpupils _ _ _ _ p _ hp7 RE.out RP.out).mono ?_
        rintro e w10 ⟨rfl, b10⟩
        replace R := Lib.hid (R.out.below b10)
        replace RP := Lib.hid (RP.out.below b10)
        replace RC := Lib.hid (RC.out.below b10)
        replace RE := Lib.hid (RE.out.below b10)
        replace BB := Lib.hid (BB.out.trans (b10.mono BB.out.size))
        clear b10
        go_wp2_with fail
        go_meet
        exact BB.out
    rename World => wq2
    have bq := hcut
    clear hcut HG HNS RP RC hp7 HNM h13 hle hL7 hoo
    replace R := Lib.hid (R.out.below bq)
    replace BB := Lib.hid (BB.out.trans (bq.mono BB.out.size))
    clear bq
    go_wp2_with fail
    refine (PupilD.putin A0 c0 l0 _ hl R.out).mono ?_
    rintro e w11 ⟨X11, n11, p, x, y, rfl, h13, hpn, hrp, b11⟩
    replace R := Lib.hid (R.out.below b11)
    replace BB := Lib.hid (BB.out.trans (b11.mono BB.out.size))
    clear b11
    have RP := Lib.hid hrp
    clear hrp
    have hp7 : p.length ≤ 1048576 := by omega
    have HNM := Lib.hid (fun (z : M.Pupil) (hz : z ∈ p) => show z.name.size ≤ 9223372036854775807 by have := hpn z hz; omega)
    clear hpn
    have HI := Lib.hid (fun w h => PupilP.i_put X11 n11 p x y w hp7 HNM.out h)
    have HS := Lib.hid (fun w h => PupilP.s_put X11 n11 p x y w hp7 HNM.out h)
    have hle := M.putIn_le p x y
    generalize M.putIn p x y = Q at *
    obtain ⟨L, ok⟩ := Q
    dsimp only at *
    have hoo : (ok != ok) = false := by simp
    have hL7 : L.length ≤ 1048576 := by omega
    go_wp2_with fail
    refine (HI.out _ RP.out).mono ?_
    rintro e w12 ⟨X12, n12, rfl, q12, b12⟩
    replace R := Lib.hid (R.out.below b12)
    replace RP := Lib.hid (RP.out.below b12)
    replace BB := Lib.hid (BB.out.trans (b12.mono BB.out.size))
    clear b12
    have RC := Lib.hid q12.rd
    clear q12
    go_wp2_with fail
    refine (HS.out _ RP.out).mono ?_
    rintro e w13 ⟨X13, n13, rfl, q13, b13⟩
    replace R := Lib.hid (R.out.below b13)
    replace RP := Lib.hid (RP.out.below b13)
    replace RC := Lib.hid (RC.out.below b13)
    replace BB := Lib.hid (BB.out.trans (b13.mono BB.out.size))
    clear b13
    have RD := Lib.hid q13.rd
    clear q13
    go_wp2_with fail
    refine (PupilD.rpupils _ _ _ _ L _ hL7 RC.out RD.out).mono ?_
    rintro e w14 ⟨rfl, b14⟩
    replace R := Lib.hid (R.out.below b14)
    replace RP := Lib.hid (RP.out.below b14)
    replace RC := Lib.hid (RC.out.below b14)
    replace RD := Lib.hid (RD.out.below b14)
    replace BB := Lib.hid (BB.out.trans (b14.mono BB.out.size))
    clear b14
    clear RD RC RP
    clear HI HS HNM hp7 h13 hle hL7 hoo
    go_wp2_with fail
    refine (PupilD.inclass A0 c0 l0 _ hl R.out).mono ?_
    rintro e w15 ⟨X15, n15, p, x, rfl, h13, hpn, hrp, b15⟩
    replace R := Lib.hid (R.out.below b15)
    replace BB := Lib.hid (BB.out.trans (b15.mono BB.out.size))
    clear b15
    have RP := Lib.hid hrp
    clear hrp
    have hp7 : p.length ≤ 1048576 := by omega
    have HNM := Lib.hid (fun (z : M.Pupil) (hz : z ∈ p) => show z.name.size ≤ 9223372036854775807 by have := hpn z hz; omega)
    clear hpn
    have HI := Lib.hid (fun w h => PupilI.i_inclass X15 n15 p x w hp7 HNM.out h)
    have HS := Lib.hid (fun w h => PupilI.s_inclass X15 n15 p x w hp7 HNM.out h)
    have hle := M.inClass_le p x
    generalize M.inClass p x = Q at *
    obtain ⟨L, ok⟩ := Q
    dsimp only at *
    have hoo : (ok == ok) = true := by simp
    have hL7 : L.length ≤ 1048576 := by omega
    go_wp2_with fail
    refine (HI.out _ RP.out).mono ?_
    rintro e w16 ⟨X16, n16, rfl, q16, b16⟩
    replace R := Lib.hid (R.out.below b16)
    replace RP := Lib.hid (RP.out.below b16)
    replace BB := Lib.hid (BB.out.trans (b16.mono BB.out.size))
    clear b16
    have RC := Lib.hid q16.rd
    clear q16
    go_wp2_with fail
    refine (HS.out _ RP.out).mono ?_
    rintro e w17 ⟨X17, n17, rfl, q17, b17⟩
    replace R := Lib.hid (R.out.below b17)
    replace RP := Lib.hid (RP.out.below b17)
    replace RC := Lib.hid (RC.out.below b17)
    replace BB := Lib.hid (BB.out.trans (b17.mono BB.out.size))
    clear b17
    have RD := Lib.hid q17.rd
    clear q17
    go_wp2_with fail
    refine (PupilD.ispupil A0 c0 l0 _ hl R.out).mono ?_
    rintro e w18 ⟨pp, rfl, hpp, b18⟩
    replace R := Lib.hid (R.out.below b18)
    replace RP := Lib.hid (RP.out.below b18)
    replace RC := Lib.hid (RC.out.below b18)
    replace RD := Lib.hid (RD.out.below b18)
    replace BB := Lib.hid (BB.out.trans (b18.mono BB.out.size))
    clear b18
    obtain ⟨ob, ho⟩ : ∃ o : Obj, o = .cells #[.int .i64 pp.id, .string pp.name, .int .i64 pp.born, .int .i64 pp.cls, .int .i64 pp.level] 26 := ⟨_, rfl⟩
    have XB := Lib.hid (show K.Box (w18.alloc ob) w18.heap.size [.int .i64 pp.id, .string pp.name, .int .i64 pp.born, .int .i64 pp.cls, .int .i64 pp.level] by rw [ho]; exact K.Box.new _ _ _)
    replace R := Lib.hid (R.out.alloc ob)
    replace RP := Lib.hid (RP.out.alloc ob)
    replace RC := Lib.hid (RC.out.alloc ob)
    replace RD := Lib.hid (RD.out.alloc ob)
    replace BB := Lib.hid (BB.out.alloc BB.out.size ob)
    subst ho
    go_upto_region 35 with fail
    obtain ⟨V, hV⟩ : ∃ X, X = World.drew (w18.alloc (.cells #[.int .i64 pp.id, .string pp.name, .int .i64 pp.born, .int .i64 pp.cls, .int .i64 pp.level] 26)) := ⟨_, rfl⟩
    replace RC := Lib.hid (show K.Rd V 1 X16 L.length (L.map (Value.int .i64)) by rw [hV]; exact RC.out.drew)
    replace RD := Lib.hid (show K.Rd V 1 X17 L.length (L.map (Value.int .i64)) by rw [hV]; exact RD.out.drew)
    replace XB := Lib.hid (show K.Box V w18.heap.size [.int .i64 pp.id, .string pp.name, .int .i64 pp.born, .int .i64 pp.cls, .int .i64 pp.level] by rw [hV]; exact XB.out.drew)
    replace BB := Lib.hid (show Below W.heap.size W V by rw [hV]; exact BB.out.drew)
    have HQ1 := Lib.hid (fun w => PupilF.i_one pp w (by omega))
    have HQ2 := Lib.hid (fun w => PupilF.s_isone pp w (by omega))
    generalize pp.ok = po at *
    have hpe : (po == po) = true := by simp
    have x5 := XB.out.2
    refine wp_region_held_drew (S := fun w' => w'.cell? ⟨w18.heap.size, 0, none⟩ = some (.int .i64 pp.id) ∧ w'.cell? ⟨w18.heap.size, 1, none⟩ = some (.string pp.name) ∧ w'.cell? ⟨w18.heap.size, 2, none⟩ = some (.int .i64 pp.born) ∧ w'.cell? ⟨w18.heap.size, 3, none⟩ = some (.int .i64 pp.cls) ∧ w'.cell? ⟨w18.heap.size, 4, none⟩ = some (.int .i64 pp.level)) (by kernel_rfl) (by rw [← hV]; exact ⟨XB.out.2 0 _ rfl, XB.out.2 1 _ rfl, XB.out.2 2 _ rfl, XB.out.2 3 _ rfl, XB.out.2 4 _ rfl⟩) (fun hHeld => ?_)
    rw [← hV] at hHeld ⊢
    clear hV
    refine K.takeL 0 (v := ?_) rfl (by kernel_rfl) (by kernel_rfl) (by kernel_rfl) (fun _ _ _ h => h) (Or.inl ⟨rfl, ?_⟩) (by assumption) ?_
    rotate_left
    · intro w hSw; (try dsimp only at hSw); first | (go_simp; done) | (go_simp; with_reducible rfl)
    simp only [Act.put, List.setIfInBounds_toArray, List.set_cons_zero, List.set_cons_succ]
    refine K.takeL 1 (v := ?_) rfl (by kernel_rfl) (by kernel_rfl) (by kernel_rfl) (fun _ _ _ h => h) (Or.inl ⟨rfl, ?_⟩) (by assumption) ?_
    rotate_left
    · intro w hSw; (try dsimp only at hSw); first | (go_simp; done) | (go_simp; with_reducible rfl)
    simp only [Act.put, List.setIfInBounds_toArray, List.set_cons_zero, List.set_cons_succ]
    refine K.takeL 2 (v := ?_) rfl (by kernel_rfl) (by kernel_rfl) (by kernel_rfl) (fun _ _ _ h => h) (Or.inl ⟨rfl, ?_⟩) (by assumption) ?_
    rotate_left
    · intro w hSw; (try dsimp only at hSw); first | (go_simp; done) | (go_simp; with_reducible rfl)
    simp only [Act.put, List.setIfInBounds_toArray, List.set_cons_zero, List.set_cons_succ]
    refine K.takeL 3 (v := ?_) rfl (by kernel_rfl) (by kernel_rfl) (by kernel_rfl) (fun _ _ _ h => h) (Or.inl ⟨rfl, ?_⟩) (by assumption) ?_
    rotate_left
    · intro w hSw; (try dsimp only at hSw); first | (go_simp; done) | (go_simp; with_reducible rfl)
    simp only [Act.put, List.setIfInBounds_toArray, List.set_cons_zero, List.set_cons_succ]
    refine K.takeL 4 (v := ?_) rfl (by kernel_rfl) (by kernel_rfl) (by kernel_rfl) (fun _ _ _ h => h) (Or.inl ⟨rfl, ?_⟩) (by assumption) ?_
    rotate_left
    · intro w hSw; (try dsimp only at hSw); first | (go_simp; done) | (go_simp; with_reducible rfl)
    simp only [Act.put, List.setIfInBounds_toArray, List.set_cons_zero, List.set_cons_succ]
    refine K.takeL 5 (v := ?_) rfl (by kernel_rfl) (by kernel_rfl) (by kernel_rfl) (fun _ _ _ h => h) (Or.inl ⟨rfl, ?_⟩) (by assumption) ?_
    rotate_left
    · intro w hSw; (try dsimp only at hSw); first | (go_simp; done) | (go_simp; with_reducible rfl)
    simp only [Act.put, List.setIfInBounds_toArray, List.set_cons_zero, List.set_cons_succ]
    refine K.consL 6 rfl (by kernel_rfl) (fun KK hK => ?_)
    go_simp
    refine (PupilD.rints _ _ _ _ L _ hL7 RC.out RD.out).mono ?_
    rintro e v6 ⟨rfl, c6⟩
    go_wp2_with fail
    replace RC := Lib.hid (RC.out.below c6)
    replace RD := Lib.hid (RD.out.below c6)
    replace XB := Lib.hid (XB.out.below c6)
    replace BB := Lib.hid (BB.out.trans (c6.mono BB.out.size))
    clear c6
    refine hK.out _ _ ⟨XB.out.2 0 _ rfl, XB.out.2 1 _ rfl, XB.out.2 2 _ rfl, XB.out.2 3 _ rfl, XB.out.2 4 _ rfl⟩ (fun hHeld => ?_)
    clear hK KK
    try simp only [Act.put, List.setIfInBounds_toArray, List.set_cons_zero, List.set_cons_succ]
    refine K.takeL 7 (v := ?_) rfl (by kernel_rfl) (by kernel_rfl) (by kernel_rfl) (fun _ _ _ h => h) (Or.inl ⟨rfl, ?_⟩) (by assumption) ?_
    rotate_left
    · intro w hSw; (try dsimp only at hSw); first | (go_simp; done) | (go_simp; with_reducible rfl)
    simp only [Act.put, List.setIfInBounds_toArray, List.set_cons_zero, List.set_cons_succ]
    refine K.takeL 8 (v := ?_) rfl (by kernel_rfl) (by kernel_rfl) (by kernel_rfl) (fun _ _ _ h => h) (Or.inl ⟨rfl, ?_⟩) (by assumption) ?_
    rotate_left
    · intro w hSw; (try dsimp only at hSw); first | (go_simp; done) | (go_simp; with_reducible rfl)
    simp only [Act.put, List.setIfInBounds_toArray, List.set_cons_zero, List.set_cons_succ]
    refine K.takeL 9 (v := ?_) rfl (by kernel_rfl) (by kernel_rfl) (by kernel_rfl) (fun _ _ _ h => h) (Or.inl ⟨rfl, ?_⟩) (by assumption) ?_
    rotate_left
    · intro w hSw; (try dsimp only at hSw); first | (go_simp; done) | (go_simp; with_reducible rfl)
    simp only [Act.put, List.setIfInBounds_toArray, List.set_cons_zero, List.set_cons_succ]
    refine K.takeL 11 (v := ?_) rfl (by kernel_rfl) (by kernel_rfl) (by kernel_rfl) (fun _ _ _ h => h) (Or.inl ⟨rfl, ?_⟩) (by assumption) ?_
    rotate_left
    · intro w hSw; (try dsimp only at hSw); first | (go_simp; done) | (go_simp; with_reducible rfl)
    simp only [Act.put, List.setIfInBounds_toArray, List.set_cons_zero, List.set_cons_succ]
    refine K.consL 10 rfl (by kernel_rfl) (fun KK hK => ?_)
    go_simp
    refine (HQ1.out _).mono ?_
    rintro e v10 ⟨rfl, c10⟩
    go_wp2_with fail
    replace RC := Lib.hid (RC.out.below c10)
    replace RD := Lib.hid (RD.out.below c10)
    replace XB := Lib.hid (XB.out.below c10)
    replace BB := Lib.hid (BB.out.trans (c10.mono BB.out.size))
    clear c10
    refine hK.out _ _ ⟨XB.out.2 0 _ rfl, XB.out.2 1 _ rfl, XB.out.2 2 _ rfl, XB.out.2 3 _ rfl, XB.out.2 4 _ rfl⟩ (fun hHeld => ?_)
    clear hK KK
    try simp only [Act.put, List.setIfInBounds_toArray, List.set_cons_zero, List.set_cons_succ]
    refine K.consL 12 rfl (by kernel_rfl) (fun KK hK => ?_)
    go_simp
    refine (HQ2.out _).mono ?_
    rintro e v12 ⟨rfl, c12⟩
    go_wp2_with fail
    replace RC := Lib.hid (RC.out.below c12)
    replace RD := Lib.hid (RD.out.below c12)
    replace XB := Lib.hid (XB.out.below c12)
    replace BB := Lib.hid (BB.out.trans (c12.mono BB.out.size))
    clear c12
    refine hK.out _ _ ⟨XB.out.2 0 _ rfl, XB.out.2 1 _ rfl, XB.out.2 2 _ rfl, XB.out.2 3 _ rfl, XB.out.2 4 _ rfl⟩ (fun hHeld => ?_)
    clear hK KK
    try simp only [Act.put, List.setIfInBounds_toArray, List.set_cons_zero, List.set_cons_succ]
    refine K.takeL 13 (v := ?_) rfl (by kernel_rfl) (by kernel_rfl) (by kernel_rfl) (fun _ _ _ h => h) (Or.inl ⟨rfl, ?_⟩) (by assumption) ?_
    rotate_left
    · intro w hSw; (try dsimp only at hSw); first | (go_simp; done) | (go_simp; with_reducible rfl)
    simp only [Act.put, List.setIfInBounds_toArray, List.set_cons_zero, List.set_cons_succ]
    refine K.takeL 14 (v := ?_) rfl (by kernel_rfl) (by kernel_rfl) (by kernel_rfl) (fun _ _ _ h => h) (Or.inl ⟨rfl, ?_⟩) (by assumption) ?_
    rotate_left
    · intro w hSw; (try dsimp only at hSw); first | (go_simp; done) | (go_simp; with_reducible rfl)
    simp only [Act.put, List.setIfInBounds_toArray, List.set_cons_zero, List.set_cons_succ]
    refine K.takeL 15 (v := ?_) rfl (by kernel_rfl) (by kernel_rfl) (by kernel_rfl) (fun _ _ _ h => h) (Or.inl ⟨rfl, ?_⟩) (by assumption) ?_
    rotate_left
    · intro w hSw; (try dsimp only at hSw); first | (go_simp; done) | (go_simp; with_reducible rfl)
    simp only [Act.put, List.setIfInBounds_toArray, List.set_cons_zero, List.set_cons_succ]
    refine wpAnyH_done (by kernel_rfl) ?_ _
    go_wp2_with fail
    go_ret
    exact ⟨rfl, BB.out⟩
end Go.Proofs.Ytebbihckndjbeaa.fnClasses
