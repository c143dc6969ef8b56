/-
  The walk of FnSplitJoin.
-/
import Derived.Test.YtpeoikhddmoafaaArg
import Derived.Test.YtpeoikhddmoafaaGrStr
set_option linter.unusedVariables false
namespace Go.Proofs.Ytpeoikhddmoafaa.fnSplitJoin
open Go.ChangeShapes Go.WideShapes Go.ChangeAt Go.RowKit
theorem split_parts {s p : ByteArray} (hs : s.size ≤ 20) (hp : p.size = 1) : ∀ x ∈ (M.splitStr s p).1, x.size ≤ 1048576 := by
  intro x hx
  have h0 : 0 < p.size := by omega
  have hj := M.join_split (s := s) (sep := p) (by omega) hp
  by_cases hr : (M.splitStr s p).1 = []
  · rw [hr] at hx; simp at hx
  · have e : (M.jn p (M.splitStr s p).1) = s := by
      rw [M.splitStr_yes (by omega) h0 hp] at hj ⊢
      by_cases h4 : (M.jn p (M.spl s p[0].toNat)).size ≤ 4000
      · rw [M.joinR_yes (M.spl_ne _ _) h0 hp (M.spl_stands s p[0]) h4] at hj
        exact (Prod.mk.inj hj).1
      · rw [M.joinR_no2 h4] at hj
        exact absurd (Prod.mk.inj hj).2 (by simp)
    have := GrStr.part_le p (M.splitStr s p).1 x hx
    rw [e] at this
    omega
set_option maxRecDepth 100000 in
set_option maxHeartbeats 16000000 in
/-- the walk: the law's text returns true; nothing that was there has turned. -/
theorem walk (A0 : Option Addr) (c0 : Nat) (l0 : List UInt8) (W : World) (h0 : K.Rd W 1 A0 l0.length (l0.map fun b => Value.int .u8 (b.toNat : Int))) (m0 : l0.length ≤ 9223372036854775807) :
    Calls Try.prog 12 #[.slice A0 l0.length c0] W fun e w' => e = .returned (.bool true) ∧ Below W.heap.size W w' := by
  by_cases hbig : 65536 < l0.length
  · have hd : decide (65536 < l0.length) = true := decide_eq_true hbig
    go_enter Try.func12, Try.ntmps12
    go_wp2_with fail
    refine (GrStr.vbig _ _ _ _).mono ?_
    rintro e w1 ⟨rfl, rfl⟩
    rw [hd]
    go_wp2_with fail
    go_ret
    exact ⟨rfl, Below.refl _ _⟩
  · have hd : decide (65536 < l0.length) = false := decide_eq_false hbig
    have hl : l0.length ≤ 65536 := by omega
    clear hbig
    go_enter Try.func12, Try.ntmps12
    go_wp2_with fail
    refine (GrStr.vbig _ _ _ _).mono ?_
    rintro e w0 ⟨rfl, rfl⟩
    rw [hd]
    clear hd
    go_wp2_with fail
    refine (Draw1.split A0 c0 l0 _ hl h0).mono ?_
    rintro e w1 ⟨s, p, rfl, hs, hp, b1⟩
    have q1 := Lib.hid b1
    have r1 := Lib.hid (h0.below b1)
    clear b1
    have HSP := Lib.hid (fun w => SplStr.i_any s p w (by omega) (by omega))
    have HJ := Lib.hid (fun (h : p.size = 1) => M.join_split (s := s) (sep := p) (by omega) h)
    have HP := Lib.hid (fun (h : p.size = 1) => split_parts (s := s) hs h)
    have HT := Lib.hid (fun (h : p.size = 1) => show (M.splitStr s p).2 = true by rw [M.splitStr_yes (by omega) (by omega) h])
    have HN := Lib.hid (fun (h : p.size ≠ 1) => M.splitStr_no (s := s) (sep := p) (.inr h))
    have hln := M.splitStr_le s p
    generalize M.splitStr s p = R at *
    obtain ⟨R1, R2⟩ := R
    dsimp only at *
    go_wp2_with fail
    refine (HSP.out _).mono ?_
    rintro e w2 ⟨X, n, rfl, row2, b2⟩
    have q2 := Lib.hid (q1.out.trans (b2.mono q1.out.size))
    have r2 := Lib.hid (h0.below q2.out)
    have X2 := Lib.hid (row2.more q1.out.size)
    clear b2 row2
    go_wp2_with fail
    refine (Draw1.joins A0 c0 l0 _ hl r2.out).mono ?_
    rintro e w3 ⟨Y, m, L, u, rfl, row3, hL4, hLs, hu, b3⟩
    have q3 := Lib.hid (q2.out.trans (b3.mono q2.out.size))
    have X3 := Lib.hid (X2.out.below b3)
    have Y3 := Lib.hid row3
    have HLS := Lib.hid (fun (x : ByteArray) (hx : x ∈ L) => show x.size ≤ 1048576 by have := hLs x hx; omega)
    have HI := Lib.hid (fun w h => Join.i_joins Y m L u w (by omega) HLS.out (by omega) h)
    have HS := Lib.hid (fun w h => Join.s_joins Y m L u w (by omega) HLS.out (by omega) h)
    clear b3 row3 hLs
    generalize M.joinR L u = J at *
    obtain ⟨J1, J2⟩ := J
    have hjj : (J2 != J2) = false := by simp
    go_wp2_with fail
    refine (HI.out _ Y3.out.rd).mono ?_
    rintro e w4 ⟨rfl, b4⟩
    have q4 := Lib.hid (q3.out.trans (b4.mono q3.out.size))
    have X4 := Lib.hid (X3.out.below b4)
    have Y4 := Lib.hid (Y3.out.below b4)
    clear b4
    go_wp2_with fail
    refine (HS.out _ Y4.out.rd).mono ?_
    rintro e w5 ⟨rfl, b5⟩
    have q5 := Lib.hid (q4.out.trans (b5.mono q4.out.size))
    have X5 := Lib.hid (X4.out.below b5)
    have r5 := Lib.hid (h0.below q5.out)
    clear b5
    go_wp2_with fail
    refine (Draw1.less A0 c0 l0 _ hl r5.out).mono ?_
    rintro e w6 ⟨a, b, rfl, ha, hb, b6⟩
    have q6 := Lib.hid (q5.out.trans (b6.mono q5.out.size))
    have X6 := Lib.hid (X5.out.below b6)
    clear b6
    have hab := GrStr.less_asym a.toList b.toList
    have H1 := Lib.hid (fun w => GrStr.less_i a b w)
    have H2 := Lib.hid (fun w => GrStr.less_s a b w)
    have H3 := Lib.hid (fun w => GrStr.less_i b a w)
    generalize Op.bytesLess a.toList b.toList = x at *
    generalize Op.bytesLess b.toList a.toList = y at *
    have hxx : (x != x) = false := by simp
    go_wp2_with fail
    refine (H1.out _).mono ?_
    rintro e w7 ⟨rfl, rfl⟩
    go_wp2_with fail
    refine (H2.out _).mono ?_
    rintro e w8 ⟨rfl, rfl⟩
    go_wp2_with fail
    refine (H1.out _).mono ?_
    rintro e w9 ⟨rfl, rfl⟩
    cases x with
    | true =>
      rw [Bool.true_and] at hab
      subst hab
      go_wp2_with fail
      refine (H3.out _).mono ?_
      rintro e w10 ⟨rfl, rfl⟩
      clear H1 H2 H3 HI HS HSP
      by_cases hp1 : p.size = 1
      · have hpd : ((p.size : Int) != 1) = false := by rw [bne_eq_false_iff_eq]; omega
        have HJ1 := HJ.out hp1
        have HP1 := Lib.hid (HP.out hp1)
        have HT1 := HT.out hp1
        subst HT1
        have HB := Lib.hid (fun w h => Join.i_joins X n R1 p w (by omega) HP1.out (by omega) h)
        rw [HJ1] at HB
        clear HJ HP HT HN HJ1 hp1
        go_wp2_with fail
        refine (HB.out _ X6.out.rd).mono ?_
        rintro e w11 ⟨rfl, b11⟩
        go_wp2_with fail
        go_ret
        exact ⟨rfl, q6.out.trans (b11.mono q6.out.size)⟩
      · have hpd : ((p.size : Int) != 1) = true := by rw [bne_iff_ne]; omega
        obtain ⟨e1, e2⟩ := Prod.mk.inj (HN.out hp1)
        subst e1 e2
        clear HJ HP HT HN hp1
        go_wp2_with fail
        go_ret
        exact ⟨rfl, q6.out⟩
    | false =>
      clear H1 H2 H3 HI HS HSP
      by_cases hp1 : p.size = 1
      · have hpd : ((p.size : Int) != 1) = false := by rw [bne_eq_false_iff_eq]; omega
        have HJ1 := HJ.out hp1
        have HP1 := Lib.hid (HP.out hp1)
        have HT1 := HT.out hp1
        subst HT1
        have HB := Lib.hid (fun w h => Join.i_joins X n R1 p w (by omega) HP1.out (by omega) h)
        rw [HJ1] at HB
        clear HJ HP HT HN HJ1 hp1
        go_wp2_with fail
        refine (HB.out _ X6.out.rd).mono ?_
        rintro e w11 ⟨rfl, b11⟩
        go_wp2_with fail
        go_ret
        exact ⟨rfl, q6.out.trans (b11.mono q6.out.size)⟩
      · have hpd : ((p.size : Int) != 1) = true := by rw [bne_iff_ne]; omega
        obtain ⟨e1, e2⟩ := Prod.mk.inj (HN.out hp1)
        subst e1 e2
        clear HJ HP HT HN hp1
        go_wp2_with fail
        go_ret
        exact ⟨rfl, q6.out⟩
end Go.Proofs.Ytpeoikhddmoafaa.fnSplitJoin
