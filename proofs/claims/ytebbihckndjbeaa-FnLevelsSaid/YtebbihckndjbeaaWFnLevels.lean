/-
  The walk of FnLevels.
-/
import Derived.Test.YtebbihckndjbeaaArg
import Derived.Test.YtebbihckndjbeaaKit2
import Derived.Test.YtebbihckndjbeaaPupilZ
import Derived.Test.YtebbihckndjbeaaPupilT
import Derived.Test.YtebbihckndjbeaaTabH
import Derived.Test.YtebbihckndjbeaaTabR
import Derived.Test.YtebbihckndjbeaaPupilQ
import Derived.Test.YtebbihckndjbeaaPupilU
import Derived.Test.YtebbihckndjbeaaPupilE
import Derived.Test.YtebbihckndjbeaaPupilO
import Derived.Test.YtebbihckndjbeaaPupilI
import Derived.Test.YtebbihckndjbeaaPupilH
import Derived.OpenShut
import Derived.Deep.DeepCutAuto
import Derived.Deep.RegionHeld3
import Derived.Deep.CutBlock
set_option linter.unusedVariables false
namespace Go.Proofs.Ytebbihckndjbeaa.fnLevels
open Go.ChangeShapes Go.WideShapes Go.ChangeAt Go.RowKit

set_option maxRecDepth 100000 in
set_option maxHeartbeats 16000000 in
/-- the walk: the law's text returns true; nothing that was there has turned. -/
theorem walk (A0 : Option Addr) (c0 : Nat) (l0 : List UInt8) (W : World) (h0 : K.Rd W 1 A0 l0.length (l0.map fun b => Value.int .u8 (b.toNat : Int))) (m0 : l0.length ≤ 9223372036854775807) :
    Calls Try.prog 5 #[.slice A0 l0.length c0] W fun e w' => e = .returned (.bool true) ∧ Below W.heap.size W w' := by
  by_cases hbig : 65536 < l0.length
  · have hd : decide (65536 < l0.length) = true := decide_eq_true hbig
    go_enter Try.func5, Try.ntmps5
    go_wp2_with fail
    refine (PupilD.rbig _ _ _ _).mono ?_
    rintro e w1 ⟨rfl, rfl⟩
    rw [hd]
    go_wp2_with fail
    go_ret
    exact ⟨rfl, Below.refl _ _⟩
  · have hd : decide (65536 < l0.length) = false := decide_eq_false hbig
    have hl : l0.length ≤ 65536 := by omega
    clear hbig
    go_enter Try.func5, Try.ntmps5
    go_wp2_with fail
    refine (PupilD.rbig _ _ _ _).mono ?_
    rintro e w0 ⟨rfl, rfl⟩
    rw [hd]
    clear hd
    have BB := Lib.hid (Below.refl W.heap.size W)
    have R := Lib.hid h0
    go_wp2_with fail
    refine (PupilD.placeallC A0 c0 l0 _ hl R.out).mono ?_
    rintro e w1 ⟨X1, n1, p0, rfl, h13, hpn, hcap, hcap2, hrp, b1⟩
    replace R := Lib.hid (R.out.below b1)
    replace BB := Lib.hid (BB.out.trans (b1.mono BB.out.size))
    clear b1
    have RP0 := Lib.hid hrp
    clear hrp
    have hp70 : p0.length ≤ 1048576 := by omega
    have HNM0 := Lib.hid (fun (z : M.Pupil) (hz : z ∈ p0) => show z.name.size ≤ 9223372036854775807 by have := hpn z hz; omega)
    clear hpn
    have HI := Lib.hid (fun w h => PupilQ.i_place X1 n1 p0 w hp70 HNM0.out h)
    have HS := Lib.hid (fun w h => PupilQ.s_place X1 n1 p0 w hp70 HNM0.out h)
    have hle := M.placeAll_le p0
    have HG := Lib.hid (fun h => M.placeAll_more (l := p0) h)
    have HNL := Lib.hid (PupilD.names_placeAll HNM0.out)
    have HSN := Lib.hid (M.sameNames_two p0)
    generalize M.placeAll p0 = Q at *
    obtain ⟨⟨L, q⟩, ok⟩ := Q
    dsimp only at *
    have hoo : (ok != ok) = false := by simp
    have hqq : (q != q) = false := by simp
    have hL7 : L.length ≤ 1048576 := by omega
    go_wp2_with fail
    refine (HI.out _ RP0.out).mono ?_
    rintro e w2 ⟨X2, n2, rfl, q2, b2⟩
    replace R := Lib.hid (R.out.below b2)
    replace RP0 := Lib.hid (RP0.out.below b2)
    replace BB := Lib.hid (BB.out.trans (b2.mono BB.out.size))
    clear b2
    have RC := Lib.hid q2.rd
    clear q2
    go_wp2_with fail
    refine (HS.out _ RP0.out).mono ?_
    rintro e w3 ⟨X3, n3, rfl, q3, b3⟩
    replace R := Lib.hid (R.out.below b3)
    replace RP0 := Lib.hid (RP0.out.below b3)
    replace RC := Lib.hid (RC.out.below b3)
    replace BB := Lib.hid (BB.out.trans (b3.mono BB.out.size))
    clear b3
    have RD := Lib.hid q3.rd
    clear q3
    go_wp2_with fail
    refine (PupilD.rpupils _ _ _ _ L _ hL7 RC.out RD.out).mono ?_
    rintro e w4 ⟨rfl, b4⟩
    replace R := Lib.hid (R.out.below b4)
    replace RP0 := Lib.hid (RP0.out.below b4)
    replace RC := Lib.hid (RC.out.below b4)
    replace RD := Lib.hid (RD.out.below b4)
    replace BB := Lib.hid (BB.out.trans (b4.mono BB.out.size))
    clear b4
    clear RD
    clear HI HS hoo
    go_upto_if 70 with fail
    go_cut [] (fun wx => Below w4.heap.size w4 wx)
    case first =>
      cases ok with
      | false =>
        go_wp2_with fail
        go_meet
        exact Below.refl _ _
      | true =>
        obtain ⟨e1, e2, e3, e4⟩ := HG.out rfl
        clear HG
        have HA := Lib.hid (fun w h => PupilG.i_are X2 n2 L w hL7 HNL.out h)
        rw [e1] at HA
        have HP := Lib.hid (fun w h => PupilQ.i_place X2 n2 L w hL7 HNL.out h)
        rw [e4] at HP
        dsimp only at HP
        have HN := Lib.hid (fun w h => PupilI.i_inclass X2 n2 L 0 w hL7 HNL.out h)
        clear e1 e4
        generalize M.inClass L 0 = Q2 at *
        obtain ⟨S, one⟩ := Q2
        dsimp only at *
        subst e2
        subst e3
        have hSS : ((S.length : Int) != (S.length : Int)) = false := by simp
        have BB := Lib.hid (Below.refl w4.heap.size w4)
        go_wp2_with fail
        refine (HN.out _ RC.out).mono ?_
        rintro e w5 ⟨X5, n5, rfl, q5, b5⟩
        replace R := Lib.hid (R.out.below b5)
        replace RP0 := Lib.hid (RP0.out.below b5)
        replace RC := Lib.hid (RC.out.below b5)
        replace BB := Lib.hid (BB.out.trans (b5.mono BB.out.size))
        clear b5
        have RS := Lib.hid q5.rd
        clear q5
        go_wp2_with fail
        refine (HP.out _ RC.out).mono ?_
        rintro e w6 ⟨X6, n6, rfl, q6, b6⟩
        replace R := Lib.hid (R.out.below b6)
        replace RP0 := Lib.hid (RP0.out.below b6)
        replace RC := Lib.hid (RC.out.below b6)
        replace RS := Lib.hid (RS.out.below b6)
        replace BB := Lib.hid (BB.out.trans (b6.mono BB.out.size))
        clear b6
        have RE := Lib.hid q6.rd
        clear q6
        go_wp2_with fail
        refine (HA.out _ RC.out).mono ?_
        rintro e w7 ⟨rfl, b7⟩
        replace R := Lib.hid (R.out.below b7)
        replace RP0 := Lib.hid (RP0.out.below b7)
        replace RC := Lib.hid (RC.out.below b7)
        replace RS := Lib.hid (RS.out.below b7)
        replace RE := Lib.hid (RE.out.below b7)
        replace BB := Lib.hid (BB.out.trans (b7.mono BB.out.size))
        clear b7
        go_wp2_with fail
        refine (PupilD.rpupils _ _ _ _ L _ hL7 RE.out RC.out).mono ?_
        rintro e w8 ⟨rfl, b8⟩
        replace R := Lib.hid (R.out.below b8)
        replace RP0 := Lib.hid (RP0.out.below b8)
        replace RC := Lib.hid (RC.out.below b8)
        replace RS := Lib.hid (RS.out.below b8)
        replace RE := Lib.hid (RE.out.below b8)
        replace BB := Lib.hid (BB.out.trans (b8.mono BB.out.size))
        clear b8
        go_wp2_with fail
        go_meet
        exact BB.out
    rename World => wq1
    have bq := hcut
    clear hcut HG HNL hqq hle hL7 RC
    replace R := Lib.hid (R.out.below bq)
    replace RP0 := Lib.hid (RP0.out.below bq)
    replace BB := Lib.hid (BB.out.trans (bq.mono BB.out.size))
    clear bq
    go_wp2_with fail
    refine (PupilD.raiselevel A0 c0 l0 _ hl R.out).mono ?_
    rintro e w9 ⟨X9, n9, p, x, rfl, h13, hpn, hrp, b9⟩
    replace R := Lib.hid (R.out.below b9)
    replace RP0 := Lib.hid (RP0.out.below b9)
    replace BB := Lib.hid (BB.out.trans (b9.mono BB.out.size))
    clear b9
    have RP := Lib.hid hrp
    clear hrp
    have hp7 : p.length ≤ 1048576 := by omega
    have HNM := Lib.hid (fun (z : M.Pupil) (hz : z ∈ p) => show z.name.size ≤ 9223372036854775807 by have := hpn z hz; omega)
    clear hpn
    have HI := Lib.hid (fun w h => PupilU.i_raise X9 n9 p x w hp7 HNM.out h)
    have HS := Lib.hid (fun w h => PupilU.s_raise X9 n9 p x w hp7 HNM.out h)
    have hle := M.raise_le p x
    have HG := Lib.hid (fun i hi hi2 => M.raise_more p x i hi hi2)
    generalize M.raise p x = Q at *
    obtain ⟨L, fine⟩ := Q
    dsimp only at *
    have hoo : (fine != fine) = false := by simp
    have hL7 : L.length ≤ 1048576 := by omega
    go_wp2_with fail
    refine (HI.out _ RP.out).mono ?_
    rintro e w10 ⟨X10, n10, rfl, q10, b10⟩
    replace R := Lib.hid (R.out.below b10)
    replace RP0 := Lib.hid (RP0.out.below b10)
    replace RP := Lib.hid (RP.out.below b10)
    replace BB := Lib.hid (BB.out.trans (b10.mono BB.out.size))
    clear b10
    have RC := Lib.hid q10.rd
    clear q10
    go_wp2_with fail
    refine (HS.out _ RP.out).mono ?_
    rintro e w11 ⟨X11, n11, rfl, q11, b11⟩
    replace R := Lib.hid (R.out.below b11)
    replace RP0 := Lib.hid (RP0.out.below b11)
    replace RP := Lib.hid (RP.out.below b11)
    replace RC := Lib.hid (RC.out.below b11)
    replace BB := Lib.hid (BB.out.trans (b11.mono BB.out.size))
    clear b11
    have RD := Lib.hid q11.rd
    clear q11
    go_wp2_with fail
    refine (PupilD.rpupils _ _ _ _ L _ hL7 RC.out RD.out).mono ?_
    rintro e w12 ⟨rfl, b12⟩
    replace R := Lib.hid (R.out.below b12)
    replace RP0 := Lib.hid (RP0.out.below b12)
    replace RP := Lib.hid (RP.out.below b12)
    replace RC := Lib.hid (RC.out.below b12)
    replace RD := Lib.hid (RD.out.below b12)
    replace BB := Lib.hid (BB.out.trans (b12.mono BB.out.size))
    clear b12
    clear RD
    clear HI HS
    go_upto_block 0 with fail
    go_cut [] (fun wx => Below w12.heap.size w12 wx)
    case first =>
      go_wp2_with fail
      go_loopw [21] (fun i wr => ∃ k : Nat, k ≤ p.length ∧ k ≤ L.length ∧ i = .int .i64 (k : Int) ∧ Hid (Below w12.heap.size w12 wr)) (fun i _ => p.length - (intOf i).toNat)
      case atStart => exact ⟨0, Nat.zero_le _, Nat.zero_le _, rfl, Lib.hid (Below.refl _ _)⟩
      case round =>
        skip
        obtain ⟨k, hk1, hk2, rfl, HB⟩ := hrel
        by_cases hlt : k < p.length
        · have hi1 : (k : Int) < (p.length : Int) := by omega
          by_cases hlt2 : k < L.length
          · have hi2 : (k : Int) < (L.length : Int) := by omega
            have hi0 : (0 : Int) ≤ (k : Int) := by omega
            have RP1 := Lib.hid (RP.out.below HB.out)
            have RC1 := Lib.hid (RC.out.below HB.out)
            have HG1 := HG.out k hlt hlt2
            obtain ⟨W2, hW2⟩ : ∃ X, X = wr.drew := ⟨_, rfl⟩
            obtain ⟨ga, oa, hAe, hga, ca0, _, _, _, ca4⟩ := (show K.Rd W2 5 X9 p.length (p.flatMap M.pupilCells) by rw [hW2]; exact RP1.out).pupil hlt
            obtain ⟨gb, ob, hBe, hgb, _, _, _, _, cb4⟩ := (show K.Rd W2 5 X10 L.length (L.flatMap M.pupilCells) by rw [hW2]; exact RC1.out).pupil hlt2
            subst hAe hBe
            have HBW := Lib.hid (show Below w12.heap.size w12 W2 by rw [hW2]; exact HB.out.drew)
            clear HB RP1 RC1
            generalize p[k].id = vi at *
            generalize p[k].level = vl at *
            generalize L[k].level = ul at *
            by_cases hid : vi = x
            · obtain ⟨hl1, hl2, hl3⟩ := HG1 hid
              subst hid
              clear HG1
              have he : (vi == vi) = true := by simp
              have hwr : IntKind.i64.wrap (vl + 1) = vl + 1 := IntWalk.i64_in _ (by omega)
              subst hl1
              have hne : ((vl + 1) != (vl + 1)) = false := by simp
              go_upto_region 21 with fail
              refine wp_region_held_drew (S := fun w' => w'.cell? ⟨ga, oa + k * 5, none⟩ = some (.int .i64 vi) ∧ w'.cell? ⟨ga, oa + k * 5 + 4, none⟩ = some (.int .i64 vl) ∧ w'.cell? ⟨gb, ob + k * 5 + 4, none⟩ = some (.int .i64 (vl + 1))) (by kernel_rfl) (by rw [← hW2]; exact ⟨ca0, ca4, cb4⟩) (fun hHeld => ?_)
              rw [← hW2] at hHeld ⊢
              clear hW2
              refine K.takeL 0 (v := ?_) rfl (by kernel_rfl) (by kernel_rfl) (by kernel_rfl) (fun _ _ _ h => h) (Or.inl ⟨rfl, ?_⟩) (by assumption) ?_
              rotate_left
              · intro w hSw; (try dsimp only at hSw); first | (go_simp; done) | (go_simp; with_reducible rfl)
              simp only [Act.put, List.setIfInBounds_toArray, List.set_cons_zero, List.set_cons_succ]
              refine K.takeL 1 (v := ?_) rfl (by kernel_rfl) (by kernel_rfl) (by kernel_rfl) (fun _ _ _ h => h) (Or.inl ⟨rfl, ?_⟩) (by assumption) ?_
              rotate_left
              · intro w hSw; (try dsimp only at hSw); first | (go_simp; done) | (go_simp; with_reducible rfl)
              simp only [Act.put, List.setIfInBounds_toArray, List.set_cons_zero, List.set_cons_succ]
              refine K.takeL 2 (v := ?_) rfl (by kernel_rfl) (by kernel_rfl) (by kernel_rfl) (fun _ _ _ h => h) (Or.inl ⟨rfl, ?_⟩) (by assumption) ?_
              rotate_left
              · intro w hSw; (try dsimp only at hSw); first | (go_simp; done) | (go_simp; with_reducible rfl)
              simp only [Act.put, List.setIfInBounds_toArray, List.set_cons_zero, List.set_cons_succ]
              refine K.takeL 3 (v := ?_) rfl (by kernel_rfl) (by kernel_rfl) (by kernel_rfl) (fun _ _ _ h => h) (Or.inl ⟨rfl, ?_⟩) (by assumption) ?_
              rotate_left
              · intro w hSw; (try dsimp only at hSw); first | (go_simp; done) | (go_simp; with_reducible rfl)
              simp only [Act.put, List.setIfInBounds_toArray, List.set_cons_zero, List.set_cons_succ]
              refine K.takeL 4 (v := ?_) rfl (by kernel_rfl) (by kernel_rfl) (by kernel_rfl) (fun _ _ _ h => h) (Or.inl ⟨rfl, ?_⟩) (by assumption) ?_
              rotate_left
              · intro w hSw; (try dsimp only at hSw); first | (go_simp; done) | (go_simp; with_reducible rfl)
              simp only [Act.put, List.setIfInBounds_toArray, List.set_cons_zero, List.set_cons_succ]
              refine K.takeL 5 (v := ?_) rfl (by kernel_rfl) (by kernel_rfl) (by kernel_rfl) (fun _ _ _ h => h) (Or.inl ⟨rfl, ?_⟩) (by assumption) ?_
              rotate_left
              · intro w hSw; (try dsimp only at hSw); first | (go_simp; done) | (go_simp; with_reducible rfl)
              simp only [Act.put, List.setIfInBounds_toArray, List.set_cons_zero, List.set_cons_succ]
              refine K.takeL 6 (v := ?_) rfl (by kernel_rfl) (by kernel_rfl) (by kernel_rfl) (fun _ _ _ h => h) (Or.inl ⟨rfl, ?_⟩) (by assumption) ?_
              rotate_left
              · intro w hSw; (try dsimp only at hSw); first | (go_simp; done) | (go_simp; with_reducible rfl)
              simp only [Act.put, List.setIfInBounds_toArray, List.set_cons_zero, List.set_cons_succ]
              refine K.takeL 7 (v := ?_) rfl (by kernel_rfl) (by kernel_rfl) (by kernel_rfl) (fun _ _ _ h => h) (Or.inl ⟨rfl, ?_⟩) (by assumption) ?_
              rotate_left
              · intro w hSw; (try dsimp only at hSw); first | (go_simp; done) | (go_simp; with_reducible rfl)
              simp only [Act.put, List.setIfInBounds_toArray, List.set_cons_zero, List.set_cons_succ]
              refine K.takeL 8 (v := ?_) rfl (by kernel_rfl) (by kernel_rfl) (by kernel_rfl) (fun _ _ _ h => h) (Or.inl ⟨rfl, ?_⟩) (by assumption) ?_
              rotate_left
              · intro w hSw; (try dsimp only at hSw); first | (go_simp; done) | (go_simp; with_reducible rfl)
              simp only [Act.put, List.setIfInBounds_toArray, List.set_cons_zero, List.set_cons_succ]
              refine K.takeL 9 (v := ?_) rfl (by kernel_rfl) (by kernel_rfl) (by kernel_rfl) (fun _ _ _ h => h) (Or.inl ⟨rfl, ?_⟩) (by assumption) ?_
              rotate_left
              · intro w hSw; (try dsimp only at hSw); first | (go_simp; done) | (go_simp; with_reducible rfl)
              simp only [Act.put, List.setIfInBounds_toArray, List.set_cons_zero, List.set_cons_succ]
              refine K.takeL 10 (v := ?_) rfl (by kernel_rfl) (by kernel_rfl) (by kernel_rfl) (fun _ _ _ h => h) (Or.inl ⟨rfl, ?_⟩) (by assumption) ?_
              rotate_left
              · intro w hSw; (try dsimp only at hSw); first | (go_simp; done) | (go_simp; with_reducible rfl)
              simp only [Act.put, List.setIfInBounds_toArray, List.set_cons_zero, List.set_cons_succ]
              refine K.takeL 11 (v := ?_) rfl (by kernel_rfl) (by kernel_rfl) (by kernel_rfl) (fun _ _ _ h => h) (Or.inl ⟨rfl, ?_⟩) (by assumption) ?_
              rotate_left
              · intro w hSw; (try dsimp only at hSw); first | (go_simp; done) | (go_simp; with_reducible rfl)
              simp only [Act.put, List.setIfInBounds_toArray, List.set_cons_zero, List.set_cons_succ]
              refine K.takeL 12 (v := ?_) rfl (by kernel_rfl) (by kernel_rfl) (by kernel_rfl) (fun _ _ _ h => h) (Or.inl ⟨rfl, ?_⟩) (by assumption) ?_
              rotate_left
              · intro w hSw; (try dsimp only at hSw); first | (go_simp; done) | (go_simp; with_reducible rfl)
              simp only [Act.put, List.setIfInBounds_toArray, List.set_cons_zero, List.set_cons_succ]
              refine K.takeL 13 (v := ?_) rfl (by kernel_rfl) (by kernel_rfl) (by kernel_rfl) (fun _ _ _ h => h) (Or.inl ⟨rfl, ?_⟩) (by assumption) ?_
              rotate_left
              · intro w hSw; (try dsimp only at hSw); first | (go_simp; done) | (go_simp; with_reducible rfl)
              simp only [Act.put, List.setIfInBounds_toArray, List.set_cons_zero, List.set_cons_succ]
              refine K.takeL 14 (v := ?_) rfl (by kernel_rfl) (by kernel_rfl) (by kernel_rfl) (fun _ _ _ h => h) (Or.inl ⟨rfl, ?_⟩) (by assumption) ?_
              rotate_left
              · intro w hSw; (try dsimp only at hSw); first | (go_simp; done) | (go_simp; with_reducible rfl)
              simp only [Act.put, List.setIfInBounds_toArray, List.set_cons_zero, List.set_cons_succ]
              refine K.takeL 15 (v := ?_) rfl (by kernel_rfl) (by kernel_rfl) (by kernel_rfl) (fun _ _ _ h => h) (Or.inl ⟨rfl, ?_⟩) (by assumption) ?_
              rotate_left
              · intro w hSw; (try dsimp only at hSw); first | (go_simp; done) | (go_simp; with_reducible rfl)
              simp only [Act.put, List.setIfInBounds_toArray, List.set_cons_zero, List.set_cons_succ]
              refine K.takeL 16 (v := ?_) rfl (by kernel_rfl) (by kernel_rfl) (by kernel_rfl) (fun _ _ _ h => h) (Or.inl ⟨rfl, ?_⟩) (by assumption) ?_
              rotate_left
              · intro w hSw; (try dsimp only at hSw); first | (go_simp; done) | (go_simp; with_reducible rfl)
              simp only [Act.put, List.setIfInBounds_toArray, List.set_cons_zero, List.set_cons_succ]
              refine K.takeL 17 (v := ?_) rfl (by kernel_rfl) (by kernel_rfl) (by kernel_rfl) (fun _ _ _ h => h) (Or.inl ⟨rfl, ?_⟩) (by assumption) ?_
              rotate_left
              · intro w hSw; (try dsimp only at hSw); first | (go_simp; done) | (go_simp; with_reducible rfl)
              simp only [Act.put, List.setIfInBounds_toArray, List.set_cons_zero, List.set_cons_succ]
              refine K.takeL 18 (v := ?_) rfl (by kernel_rfl) (by kernel_rfl) (by kernel_rfl) (fun _ _ _ h => h) (Or.inl ⟨rfl, ?_⟩) (by assumption) ?_
              rotate_left
              · intro w hSw; (try dsimp only at hSw); first | (go_simp; done) | (go_simp; with_reducible rfl)
              simp only [Act.put, List.setIfInBounds_toArray, List.set_cons_zero, List.set_cons_succ]
              refine K.takeL 19 (v := ?_) rfl (by kernel_rfl) (by kernel_rfl) (by kernel_rfl) (fun _ _ _ h => h) (Or.inl ⟨rfl, ?_⟩) (by assumption) ?_
              rotate_left
              · intro w hSw; (try dsimp only at hSw); first | (go_simp; done) | (go_simp; with_reducible rfl)
              simp only [Act.put, List.setIfInBounds_toArray, List.set_cons_zero, List.set_cons_succ]
              refine K.takeL 20 (v := ?_) rfl (by kernel_rfl) (by kernel_rfl) (by kernel_rfl) (fun _ _ _ h => h) (Or.inl ⟨rfl, ?_⟩) (by assumption) ?_
              rotate_left
              · intro w hSw; (try dsimp only at hSw); first | (go_simp; done) | (go_simp; with_reducible rfl)
              simp only [Act.put, List.setIfInBounds_toArray, List.set_cons_zero, List.set_cons_succ]
              refine wpAnyH_done (by kernel_rfl) ?_ _
              go_wp2_with fail
              go_roundw
              case rel => exact ⟨k + 1, by omega, by omega, by go_num, HBW⟩
              case measure => first | (simp [intOf]; done) | (simp [intOf]; omega)
            · have he : (vi == x) = false := by simp; exact hid
              clear HG1
              go_upto_region 21 with fail
              refine wp_region_held_drew (S := fun w' => w'.cell? ⟨ga, oa + k * 5, none⟩ = some (.int .i64 vi) ∧ w'.cell? ⟨ga, oa + k * 5 + 4, none⟩ = some (.int .i64 vl) ∧ w'.cell? ⟨gb, ob + k * 5 + 4, none⟩ = some (.int .i64 ul)) (by kernel_rfl) (by rw [← hW2]; exact ⟨ca0, ca4, cb4⟩) (fun hHeld => ?_)
              rw [← hW2] at hHeld ⊢
              clear hW2
              refine K.takeL 0 (v := ?_) rfl (by kernel_rfl) (by kernel_rfl) (by kernel_rfl) (fun _ _ _ h => h) (Or.inl ⟨rfl, ?_⟩) (by assumption) ?_
              rotate_left
              · intro w hSw; (try dsimp only at hSw); first | (go_simp; done) | (go_simp; with_reducible rfl)
              simp only [Act.put, List.setIfInBounds_toArray, List.set_cons_zero, List.set_cons_succ]
              refine K.takeL 1 (v := ?_) rfl (by kernel_rfl) (by kernel_rfl) (by kernel_rfl) (fun _ _ _ h => h) (Or.inl ⟨rfl, ?_⟩) (by assumption) ?_
              rotate_left
              · intro w hSw; (try dsimp only at hSw); first | (go_simp; done) | (go_simp; with_reducible rfl)
              simp only [Act.put, List.setIfInBounds_toArray, List.set_cons_zero, List.set_cons_succ]
              refine K.takeL 2 (v := ?_) rfl (by kernel_rfl) (by kernel_rfl) (by kernel_rfl) (fun _ _ _ h => h) (Or.inl ⟨rfl, ?_⟩) (by assumption) ?_
              rotate_left
              · intro w hSw; (try dsimp only at hSw); first | (go_simp; done) | (go_simp; with_reducible rfl)
              simp only [Act.put, List.setIfInBounds_toArray, List.set_cons_zero, List.set_cons_succ]
              refine K.takeL 3 (v := ?_) rfl (by kernel_rfl) (by kernel_rfl) (by kernel_rfl) (fun _ _ _ h => h) (Or.inl ⟨rfl, ?_⟩) (by assumption) ?_
              rotate_left
              · intro w hSw; (try dsimp only at hSw); first | (go_simp; done) | (go_simp; with_reducible rfl)
              simp only [Act.put, List.setIfInBounds_toArray, List.set_cons_zero, List.set_cons_succ]
              refine K.takeL 4 (v := ?_) rfl (by kernel_rfl) (by kernel_rfl) (by kernel_rfl) (fun _ _ _ h => h) (Or.inl ⟨rfl, ?_⟩) (by assumption) ?_
              rotate_left
              · intro w hSw; (try dsimp only at hSw); first | (go_simp; done) | (go_simp; with_reducible rfl)
              simp only [Act.put, List.setIfInBounds_toArray, List.set_cons_zero, List.set_cons_succ]
              refine K.takeL 5 (v := ?_) rfl (by kernel_rfl) (by kernel_rfl) (by kernel_rfl) (fun _ _ _ h => h) (Or.inl ⟨rfl, ?_⟩) (by assumption) ?_
              rotate_left
              · intro w hSw; (try dsimp only at hSw); first | (go_simp; done) | (go_simp; with_reducible rfl)
              simp only [Act.put, List.setIfInBounds_toArray, List.set_cons_zero, List.set_cons_succ]
              refine K.takeL 6 (v := ?_) rfl (by kernel_rfl) (by kernel_rfl) (by kernel_rfl) (fun _ _ _ h => h) (Or.inl ⟨rfl, ?_⟩) (by assumption) ?_
              rotate_left
              · intro w hSw; (try dsimp only at hSw); first | (go_simp; done) | (go_simp; with_reducible rfl)
              simp only [Act.put, List.setIfInBounds_toArray, List.set_cons_zero, List.set_cons_succ]
              refine K.takeL 7 (v := ?_) rfl (by kernel_rfl) (by kernel_rfl) (by kernel_rfl) (fun _ _ _ h => h) (Or.inl ⟨rfl, ?_⟩) (by assumption) ?_
              rotate_left
              · intro w hSw; (try dsimp only at hSw); first | (go_simp; done) | (go_simp; with_reducible rfl)
              simp only [Act.put, List.setIfInBounds_toArray, List.set_cons_zero, List.set_cons_succ]
              refine K.skipL 8 rfl (by kernel_rfl) (by kernel_rfl) (by kernel_rfl) (fun _ _ _ h => h) rfl (by assumption) ?_
              simp only [Act.put, List.setIfInBounds_toArray, List.set_cons_zero, List.set_cons_succ]
              refine K.skipL 9 rfl (by kernel_rfl) (by kernel_rfl) (by kernel_rfl) (fun _ _ _ h => h) rfl (by assumption) ?_
              simp only [Act.put, List.setIfInBounds_toArray, List.set_cons_zero, List.set_cons_succ]
              refine K.skipL 10 rfl (by kernel_rfl) (by kernel_rfl) (by kernel_rfl) (fun _ _ _ h => h) rfl (by assumption) ?_
              simp only [Act.put, List.setIfInBounds_toArray, List.set_cons_zero, List.set_cons_succ]
              refine K.skipL 11 rfl (by kernel_rfl) (by kernel_rfl) (by kernel_rfl) (fun _ _ _ h => h) rfl (by assumption) ?_
              simp only [Act.put, List.setIfInBounds_toArray, List.set_cons_zero, List.set_cons_succ]
              refine K.skipL 12 rfl (by kernel_rfl) (by kernel_rfl) (by kernel_rfl) (fun _ _ _ h => h) rfl (by assumption) ?_
              simp only [Act.put, List.setIfInBounds_toArray, List.set_cons_zero, List.set_cons_succ]
              refine K.skipL 13 rfl (by kernel_rfl) (by kernel_rfl) (by kernel_rfl) (fun _ _ _ h => h) rfl (by assumption) ?_
              simp only [Act.put, List.setIfInBounds_toArray, List.set_cons_zero, List.set_cons_succ]
              refine K.skipL 14 rfl (by kernel_rfl) (by kernel_rfl) (by kernel_rfl) (fun _ _ _ h => h) rfl (by assumption) ?_
              simp only [Act.put, List.setIfInBounds_toArray, List.set_cons_zero, List.set_cons_succ]
              refine K.skipL 15 rfl (by kernel_rfl) (by kernel_rfl) (by kernel_rfl) (fun _ _ _ h => h) rfl (by assumption) ?_
              simp only [Act.put, List.setIfInBounds_toArray, List.set_cons_zero, List.set_cons_succ]
              refine K.skipL 16 rfl (by kernel_rfl) (by kernel_rfl) (by kernel_rfl) (fun _ _ _ h => h) rfl (by assumption) ?_
              simp only [Act.put, List.setIfInBounds_toArray, List.set_cons_zero, List.set_cons_succ]
              refine K.skipL 17 rfl (by kernel_rfl) (by kernel_rfl) (by kernel_rfl) (fun _ _ _ h => h) rfl (by assumption) ?_
              simp only [Act.put, List.setIfInBounds_toArray, List.set_cons_zero, List.set_cons_succ]
              refine K.skipL 18 rfl (by kernel_rfl) (by kernel_rfl) (by kernel_rfl) (fun _ _ _ h => h) rfl (by assumption) ?_
              simp only [Act.put, List.setIfInBounds_toArray, List.set_cons_zero, List.set_cons_succ]
              refine K.skipL 19 rfl (by kernel_rfl) (by kernel_rfl) (by kernel_rfl) (fun _ _ _ h => h) rfl (by assumption) ?_
              simp only [Act.put, List.setIfInBounds_toArray, List.set_cons_zero, List.set_cons_succ]
              refine K.takeL 20 (v := ?_) rfl (by kernel_rfl) (by kernel_rfl) (by kernel_rfl) (fun _ _ _ h => h) (Or.inl ⟨rfl, ?_⟩) (by assumption) ?_
              rotate_left
              · intro w hSw; (try dsimp only at hSw); first | (go_simp; done) | (go_simp; with_reducible rfl)
              simp only [Act.put, List.setIfInBounds_toArray, List.set_cons_zero, List.set_cons_succ]
              refine wpAnyH_done (by kernel_rfl) ?_ _
              go_wp2_with fail
              go_roundw
              case rel => exact ⟨k + 1, by omega, by omega, by go_num, HBW⟩
              case measure => first | (simp [intOf]; done) | (simp [intOf]; omega)
          · have hi2 : ¬ ((k : Int) < (L.length : Int)) := by omega
            go_wp2_with fail
            go_meet
            exact HB.out
        · have hi1 : ¬ ((k : Int) < (p.length : Int)) := by omega
          go_wp2_with fail
          go_meet
          exact HB.out
    rename World => wq2
    have bq := hcut
    clear hcut HG RP RC hp7 HNM h13 hle hL7 hoo
    replace R := Lib.hid (R.out.below bq)
    replace RP0 := Lib.hid (RP0.out.below bq)
    replace BB := Lib.hid (BB.out.trans (bq.mono BB.out.size))
    clear bq
    have HI := Lib.hid (fun w h => PupilT.i_names X1 n1 p0 w hp70 HNM0.out hcap hcap2 h)
    have HS := Lib.hid (fun w h => PupilT.s_names X1 n1 p0 w hp70 HNM0.out h)
    obtain ⟨hbd1, hbd2⟩ := M.sameNames_bd p0
    have hsn := HSN.out
    clear HSN
    generalize M.sameNames p0 = Q at *
    obtain ⟨L, told⟩ := Q
    dsimp only at *
    subst hsn
    have hoo : (told != told) = false := by simp
    have HBD := Lib.hid (fun (ts : Tab.TS) (hm : ts.map (fun t => t.2.2) = L) => (⟨by have := congrArg List.length hm; simp at this; omega, fun t ht => hbd2 _ (by rw [← hm]; exact List.mem_map.2 ⟨t, ht, rfl⟩)⟩ : ts.length ≤ 12 ∧ ∀ t ∈ ts, t.2.2.length ≤ 12))
    clear hbd1 hbd2
    go_wp2_with fail
    refine (HI.out _ RP0.out).mono ?_
    rintro e w13 ⟨A13, d13, t13, rfl, M13, T13, b13⟩
    replace R := Lib.hid (R.out.below b13)
    replace RP0 := Lib.hid (RP0.out.below b13)
    replace BB := Lib.hid (BB.out.trans (b13.mono BB.out.size))
    clear b13
    have TA := Lib.hid T13.rd
    clear T13
    go_wp2_with fail
    refine (HS.out _ RP0.out).mono ?_
    rintro e w14 ⟨A14, d14, t14, rfl, M14, T14, b14⟩
    replace R := Lib.hid (R.out.below b14)
    replace RP0 := Lib.hid (RP0.out.below b14)
    replace TA := Lib.hid (TA.out.below b14)
    replace BB := Lib.hid (BB.out.trans (b14.mono BB.out.size))
    clear b14
    have TB := Lib.hid T14.rd
    clear T14
    go_wp2_with fail
    refine (Tab.rtable A13 A14 d13 d14 t13 t14 _ (M13.out.trans M14.out.symm) (HBD.out _ M13.out) TA.out TB.out).mono ?_
    rintro e w15 ⟨rfl, b15⟩
    replace R := Lib.hid (R.out.below b15)
    replace RP0 := Lib.hid (RP0.out.below b15)
    replace TA := Lib.hid (TA.out.below b15)
    replace TB := Lib.hid (TB.out.below b15)
    replace BB := Lib.hid (BB.out.trans (b15.mono BB.out.size))
    clear b15
    clear TA TB RP0
    clear HI HS HBD M13 M14 hoo HNM0 hp70 hcap hcap2
    go_wp2_with fail
    refine (PupilD.meanlevel A0 c0 l0 _ hl R.out).mono ?_
    rintro e w16 ⟨X16, n16, p, x, rfl, h13, hpn, hrp, b16⟩
    replace R := Lib.hid (R.out.below b16)
    replace BB := Lib.hid (BB.out.trans (b16.mono BB.out.size))
    clear b16
    have RP := Lib.hid hrp
    clear hrp
    have hp7 : p.length ≤ 1048576 := by omega
    have HNM := Lib.hid (fun (z : M.Pupil) (hz : z ∈ p) => show z.name.size ≤ 9223372036854775807 by have := hpn z hz; omega)
    clear hpn
    have HI := Lib.hid (fun w h => PupilE.i_mean X16 n16 p x w hp7 HNM.out h)
    have HS := Lib.hid (fun w h => PupilE.s_mean X16 n16 p x w hp7 HNM.out h)
    have hmo := M.meanLv_ok p x
    generalize M.meanLv p x = Q at *
    obtain ⟨⟨num, den⟩, known⟩ := Q
    dsimp only at *
    have h1 : (num != num) = false := by simp
    have h2 : (den != den) = false := by simp
    have h3 : (known != known) = false := by simp
    go_wp2_with fail
    refine (HI.out _ RP.out).mono ?_
    rintro e w17 ⟨rfl, b17⟩
    replace R := Lib.hid (R.out.below b17)
    replace RP := Lib.hid (RP.out.below b17)
    replace BB := Lib.hid (BB.out.trans (b17.mono BB.out.size))
    clear b17
    go_wp2_with fail
    refine (HS.out _ RP.out).mono ?_
    rintro e w18 ⟨rfl, b18⟩
    replace R := Lib.hid (R.out.below b18)
    replace RP := Lib.hid (RP.out.below b18)
    replace BB := Lib.hid (BB.out.trans (b18.mono BB.out.size))
    clear b18
    clear HI HS
    have HO := Lib.hid (fun w h => PupilO.i_oldest X16 n16 p x w hp7 HNM.out h)
    have HT := Lib.hid (fun w h => PupilO.s_oldest X16 n16 p x w hp7 HNM.out h)
    have HN := Lib.hid (fun w h => PupilI.i_inclass X16 n16 p x w hp7 HNM.out h)
    have hle := M.inClass_le p x
    have HG := Lib.hid (fun h => M.oldest_in (l := p) (c := x) h)
    generalize M.oldest p x = Q at *
    obtain ⟨old, good⟩ := Q
    dsimp only at *
    subst hmo
    have h4 : (old != old) = false := by simp
    go_wp2_with fail
    refine (HO.out _ RP.out).mono ?_
    rintro e w19 ⟨rfl, b19⟩
    replace R := Lib.hid (R.out.below b19)
    replace RP := Lib.hid (RP.out.below b19)
    replace BB := Lib.hid (BB.out.trans (b19.mono BB.out.size))
    clear b19
    go_wp2_with fail
    refine (HT.out _ RP.out).mono ?_
    rintro e w20 ⟨rfl, b20⟩
    replace R := Lib.hid (R.out.below b20)
    replace RP := Lib.hid (RP.out.below b20)
    replace BB := Lib.hid (BB.out.trans (b20.mono BB.out.size))
    clear b20
    clear HO HT
    generalize M.inClass p x = Q at *
    obtain ⟨L2, there⟩ := Q
    dsimp only at *
    have hL7 : L2.length ≤ 1048576 := by omega
    go_wp2_with fail
    refine (HN.out _ RP.out).mono ?_
    rintro e w21 ⟨X21, n21, rfl, q21, b21⟩
    replace R := Lib.hid (R.out.below b21)
    replace RP := Lib.hid (RP.out.below b21)
    replace BB := Lib.hid (BB.out.trans (b21.mono BB.out.size))
    clear b21
    have RS := Lib.hid q21.rd
    clear q21
    cases known with
    | false =>
      go_wp2_with fail
      go_ret
      exact ⟨rfl, BB.out⟩
    | true =>
      obtain ⟨e1, e2⟩ := HG.out rfl
      have hm := decide_eq_true e2
      have HM := Lib.hid hm
      clear e2 hm HG
      subst e1
      go_wp2_with fail
      refine (PupilD.rhas _ _ L2 old _ hL7 RS.out).mono ?_
      rintro e u4 ⟨rfl, rfl⟩
      rw [HM.out]
      go_wp2_with fail
      go_ret
      exact ⟨rfl, BB.out⟩
end Go.Proofs.Ytebbihckndjbeaa.fnLevels
