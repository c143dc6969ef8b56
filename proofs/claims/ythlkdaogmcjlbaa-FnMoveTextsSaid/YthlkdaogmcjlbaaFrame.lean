/-
  Walks: frames, in the program and in the reference.
-/
import Derived.Test.YthlkdaogmcjlbaaFrameH
import Derived.Test.YthlkdaogmcjlbaaBase
set_option linter.unusedVariables false
namespace Go.Proofs.Ythlkdaogmcjlbaa.Frame
open Go.RowKit

set_option maxHeartbeats 2000000 in
theorem s_good (f : M.Frame) (A : Option Addr) (c : Nat) (w : World) (hl : f.rods.length ≤ 1048576) (ha : K.Rd w 2 A f.rods.length (f.rods.flatMap M.rodCells)) :
    Calls Try.prog 67 #[.agg #[.int .i64 f.upper, .int .i64 f.lower, .slice A f.rods.length c]] w fun e w' => e = .returned (.bool f.ok) ∧ Below w.heap.size w w' := by
  obtain ⟨u, lo, l⟩ := f
  have hF : Hid ((M.Frame.mk u lo l).ok = (M.inR u 1 2 && M.inR lo 4 5 && M.inR l.length 1 8 && l.all (M.rodOk u lo))) := rfl
  generalize (M.Frame.mk u lo l).ok = R at hF ⊢
  dsimp only at hl ha ⊢
  have ha1 := fun o => ha.alloc o
  go_enter Try.func67, Try.ntmps67
  go_wp2_with fail
  go_loopw [3] (fun i wr => ∃ k : Nat, k ≤ l.length ∧ i = .int .i64 k ∧ Hid ((l.take k).all (M.rodOk u lo) = true) ∧ K.Qt (w.alloc (.cells #[.int .i64 u, .int .i64 lo, .slice A l.length c] 33)) wr) (fun i _ => l.length - (intOf i).toNat)
  case atStart => exact ⟨0, Nat.zero_le _, rfl, Lib.hid (by simp), K.Qt.refl _⟩
  case round =>
    obtain ⟨k, hk, rfl, hall, hq⟩ := hrel
    have b0 : wr.cell? ⟨w.heap.size, 0, none⟩ = some (.int .i64 u) := by rw [hq.cell]; simp [go_sem]
    have b1 : wr.cell? ⟨w.heap.size, 1, none⟩ = some (.int .i64 lo) := by rw [hq.cell]; simp [go_sem]
    have b2 : wr.cell? ⟨w.heap.size, 2, none⟩ = some (.slice A l.length c) := by rw [hq.cell]; simp [go_sem]
    have hbw := (((Below.refl w.heap.size w).alloc (Nat.le_refl _) _)).trans (hq.below w.heap.size)
    by_cases hlt : k < l.length
    · obtain ⟨g, o, rfl, hg, c0, c1⟩ := (hq.rd (ha1 _)).rod hlt
      have h1 : (k : Int) < (l.length : Int) := by omega
      have h2 : (0 : Int) ≤ (k : Int) := by omega
      have HA := Lib.hid (M.all_take_succ (M.rodOk u lo) l k hlt)
      have HX : Hid (M.rodOk u lo l[k] = (M.inR l[k].1 0 u && M.inR l[k].2 0 lo)) := rfl
      generalize M.rodOk u lo l[k] = rk at HA HX
      generalize l[k].1 = x at *
      generalize l[k].2 = y at *
      by_cases hx : 0 ≤ x ∧ x ≤ u
      · obtain ⟨hx1, hx2⟩ := hx
        by_cases hy : 0 ≤ y ∧ y ≤ lo
        · obtain ⟨hy1, hy2⟩ := hy
          have HK := Lib.hid (show (l.take (k + 1)).all (M.rodOk u lo) = true by rw [HA.out, hall.out, HX.out, M.inR_yes hx1 hx2, M.inR_yes hy1 hy2]; rfl)
          go_wp2_with fail
          go_quiet ((go_at_call 89; exact K.quiet_l (Base.s_in_yes _ _ _ _ (by omega) (by omega))))
          go_wp2
          go_roundw
          case rel => exact ⟨k + 1, by omega, by go_num, HK, hq.then_ _⟩
          case measure => simp [intOf]; omega
        · have HK := Lib.hid (show R = false by rw [hF.out, M.all_take_false (k := k + 1) (by rw [HA.out, HX.out, M.inR_no (n := y) (by omega)]; simp)]; simp)
          go_wp2_with fail
          go_quiet ((go_at_call 89; first | exact K.quiet_l (Base.s_in_yes _ _ _ _ (by omega) (by omega)) | exact K.quiet_l (Base.s_in_no _ _ _ _ (by omega))))
          go_wp2
          go_ret
          exact ⟨K.ret_bool HK.out.symm, K.below_drewN hbw _⟩
      · have HK := Lib.hid (show R = false by rw [hF.out, M.all_take_false (k := k + 1) (by rw [HA.out, HX.out, M.inR_no (n := x) (by omega)]; simp)]; simp)
        go_wp2_with fail
        go_quiet ((go_at_call 89; exact K.quiet_l (Base.s_in_no _ _ _ _ (by omega))))
        go_wp2
        go_ret
        exact ⟨K.ret_bool HK.out.symm, K.below_drewN hbw _⟩
    · obtain rfl : k = l.length := by omega
      have hx := hF.out
      have ha' := hall.out
      rw [List.take_length] at ha'
      rw [ha', Bool.and_true] at hx
      have HX := Lib.hid hx
      clear hx ha' hall hF
      by_cases hu : 1 ≤ u ∧ u ≤ 2
      · by_cases ho : 4 ≤ lo ∧ lo ≤ 5
        · go_wp2_with fail
          refine (Base.s_in_yes _ _ _ _ (by omega) (by omega)).mono ?_
          rintro e w1 ⟨rfl, rfl⟩
          go_wp2_with fail
          refine (Base.s_in_yes _ _ _ _ (by omega) (by omega)).mono ?_
          rintro e w1 ⟨rfl, rfl⟩
          go_wp2_with fail
          refine (Base.s_in _ _ _ _).mono ?_
          rintro e w1 ⟨rfl, rfl⟩
          go_wp2
          go_ret
          exact ⟨K.ret_bool (by rw [HX.out, M.inR_yes hu.1 hu.2, M.inR_yes ho.1 ho.2]; simp), hbw⟩
        · go_wp2_with fail
          refine (Base.s_in_yes _ _ _ _ (by omega) (by omega)).mono ?_
          rintro e w1 ⟨rfl, rfl⟩
          go_wp2_with fail
          refine (Base.s_in_no _ _ _ _ (by omega)).mono ?_
          rintro e w1 ⟨rfl, rfl⟩
          go_wp2
          go_ret
          exact ⟨K.ret_bool (by rw [HX.out, M.inR_no (n := lo) (by omega)]; simp), hbw⟩
      · go_wp2_with fail
        refine (Base.s_in_no _ _ _ _ (by omega)).mono ?_
        rintro e w1 ⟨rfl, rfl⟩
        go_wp2
        go_ret
        exact ⟨K.ret_bool (by rw [HX.out, M.inR_no (n := u) (by omega)]; simp), hbw⟩
theorem s_isframe (f : M.Frame) (A : Option Addr) (c : Nat) (w : World) (hl : f.rods.length ≤ 1048576) (ha : K.Rd w 2 A f.rods.length (f.rods.flatMap M.rodCells)) :
    Calls Try.prog 22 #[.agg #[.int .i64 f.upper, .int .i64 f.lower, .slice A f.rods.length c]] w fun e w' => e = .returned (.bool f.ok) ∧ Below w.heap.size w w' := by
  go_enter Try.func22, Try.ntmps22
  go_wp2_with fail
  refine (s_good f A c _ hl (ha.alloc _)).mono ?_
  rintro e w1 ⟨rfl, b1⟩
  have hb0 : Below w.heap.size w w1 := ((Below.refl w.heap.size w).alloc (Nat.le_refl _) _).trans (b1.mono (by simp))
  clear b1
  go_wp2
  go_ret
  exact ⟨rfl, hb0⟩
set_option maxHeartbeats 2000000 in
theorem i_isframe (f : M.Frame) (A : Option Addr) (c : Nat) (w : World) (hl : f.rods.length ≤ 1048576) (ha : K.Rd w 2 A f.rods.length (f.rods.flatMap M.rodCells)) :
    Calls Try.prog 24 #[.agg #[.int .i64 f.upper, .int .i64 f.lower, .slice A f.rods.length c]] w fun e w' => e = .returned (.bool f.ok) ∧ Below w.heap.size w w' := by
  obtain ⟨u, lo, l⟩ := f
  have hF : Hid ((M.Frame.mk u lo l).ok = (M.inR u 1 2 && M.inR lo 4 5 && M.inR l.length 1 8 && l.all (M.rodOk u lo))) := rfl
  generalize (M.Frame.mk u lo l).ok = R at hF ⊢
  dsimp only at hl ha ⊢
  have ha1 := fun o => ha.alloc o
  by_cases hu : 1 ≤ u ∧ u ≤ 2
  · by_cases ho : 4 ≤ lo ∧ lo ≤ 5
    · by_cases hn : 1 ≤ (l.length : Int) ∧ (l.length : Int) ≤ 8
      · have hx := hF.out
        rw [M.inR_yes hu.1 hu.2, M.inR_yes ho.1 ho.2, M.inR_yes hn.1 hn.2] at hx
        simp only [Bool.true_and] at hx
        have HX := Lib.hid hx
        clear hx hF
        obtain ⟨hu1, hu2⟩ := hu
        obtain ⟨ho1, ho2⟩ := ho
        obtain ⟨hn1, hn2⟩ := hn
        go_enter Try.func24, Try.ntmps24
        go_wp2_with (go_at_call 65; refine (Base.i_within_yes _ _ _ _ (by omega) (by omega)).mono ?_; rintro e w1 ⟨rfl, rfl⟩)
        go_loopw [25] (fun i wr => ∃ k : Nat, k ≤ l.length ∧ i = .int .i64 k ∧ Hid ((l.take k).all (M.rodOk u lo) = true) ∧ Below (w.alloc (.cells #[.int .i64 u, .int .i64 lo, .slice A l.length c] 33)).heap.size (w.alloc (.cells #[.int .i64 u, .int .i64 lo, .slice A l.length c] 33)) wr) (fun i _ => l.length - (intOf i).toNat)
        case atStart => exact ⟨0, Nat.zero_le _, rfl, Lib.hid (by simp), Below.refl _ _⟩
        case round =>
          obtain ⟨k, hk, rfl, hall, hq⟩ := hrel
          have b0 : wr.cell? ⟨w.heap.size, 0, none⟩ = some (.int .i64 u) := by rw [hq.cell (by simp)]; simp [go_sem]
          have b1 : wr.cell? ⟨w.heap.size, 1, none⟩ = some (.int .i64 lo) := by rw [hq.cell (by simp)]; simp [go_sem]
          have hz : w.heap.size < wr.heap.size := by have := hq.size; simp only [World.size_alloc] at this; omega
          have hbw : Below w.heap.size w wr := (((Below.refl w.heap.size w).alloc (Nat.le_refl _) _)).trans (hq.mono (by simp))
          have hq' := hq
          clear hq
          by_cases hlt : k < l.length
          · obtain ⟨g, o, rfl, hg, c0, c1⟩ := ((ha1 _).below hq').rod hlt
            have h1 : (k : Int) < (l.length : Int) := by omega
            have h2 : (0 : Int) ≤ (k : Int) := by omega
            have HA := Lib.hid (M.all_take_succ (M.rodOk u lo) l k hlt)
            have HXX : Hid (M.rodOk u lo l[k] = (M.inR l[k].1 0 u && M.inR l[k].2 0 lo)) := rfl
            generalize M.rodOk u lo l[k] = rk at HA HXX
            generalize l[k].1 = x at *
            generalize l[k].2 = y at *
            have HQ := Lib.hid hq'
            have HBW := Lib.hid hbw
            clear hq' hbw ha ha1
            by_cases hx : 0 ≤ x ∧ x ≤ u
            · obtain ⟨hx1, hx2⟩ := hx
              by_cases hy : 0 ≤ y ∧ y ≤ lo
              · obtain ⟨hy1, hy2⟩ := hy
                have HK := Lib.hid (show (l.take (k + 1)).all (M.rodOk u lo) = true by rw [HA.out, hall.out, HXX.out, M.inR_yes hx1 hx2, M.inR_yes hy1 hy2]; rfl)
                go_wp2_with (go_at_call 65; refine (Base.i_within_yes _ _ _ _ (by omega) (by omega)).mono ?_; rintro e w1 ⟨rfl, rfl⟩)
                go_roundw
                case rel => exact ⟨k + 1, by omega, by go_num, HK, HQ.out.alloc (by simp; omega) _⟩
                case measure => simp [intOf]; omega
              · have HK := Lib.hid (show R = false by rw [HX.out, M.all_take_false (k := k + 1) (by rw [HA.out, HXX.out, M.inR_no (n := y) (by omega)]; simp)])
                go_wp2_with (go_at_call 65; first | (refine (Base.i_within_yes _ _ _ _ (by omega) (by omega)).mono ?_; rintro e w1 ⟨rfl, rfl⟩) | (refine (Base.i_within_no _ _ _ _ (by omega)).mono ?_; rintro e w1 ⟨rfl, rfl⟩))
                go_ret
                exact ⟨K.ret_bool HK.out.symm, HBW.out.alloc (by omega) _⟩
            · have HK := Lib.hid (show R = false by rw [HX.out, M.all_take_false (k := k + 1) (by rw [HA.out, HXX.out, M.inR_no (n := x) (by omega)]; simp)])
              go_wp2_with (go_at_call 65; refine (Base.i_within_no _ _ _ _ (by omega)).mono ?_; rintro e w1 ⟨rfl, rfl⟩)
              go_ret
              exact ⟨K.ret_bool HK.out.symm, HBW.out.alloc (by omega) _⟩
          · obtain rfl : k = l.length := by omega
            have ha' := hall.out
            rw [List.take_length] at ha'
            have HK := Lib.hid (HX.out.trans ha')
            clear ha' hall
            go_wp2_with fail
            go_ret
            exact ⟨K.ret_bool HK.out.symm, hbw⟩
      · have HK := Lib.hid (show R = false by rw [hF.out, M.inR_no (n := (l.length : Int)) (by omega)]; simp)
        clear hF
        obtain ⟨hu1, hu2⟩ := hu
        obtain ⟨ho1, ho2⟩ := ho
        go_enter Try.func24, Try.ntmps24
        go_wp2_with (go_at_call 65; first | (refine (Base.i_within_yes _ _ _ _ (by omega) (by omega)).mono ?_; rintro e w1 ⟨rfl, rfl⟩) | (refine (Base.i_within_no _ _ _ _ (by omega)).mono ?_; rintro e w1 ⟨rfl, rfl⟩))
        go_ret
        exact ⟨K.ret_bool HK.out.symm, by (repeat (first | exact Below.refl _ _ | assumption | (refine K.below_drewN ?_ _) | (refine Below.drew ?_) | (refine Below.alloc ?_ (by first | (simp; done) | (simp; omega) | omega) _) | (refine Below.setCell ?_ (by first | (simp; done) | (simp; omega) | omega) _)))⟩
    · have HK := Lib.hid (show R = false by rw [hF.out, M.inR_no (n := lo) (by omega)]; simp)
      clear hF
      obtain ⟨hu1, hu2⟩ := hu
      go_enter Try.func24, Try.ntmps24
      go_wp2_with (go_at_call 65; first | (refine (Base.i_within_yes _ _ _ _ (by omega) (by omega)).mono ?_; rintro e w1 ⟨rfl, rfl⟩) | (refine (Base.i_within_no _ _ _ _ (by omega)).mono ?_; rintro e w1 ⟨rfl, rfl⟩))
      go_ret
      exact ⟨K.ret_bool HK.out.symm, by (repeat (first | exact Below.refl _ _ | assumption | (refine K.below_drewN ?_ _) | (refine Below.drew ?_) | (refine Below.alloc ?_ (by first | (simp; done) | (simp; omega) | omega) _) | (refine Below.setCell ?_ (by first | (simp; done) | (simp; omega) | omega) _)))⟩
  · have HK := Lib.hid (show R = false by rw [hF.out, M.inR_no (n := u) (by omega)]; simp)
    clear hF
    go_enter Try.func24, Try.ntmps24
    go_wp2_with (go_at_call 65; refine (Base.i_within_no _ _ _ _ (by omega)).mono ?_; rintro e w1 ⟨rfl, rfl⟩)
    go_ret
    exact ⟨K.ret_bool HK.out.symm, by (repeat (first | exact Below.refl _ _ | assumption | (refine K.below_drewN ?_ _) | (refine Below.drew ?_) | (refine Below.alloc ?_ (by first | (simp; done) | (simp; omega) | omega) _) | (refine Below.setCell ?_ (by first | (simp; done) | (simp; omega) | omega) _)))⟩
end Go.Proofs.Ythlkdaogmcjlbaa.Frame
