/-
  Walks: one pupil (printed by gen_pupil1.py).
-/
import Derived.Test.YtebbihckndjbeaaWord
import Derived.Test.YtebbihckndjbeaaKit2
set_option linter.unusedVariables false
namespace Go.Proofs.Ytebbihckndjbeaa.M
def Pupil.ok (p : Pupil) : Bool := inR p.id 1 999 && word p.name && inR p.born 1900 2100 && inR p.cls 0 9 && inR p.level 0 10
theorem Pupil.ok_iff (p : Pupil) : p.ok = true ↔ (1 ≤ p.id ∧ p.id ≤ 999) ∧ word p.name = true ∧ (1900 ≤ p.born ∧ p.born ≤ 2100) ∧ (0 ≤ p.cls ∧ p.cls ≤ 9) ∧ (0 ≤ p.level ∧ p.level ≤ 10) := by
  simp only [Pupil.ok, Bool.and_eq_true, inR_iff, and_assoc]
end Go.Proofs.Ytebbihckndjbeaa.M
namespace Go.Proofs.Ytebbihckndjbeaa.PupilF
open Go.RowKit
theorem i_id (n : Int) (w : World) : Calls Try.prog 65 #[.int .i64 n] w fun e w' => e = .returned (.bool (M.inR n 1 999)) ∧ w = w' := by
  go_enter Try.func65, Try.ntmps65
  go_wp2_with (go_at_call 67; refine (Base.i_within _ _ _ _).mono ?_; rintro e w1 ⟨rfl, rfl⟩)
  go_ret
  exact ⟨rfl, rfl⟩
set_option maxHeartbeats 2000000 in
theorem i_one (p : M.Pupil) (w : World) (hp : p.name.size ≤ 9223372036854775807) :
    Calls Try.prog 19 #[.agg #[.int .i64 p.id, .string p.name, .int .i64 p.born, .int .i64 p.cls, .int .i64 p.level]] w fun e w' => e = .returned (.bool p.ok) ∧ Below w.heap.size w w' := by
  obtain ⟨x, s, y, z, t⟩ := p
  dsimp only at hp ⊢
  have hF : Hid ((M.Pupil.mk x s y z t).ok = (M.inR x 1 999 && M.word s && M.inR y 1900 2100 && M.inR z 0 9 && M.inR t 0 10)) := rfl
  generalize (M.Pupil.mk x s y z t).ok = R at hF ⊢
  have HW := Lib.hid (fun w => Word.i_word s w hp)
  generalize M.word s = bw at hF HW
  by_cases hx : 1 ≤ x ∧ x ≤ 999
  · obtain ⟨hx1, hx2⟩ := hx
    have HI := Lib.hid (fun w => i_id x w)
    rw [M.inR_yes hx1 hx2] at HI
    cases bw with
    | true =>
      by_cases hy : 1900 ≤ y ∧ y ≤ 2100
      · obtain ⟨hy1, hy2⟩ := hy
        by_cases hz : 0 ≤ z ∧ z ≤ 9
        · obtain ⟨hz1, hz2⟩ := hz
          by_cases ht : 0 ≤ t ∧ t ≤ 10
          · obtain ⟨ht1, ht2⟩ := ht
            have HK := Lib.hid (show R = true by rw [hF.out]; simp [M.inR] <;> omega)
            clear hF
            go_enter Try.func19, Try.ntmps19
            go_wp2_with (first | (go_at_call 67; first | (refine (Base.i_within_yes _ _ _ _ (by omega) (by omega)).mono ?_; rintro e w1 ⟨rfl, rfl⟩) | (refine (Base.i_within_no _ _ _ _ (by omega)).mono ?_; rintro e w1 ⟨rfl, rfl⟩)) | (go_at_call 66; refine (HW.out _).mono ?_; rintro e w1 ⟨rfl, rfl⟩) | (go_at_call 65; refine (HI.out _).mono ?_; rintro e w1 ⟨rfl, rfl⟩))
            go_ret
            exact ⟨K.ret_bool HK.out.symm, by (repeat (first | exact Below.refl _ _ | assumption | (refine K.below_drewN ?_ _) | (refine Below.drew ?_) | (refine Below.alloc ?_ (by first | (simp; done) | (simp; omega) | omega) _) | (refine Below.setCell ?_ (by first | (simp; done) | (simp; omega) | omega) _)))⟩
          · skip
            have HK := Lib.hid (show R = false by rw [hF.out]; simp [M.inR] <;> omega)
            clear hF
            go_enter Try.func19, Try.ntmps19
            go_wp2_with (first | (go_at_call 67; first | (refine (Base.i_within_yes _ _ _ _ (by omega) (by omega)).mono ?_; rintro e w1 ⟨rfl, rfl⟩) | (refine (Base.i_within_no _ _ _ _ (by omega)).mono ?_; rintro e w1 ⟨rfl, rfl⟩)) | (go_at_call 66; refine (HW.out _).mono ?_; rintro e w1 ⟨rfl, rfl⟩) | (go_at_call 65; refine (HI.out _).mono ?_; rintro e w1 ⟨rfl, rfl⟩))
            go_ret
            exact ⟨K.ret_bool HK.out.symm, by (repeat (first | exact Below.refl _ _ | assumption | (refine K.below_drewN ?_ _) | (refine Below.drew ?_) | (refine Below.alloc ?_ (by first | (simp; done) | (simp; omega) | omega) _) | (refine Below.setCell ?_ (by first | (simp; done) | (simp; omega) | omega) _)))⟩
        · skip
          have HK := Lib.hid (show R = false by rw [hF.out]; simp [M.inR] <;> omega)
          clear hF
          go_enter Try.func19, Try.ntmps19
          go_wp2_with (first | (go_at_call 67; first | (refine (Base.i_within_yes _ _ _ _ (by omega) (by omega)).mono ?_; rintro e w1 ⟨rfl, rfl⟩) | (refine (Base.i_within_no _ _ _ _ (by omega)).mono ?_; rintro e w1 ⟨rfl, rfl⟩)) | (go_at_call 66; refine (HW.out _).mono ?_; rintro e w1 ⟨rfl, rfl⟩) | (go_at_call 65; refine (HI.out _).mono ?_; rintro e w1 ⟨rfl, rfl⟩))
          go_ret
          exact ⟨K.ret_bool HK.out.symm, by (repeat (first | exact Below.refl _ _ | assumption | (refine K.below_drewN ?_ _) | (refine Below.drew ?_) | (refine Below.alloc ?_ (by first | (simp; done) | (simp; omega) | omega) _) | (refine Below.setCell ?_ (by first | (simp; done) | (simp; omega) | omega) _)))⟩
      · skip
        have HK := Lib.hid (show R = false by rw [hF.out]; simp [M.inR] <;> omega)
        clear hF
        go_enter Try.func19, Try.ntmps19
        go_wp2_with (first | (go_at_call 67; first | (refine (Base.i_within_yes _ _ _ _ (by omega) (by omega)).mono ?_; rintro e w1 ⟨rfl, rfl⟩) | (refine (Base.i_within_no _ _ _ _ (by omega)).mono ?_; rintro e w1 ⟨rfl, rfl⟩)) | (go_at_call 66; refine (HW.out _).mono ?_; rintro e w1 ⟨rfl, rfl⟩) | (go_at_call 65; refine (HI.out _).mono ?_; rintro e w1 ⟨rfl, rfl⟩))
        go_ret
        exact ⟨K.ret_bool HK.out.symm, by (repeat (first | exact Below.refl _ _ | assumption | (refine K.below_drewN ?_ _) | (refine Below.drew ?_) | (refine Below.alloc ?_ (by first | (simp; done) | (simp; omega) | omega) _) | (refine Below.setCell ?_ (by first | (simp; done) | (simp; omega) | omega) _)))⟩
    | false =>
      have HK := Lib.hid (show R = false by rw [hF.out]; simp [M.inR] <;> omega)
      clear hF
      go_enter Try.func19, Try.ntmps19
      go_wp2_with (first | (go_at_call 67; first | (refine (Base.i_within_yes _ _ _ _ (by omega) (by omega)).mono ?_; rintro e w1 ⟨rfl, rfl⟩) | (refine (Base.i_within_no _ _ _ _ (by omega)).mono ?_; rintro e w1 ⟨rfl, rfl⟩)) | (go_at_call 66; refine (HW.out _).mono ?_; rintro e w1 ⟨rfl, rfl⟩) | (go_at_call 65; refine (HI.out _).mono ?_; rintro e w1 ⟨rfl, rfl⟩))
      go_ret
      exact ⟨K.ret_bool HK.out.symm, by (repeat (first | exact Below.refl _ _ | assumption | (refine K.below_drewN ?_ _) | (refine Below.drew ?_) | (refine Below.alloc ?_ (by first | (simp; done) | (simp; omega) | omega) _) | (refine Below.setCell ?_ (by first | (simp; done) | (simp; omega) | omega) _)))⟩
  · skip
    have HI := Lib.hid (fun w => i_id x w)
    rw [M.inR_no (by omega)] at HI
    have HK := Lib.hid (show R = false by rw [hF.out]; simp [M.inR] <;> omega)
    clear hF
    go_enter Try.func19, Try.ntmps19
    go_wp2_with (first | (go_at_call 67; first | (refine (Base.i_within_yes _ _ _ _ (by omega) (by omega)).mono ?_; rintro e w1 ⟨rfl, rfl⟩) | (refine (Base.i_within_no _ _ _ _ (by omega)).mono ?_; rintro e w1 ⟨rfl, rfl⟩)) | (go_at_call 66; refine (HW.out _).mono ?_; rintro e w1 ⟨rfl, rfl⟩) | (go_at_call 65; refine (HI.out _).mono ?_; rintro e w1 ⟨rfl, rfl⟩))
    go_ret
    exact ⟨K.ret_bool HK.out.symm, by (repeat (first | exact Below.refl _ _ | assumption | (refine K.below_drewN ?_ _) | (refine Below.drew ?_) | (refine Below.alloc ?_ (by first | (simp; done) | (simp; omega) | omega) _) | (refine Below.setCell ?_ (by first | (simp; done) | (simp; omega) | omega) _)))⟩
set_option maxHeartbeats 2000000 in
theorem s_one (p : M.Pupil) (w : World) (hp : p.name.size ≤ 9223372036854775807) :
    Calls Try.prog 64 #[.agg #[.int .i64 p.id, .string p.name, .int .i64 p.born, .int .i64 p.cls, .int .i64 p.level]] w fun e w' => e = .returned (.bool p.ok) ∧ Below w.heap.size w w' := by
  obtain ⟨x, s, y, z, t⟩ := p
  dsimp only at hp ⊢
  have hF : Hid ((M.Pupil.mk x s y z t).ok = (M.inR x 1 999 && M.word s && M.inR y 1900 2100 && M.inR z 0 9 && M.inR t 0 10)) := rfl
  generalize (M.Pupil.mk x s y z t).ok = R at hF ⊢
  have HW := Lib.hid (fun w => Word.s_word s w hp)
  generalize M.word s = bw at hF HW
  by_cases hx : 1 ≤ x ∧ x ≤ 999
  · obtain ⟨hx1, hx2⟩ := hx
    cases bw with
    | true =>
      by_cases hy : 1900 ≤ y ∧ y ≤ 2100
      · obtain ⟨hy1, hy2⟩ := hy
        by_cases hz : 0 ≤ z ∧ z ≤ 9
        · obtain ⟨hz1, hz2⟩ := hz
          by_cases ht : 0 ≤ t ∧ t ≤ 10
          · obtain ⟨ht1, ht2⟩ := ht
            have HK := Lib.hid (show R = true by rw [hF.out]; simp [M.inR] <;> omega)
            clear hF
            go_enter Try.func64, Try.ntmps64
            go_wp2_with (first | (go_at_call 76; first | (refine (Base.s_in_yes _ _ _ _ (by omega) (by omega)).mono ?_; rintro e w1 ⟨rfl, rfl⟩) | (refine (Base.s_in_no _ _ _ _ (by omega)).mono ?_; rintro e w1 ⟨rfl, rfl⟩)) | (go_at_call 84; refine (HW.out _).mono ?_; rintro e w1 ⟨rfl, rfl⟩))
            go_ret
            exact ⟨K.ret_bool HK.out.symm, by (repeat (first | exact Below.refl _ _ | assumption | (refine K.below_drewN ?_ _) | (refine Below.drew ?_) | (refine Below.alloc ?_ (by first | (simp; done) | (simp; omega) | omega) _) | (refine Below.setCell ?_ (by first | (simp; done) | (simp; omega) | omega) _)))⟩
          · skip
            have HK := Lib.hid (show R = false by rw [hF.out]; simp [M.inR] <;> omega)
            clear hF
            go_enter Try.func64, Try.ntmps64
            go_wp2_with (first | (go_at_call 76; first | (refine (Base.s_in_yes _ _ _ _ (by omega) (by omega)).mono ?_; rintro e w1 ⟨rfl, rfl⟩) | (refine (Base.s_in_no _ _ _ _ (by omega)).mono ?_; rintro e w1 ⟨rfl, rfl⟩)) | (go_at_call 84; refine (HW.out _).mono ?_; rintro e w1 ⟨rfl, rfl⟩))
            go_ret
            exact ⟨K.ret_bool HK.out.symm, by (repeat (first | exact Below.refl _ _ | assumption | (refine K.below_drewN ?_ _) | (refine Below.drew ?_) | (refine Below.alloc ?_ (by first | (simp; done) | (simp; omega) | omega) _) | (refine Below.setCell ?_ (by first | (simp; done) | (simp; omega) | omega) _)))⟩
        · skip
          have HK := Lib.hid (show R = false by rw [hF.out]; simp [M.inR] <;> omega)
          clear hF
          go_enter Try.func64, Try.ntmps64
          go_wp2_with (first | (go_at_call 76; first | (refine (Base.s_in_yes _ _ _ _ (by omega) (by omega)).mono ?_; rintro e w1 ⟨rfl, rfl⟩) | (refine (Base.s_in_no _ _ _ _ (by omega)).mono ?_; rintro e w1 ⟨rfl, rfl⟩)) | (go_at_call 84; refine (HW.out _).mono ?_; rintro e w1 ⟨rfl, rfl⟩))
          go_ret
          exact ⟨K.ret_bool HK.out.symm, by (repeat (first | exact Below.refl _ _ | assumption | (refine K.below_drewN ?_ _) | (refine Below.drew ?_) | (refine Below.alloc ?_ (by first | (simp; done) | (simp; omega) | omega) _) | (refine Below.setCell ?_ (by first | (simp; done) | (simp; omega) | omega) _)))⟩
      · skip
        have HK := Lib.hid (show R = false by rw [hF.out]; simp [M.inR] <;> omega)
        clear hF
        go_enter Try.func64, Try.ntmps64
        go_wp2_with (first | (go_at_call 76; first | (refine (Base.s_in_yes _ _ _ _ (by omega) (by omega)).mono ?_; rintro e w1 ⟨rfl, rfl⟩) | (refine (Base.s_in_no _ _ _ _ (by omega)).mono ?_; rintro e w1 ⟨rfl, rfl⟩)) | (go_at_call 84; refine (HW.out _).mono ?_; rintro e w1 ⟨rfl, rfl⟩))
        go_ret
        exact ⟨K.ret_bool HK.out.symm, by (repeat (first | exact Below.refl _ _ | assumption | (refine K.below_drewN ?_ _) | (refine Below.drew ?_) | (refine Below.alloc ?_ (by first | (simp; done) | (simp; omega) | omega) _) | (refine Below.setCell ?_ (by first | (simp; done) | (simp; omega) | omega) _)))⟩
    | false =>
      have HK := Lib.hid (show R = false by rw [hF.out]; simp [M.inR] <;> omega)
      clear hF
      go_enter Try.func64, Try.ntmps64
      go_wp2_with (first | (go_at_call 76; first | (refine (Base.s_in_yes _ _ _ _ (by omega) (by omega)).mono ?_; rintro e w1 ⟨rfl, rfl⟩) | (refine (Base.s_in_no _ _ _ _ (by omega)).mono ?_; rintro e w1 ⟨rfl, rfl⟩)) | (go_at_call 84; refine (HW.out _).mono ?_; rintro e w1 ⟨rfl, rfl⟩))
      go_ret
      exact ⟨K.ret_bool HK.out.symm, by (repeat (first | exact Below.refl _ _ | assumption | (refine K.below_drewN ?_ _) | (refine Below.drew ?_) | (refine Below.alloc ?_ (by first | (simp; done) | (simp; omega) | omega) _) | (refine Below.setCell ?_ (by first | (simp; done) | (simp; omega) | omega) _)))⟩
  · skip
    have HK := Lib.hid (show R = false by rw [hF.out]; simp [M.inR] <;> omega)
    clear hF
    go_enter Try.func64, Try.ntmps64
    go_wp2_with (first | (go_at_call 76; first | (refine (Base.s_in_yes _ _ _ _ (by omega) (by omega)).mono ?_; rintro e w1 ⟨rfl, rfl⟩) | (refine (Base.s_in_no _ _ _ _ (by omega)).mono ?_; rintro e w1 ⟨rfl, rfl⟩)) | (go_at_call 84; refine (HW.out _).mono ?_; rintro e w1 ⟨rfl, rfl⟩))
    go_ret
    exact ⟨K.ret_bool HK.out.symm, by (repeat (first | exact Below.refl _ _ | assumption | (refine K.below_drewN ?_ _) | (refine Below.drew ?_) | (refine Below.alloc ?_ (by first | (simp; done) | (simp; omega) | omega) _) | (refine Below.setCell ?_ (by first | (simp; done) | (simp; omega) | omega) _)))⟩
theorem s_isone (p : M.Pupil) (w : World) (hp : p.name.size ≤ 9223372036854775807) :
    Calls Try.prog 17 #[.agg #[.int .i64 p.id, .string p.name, .int .i64 p.born, .int .i64 p.cls, .int .i64 p.level]] w fun e w' => e = .returned (.bool p.ok) ∧ Below w.heap.size w w' := by
  go_enter Try.func17, Try.ntmps17
  go_wp2_with fail
  refine (s_one p _ hp).mono ?_
  rintro e w1 ⟨rfl, b1⟩
  have hb : Below w.heap.size w w1 := ((Below.refl w.heap.size w).alloc (Nat.le_refl _) _).trans (b1.mono (by simp))
  clear b1
  go_wp2
  go_ret
  exact ⟨rfl, hb⟩
end Go.Proofs.Ytebbihckndjbeaa.PupilF
