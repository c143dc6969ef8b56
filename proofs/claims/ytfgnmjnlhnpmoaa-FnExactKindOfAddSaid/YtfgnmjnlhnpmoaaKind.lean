/-
  Walks: the kinds' names (printed by gen_kind.py).
-/
import Derived.Test.YtfgnmjnlhnpmoaaKindA
set_option linter.unusedVariables false
namespace Go.Proofs.Ytfgnmjnlhnpmoaa.Kind
open Go.RowKit
theorem s_names (k : Int) (w : World) (hk : k = 0 ∨ k = 1 ∨ k = 2 ∨ k = 3) : Calls Try.prog 55 #[.int .i64 k] w fun e w' => e = .returned (.string (M.kindName k)) ∧ Below w.heap.size w w' := by
  rcases hk with rfl | rfl | rfl | rfl
  all_goals
    go_enter Try.func55, Try.ntmps55
    go_wp2
    go_ret
    exact ⟨K.ret_str (by rfl), by (repeat (first | exact Below.refl _ _ | assumption | (refine K.below_drewN ?_ _) | (refine Below.drew ?_) | (refine Below.alloc ?_ (by first | (simp; done) | (simp; omega) | omega) _) | (refine Below.setCell ?_ (by first | (simp; done) | (simp; omega) | omega) _)))⟩
theorem i_kindof (v d : Int) (w : World) : Calls Try.prog 16 #[.int .i64 v, .int .i64 d] w fun e w' => e = .returned (.tuple #[.string (M.kindOf v d).1, .bool (M.kindOf v d).2]) ∧ Below w.heap.size w w' := by
  by_cases hv : 0 ≤ v ∧ v ≤ 9
  · by_cases hd : 1 ≤ d ∧ d ≤ 9
    · rw [M.kindOf_yes hv hd]
      obtain ⟨v1, v2⟩ := hv
      obtain ⟨d1, d2⟩ := hd
      have HK := Lib.hid (fun w => i_kind v d w v1 v2 d1 d2)
      have hb := M.kind_bd v d
      generalize M.kind v d = k at *
      rcases hb with rfl | rfl | rfl | rfl
      all_goals
        go_enter Try.func16, Try.ntmps16
        go_wp2_with (go_at_call 57; refine (Base.i_within_yes _ _ _ _ (by omega) (by omega)).mono ?_; rintro e w1 ⟨rfl, rfl⟩)
        refine (HK.out _).mono ?_
        rintro e w1 ⟨rfl, rfl⟩
        go_wp2_with fail
        go_ret2
        exact ⟨rfl, by (repeat (first | exact Below.refl _ _ | assumption | (refine K.below_drewN ?_ _) | (refine Below.drew ?_) | (refine Below.alloc ?_ (by first | (simp; done) | (simp; omega) | omega) _) | (refine Below.setCell ?_ (by first | (simp; done) | (simp; omega) | omega) _)))⟩
    · rw [M.kindOf_no (fun h => hd h.2)]
      obtain ⟨v1, v2⟩ := hv
      go_enter Try.func16, Try.ntmps16
      go_wp2_with (go_at_call 57; first | (refine (Base.i_within_yes _ _ _ _ (by omega) (by omega)).mono ?_; rintro e w1 ⟨rfl, rfl⟩) | (refine (Base.i_within_no _ _ _ _ (by omega)).mono ?_; rintro e w1 ⟨rfl, rfl⟩))
      go_ret2
      exact ⟨rfl, Below.refl _ _⟩
  · rw [M.kindOf_no (fun h => hv h.1)]
    go_enter Try.func16, Try.ntmps16
    go_wp2_with (go_at_call 57; refine (Base.i_within_no _ _ _ _ (by omega)).mono ?_; rintro e w1 ⟨rfl, rfl⟩)
    go_ret2
    exact ⟨rfl, Below.refl _ _⟩
theorem s_kindof (v d : Int) (w : World) : Calls Try.prog 15 #[.int .i64 v, .int .i64 d] w fun e w' => e = .returned (.tuple #[.string (M.kindOf v d).1, .bool (M.kindOf v d).2]) ∧ Below w.heap.size w w' := by
  by_cases hv : 0 ≤ v ∧ v ≤ 9
  · by_cases hd : 1 ≤ d ∧ d ≤ 9
    · rw [M.kindOf_yes hv hd]
      obtain ⟨v1, v2⟩ := hv
      obtain ⟨d1, d2⟩ := hd
      have HK := Lib.hid (fun w => s_kind v d w v1 v2 d1 d2)
      have hb := M.kind_bd v d
      generalize M.kind v d = k at *
      go_enter Try.func15, Try.ntmps15
      go_wp2_with (go_at_call 54; refine (Base.s_in_yes _ _ _ _ (by omega) (by omega)).mono ?_; rintro e w1 ⟨rfl, rfl⟩)
      refine (HK.out _).mono ?_
      rintro e w1 ⟨rfl, rfl⟩
      go_wp2_with fail
      refine (s_names _ _ hb).mono ?_
      rintro e w2 ⟨rfl, b2⟩
      go_wp2_with fail
      go_ret2
      exact ⟨rfl, b2⟩
    · rw [M.kindOf_no (fun h => hd h.2)]
      obtain ⟨v1, v2⟩ := hv
      go_enter Try.func15, Try.ntmps15
      go_wp2_with (go_at_call 54; first | (refine (Base.s_in_yes _ _ _ _ (by omega) (by omega)).mono ?_; rintro e w1 ⟨rfl, rfl⟩) | (refine (Base.s_in_no _ _ _ _ (by omega)).mono ?_; rintro e w1 ⟨rfl, rfl⟩))
      go_ret2
      exact ⟨rfl, Below.refl _ _⟩
  · rw [M.kindOf_no (fun h => hv h.1)]
    go_enter Try.func15, Try.ntmps15
    go_wp2_with (go_at_call 54; refine (Base.s_in_no _ _ _ _ (by omega)).mono ?_; rintro e w1 ⟨rfl, rfl⟩)
    go_ret2
    exact ⟨rfl, Below.refl _ _⟩
end Go.Proofs.Ytfgnmjnlhnpmoaa.Kind
