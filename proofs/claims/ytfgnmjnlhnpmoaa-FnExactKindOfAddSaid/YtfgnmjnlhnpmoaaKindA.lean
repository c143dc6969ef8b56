/-
  Walks: the kind of the rule for adding a digit (printed by gen_kind.py).
-/
import Derived.Test.YtfgnmjnlhnpmoaaBase
import Derived.Test.YtfgnmjnlhnpmoaaKit2
set_option linter.unusedVariables false
namespace Go.Proofs.Ytfgnmjnlhnpmoaa.M
def kind (v d : Int) : Int := if v % 5 + d ≤ 4 ∨ (5 ≤ d ∧ v ≤ 4 ∧ v + d - 5 ≤ 4) then 0 else if v + d ≤ 9 then 1 else if (10 - d) % 5 ≤ v % 5 ∧ (5 ≤ v ∨ 10 - d < 5) then 2 else 3
theorem kind_bd (v d : Int) : kind v d = 0 ∨ kind v d = 1 ∨ kind v d = 2 ∨ kind v d = 3 := by
  unfold kind; split
  · simp
  · split
    · simp
    · split <;> simp
def kindName (k : Int) : ByteArray := if k = 0 then ⟨#[100, 105, 114, 101, 99, 116]⟩ else if k = 1 then ⟨#[102, 105, 118, 101]⟩ else if k = 2 then ⟨#[116, 101, 110]⟩ else ⟨#[98, 111, 116, 104]⟩
def kindOf (v d : Int) : ByteArray × Bool := if (0 ≤ v ∧ v ≤ 9) ∧ (1 ≤ d ∧ d ≤ 9) then (kindName (kind v d), true) else (ByteArray.empty, false)
theorem kindOf_yes {v d : Int} (h : 0 ≤ v ∧ v ≤ 9) (h' : 1 ≤ d ∧ d ≤ 9) : kindOf v d = (kindName (kind v d), true) := by simp [kindOf, h, h']
theorem kindOf_no {v d : Int} (h : ¬ ((0 ≤ v ∧ v ≤ 9) ∧ (1 ≤ d ∧ d ≤ 9))) : kindOf v d = (ByteArray.empty, false) := by unfold kindOf; rw [if_neg h]
end Go.Proofs.Ytfgnmjnlhnpmoaa.M
namespace Go.Proofs.Ytfgnmjnlhnpmoaa.Kind
open Go.RowKit
theorem i_kind0 (d : Int) (w : World) (h1 : 1 ≤ d) (h2 : d ≤ 9) : Calls Try.prog 58 #[.int .i64 0, .int .i64 d] w fun e w' => e = .returned (.int .i64 (M.kind 0 d)) ∧ w = w' := by
  rcases (by omega : d = 1 ∨ d = 2 ∨ d = 3 ∨ d = 4 ∨ d = 5 ∨ d = 6 ∨ d = 7 ∨ d = 8 ∨ d = 9) with rfl | rfl | rfl | rfl | rfl | rfl | rfl | rfl | rfl
  all_goals
    go_enter Try.func58, Try.ntmps58
    go_wp2
    go_ret
    exact ⟨K.ret_int (by decide), rfl⟩
theorem i_kind1 (d : Int) (w : World) (h1 : 1 ≤ d) (h2 : d ≤ 9) : Calls Try.prog 58 #[.int .i64 1, .int .i64 d] w fun e w' => e = .returned (.int .i64 (M.kind 1 d)) ∧ w = w' := by
  rcases (by omega : d = 1 ∨ d = 2 ∨ d = 3 ∨ d = 4 ∨ d = 5 ∨ d = 6 ∨ d = 7 ∨ d = 8 ∨ d = 9) with rfl | rfl | rfl | rfl | rfl | rfl | rfl | rfl | rfl
  all_goals
    go_enter Try.func58, Try.ntmps58
    go_wp2
    go_ret
    exact ⟨K.ret_int (by decide), rfl⟩
theorem i_kind2 (d : Int) (w : World) (h1 : 1 ≤ d) (h2 : d ≤ 9) : Calls Try.prog 58 #[.int .i64 2, .int .i64 d] w fun e w' => e = .returned (.int .i64 (M.kind 2 d)) ∧ w = w' := by
  rcases (by omega : d = 1 ∨ d = 2 ∨ d = 3 ∨ d = 4 ∨ d = 5 ∨ d = 6 ∨ d = 7 ∨ d = 8 ∨ d = 9) with rfl | rfl | rfl | rfl | rfl | rfl | rfl | rfl | rfl
  all_goals
    go_enter Try.func58, Try.ntmps58
    go_wp2
    go_ret
    exact ⟨K.ret_int (by decide), rfl⟩
theorem i_kind3 (d : Int) (w : World) (h1 : 1 ≤ d) (h2 : d ≤ 9) : Calls Try.prog 58 #[.int .i64 3, .int .i64 d] w fun e w' => e = .returned (.int .i64 (M.kind 3 d)) ∧ w = w' := by
  rcases (by omega : d = 1 ∨ d = 2 ∨ d = 3 ∨ d = 4 ∨ d = 5 ∨ d = 6 ∨ d = 7 ∨ d = 8 ∨ d = 9) with rfl | rfl | rfl | rfl | rfl | rfl | rfl | rfl | rfl
  all_goals
    go_enter Try.func58, Try.ntmps58
    go_wp2
    go_ret
    exact ⟨K.ret_int (by decide), rfl⟩
theorem i_kind4 (d : Int) (w : World) (h1 : 1 ≤ d) (h2 : d ≤ 9) : Calls Try.prog 58 #[.int .i64 4, .int .i64 d] w fun e w' => e = .returned (.int .i64 (M.kind 4 d)) ∧ w = w' := by
  rcases (by omega : d = 1 ∨ d = 2 ∨ d = 3 ∨ d = 4 ∨ d = 5 ∨ d = 6 ∨ d = 7 ∨ d = 8 ∨ d = 9) with rfl | rfl | rfl | rfl | rfl | rfl | rfl | rfl | rfl
  all_goals
    go_enter Try.func58, Try.ntmps58
    go_wp2
    go_ret
    exact ⟨K.ret_int (by decide), rfl⟩
theorem i_kind5 (d : Int) (w : World) (h1 : 1 ≤ d) (h2 : d ≤ 9) : Calls Try.prog 58 #[.int .i64 5, .int .i64 d] w fun e w' => e = .returned (.int .i64 (M.kind 5 d)) ∧ w = w' := by
  rcases (by omega : d = 1 ∨ d = 2 ∨ d = 3 ∨ d = 4 ∨ d = 5 ∨ d = 6 ∨ d = 7 ∨ d = 8 ∨ d = 9) with rfl | rfl | rfl | rfl | rfl | rfl | rfl | rfl | rfl
  all_goals
    go_enter Try.func58, Try.ntmps58
    go_wp2
    go_ret
    exact ⟨K.ret_int (by decide), rfl⟩
theorem i_kind6 (d : Int) (w : World) (h1 : 1 ≤ d) (h2 : d ≤ 9) : Calls Try.prog 58 #[.int .i64 6, .int .i64 d] w fun e w' => e = .returned (.int .i64 (M.kind 6 d)) ∧ w = w' := by
  rcases (by omega : d = 1 ∨ d = 2 ∨ d = 3 ∨ d = 4 ∨ d = 5 ∨ d = 6 ∨ d = 7 ∨ d = 8 ∨ d = 9) with rfl | rfl | rfl | rfl | rfl | rfl | rfl | rfl | rfl
  all_goals
    go_enter Try.func58, Try.ntmps58
    go_wp2
    go_ret
    exact ⟨K.ret_int (by decide), rfl⟩
theorem i_kind7 (d : Int) (w : World) (h1 : 1 ≤ d) (h2 : d ≤ 9) : Calls Try.prog 58 #[.int .i64 7, .int .i64 d] w fun e w' => e = .returned (.int .i64 (M.kind 7 d)) ∧ w = w' := by
  rcases (by omega : d = 1 ∨ d = 2 ∨ d = 3 ∨ d = 4 ∨ d = 5 ∨ d = 6 ∨ d = 7 ∨ d = 8 ∨ d = 9) with rfl | rfl | rfl | rfl | rfl | rfl | rfl | rfl | rfl
  all_goals
    go_enter Try.func58, Try.ntmps58
    go_wp2
    go_ret
    exact ⟨K.ret_int (by decide), rfl⟩
theorem i_kind8 (d : Int) (w : World) (h1 : 1 ≤ d) (h2 : d ≤ 9) : Calls Try.prog 58 #[.int .i64 8, .int .i64 d] w fun e w' => e = .returned (.int .i64 (M.kind 8 d)) ∧ w = w' := by
  rcases (by omega : d = 1 ∨ d = 2 ∨ d = 3 ∨ d = 4 ∨ d = 5 ∨ d = 6 ∨ d = 7 ∨ d = 8 ∨ d = 9) with rfl | rfl | rfl | rfl | rfl | rfl | rfl | rfl | rfl
  all_goals
    go_enter Try.func58, Try.ntmps58
    go_wp2
    go_ret
    exact ⟨K.ret_int (by decide), rfl⟩
theorem i_kind9 (d : Int) (w : World) (h1 : 1 ≤ d) (h2 : d ≤ 9) : Calls Try.prog 58 #[.int .i64 9, .int .i64 d] w fun e w' => e = .returned (.int .i64 (M.kind 9 d)) ∧ w = w' := by
  rcases (by omega : d = 1 ∨ d = 2 ∨ d = 3 ∨ d = 4 ∨ d = 5 ∨ d = 6 ∨ d = 7 ∨ d = 8 ∨ d = 9) with rfl | rfl | rfl | rfl | rfl | rfl | rfl | rfl | rfl
  all_goals
    go_enter Try.func58, Try.ntmps58
    go_wp2
    go_ret
    exact ⟨K.ret_int (by decide), rfl⟩
theorem i_kind (v d : Int) (w : World) (h1 : 0 ≤ v) (h2 : v ≤ 9) (h3 : 1 ≤ d) (h4 : d ≤ 9) : Calls Try.prog 58 #[.int .i64 v, .int .i64 d] w fun e w' => e = .returned (.int .i64 (M.kind v d)) ∧ w = w' := by
  rcases (by omega : v = 0 ∨ v = 1 ∨ v = 2 ∨ v = 3 ∨ v = 4 ∨ v = 5 ∨ v = 6 ∨ v = 7 ∨ v = 8 ∨ v = 9) with rfl | rfl | rfl | rfl | rfl | rfl | rfl | rfl | rfl | rfl
  · exact i_kind0 d w h3 h4
  · exact i_kind1 d w h3 h4
  · exact i_kind2 d w h3 h4
  · exact i_kind3 d w h3 h4
  · exact i_kind4 d w h3 h4
  · exact i_kind5 d w h3 h4
  · exact i_kind6 d w h3 h4
  · exact i_kind7 d w h3 h4
  · exact i_kind8 d w h3 h4
  · exact i_kind9 d w h3 h4
theorem s_kind0 (d : Int) (w : World) (h1 : 1 ≤ d) (h2 : d ≤ 9) : Calls Try.prog 56 #[.int .i64 0, .int .i64 d] w fun e w' => e = .returned (.int .i64 (M.kind 0 d)) ∧ w = w' := by
  rcases (by omega : d = 1 ∨ d = 2 ∨ d = 3 ∨ d = 4 ∨ d = 5 ∨ d = 6 ∨ d = 7 ∨ d = 8 ∨ d = 9) with rfl | rfl | rfl | rfl | rfl | rfl | rfl | rfl | rfl
  all_goals
    go_enter Try.func56, Try.ntmps56
    go_wp2
    go_ret
    exact ⟨K.ret_int (by decide), rfl⟩
theorem s_kind1 (d : Int) (w : World) (h1 : 1 ≤ d) (h2 : d ≤ 9) : Calls Try.prog 56 #[.int .i64 1, .int .i64 d] w fun e w' => e = .returned (.int .i64 (M.kind 1 d)) ∧ w = w' := by
  rcases (by omega : d = 1 ∨ d = 2 ∨ d = 3 ∨ d = 4 ∨ d = 5 ∨ d = 6 ∨ d = 7 ∨ d = 8 ∨ d = 9) with rfl | rfl | rfl | rfl | rfl | rfl | rfl | rfl | rfl
  all_goals
    go_enter Try.func56, Try.ntmps56
    go_wp2
    go_ret
    exact ⟨K.ret_int (by decide), rfl⟩
theorem s_kind2 (d : Int) (w : World) (h1 : 1 ≤ d) (h2 : d ≤ 9) : Calls Try.prog 56 #[.int .i64 2, .int .i64 d] w fun e w' => e = .returned (.int .i64 (M.kind 2 d)) ∧ w = w' := by
  rcases (by omega : d = 1 ∨ d = 2 ∨ d = 3 ∨ d = 4 ∨ d = 5 ∨ d = 6 ∨ d = 7 ∨ d = 8 ∨ d = 9) with rfl | rfl | rfl | rfl | rfl | rfl | rfl | rfl | rfl
  all_goals
    go_enter Try.func56, Try.ntmps56
    go_wp2
    go_ret
    exact ⟨K.ret_int (by decide), rfl⟩
theorem s_kind3 (d : Int) (w : World) (h1 : 1 ≤ d) (h2 : d ≤ 9) : Calls Try.prog 56 #[.int .i64 3, .int .i64 d] w fun e w' => e = .returned (.int .i64 (M.kind 3 d)) ∧ w = w' := by
  rcases (by omega : d = 1 ∨ d = 2 ∨ d = 3 ∨ d = 4 ∨ d = 5 ∨ d = 6 ∨ d = 7 ∨ d = 8 ∨ d = 9) with rfl | rfl | rfl | rfl | rfl | rfl | rfl | rfl | rfl
  all_goals
    go_enter Try.func56, Try.ntmps56
    go_wp2
    go_ret
    exact ⟨K.ret_int (by decide), rfl⟩
theorem s_kind4 (d : Int) (w : World) (h1 : 1 ≤ d) (h2 : d ≤ 9) : Calls Try.prog 56 #[.int .i64 4, .int .i64 d] w fun e w' => e = .returned (.int .i64 (M.kind 4 d)) ∧ w = w' := by
  rcases (by omega : d = 1 ∨ d = 2 ∨ d = 3 ∨ d = 4 ∨ d = 5 ∨ d = 6 ∨ d = 7 ∨ d = 8 ∨ d = 9) with rfl | rfl | rfl | rfl | rfl | rfl | rfl | rfl | rfl
  all_goals
    go_enter Try.func56, Try.ntmps56
    go_wp2
    go_ret
    exact ⟨K.ret_int (by decide), rfl⟩
theorem s_kind5 (d : Int) (w : World) (h1 : 1 ≤ d) (h2 : d ≤ 9) : Calls Try.prog 56 #[.int .i64 5, .int .i64 d] w fun e w' => e = .returned (.int .i64 (M.kind 5 d)) ∧ w = w' := by
  rcases (by omega : d = 1 ∨ d = 2 ∨ d = 3 ∨ d = 4 ∨ d = 5 ∨ d = 6 ∨ d = 7 ∨ d = 8 ∨ d = 9) with rfl | rfl | rfl | rfl | rfl | rfl | rfl | rfl | rfl
  all_goals
    go_enter Try.func56, Try.ntmps56
    go_wp2
    go_ret
    exact ⟨K.ret_int (by decide), rfl⟩
theorem s_kind6 (d : Int) (w : World) (h1 : 1 ≤ d) (h2 : d ≤ 9) : Calls Try.prog 56 #[.int .i64 6, .int .i64 d] w fun e w' => e = .returned (.int .i64 (M.kind 6 d)) ∧ w = w' := by
  rcases (by omega : d = 1 ∨ d = 2 ∨ d = 3 ∨ d = 4 ∨ d = 5 ∨ d = 6 ∨ d = 7 ∨ d = 8 ∨ d = 9) with rfl | rfl | rfl | rfl | rfl | rfl | rfl | rfl | rfl
  all_goals
    go_enter Try.func56, Try.ntmps56
    go_wp2
    go_ret
    exact ⟨K.ret_int (by decide), rfl⟩
theorem s_kind7 (d : Int) (w : World) (h1 : 1 ≤ d) (h2 : d ≤ 9) : Calls Try.prog 56 #[.int .i64 7, .int .i64 d] w fun e w' => e = .returned (.int .i64 (M.kind 7 d)) ∧ w = w' := by
  rcases (by omega : d = 1 ∨ d = 2 ∨ d = 3 ∨ d = 4 ∨ d = 5 ∨ d = 6 ∨ d = 7 ∨ d = 8 ∨ d = 9) with rfl | rfl | rfl | rfl | rfl | rfl | rfl | rfl | rfl
  all_goals
    go_enter Try.func56, Try.ntmps56
    go_wp2
    go_ret
    exact ⟨K.ret_int (by decide), rfl⟩
theorem s_kind8 (d : Int) (w : World) (h1 : 1 ≤ d) (h2 : d ≤ 9) : Calls Try.prog 56 #[.int .i64 8, .int .i64 d] w fun e w' => e = .returned (.int .i64 (M.kind 8 d)) ∧ w = w' := by
  rcases (by omega : d = 1 ∨ d = 2 ∨ d = 3 ∨ d = 4 ∨ d = 5 ∨ d = 6 ∨ d = 7 ∨ d = 8 ∨ d = 9) with rfl | rfl | rfl | rfl | rfl | rfl | rfl | rfl | rfl
  all_goals
    go_enter Try.func56, Try.ntmps56
    go_wp2
    go_ret
    exact ⟨K.ret_int (by decide), rfl⟩
theorem s_kind9 (d : Int) (w : World) (h1 : 1 ≤ d) (h2 : d ≤ 9) : Calls Try.prog 56 #[.int .i64 9, .int .i64 d] w fun e w' => e = .returned (.int .i64 (M.kind 9 d)) ∧ w = w' := by
  rcases (by omega : d = 1 ∨ d = 2 ∨ d = 3 ∨ d = 4 ∨ d = 5 ∨ d = 6 ∨ d = 7 ∨ d = 8 ∨ d = 9) with rfl | rfl | rfl | rfl | rfl | rfl | rfl | rfl | rfl
  all_goals
    go_enter Try.func56, Try.ntmps56
    go_wp2
    go_ret
    exact ⟨K.ret_int (by decide), rfl⟩
theorem s_kind (v d : Int) (w : World) (h1 : 0 ≤ v) (h2 : v ≤ 9) (h3 : 1 ≤ d) (h4 : d ≤ 9) : Calls Try.prog 56 #[.int .i64 v, .int .i64 d] w fun e w' => e = .returned (.int .i64 (M.kind v d)) ∧ w = w' := by
  rcases (by omega : v = 0 ∨ v = 1 ∨ v = 2 ∨ v = 3 ∨ v = 4 ∨ v = 5 ∨ v = 6 ∨ v = 7 ∨ v = 8 ∨ v = 9) with rfl | rfl | rfl | rfl | rfl | rfl | rfl | rfl | rfl | rfl
  · exact s_kind0 d w h3 h4
  · exact s_kind1 d w h3 h4
  · exact s_kind2 d w h3 h4
  · exact s_kind3 d w h3 h4
  · exact s_kind4 d w h3 h4
  · exact s_kind5 d w h3 h4
  · exact s_kind6 d w h3 h4
  · exact s_kind7 d w h3 h4
  · exact s_kind8 d w h3 h4
  · exact s_kind9 d w h3 h4
end Go.Proofs.Ytfgnmjnlhnpmoaa.Kind
