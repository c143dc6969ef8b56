/-
  The walk of FnExactIsPupil.
-/
import Derived.Test.YtebbihckndjbeaaArg
import Derived.Test.YtebbihckndjbeaaPupils
import Derived.Test.YtebbihckndjbeaaPupilF
set_option linter.unusedVariables false
namespace Go.Proofs.Ytebbihckndjbeaa.fnExactIsPupil
open Go.ChangeShapes Go.WideShapes Go.ChangeAt Go.RowKit

/-- the walk: the law's text returns true; nothing that was there has turned. -/
theorem walk (a0 : M.Pupil) (W : World) (h0 : a0.wf) :
    Calls Try.prog 3 #[.agg (M.pupilCells a0).toArray] W fun e w' => e = .returned (.bool true) ∧ Below W.heap.size W w' := by
  have hp : a0.name.size ≤ 9223372036854775807 := h0.2.1
  have HS := Lib.hid (fun w => PupilF.s_isone a0 w hp)
  have HI := Lib.hid (fun w => PupilF.i_one a0 w hp)
  have HC := Lib.hid (fun w => Pupils.copy1 a0 w)
  have HZ := Lib.hid (fun w => Pupils.sz1 a0 1048576 w hp (by omega) (by omega))
  show Calls Try.prog 3 #[.agg #[.int .i64 a0.id, .string a0.name, .int .i64 a0.born, .int .i64 a0.cls, .int .i64 a0.level]] W _
  generalize a0.ok = R at *
  obtain ⟨x, s, y, z, t⟩ := a0
  dsimp only at *
  have hbb : (R != R) = false := by simp
  have x0 : K.Box (W.alloc (.cells #[.int .i64 x, .string s, .int .i64 y, .int .i64 z, .int .i64 t] 23)) W.heap.size [.int .i64 x, .string s, .int .i64 y, .int .i64 z, .int .i64 t] := K.Box.new _ _ _
  have b0 : Below W.heap.size W (W.alloc (.cells #[.int .i64 x, .string s, .int .i64 y, .int .i64 z, .int .i64 t] 23)) := (Below.refl W.heap.size W).alloc (Nat.le_refl _) _
  by_cases hneg : (1048576 : Int) - s.size < 0
  · rw [if_pos hneg] at HZ
    go_enter Try.func3, Try.ntmps3
    go_wp2_with fail
    refine (HZ.out _).mono ?_
    rintro e w1 ⟨rfl, b1⟩
    have bb := b0.trans (b1.mono b0.size)
    go_wp2_with fail
    go_ret
    exact ⟨rfl, bb⟩
  rw [if_neg hneg] at HZ
  go_enter Try.func3, Try.ntmps3
  go_wp2_with fail
  refine (HZ.out _).mono ?_
  rintro e w1 ⟨rfl, b1⟩
  replace x0 := x0.below b1
  have bb := b0.trans (b1.mono b0.size)
  obtain ⟨q0, q1, q2, q3, q4⟩ := x0.c5
  have qg := x0.1
  clear b1
  go_wp2_with fail
  refine (HC.out _).mono ?_
  rintro e w2 ⟨rfl, b2⟩
  replace x0 := x0.below b2
  replace bb := bb.trans (b2.mono bb.size)
  clear b2 q0 q1 q2 q3 q4 qg
  go_wp2_with fail
  refine (HS.out _).mono ?_
  rintro e w3 ⟨rfl, b3⟩
  replace x0 := x0.below b3
  replace bb := bb.trans (b3.mono bb.size)
  obtain ⟨q0, q1, q2, q3, q4⟩ := x0.c5
  have qg := x0.1
  clear b3
  go_wp2_with fail
  refine (HC.out _).mono ?_
  rintro e w4 ⟨rfl, b4⟩
  replace bb := bb.trans (b4.mono bb.size)
  clear b4 q0 q1 q2 q3 q4 qg x0
  go_wp2_with fail
  refine (HI.out _).mono ?_
  rintro e w5 ⟨rfl, b5⟩
  replace bb := bb.trans (b5.mono bb.size)
  clear b5
  go_wp2_with fail
  go_ret
  exact ⟨rfl, bb⟩
end Go.Proofs.Ytebbihckndjbeaa.fnExactIsPupil
