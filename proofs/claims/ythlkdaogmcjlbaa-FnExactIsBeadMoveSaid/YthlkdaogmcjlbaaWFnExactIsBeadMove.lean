/-
  The walk of FnExactIsBeadMove.
-/
import Derived.Test.YthlkdaogmcjlbaaArg
import Derived.Test.YthlkdaogmcjlbaaMoves
import Derived.Test.YthlkdaogmcjlbaaMoveF
set_option linter.unusedVariables false
namespace Go.Proofs.Ythlkdaogmcjlbaa.fnExactIsBeadMove
open Go.ChangeShapes Go.WideShapes Go.ChangeAt Go.RowKit

/-- the walk: the law's text returns true; nothing that was there has turned. -/
theorem walk (a0 : M.Move) (W : World) (h0 : a0.wf) :
    Calls Try.prog 3 #[.agg (M.moveCells a0).toArray] W fun e w' => e = .returned (.bool true) ∧ Below W.heap.size W w' := by
  have HS := Lib.hid (fun w => MoveF.s_isone a0 w)
  have HI := Lib.hid (fun w => MoveF.i_one a0 w)
  have HC := Lib.hid (fun w => Moves.copy1 a0 w)
  show Calls Try.prog 3 #[.agg #[.int .i64 a0.rod, .int .i64 a0.part, .int .i64 a0.by_]] W _
  generalize a0.ok = R at *
  obtain ⟨x, y, z⟩ := a0
  dsimp only at *
  have hbb : (R != R) = false := by simp
  go_enter Try.func3, Try.ntmps3
  go_wp2_with fail
  refine (HC.out _).mono ?_
  rintro e w1 ⟨rfl, b1⟩
  obtain ⟨x0g, x0⟩ : W.heap.size < w1.heap.size ∧ K.Box w1 W.heap.size [.int .i64 x, .int .i64 y, .int .i64 z] := by
    have h := (K.Box.new W #[.int .i64 x, .int .i64 y, .int .i64 z] 23).below b1
    exact ⟨h.1, h⟩
  have bb : Below W.heap.size W w1 := ((Below.refl W.heap.size W).alloc (Nat.le_refl _) _).trans (b1.mono (by simp))
  clear b1 x0g
  go_wp2_with fail
  refine (HS.out _).mono ?_
  rintro e w2 ⟨rfl, b2⟩
  replace x0 := x0.below b2
  replace bb := bb.trans (b2.mono bb.size)
  obtain ⟨q0, q1, q2⟩ := x0.c3
  have qg := x0.1
  clear b2
  go_wp2_with fail
  refine (HC.out _).mono ?_
  rintro e w3 ⟨rfl, b3⟩
  replace bb := bb.trans (b3.mono bb.size)
  clear b3 q0 q1 q2 qg x0
  go_wp2_with fail
  refine (HI.out _).mono ?_
  rintro e w4 ⟨rfl, b4⟩
  replace bb := bb.trans (b4.mono bb.size)
  clear b4
  go_wp2_with fail
  go_ret
  exact ⟨rfl, bb⟩
end Go.Proofs.Ythlkdaogmcjlbaa.fnExactIsBeadMove
