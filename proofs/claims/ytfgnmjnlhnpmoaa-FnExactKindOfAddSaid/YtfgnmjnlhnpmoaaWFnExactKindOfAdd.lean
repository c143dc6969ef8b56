/-
  The walk of FnExactKindOfAdd.
-/
import Derived.Test.YtfgnmjnlhnpmoaaArg
import Derived.Test.YtfgnmjnlhnpmoaaKit2
import Derived.Test.YtfgnmjnlhnpmoaaKind
set_option linter.unusedVariables false
namespace Go.Proofs.Ytfgnmjnlhnpmoaa.fnExactKindOfAdd
open Go.ChangeShapes Go.WideShapes Go.ChangeAt Go.RowKit

/-- the walk: the law's text returns true; nothing that was there has turned. -/
theorem walk (a0 : Int) (a1 : Int) (W : World) (h0 : (Lit.int .i64 a0).wf = true) (h1 : (Lit.int .i64 a1).wf = true) :
    Calls Try.prog 3 #[.int .i64 a0, .int .i64 a1] W fun e w' => e = .returned (.bool true) ∧ Below W.heap.size W w' := by
  have b0 : Below W.heap.size W W := Below.refl _ _
  have bb : Below W.heap.size W W := Below.refl _ _
  go_enter Try.func3, Try.ntmps3
  have hs := fun  (W' : World)  => Kind.s_kindof a0 a1 W'
  have hi := fun  (W' : World)  => Kind.i_kindof a0 a1 W'
  generalize M.kindOf a0 a1 = R at hs hi
  obtain ⟨v, b⟩ := R
  dsimp only at hs hi
  have hbb_b : (b != b) = false := by simp
  have HS := Lib.hid hs
  have HI := Lib.hid hi
  clear hs hi
  go_wp2_with fail
  refine (HS.out  _ ).mono ?_
  rintro e w1 ⟨rfl, b1⟩
  replace bb := bb.trans (b1.mono bb.size)
  go_wp2_with fail
  refine (HI.out  _ ).mono ?_
  rintro e w2 ⟨rfl, b2⟩
  replace bb := bb.trans (b2.mono bb.size)
  go_wp2_with fail
  go_ret
  exact ⟨rfl, b0.trans (bb.mono b0.size)⟩
end Go.Proofs.Ytfgnmjnlhnpmoaa.fnExactKindOfAdd
