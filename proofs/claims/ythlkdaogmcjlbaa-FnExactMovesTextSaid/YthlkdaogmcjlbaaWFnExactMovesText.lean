/-
  The walk of FnExactMovesText.
-/
import Derived.Test.YthlkdaogmcjlbaaArg
import Derived.Test.YthlkdaogmcjlbaaKit2
import Derived.Test.YthlkdaogmcjlbaaMoves
import Derived.Test.YthlkdaogmcjlbaaMoveX
set_option linter.unusedVariables false
namespace Go.Proofs.Ythlkdaogmcjlbaa.fnExactMovesText
open Go.ChangeShapes Go.WideShapes Go.ChangeAt Go.RowKit

set_option maxRecDepth 100000 in
set_option maxHeartbeats 16000000 in
/-- the walk: the law's text returns true; nothing that was there has turned. -/
theorem walk (A0 : Option Addr) (c0 : Nat) (l0 : List M.Move) (W : World) (h0 : K.Rd W 3 A0 l0.length (l0.flatMap M.moveCells)) (m0 : l0.length ≤ 9223372036854775807) (s0 : ∀ s ∈ l0, s.wf) :
    Calls Try.prog 14 #[.slice A0 l0.length c0] W fun e w' => e = .returned (.bool true) ∧ Below W.heap.size W w' := by
  have b0 : Below W.heap.size W W := Below.refl _ _
  have r0 := h0.below b0
  have bb : Below W.heap.size W W := Below.refl _ _
  go_enter Try.func14, Try.ntmps14
  go_wp2_with fail
  refine (Moves.sz A0 c0 l0.length 1048576 _ m0 (by omega) (by omega)).mono ?_
  rintro e w1 ⟨⟨dz1, rfl, hd1⟩, rfl⟩
  by_cases hneg1 : dz1 < 0
  · go_wp2
    go_ret
    exact ⟨rfl, b0.trans (bb.mono b0.size)⟩
  have hl0 : l0.length ≤ 1048576 := by omega
  have hz1 : 0 ≤ dz1 ∧ dz1 ≤ 1048576 := by omega
  clear hd1 hneg1
  have hs := fun (A0q : Option Addr) (c0q : Nat) (W' : World) (r0q : K.Rd W' 3 A0q l0.length (l0.flatMap M.moveCells)) => MoveX.s_text A0q c0q l0 W' hl0 r0q
  have hi := fun (A0q : Option Addr) (c0q : Nat) (W' : World) (r0q : K.Rd W' 3 A0q l0.length (l0.flatMap M.moveCells)) => MoveX.i_text A0q c0q l0 W' hl0 r0q
  generalize M.movesText l0 = R at hs hi
  obtain ⟨v, b⟩ := R
  dsimp only at hs hi
  have hbb_b : (b != b) = false := by simp
  have HS := Lib.hid hs
  have HI := Lib.hid hi
  clear hs hi
  try clear m0 s0 h0
  go_wp2_with fail
  refine (Moves.copy A0 c0 l0 _ hl0 (r0.below bb)).mono ?_
  rintro e w2 ⟨X2, n2, rfl, q2, b2⟩
  replace q2 := q2.more bb.size
  replace bb := bb.trans (b2.mono bb.size)
  go_wp2_with fail
  refine (HS.out X2 n2 _ q2.rd).mono ?_
  rintro e w3 ⟨rfl, b3⟩
  replace q2 := q2.below b3
  replace bb := bb.trans (b3.mono bb.size)
  go_wp2_with fail
  refine (Moves.copy A0 c0 l0 _ hl0 (r0.below bb)).mono ?_
  rintro e w4 ⟨X4, n4, rfl, q4, b4⟩
  have ap_q2_q4 := K.apart q2 q4 (Nat.le_refl _) (Nat.le_refl _)
  replace q4 := q4.more bb.size
  replace q2 := q2.below b4
  replace bb := bb.trans (b4.mono bb.size)
  go_wp2_with fail
  refine (HI.out X4 n4 _ q4.rd).mono ?_
  rintro e w5 ⟨rfl, b5⟩
  replace q2 := q2.below b5
  replace q4 := q4.below b5
  replace bb := bb.trans (b5.mono bb.size)
  go_wp2_with fail
  refine (Moves.copy A0 c0 l0 _ hl0 (r0.below bb)).mono ?_
  rintro e w6 ⟨X6, n6, rfl, q6, b6⟩
  have ap_q2_q6 := K.apart q2 q6 (Nat.le_refl _) (Nat.le_refl _)
  have ap_q4_q6 := K.apart q4 q6 (Nat.le_refl _) (Nat.le_refl _)
  replace q6 := q6.more bb.size
  replace q2 := q2.below b6
  replace q4 := q4.below b6
  replace bb := bb.trans (b6.mono bb.size)
  go_wp2_with fail
  refine (Moves.eq_yes X4 X6 n4 n6 l0 _ hl0 q4.rd q6.rd).mono ?_
  rintro e w7 ⟨rfl, b7⟩
  replace q2 := q2.below b7
  replace q4 := q4.below b7
  replace q6 := q6.below b7
  replace bb := bb.trans (b7.mono bb.size)
  clear q6
  go_wp2_with fail
  go_ret
  exact ⟨rfl, b0.trans (bb.mono b0.size)⟩
end Go.Proofs.Ythlkdaogmcjlbaa.fnExactMovesText
