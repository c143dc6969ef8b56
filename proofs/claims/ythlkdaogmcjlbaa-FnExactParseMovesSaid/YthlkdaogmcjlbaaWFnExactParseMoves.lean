/-
  The walk of FnExactParseMoves.
-/
import Derived.Test.YthlkdaogmcjlbaaArg
import Derived.Test.YthlkdaogmcjlbaaKit2
import Derived.Test.YthlkdaogmcjlbaaMoves
import Derived.Test.YthlkdaogmcjlbaaMoveQ
set_option linter.unusedVariables false
namespace Go.Proofs.Ythlkdaogmcjlbaa.fnExactParseMoves
open Go.ChangeShapes Go.WideShapes Go.ChangeAt Go.RowKit

set_option maxRecDepth 100000 in
set_option maxHeartbeats 16000000 in
/-- the walk: the law's text returns true; nothing that was there has turned. -/
theorem walk (a0 : ByteArray) (W : World) (h0 : a0.size ≤ maxLen) :
    Calls Try.prog 17 #[.string a0] W fun e w' => e = .returned (.bool true) ∧ Below W.heap.size W w' := by
  unfold maxLen at h0
  by_cases hbn0 : 1048576 < a0.size
  · go_enter Try.func17, Try.ntmps17
    go_wp2
    go_ret
    exact ⟨rfl, by (repeat (first | exact Below.refl _ _ | assumption | (refine K.below_drewN ?_ _) | (refine Below.drew ?_) | (refine Below.alloc ?_ (by first | (simp; done) | (simp; omega) | omega) _) | (refine Below.setCell ?_ (by first | (simp; done) | (simp; omega) | omega) _)))⟩
  have hb0 : a0.size ≤ 1048576 := by omega
  have b0 : Below W.heap.size W W := Below.refl _ _
  have bb : Below W.heap.size W W := Below.refl _ _
  go_enter Try.func17, Try.ntmps17
  have hs := fun  (W' : World)  => MoveQ.s_parse a0 W' hb0
  have hi := fun  (W' : World)  => MoveQ.i_parse a0 W' hb0
  have hlen : (M.parseMv a0).1.length ≤ 1048576 := by have := M.parseMv_le a0; omega
  generalize M.parseMv a0 = R at hs hi hlen
  obtain ⟨L, b⟩ := R
  dsimp only at hs hi hlen
  have hbb_b : (b != b) = false := by simp
  have HS := Lib.hid hs
  have HI := Lib.hid hi
  clear hs hi
  go_wp2_with fail
  refine (HS.out  _ ).mono ?_
  rintro e w1 ⟨X1, n1, rfl, q1, b1⟩
  replace q1 := q1.more bb.size
  replace bb := bb.trans (b1.mono bb.size)
  go_wp2_with fail
  refine (HI.out  _ ).mono ?_
  rintro e w2 ⟨X2, n2, rfl, q2, b2⟩
  have ap_q1_q2 := K.apart q1 q2 (Nat.le_refl _) (Nat.le_refl _)
  replace q2 := q2.more bb.size
  replace q1 := q1.below b2
  replace bb := bb.trans (b2.mono bb.size)
  go_wp2_with fail
  refine (Moves.eq_yes X2 X1 n2 n1 L _ hlen q2.rd q1.rd).mono ?_
  rintro e w3 ⟨rfl, b3⟩
  replace q1 := q1.below b3
  replace q2 := q2.below b3
  replace bb := bb.trans (b3.mono bb.size)
  go_wp2_with fail
  refine (Moves.mark X2 _ n2 _ 1 _ _ hlen (by omega) (by omega) q2).mono ?_
  rintro e w4 ⟨he, z4, g4⟩
  replace q1 := q1.kept g4 ap_q1_q2
  replace bb := bb.trans (K.below_of_grown g4 bb.size (fun g hg => (q2.lt g hg).1))
  replace q2 := z4
  clear z4 g4
  obtain ⟨k4z, hkk4z, hlk4z, hjk4z⟩ : ∃ k : Nat, k ≤ 1 + 3 * L.length ∧ 1 + 3 * L.length ≤ k ∧ e = .returned (.int .i64 (k : Int)) := ⟨_, Nat.le_refl _, Nat.le_refl _, by rw [he]; exact congrArg (fun x => Ending.returned (.int .i64 x)) (by omega)⟩
  subst hjk4z
  clear he
  go_wp2_with fail
  refine (Moves.held X2 _ n2 1 _ hlen (by omega) (by omega) q2.rd).mono ?_
  rintro e w5 ⟨he, b5⟩
  obtain rfl : e = .returned (.int .i64 (k4z : Int)) := by rw [he]; exact congrArg (fun x => Ending.returned (.int .i64 x)) (by omega)
  clear he
  replace q1 := q1.below b5
  replace q2 := q2.below b5
  replace bb := bb.trans (b5.mono bb.size)
  go_wp2_with fail
  refine (HI.out  _ ).mono ?_
  rintro e w6 ⟨X6, n6, rfl, q6, b6⟩
  have ap_q1_q6 := K.apart q1 q6 (Nat.le_refl _) (Nat.le_refl _)
  have ap_q2_q6 := K.apart q2 q6 (Nat.le_refl _) (Nat.le_refl _)
  replace q6 := q6.more bb.size
  replace q1 := q1.below b6
  replace q2 := q2.below b6
  replace bb := bb.trans (b6.mono bb.size)
  go_wp2_with fail
  refine (Moves.eq_yes X6 X1 n6 n1 L _ hlen q6.rd q1.rd).mono ?_
  rintro e w7 ⟨rfl, b7⟩
  replace q1 := q1.below b7
  replace q2 := q2.below b7
  replace q6 := q6.below b7
  replace bb := bb.trans (b7.mono bb.size)
  go_wp2_with fail
  refine (Moves.held X2 _ n2 1 _ hlen (by omega) (by omega) q2.rd).mono ?_
  rintro e w8 ⟨he, b8⟩
  obtain rfl : e = .returned (.int .i64 (k4z : Int)) := by rw [he]; exact congrArg (fun x => Ending.returned (.int .i64 x)) (by omega)
  clear he
  replace q1 := q1.below b8
  replace q2 := q2.below b8
  replace q6 := q6.below b8
  replace bb := bb.trans (b8.mono bb.size)
  go_wp2_with fail
  go_ret
  exact ⟨rfl, b0.trans (bb.mono b0.size)⟩
end Go.Proofs.Ythlkdaogmcjlbaa.fnExactParseMoves
