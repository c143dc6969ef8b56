/-
  The walk of FnExactMergedMoves.
-/
import Derived.Test.YthlkdaogmcjlbaaArg
import Derived.Test.YthlkdaogmcjlbaaKit2
import Derived.Test.YthlkdaogmcjlbaaMoves
import Derived.Test.YthlkdaogmcjlbaaMoveWI
import Derived.Test.YthlkdaogmcjlbaaMoveWS
set_option linter.unusedVariables false
namespace Go.Proofs.Ythlkdaogmcjlbaa.fnExactMergedMoves
open Go.ChangeShapes Go.WideShapes Go.ChangeAt Go.RowKit

set_option maxRecDepth 100000 in
set_option maxHeartbeats 16000000 in
/-- the walk: the law's text returns true; nothing that was there has turned. -/
theorem walk (A0 : Option Addr) (c0 : Nat) (l0 : List M.Move) (W : World) (h0 : K.Rd W 3 A0 l0.length (l0.flatMap M.moveCells)) (m0 : l0.length ≤ 9223372036854775807) (s0 : ∀ s ∈ l0, s.wf) :
    Calls Try.prog 13 #[.slice A0 l0.length c0] W fun e w' => e = .returned (.bool true) ∧ Below W.heap.size W w' := by
  have b0 : Below W.heap.size W W := Below.refl _ _
  have r0 := h0.below b0
  have bb : Below W.heap.size W W := Below.refl _ _
  go_enter Try.func13, Try.ntmps13
  go_wp2_with fail
  refine (Moves.sz A0 c0 l0.length 1048576 _ m0 (by omega) (by omega)).mono ?_
  rintro e w1 ⟨⟨dz1, rfl, hd1⟩, rfl⟩
  by_cases hneg1 : dz1 < 0
  · go_wp2
    go_ret
    exact ⟨rfl, b0.trans (bb.mono b0.size)⟩
  have hl0 : l0.length ≤ 1048576 := by omega
  have hz1 : 0 ≤ dz1 ∧ dz1 ≤ 1048576 := by omega
  clear hd1 hneg1
  have hs := fun (A0q : Option Addr) (c0q : Nat) (W' : World) (r0q : K.Rd W' 3 A0q l0.length (l0.flatMap M.moveCells)) => MoveW.s_merge A0q c0q l0 W' hl0 r0q
  have hi := fun (A0q : Option Addr) (c0q : Nat) (W' : World) (r0q : K.Rd W' 3 A0q l0.length (l0.flatMap M.moveCells)) => MoveW.i_merge A0q c0q l0 W' hl0 r0q
  have hlen : (M.mergedMv l0).1.length ≤ 1048576 := by have := M.mergedMv_le l0; omega
  generalize M.mergedMv l0 = R at hs hi hlen
  obtain ⟨L, b⟩ := R
  dsimp only at hs hi hlen
  have hbb_b : (b != b) = false := by simp
  have HS := Lib.hid hs
  have HI := Lib.hid hi
  clear hs hi
  try clear m0 s0 h0
  go_wp2_with fail
  refine (Moves.copy A0 c0 l0 _ hl0 (r0.below bb)).mono ?_
  rintro e w2 ⟨X2, n2, rfl, q2, b2⟩
  replace q2 := q2.more bb.size
  replace bb := bb.trans (b2.mono bb.size)
  go_wp2_with fail
  refine (HS.out X2 n2 _ q2.rd).mono ?_
  rintro e w3 ⟨X3, n3, rfl, q3, b3⟩
  have ap_q2_q3 := K.apart q2 q3 (Nat.le_refl _) (Nat.le_refl _)
  replace q3 := q3.more bb.size
  replace q2 := q2.below b3
  replace bb := bb.trans (b3.mono bb.size)
  go_wp2_with fail
  refine (Moves.copy A0 c0 l0 _ hl0 (r0.below bb)).mono ?_
  rintro e w4 ⟨X4, n4, rfl, q4, b4⟩
  have ap_q2_q4 := K.apart q2 q4 (Nat.le_refl _) (Nat.le_refl _)
  have ap_q3_q4 := K.apart q3 q4 (Nat.le_refl _) (Nat.le_refl _)
  replace q4 := q4.more bb.size
  replace q2 := q2.below b4
  replace q3 := q3.below b4
  replace bb := bb.trans (b4.mono bb.size)
  go_wp2_with fail
  refine (HI.out X4 n4 _ q4.rd).mono ?_
  rintro e w5 ⟨X5, n5, rfl, q5, b5⟩
  have ap_q2_q5 := K.apart q2 q5 (Nat.le_refl _) (Nat.le_refl _)
  have ap_q3_q5 := K.apart q3 q5 (Nat.le_refl _) (Nat.le_refl _)
  have ap_q4_q5 := K.apart q4 q5 (Nat.le_refl _) (Nat.le_refl _)
  replace q5 := q5.more bb.size
  replace q2 := q2.below b5
  replace q3 := q3.below b5
  replace q4 := q4.below b5
  replace bb := bb.trans (b5.mono bb.size)
  go_wp2_with fail
  refine (Moves.eq_yes X5 X3 n5 n3 L _ hlen q5.rd q3.rd).mono ?_
  rintro e w6 ⟨rfl, b6⟩
  replace q2 := q2.below b6
  replace q3 := q3.below b6
  replace q4 := q4.below b6
  replace q5 := q5.below b6
  replace bb := bb.trans (b6.mono bb.size)
  go_wp2_with fail
  refine (Moves.copy A0 c0 l0 _ hl0 (r0.below bb)).mono ?_
  rintro e w7 ⟨X7, n7, rfl, q7, b7⟩
  have ap_q2_q7 := K.apart q2 q7 (Nat.le_refl _) (Nat.le_refl _)
  have ap_q3_q7 := K.apart q3 q7 (Nat.le_refl _) (Nat.le_refl _)
  have ap_q4_q7 := K.apart q4 q7 (Nat.le_refl _) (Nat.le_refl _)
  have ap_q5_q7 := K.apart q5 q7 (Nat.le_refl _) (Nat.le_refl _)
  replace q7 := q7.more bb.size
  replace q2 := q2.below b7
  replace q3 := q3.below b7
  replace q4 := q4.below b7
  replace q5 := q5.below b7
  replace bb := bb.trans (b7.mono bb.size)
  go_wp2_with fail
  refine (Moves.eq_yes X4 X7 n4 n7 l0 _ hl0 q4.rd q7.rd).mono ?_
  rintro e w8 ⟨rfl, b8⟩
  replace q2 := q2.below b8
  replace q3 := q3.below b8
  replace q4 := q4.below b8
  replace q5 := q5.below b8
  replace q7 := q7.below b8
  replace bb := bb.trans (b8.mono bb.size)
  clear q7
  go_wp2_with fail
  refine (Moves.mark X4 _ n4 _ 1 _ _ hl0 (by omega) (by omega) q4).mono ?_
  rintro e w9 ⟨he, z9, g9⟩
  replace q2 := q2.kept g9 ap_q2_q4
  replace q3 := q3.kept g9 ap_q3_q4
  replace q5 := q5.kept g9 (fun g h1 h2 => ap_q4_q5 g h2 h1)
  replace bb := bb.trans (K.below_of_grown g9 bb.size (fun g hg => (q4.lt g hg).1))
  replace q4 := z9
  clear z9 g9
  obtain ⟨k9z, hkk9z, hlk9z, hjk9z⟩ : ∃ k : Nat, k ≤ 1 + 3 * l0.length ∧ 1 + 3 * l0.length ≤ k ∧ e = .returned (.int .i64 (k : Int)) := ⟨_, Nat.le_refl _, Nat.le_refl _, by rw [he]; exact congrArg (fun x => Ending.returned (.int .i64 x)) (by omega)⟩
  subst hjk9z
  clear he
  go_wp2_with fail
  refine (Moves.eq_yes X5 X3 n5 n3 L _ hlen q5.rd q3.rd).mono ?_
  rintro e w10 ⟨rfl, b10⟩
  replace q2 := q2.below b10
  replace q3 := q3.below b10
  replace q4 := q4.below b10
  replace q5 := q5.below b10
  replace bb := bb.trans (b10.mono bb.size)
  go_wp2_with fail
  refine (Moves.mark X5 _ n5 _ 1 _ _ hlen (by omega) (by omega) q5).mono ?_
  rintro e w11 ⟨he, z11, g11⟩
  replace q2 := q2.kept g11 ap_q2_q5
  replace q3 := q3.kept g11 ap_q3_q5
  replace q4 := q4.kept g11 ap_q4_q5
  replace bb := bb.trans (K.below_of_grown g11 bb.size (fun g hg => (q5.lt g hg).1))
  replace q5 := z11
  clear z11 g11
  obtain ⟨k11z, hkk11z, hlk11z, hjk11z⟩ : ∃ k : Nat, k ≤ 1 + 3 * L.length ∧ 1 + 3 * L.length ≤ k ∧ e = .returned (.int .i64 (k : Int)) := ⟨_, Nat.le_refl _, Nat.le_refl _, by rw [he]; exact congrArg (fun x => Ending.returned (.int .i64 x)) (by omega)⟩
  subst hjk11z
  clear he
  go_wp2_with fail
  refine (Moves.held X5 _ n5 1 _ hlen (by omega) (by omega) q5.rd).mono ?_
  rintro e w12 ⟨he, b12⟩
  obtain rfl : e = .returned (.int .i64 (k11z : Int)) := by rw [he]; exact congrArg (fun x => Ending.returned (.int .i64 x)) (by omega)
  clear he
  replace q2 := q2.below b12
  replace q3 := q3.below b12
  replace q4 := q4.below b12
  replace q5 := q5.below b12
  replace bb := bb.trans (b12.mono bb.size)
  go_wp2_with fail
  refine (Moves.copy A0 c0 l0 _ hl0 (r0.below bb)).mono ?_
  rintro e w13 ⟨X13, n13, rfl, q13, b13⟩
  have ap_q2_q13 := K.apart q2 q13 (Nat.le_refl _) (Nat.le_refl _)
  have ap_q3_q13 := K.apart q3 q13 (Nat.le_refl _) (Nat.le_refl _)
  have ap_q4_q13 := K.apart q4 q13 (Nat.le_refl _) (Nat.le_refl _)
  have ap_q5_q13 := K.apart q5 q13 (Nat.le_refl _) (Nat.le_refl _)
  replace q13 := q13.more bb.size
  replace q2 := q2.below b13
  replace q3 := q3.below b13
  replace q4 := q4.below b13
  replace q5 := q5.below b13
  replace bb := bb.trans (b13.mono bb.size)
  go_wp2_with fail
  refine (HI.out X13 n13 _ q13.rd).mono ?_
  rintro e w14 ⟨X14, n14, rfl, q14, b14⟩
  have ap_q2_q14 := K.apart q2 q14 (Nat.le_refl _) (Nat.le_refl _)
  have ap_q3_q14 := K.apart q3 q14 (Nat.le_refl _) (Nat.le_refl _)
  have ap_q4_q14 := K.apart q4 q14 (Nat.le_refl _) (Nat.le_refl _)
  have ap_q5_q14 := K.apart q5 q14 (Nat.le_refl _) (Nat.le_refl _)
  have ap_q13_q14 := K.apart q13 q14 (Nat.le_refl _) (Nat.le_refl _)
  replace q14 := q14.more bb.size
  replace q2 := q2.below b14
  replace q3 := q3.below b14
  replace q4 := q4.below b14
  replace q5 := q5.below b14
  replace q13 := q13.below b14
  replace bb := bb.trans (b14.mono bb.size)
  go_wp2_with fail
  refine (Moves.eq_yes X14 X3 n14 n3 L _ hlen q14.rd q3.rd).mono ?_
  rintro e w15 ⟨rfl, b15⟩
  replace q2 := q2.below b15
  replace q3 := q3.below b15
  replace q4 := q4.below b15
  replace q5 := q5.below b15
  replace q13 := q13.below b15
  replace q14 := q14.below b15
  replace bb := bb.trans (b15.mono bb.size)
  go_wp2_with fail
  refine (Moves.held X5 _ n5 1 _ hlen (by omega) (by omega) q5.rd).mono ?_
  rintro e w16 ⟨he, b16⟩
  obtain rfl : e = .returned (.int .i64 (k11z : Int)) := by rw [he]; exact congrArg (fun x => Ending.returned (.int .i64 x)) (by omega)
  clear he
  replace q2 := q2.below b16
  replace q3 := q3.below b16
  replace q4 := q4.below b16
  replace q5 := q5.below b16
  replace q13 := q13.below b16
  replace q14 := q14.below b16
  replace bb := bb.trans (b16.mono bb.size)
  go_wp2_with fail
  go_ret
  exact ⟨rfl, b0.trans (bb.mono b0.size)⟩
end Go.Proofs.Ythlkdaogmcjlbaa.fnExactMergedMoves
