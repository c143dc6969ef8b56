/-
  The walk of FnExactParseFrame.
-/
import Derived.Test.YthlkdaogmcjlbaaArg
import Derived.Test.YthlkdaogmcjlbaaKit2
import Derived.Test.YthlkdaogmcjlbaaFrameS
set_option linter.unusedVariables false
namespace Go.Proofs.Ythlkdaogmcjlbaa.fnExactParseFrame
open Go.ChangeShapes Go.WideShapes Go.ChangeAt Go.RowKit

set_option maxRecDepth 100000 in
set_option maxHeartbeats 16000000 in
/-- the walk: the law's text returns true; nothing that was there has turned. -/
theorem walk (a0 : ByteArray) (W : World) (h0 : a0.size ≤ maxLen) :
    Calls Try.prog 15 #[.string a0] W fun e w' => e = .returned (.bool true) ∧ Below W.heap.size W w' := by
  unfold maxLen at h0
  by_cases hbn0 : 1048576 < a0.size
  · go_enter Try.func15, Try.ntmps15
    go_wp2
    go_ret
    exact ⟨rfl, by (repeat (first | exact Below.refl _ _ | assumption | (refine K.below_drewN ?_ _) | (refine Below.drew ?_) | (refine Below.alloc ?_ (by first | (simp; done) | (simp; omega) | omega) _) | (refine Below.setCell ?_ (by first | (simp; done) | (simp; omega) | omega) _)))⟩
  have hb0 : a0.size ≤ 1048576 := by omega
  have b0 : Below W.heap.size W W := Below.refl _ _
  have bb : Below W.heap.size W W := Below.refl _ _
  go_enter Try.func15, Try.ntmps15
  have hs := fun  (W' : World)  => FrameQ.s_parse a0 W' hb0
  have hi := fun  (W' : World)  => FrameQ.i_parse a0 W' hb0
  have hlen : (M.parseFr a0).1.rods.length ≤ 1048576 := by have := M.parseFr_le a0; omega
  generalize M.parseFr a0 = R at hs hi hlen
  obtain ⟨F, b⟩ := R
  dsimp only at hs hi hlen
  have hbb_b : (b != b) = false := by simp
  have HS := Lib.hid hs
  have HI := Lib.hid hi
  clear hs hi
  go_wp2_with fail
  refine (HS.out  _ ).mono ?_
  rintro e w1 ⟨X1, n1, rfl, q1, b1⟩
  replace q1 := q1.more bb.size
  replace bb := bb.trans (b1.mono bb.size)
  obtain ⟨ob, ho⟩ : ∃ o : Obj, o = .cells #[.int .i64 F.upper, .int .i64 F.lower, .slice X1 F.rods.length n1] 33 := ⟨_, rfl⟩
  have y1 : K.Box (w1.alloc ob) w1.heap.size [.int .i64 F.upper, .int .i64 F.lower, .slice X1 F.rods.length n1] := by rw [ho]; exact K.Box.new _ _ _
  have nb_q1_y1 : K.blk X1 ≠ some (w1.heap.size) := fun h => Nat.lt_irrefl _ (q1.lt _ h).2
  replace q1 := q1.alloc ob
  replace bb := bb.alloc bb.size ob
  subst ho
  go_wp2_with fail
  refine (HI.out  _ ).mono ?_
  rintro e w2 ⟨X2, n2, rfl, q2, b2⟩
  have ap_q1_q2 := K.apart q1 q2 (Nat.le_refl _) (Nat.le_refl _)
  have nb_q2_y1 : K.blk X2 ≠ some (w1.heap.size) := fun h => by have h1 := (q2.lt _ h).1; have h2 := y1.1; omega
  replace q2 := q2.more bb.size
  replace q1 := q1.below b2
  replace y1 := y1.below b2
  replace bb := bb.trans (b2.mono bb.size)
  obtain ⟨ob, ho⟩ : ∃ o : Obj, o = .cells #[.int .i64 F.upper, .int .i64 F.lower, .slice X2 F.rods.length n2] 33 := ⟨_, rfl⟩
  have y2 : K.Box (w2.alloc ob) w2.heap.size [.int .i64 F.upper, .int .i64 F.lower, .slice X2 F.rods.length n2] := by rw [ho]; exact K.Box.new _ _ _
  have nb_q1_y2 : K.blk X1 ≠ some (w2.heap.size) := fun h => Nat.lt_irrefl _ (q1.lt _ h).2
  have nb_q2_y2 : K.blk X2 ≠ some (w2.heap.size) := fun h => Nat.lt_irrefl _ (q2.lt _ h).2
  obtain ⟨y1a0, y1a1, y1a2⟩ := y1.c3
  have y1ag := y1.1
  replace q1 := q1.alloc ob
  replace q2 := q2.alloc ob
  replace y1 := y1.alloc ob
  replace bb := bb.alloc bb.size ob
  subst ho
  obtain ⟨y10, y11, y12⟩ := y1.c3
  have y1g := y1.1
  obtain ⟨y20, y21, y22⟩ := y2.c3
  have y2g := y2.1
  go_wp2_with fail
  refine (FrameH.eq_yes F X2 X1 n2 n1 _ hlen (q2.rd) (q1.rd)).mono ?_
  rintro e w3 ⟨rfl, b3⟩
  replace q1 := q1.below b3
  replace q2 := q2.below b3
  replace y1 := y1.below b3
  replace y2 := y2.below b3
  replace bb := bb.trans (b3.mono bb.size)
  clear y1a0 y1a1 y1a2 y1ag y10 y11 y12 y1g y20 y21 y22 y2g
  obtain ⟨y20, y21, y22⟩ := y2.c3
  have y2g := y2.1
  go_wp2_with fail
  refine (FrameH.mark F X2 n2 _ 1 _ hlen (by omega) (by omega) q2).mono ?_
  rintro e w4 ⟨he, z4, g4⟩
  replace q1 := q1.kept g4 ap_q1_q2
  replace y1 := y1.kept g4 nb_q2_y1
  replace y2 := y2.kept g4 nb_q2_y2
  replace bb := bb.trans (K.below_of_grown g4 bb.size (fun g hg => (q2.lt g hg).1))
  replace q2 := z4
  clear z4 g4
  obtain ⟨k4z, hkk4z, hlk4z, hjk4z⟩ : ∃ k : Nat, k ≤ 1 + 2 * F.rods.length ∧ 1 + 2 * F.rods.length ≤ k ∧ e = .returned (.int .i64 (k : Int)) := ⟨_, Nat.le_refl _, Nat.le_refl _, by rw [he]; exact congrArg (fun x => Ending.returned (.int .i64 x)) (by omega)⟩
  subst hjk4z
  clear he
  clear y20 y21 y22 y2g
  obtain ⟨y20, y21, y22⟩ := y2.c3
  have y2g := y2.1
  go_wp2_with fail
  refine (FrameH.held F X2 n2 1 _ hlen (by omega) (by omega) q2.rd).mono ?_
  rintro e w5 ⟨he, b5⟩
  obtain rfl : e = .returned (.int .i64 (k4z : Int)) := by rw [he]; exact congrArg (fun x => Ending.returned (.int .i64 x)) (by omega)
  clear he
  replace q1 := q1.below b5
  replace q2 := q2.below b5
  replace y1 := y1.below b5
  replace y2 := y2.below b5
  replace bb := bb.trans (b5.mono bb.size)
  clear y20 y21 y22 y2g
  go_wp2_with fail
  refine (HI.out  _ ).mono ?_
  rintro e w6 ⟨X6, n6, rfl, q6, b6⟩
  have ap_q1_q6 := K.apart q1 q6 (Nat.le_refl _) (Nat.le_refl _)
  have ap_q2_q6 := K.apart q2 q6 (Nat.le_refl _) (Nat.le_refl _)
  have nb_q6_y1 : K.blk X6 ≠ some (w1.heap.size) := fun h => by have h1 := (q6.lt _ h).1; have h2 := y1.1; omega
  have nb_q6_y2 : K.blk X6 ≠ some (w2.heap.size) := fun h => by have h1 := (q6.lt _ h).1; have h2 := y2.1; omega
  replace q6 := q6.more bb.size
  replace q1 := q1.below b6
  replace q2 := q2.below b6
  replace y1 := y1.below b6
  replace y2 := y2.below b6
  replace bb := bb.trans (b6.mono bb.size)
  obtain ⟨ob, ho⟩ : ∃ o : Obj, o = .cells #[.int .i64 F.upper, .int .i64 F.lower, .slice X6 F.rods.length n6] 33 := ⟨_, rfl⟩
  have y6 : K.Box (w6.alloc ob) w6.heap.size [.int .i64 F.upper, .int .i64 F.lower, .slice X6 F.rods.length n6] := by rw [ho]; exact K.Box.new _ _ _
  have nb_q1_y6 : K.blk X1 ≠ some (w6.heap.size) := fun h => Nat.lt_irrefl _ (q1.lt _ h).2
  have nb_q2_y6 : K.blk X2 ≠ some (w6.heap.size) := fun h => Nat.lt_irrefl _ (q2.lt _ h).2
  have nb_q6_y6 : K.blk X6 ≠ some (w6.heap.size) := fun h => Nat.lt_irrefl _ (q6.lt _ h).2
  obtain ⟨y1a0, y1a1, y1a2⟩ := y1.c3
  have y1ag := y1.1
  obtain ⟨y2a0, y2a1, y2a2⟩ := y2.c3
  have y2ag := y2.1
  replace q1 := q1.alloc ob
  replace q2 := q2.alloc ob
  replace q6 := q6.alloc ob
  replace y1 := y1.alloc ob
  replace y2 := y2.alloc ob
  replace bb := bb.alloc bb.size ob
  subst ho
  obtain ⟨y10, y11, y12⟩ := y1.c3
  have y1g := y1.1
  obtain ⟨y60, y61, y62⟩ := y6.c3
  have y6g := y6.1
  go_wp2_with fail
  refine (FrameH.eq_yes F X6 X1 n6 n1 _ hlen (q6.rd) (q1.rd)).mono ?_
  rintro e w7 ⟨rfl, b7⟩
  replace q1 := q1.below b7
  replace q2 := q2.below b7
  replace q6 := q6.below b7
  replace y1 := y1.below b7
  replace y2 := y2.below b7
  replace y6 := y6.below b7
  replace bb := bb.trans (b7.mono bb.size)
  clear y1a0 y1a1 y1a2 y1ag y2a0 y2a1 y2a2 y2ag y10 y11 y12 y1g y60 y61 y62 y6g
  obtain ⟨y20, y21, y22⟩ := y2.c3
  have y2g := y2.1
  go_wp2_with fail
  refine (FrameH.held F X2 n2 1 _ hlen (by omega) (by omega) q2.rd).mono ?_
  rintro e w8 ⟨he, b8⟩
  obtain rfl : e = .returned (.int .i64 (k4z : Int)) := by rw [he]; exact congrArg (fun x => Ending.returned (.int .i64 x)) (by omega)
  clear he
  replace q1 := q1.below b8
  replace q2 := q2.below b8
  replace q6 := q6.below b8
  replace y1 := y1.below b8
  replace y2 := y2.below b8
  replace y6 := y6.below b8
  replace bb := bb.trans (b8.mono bb.size)
  clear y20 y21 y22 y2g
  go_wp2_with fail
  go_ret
  exact ⟨rfl, b0.trans (bb.mono b0.size)⟩
end Go.Proofs.Ythlkdaogmcjlbaa.fnExactParseFrame
