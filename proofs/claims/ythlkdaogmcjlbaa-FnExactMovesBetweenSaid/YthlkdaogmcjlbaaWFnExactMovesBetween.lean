/-
  The walk of FnExactMovesBetween.
-/
import Derived.Test.YthlkdaogmcjlbaaArg
import Derived.Test.YthlkdaogmcjlbaaKit2
import Derived.Test.YthlkdaogmcjlbaaMoves
import Derived.Test.YthlkdaogmcjlbaaFrameH
import Derived.Test.YthlkdaogmcjlbaaMoveBB
set_option linter.unusedVariables false
namespace Go.Proofs.Ythlkdaogmcjlbaa.fnExactMovesBetween
open Go.ChangeShapes Go.WideShapes Go.ChangeAt Go.RowKit

set_option maxRecDepth 100000 in
set_option maxHeartbeats 16000000 in
/-- the walk: the law's text returns true; nothing that was there has turned. -/
theorem walk (f0 : M.Frame) (A0 : Option Addr) (c0 : Nat) (f1 : M.Frame) (A1 : Option Addr) (c1 : Nat) (W : World) (h0 : K.Rd W 2 A0 f0.rods.length (f0.rods.flatMap M.rodCells)) (m0 : f0.wf) (h1 : K.Rd W 2 A1 f1.rods.length (f1.rods.flatMap M.rodCells)) (m1 : f1.wf) :
    Calls Try.prog 16 #[.agg #[.int .i64 f0.upper, .int .i64 f0.lower, .slice A0 f0.rods.length c0], .agg #[.int .i64 f1.upper, .int .i64 f1.lower, .slice A1 f1.rods.length c1]] W fun e w' => e = .returned (.bool true) ∧ Below W.heap.size W w' := by
  obtain ⟨o0, ho0⟩ : ∃ o : Obj, o = .cells #[.int .i64 f0.upper, .int .i64 f0.lower, .slice A0 f0.rods.length c0] 30 := ⟨_, rfl⟩
  have x0 : K.Box (W.alloc o0) (W.heap.size) [.int .i64 f0.upper, .int .i64 f0.lower, .slice A0 f0.rods.length c0] := by have h := K.Box.new W #[.int .i64 f0.upper, .int .i64 f0.lower, .slice A0 f0.rods.length c0] 30; rw [← ho0] at h; exact h
  obtain ⟨o1, ho1⟩ : ∃ o : Obj, o = .cells #[.int .i64 f1.upper, .int .i64 f1.lower, .slice A1 f1.rods.length c1] 30 := ⟨_, rfl⟩
  have x1 : K.Box ((W.alloc o0).alloc o1) (W.heap.size + 1) [.int .i64 f1.upper, .int .i64 f1.lower, .slice A1 f1.rods.length c1] := by have h := K.Box.new (W.alloc o0) #[.int .i64 f1.upper, .int .i64 f1.lower, .slice A1 f1.rods.length c1] 30; rw [← ho1] at h; rw [World.size_alloc] at h; exact h
  replace x0 := x0.alloc o1
  have b0 : Below W.heap.size W ((W.alloc o0).alloc o1) := ((Below.refl W.heap.size W).alloc (Nat.le_refl _) _).alloc (by simp) _
  have r0 := h0.below b0
  have r1 := h1.below b0
  have bb : Below ((W.alloc o0).alloc o1).heap.size ((W.alloc o0).alloc o1) ((W.alloc o0).alloc o1) := Below.refl _ _
  subst ho0
  subst ho1
  go_enter Try.func16, Try.ntmps16
  obtain ⟨x00, x01, x02⟩ := x0.c3
  have x0g := x0.1
  go_wp2_with fail
  refine (FrameH.sz f0 A0 c0 1048576 _ m0.2.2.1 (by omega) (by omega)).mono ?_
  rintro e w1 ⟨⟨dz1, rfl, hd1⟩, b1⟩
  replace x0 := x0.below b1
  replace x1 := x1.below b1
  replace bb := bb.trans (b1.mono bb.size)
  clear x00 x01 x02 x0g
  by_cases hneg1 : dz1 < 0
  · go_wp2
    go_ret
    exact ⟨rfl, b0.trans (bb.mono b0.size)⟩
  have hl0 : f0.rods.length ≤ 1048576 := by omega
  have hz1 : 0 ≤ dz1 ∧ dz1 ≤ 1048576 := by omega
  clear hd1 hneg1
  obtain ⟨x10, x11, x12⟩ := x1.c3
  have x1g := x1.1
  go_wp2_with fail
  refine (FrameH.sz f1 A1 c1 dz1 _ m1.2.2.1 (by omega) (by omega)).mono ?_
  rintro e w2 ⟨⟨dz2, rfl, hd2⟩, b2⟩
  replace x0 := x0.below b2
  replace x1 := x1.below b2
  replace bb := bb.trans (b2.mono bb.size)
  clear x10 x11 x12 x1g
  by_cases hneg2 : dz2 < 0
  · go_wp2
    go_ret
    exact ⟨rfl, b0.trans (bb.mono b0.size)⟩
  have hl1 : f1.rods.length ≤ 1048576 := by omega
  have hz2 : 0 ≤ dz2 ∧ dz2 ≤ 1048576 := by omega
  clear hd2 hneg2
  have hs := fun (A0q : Option Addr) (c0q : Nat) (A1q : Option Addr) (c1q : Nat) (W' : World) (r0q : K.Rd W' 2 A0q f0.rods.length (f0.rods.flatMap M.rodCells)) (r1q : K.Rd W' 2 A1q f1.rods.length (f1.rods.flatMap M.rodCells)) => MoveBB.s_between f0 f1 A0q A1q c0q c1q W' hl0 hl1 r0q r1q
  have hi := fun (A0q : Option Addr) (c0q : Nat) (A1q : Option Addr) (c1q : Nat) (W' : World) (r0q : K.Rd W' 2 A0q f0.rods.length (f0.rods.flatMap M.rodCells)) (r1q : K.Rd W' 2 A1q f1.rods.length (f1.rods.flatMap M.rodCells)) => MoveBB.i_between f0 f1 A0q A1q c0q c1q W' hl0 hl1 r0q r1q
  have hlen : (M.between f0 f1).1.length ≤ 1048576 := by have := M.between_le f0 f1; omega
  generalize M.between f0 f1 = R at hs hi hlen
  obtain ⟨L, b⟩ := R
  dsimp only at hs hi hlen
  have hbb_b : (b != b) = false := by simp
  have HS := Lib.hid hs
  have HI := Lib.hid hi
  clear hs hi
  try clear m0 h0 m1 h1
  obtain ⟨x00, x01, x02⟩ := x0.c3
  have x0g := x0.1
  obtain ⟨x10, x11, x12⟩ := x1.c3
  have x1g := x1.1
  go_wp2_with fail
  have x0d := x0.drew
  have x1d := x1.drew
  have rd3 := (r0.below bb)
  have rd4 := (r1.below bb)
  go_region_held3 (fun w' => w'.cell? ⟨W.heap.size, 0, none⟩ = some (.int .i64 f0.upper) ∧ w'.cell? ⟨W.heap.size, 1, none⟩ = some (.int .i64 f0.lower) ∧ w'.cell? ⟨W.heap.size, 2, none⟩ = some (.slice A0 f0.rods.length c0) ∧ w'.cell? ⟨W.heap.size + 1, 0, none⟩ = some (.int .i64 f1.upper) ∧ w'.cell? ⟨W.heap.size + 1, 1, none⟩ = some (.int .i64 f1.lower) ∧ w'.cell? ⟨W.heap.size + 1, 2, none⟩ = some (.slice A1 f1.rods.length c1))
    (((try dsimp only); refine ⟨(by (refine K.Box.at_ (vs := [.int .i64 f0.upper, .int .i64 f0.lower, .slice A0 f0.rods.length c0]) (j := 0) ?_ rfl; (repeat (first | with_reducible assumption | (with_reducible refine K.Box.alloc ?_ _) | (with_reducible refine K.Box.drew ?_) | (with_reducible refine K.Box.setOther ?_ (by simp <;> omega) _) | (with_reducible refine K.Box.below ?_ (by with_reducible assumption)))))), (by (refine K.Box.at_ (vs := [.int .i64 f0.upper, .int .i64 f0.lower, .slice A0 f0.rods.length c0]) (j := 1) ?_ rfl; (repeat (first | with_reducible assumption | (with_reducible refine K.Box.alloc ?_ _) | (with_reducible refine K.Box.drew ?_) | (with_reducible refine K.Box.setOther ?_ (by simp <;> omega) _) | (with_reducible refine K.Box.below ?_ (by with_reducible assumption)))))), (by (refine K.Box.at_ (vs := [.int .i64 f0.upper, .int .i64 f0.lower, .slice A0 f0.rods.length c0]) (j := 2) ?_ rfl; (repeat (first | with_reducible assumption | (with_reducible refine K.Box.alloc ?_ _) | (with_reducible refine K.Box.drew ?_) | (with_reducible refine K.Box.setOther ?_ (by simp <;> omega) _) | (with_reducible refine K.Box.below ?_ (by with_reducible assumption)))))), (by (refine K.Box.at_ (vs := [.int .i64 f1.upper, .int .i64 f1.lower, .slice A1 f1.rods.length c1]) (j := 0) ?_ rfl; (repeat (first | with_reducible assumption | (with_reducible refine K.Box.alloc ?_ _) | (with_reducible refine K.Box.drew ?_) | (with_reducible refine K.Box.setOther ?_ (by simp <;> omega) _) | (with_reducible refine K.Box.below ?_ (by with_reducible assumption)))))), (by (refine K.Box.at_ (vs := [.int .i64 f1.upper, .int .i64 f1.lower, .slice A1 f1.rods.length c1]) (j := 1) ?_ rfl; (repeat (first | with_reducible assumption | (with_reducible refine K.Box.alloc ?_ _) | (with_reducible refine K.Box.drew ?_) | (with_reducible refine K.Box.setOther ?_ (by simp <;> omega) _) | (with_reducible refine K.Box.below ?_ (by with_reducible assumption)))))), (by (refine K.Box.at_ (vs := [.int .i64 f1.upper, .int .i64 f1.lower, .slice A1 f1.rods.length c1]) (j := 2) ?_ rfl; (repeat (first | with_reducible assumption | (with_reducible refine K.Box.alloc ?_ _) | (with_reducible refine K.Box.drew ?_) | (with_reducible refine K.Box.setOther ?_ (by simp <;> omega) _) | (with_reducible refine K.Box.below ?_ (by with_reducible assumption))))))⟩))
    (first | (go_at_call 23; ((with_reducible refine (FrameH.copy f0 A0 c0 _ hl0 (by (repeat (first | with_reducible assumption | (with_reducible refine K.Rd.alloc ?_ _) | (with_reducible refine K.Rd.drew ?_) | (with_reducible refine K.Rd.below ?_ (by with_reducible assumption)))))).mono ?_)); rintro e w3 ⟨X3, n3, rfl, q3, b3⟩; have qd3 := q3.rd) | (go_at_call 23; ((with_reducible refine (FrameH.copy f1 A1 c1 _ hl1 (by (repeat (first | with_reducible assumption | (with_reducible refine K.Rd.alloc ?_ _) | (with_reducible refine K.Rd.drew ?_) | (with_reducible refine K.Rd.below ?_ (by with_reducible assumption)))))).mono ?_)); rintro e w4 ⟨X4, n4, rfl, q4, b4⟩; have qd4 := q4.rd) | (go_at_call 62; ((with_reducible refine (HS.out X3 n3 X4 n4 _ (by (repeat (first | with_reducible assumption | (with_reducible refine K.Rd.alloc ?_ _) | (with_reducible refine K.Rd.drew ?_) | (with_reducible refine K.Rd.below ?_ (by with_reducible assumption))))) (by (repeat (first | with_reducible assumption | (with_reducible refine K.Rd.alloc ?_ _) | (with_reducible refine K.Rd.drew ?_) | (with_reducible refine K.Rd.below ?_ (by with_reducible assumption)))))).mono ?_)); rintro e w5 ⟨X5, n5, rfl, q5, b5⟩))
  replace bb := bb.drew
  replace x0 := x0.drew
  replace x1 := x1.drew
  have nb_q3_x0 : K.blk X3 ≠ some (W.heap.size) := fun h => by have h1 := (q3.lt _ h).1; have h2 := x0.1; omega
  have nb_q3_x1 : K.blk X3 ≠ some (W.heap.size + 1) := fun h => by have h1 := (q3.lt _ h).1; have h2 := x1.1; omega
  replace q3 := q3.more bb.size
  replace x0 := x0.below b3
  replace x1 := x1.below b3
  replace bb := bb.trans (b3.mono bb.size)
  have ap_q3_q4 := K.apart q3 q4 (Nat.le_refl _) (Nat.le_refl _)
  have nb_q4_x0 : K.blk X4 ≠ some (W.heap.size) := fun h => by have h1 := (q4.lt _ h).1; have h2 := x0.1; omega
  have nb_q4_x1 : K.blk X4 ≠ some (W.heap.size + 1) := fun h => by have h1 := (q4.lt _ h).1; have h2 := x1.1; omega
  replace q4 := q4.more bb.size
  replace q3 := q3.below b4
  replace x0 := x0.below b4
  replace x1 := x1.below b4
  replace bb := bb.trans (b4.mono bb.size)
  clear x0d x1d
  clear x00 x01 x02 x0g x10 x11 x12 x1g
  have ap_q3_q5 := K.apart q3 q5 (Nat.le_refl _) (Nat.le_refl _)
  have ap_q4_q5 := K.apart q4 q5 (Nat.le_refl _) (Nat.le_refl _)
  have nb_q5_x0 : K.blk X5 ≠ some (W.heap.size) := fun h => by have h1 := (q5.lt _ h).1; have h2 := x0.1; omega
  have nb_q5_x1 : K.blk X5 ≠ some (W.heap.size + 1) := fun h => by have h1 := (q5.lt _ h).1; have h2 := x1.1; omega
  replace q5 := q5.more bb.size
  replace q3 := q3.below b5
  replace q4 := q4.below b5
  replace x0 := x0.below b5
  replace x1 := x1.below b5
  replace bb := bb.trans (b5.mono bb.size)
  obtain ⟨x00, x01, x02⟩ := x0.c3
  have x0g := x0.1
  go_wp2_with fail
  refine (FrameH.copy f0 A0 c0 _ hl0 (r0.below bb)).mono ?_
  rintro e w6 ⟨X6, n6, rfl, q6, b6⟩
  have ap_q3_q6 := K.apart q3 q6 (Nat.le_refl _) (Nat.le_refl _)
  have ap_q4_q6 := K.apart q4 q6 (Nat.le_refl _) (Nat.le_refl _)
  have ap_q5_q6 := K.apart q5 q6 (Nat.le_refl _) (Nat.le_refl _)
  have nb_q6_x0 : K.blk X6 ≠ some (W.heap.size) := fun h => by have h1 := (q6.lt _ h).1; have h2 := x0.1; omega
  have nb_q6_x1 : K.blk X6 ≠ some (W.heap.size + 1) := fun h => by have h1 := (q6.lt _ h).1; have h2 := x1.1; omega
  replace q6 := q6.more bb.size
  replace q3 := q3.below b6
  replace q4 := q4.below b6
  replace q5 := q5.below b6
  replace x0 := x0.below b6
  replace x1 := x1.below b6
  replace bb := bb.trans (b6.mono bb.size)
  clear x00 x01 x02 x0g
  obtain ⟨ob, ho⟩ : ∃ o : Obj, o = .cells #[.int .i64 f0.upper, .int .i64 f0.lower, .slice X6 f0.rods.length n6] 33 := ⟨_, rfl⟩
  have y6 : K.Box (w6.alloc ob) w6.heap.size [.int .i64 f0.upper, .int .i64 f0.lower, .slice X6 f0.rods.length n6] := by rw [ho]; exact K.Box.new _ _ _
  have nb_q3_y6 : K.blk X3 ≠ some (w6.heap.size) := fun h => Nat.lt_irrefl _ (q3.lt _ h).2
  have nb_q4_y6 : K.blk X4 ≠ some (w6.heap.size) := fun h => Nat.lt_irrefl _ (q4.lt _ h).2
  have nb_q5_y6 : K.blk X5 ≠ some (w6.heap.size) := fun h => Nat.lt_irrefl _ (q5.lt _ h).2
  have nb_q6_y6 : K.blk X6 ≠ some (w6.heap.size) := fun h => Nat.lt_irrefl _ (q6.lt _ h).2
  obtain ⟨x0a0, x0a1, x0a2⟩ := x0.c3
  have x0ag := x0.1
  obtain ⟨x1a0, x1a1, x1a2⟩ := x1.c3
  have x1ag := x1.1
  replace q3 := q3.alloc ob
  replace q4 := q4.alloc ob
  replace q5 := q5.alloc ob
  replace q6 := q6.alloc ob
  replace x0 := x0.alloc ob
  replace x1 := x1.alloc ob
  replace bb := bb.alloc bb.size ob
  subst ho
  obtain ⟨x10, x11, x12⟩ := x1.c3
  have x1g := x1.1
  go_wp2_with fail
  refine (FrameH.copy f1 A1 c1 _ hl1 (r1.below bb)).mono ?_
  rintro e w7 ⟨X7, n7, rfl, q7, b7⟩
  have ap_q3_q7 := K.apart q3 q7 (Nat.le_refl _) (Nat.le_refl _)
  have ap_q4_q7 := K.apart q4 q7 (Nat.le_refl _) (Nat.le_refl _)
  have ap_q5_q7 := K.apart q5 q7 (Nat.le_refl _) (Nat.le_refl _)
  have ap_q6_q7 := K.apart q6 q7 (Nat.le_refl _) (Nat.le_refl _)
  have nb_q7_x0 : K.blk X7 ≠ some (W.heap.size) := fun h => by have h1 := (q7.lt _ h).1; have h2 := x0.1; omega
  have nb_q7_x1 : K.blk X7 ≠ some (W.heap.size + 1) := fun h => by have h1 := (q7.lt _ h).1; have h2 := x1.1; omega
  have nb_q7_y6 : K.blk X7 ≠ some (w6.heap.size) := fun h => by have h1 := (q7.lt _ h).1; have h2 := y6.1; omega
  replace q7 := q7.more bb.size
  replace q3 := q3.below b7
  replace q4 := q4.below b7
  replace q5 := q5.below b7
  replace q6 := q6.below b7
  replace x0 := x0.below b7
  replace x1 := x1.below b7
  replace y6 := y6.below b7
  replace bb := bb.trans (b7.mono bb.size)
  clear x0a0 x0a1 x0a2 x0ag x1a0 x1a1 x1a2 x1ag x10 x11 x12 x1g
  obtain ⟨ob, ho⟩ : ∃ o : Obj, o = .cells #[.int .i64 f1.upper, .int .i64 f1.lower, .slice X7 f1.rods.length n7] 33 := ⟨_, rfl⟩
  have y7 : K.Box (w7.alloc ob) w7.heap.size [.int .i64 f1.upper, .int .i64 f1.lower, .slice X7 f1.rods.length n7] := by rw [ho]; exact K.Box.new _ _ _
  have nb_q3_y7 : K.blk X3 ≠ some (w7.heap.size) := fun h => Nat.lt_irrefl _ (q3.lt _ h).2
  have nb_q4_y7 : K.blk X4 ≠ some (w7.heap.size) := fun h => Nat.lt_irrefl _ (q4.lt _ h).2
  have nb_q5_y7 : K.blk X5 ≠ some (w7.heap.size) := fun h => Nat.lt_irrefl _ (q5.lt _ h).2
  have nb_q6_y7 : K.blk X6 ≠ some (w7.heap.size) := fun h => Nat.lt_irrefl _ (q6.lt _ h).2
  have nb_q7_y7 : K.blk X7 ≠ some (w7.heap.size) := fun h => Nat.lt_irrefl _ (q7.lt _ h).2
  obtain ⟨x0a0, x0a1, x0a2⟩ := x0.c3
  have x0ag := x0.1
  obtain ⟨x1a0, x1a1, x1a2⟩ := x1.c3
  have x1ag := x1.1
  obtain ⟨y6a0, y6a1, y6a2⟩ := y6.c3
  have y6ag := y6.1
  replace q3 := q3.alloc ob
  replace q4 := q4.alloc ob
  replace q5 := q5.alloc ob
  replace q6 := q6.alloc ob
  replace q7 := q7.alloc ob
  replace x0 := x0.alloc ob
  replace x1 := x1.alloc ob
  replace y6 := y6.alloc ob
  replace bb := bb.alloc bb.size ob
  subst ho
  obtain ⟨y60, y61, y62⟩ := y6.c3
  have y6g := y6.1
  obtain ⟨y70, y71, y72⟩ := y7.c3
  have y7g := y7.1
  go_wp2_with fail
  refine (HI.out X6 n6 X7 n7 _ q6.rd q7.rd).mono ?_
  rintro e w8 ⟨X8, n8, rfl, q8, b8⟩
  have ap_q3_q8 := K.apart q3 q8 (Nat.le_refl _) (Nat.le_refl _)
  have ap_q4_q8 := K.apart q4 q8 (Nat.le_refl _) (Nat.le_refl _)
  have ap_q5_q8 := K.apart q5 q8 (Nat.le_refl _) (Nat.le_refl _)
  have ap_q6_q8 := K.apart q6 q8 (Nat.le_refl _) (Nat.le_refl _)
  have ap_q7_q8 := K.apart q7 q8 (Nat.le_refl _) (Nat.le_refl _)
  have nb_q8_x0 : K.blk X8 ≠ some (W.heap.size) := fun h => by have h1 := (q8.lt _ h).1; have h2 := x0.1; omega
  have nb_q8_x1 : K.blk X8 ≠ some (W.heap.size + 1) := fun h => by have h1 := (q8.lt _ h).1; have h2 := x1.1; omega
  have nb_q8_y6 : K.blk X8 ≠ some (w6.heap.size) := fun h => by have h1 := (q8.lt _ h).1; have h2 := y6.1; omega
  have nb_q8_y7 : K.blk X8 ≠ some (w7.heap.size) := fun h => by have h1 := (q8.lt _ h).1; have h2 := y7.1; omega
  replace q8 := q8.more bb.size
  replace q3 := q3.below b8
  replace q4 := q4.below b8
  replace q5 := q5.below b8
  replace q6 := q6.below b8
  replace q7 := q7.below b8
  replace x0 := x0.below b8
  replace x1 := x1.below b8
  replace y6 := y6.below b8
  replace y7 := y7.below b8
  replace bb := bb.trans (b8.mono bb.size)
  clear x0a0 x0a1 x0a2 x0ag x1a0 x1a1 x1a2 x1ag y6a0 y6a1 y6a2 y6ag y60 y61 y62 y6g y70 y71 y72 y7g
  go_wp2_with fail
  refine (Moves.eq_yes X8 X5 n8 n5 L _ hlen q8.rd q5.rd).mono ?_
  rintro e w9 ⟨rfl, b9⟩
  replace q3 := q3.below b9
  replace q4 := q4.below b9
  replace q5 := q5.below b9
  replace q6 := q6.below b9
  replace q7 := q7.below b9
  replace q8 := q8.below b9
  replace x0 := x0.below b9
  replace x1 := x1.below b9
  replace y6 := y6.below b9
  replace y7 := y7.below b9
  replace bb := bb.trans (b9.mono bb.size)
  obtain ⟨x00, x01, x02⟩ := x0.c3
  have x0g := x0.1
  obtain ⟨y60, y61, y62⟩ := y6.c3
  have y6g := y6.1
  go_wp2_with fail
  have x0d := x0.drew
  have y6d := y6.drew
  have rdd := (r0.below bb).drew
  go_region_held3 (fun w' => w'.cell? ⟨W.heap.size, 0, none⟩ = some (.int .i64 f0.upper) ∧ w'.cell? ⟨W.heap.size, 1, none⟩ = some (.int .i64 f0.lower) ∧ w'.cell? ⟨W.heap.size, 2, none⟩ = some (.slice A0 f0.rods.length c0) ∧ w'.cell? ⟨w6.heap.size, 0, none⟩ = some (.int .i64 f0.upper) ∧ w'.cell? ⟨w6.heap.size, 1, none⟩ = some (.int .i64 f0.lower) ∧ w'.cell? ⟨w6.heap.size, 2, none⟩ = some (.slice X6 f0.rods.length n6))
    (first | go_keep | exact ⟨(x0d.below b10).2 0 _ rfl, (x0d.below b10).2 1 _ rfl, (x0d.below b10).2 2 _ rfl, (y6d.below b10).2 0 _ rfl, (y6d.below b10).2 1 _ rfl, (y6d.below b10).2 2 _ rfl⟩ | exact ⟨((x0d.below b10).below b11).2 0 _ rfl, ((x0d.below b10).below b11).2 1 _ rfl, ((x0d.below b10).below b11).2 2 _ rfl, ((y6d.below b10).below b11).2 0 _ rfl, ((y6d.below b10).below b11).2 1 _ rfl, ((y6d.below b10).below b11).2 2 _ rfl⟩)
    (first | (go_at_call 23; refine (FrameH.copy f0 A0 c0 _ hl0 (by exact rdd)).mono ?_; rintro e w10 ⟨X10, n10, rfl, q10, b10⟩) | (go_at_call 25; refine (FrameH.eq_yes f0 X6 X10 n6 n10 _ hl0 (by exact q6.drew.rd.below b10) (by exact q10.rd)).mono ?_; rintro e w11 ⟨rfl, b11⟩))
  replace bb := bb.drew
  replace q3 := q3.drew
  replace q4 := q4.drew
  replace q5 := q5.drew
  replace q6 := q6.drew
  replace q7 := q7.drew
  replace q8 := q8.drew
  replace x0 := x0.drew
  replace x1 := x1.drew
  replace y6 := y6.drew
  replace y7 := y7.drew
  replace q3 := q3.below b10
  replace q4 := q4.below b10
  replace q5 := q5.below b10
  replace q6 := q6.below b10
  replace q7 := q7.below b10
  replace q8 := q8.below b10
  replace x0 := x0.below b10
  replace x1 := x1.below b10
  replace y6 := y6.below b10
  replace y7 := y7.below b10
  replace bb := bb.trans (b10.mono bb.size)
  replace q3 := q3.below b11
  replace q4 := q4.below b11
  replace q5 := q5.below b11
  replace q6 := q6.below b11
  replace q7 := q7.below b11
  replace q8 := q8.below b11
  replace x0 := x0.below b11
  replace x1 := x1.below b11
  replace y6 := y6.below b11
  replace y7 := y7.below b11
  replace bb := bb.trans (b11.mono bb.size)
  clear x0d y6d rdd
  clear x00 x01 x02 x0g y60 y61 y62 y6g
  obtain ⟨x10, x11, x12⟩ := x1.c3
  have x1g := x1.1
  obtain ⟨y70, y71, y72⟩ := y7.c3
  have y7g := y7.1
  go_wp2_with fail
  have x1d := x1.drew
  have y7d := y7.drew
  have rdd := (r1.below bb).drew
  go_region_held3 (fun w' => w'.cell? ⟨W.heap.size + 1, 0, none⟩ = some (.int .i64 f1.upper) ∧ w'.cell? ⟨W.heap.size + 1, 1, none⟩ = some (.int .i64 f1.lower) ∧ w'.cell? ⟨W.heap.size + 1, 2, none⟩ = some (.slice A1 f1.rods.length c1) ∧ w'.cell? ⟨w7.heap.size, 0, none⟩ = some (.int .i64 f1.upper) ∧ w'.cell? ⟨w7.heap.size, 1, none⟩ = some (.int .i64 f1.lower) ∧ w'.cell? ⟨w7.heap.size, 2, none⟩ = some (.slice X7 f1.rods.length n7))
    (first | go_keep | exact ⟨(x1d.below b12).2 0 _ rfl, (x1d.below b12).2 1 _ rfl, (x1d.below b12).2 2 _ rfl, (y7d.below b12).2 0 _ rfl, (y7d.below b12).2 1 _ rfl, (y7d.below b12).2 2 _ rfl⟩ | exact ⟨((x1d.below b12).below b13).2 0 _ rfl, ((x1d.below b12).below b13).2 1 _ rfl, ((x1d.below b12).below b13).2 2 _ rfl, ((y7d.below b12).below b13).2 0 _ rfl, ((y7d.below b12).below b13).2 1 _ rfl, ((y7d.below b12).below b13).2 2 _ rfl⟩)
    (first | (go_at_call 23; refine (FrameH.copy f1 A1 c1 _ hl1 (by exact rdd)).mono ?_; rintro e w12 ⟨X12, n12, rfl, q12, b12⟩) | (go_at_call 25; refine (FrameH.eq_yes f1 X7 X12 n7 n12 _ hl1 (by exact q7.drew.rd.below b12) (by exact q12.rd)).mono ?_; rintro e w13 ⟨rfl, b13⟩))
  replace bb := bb.drew
  replace q3 := q3.drew
  replace q4 := q4.drew
  replace q5 := q5.drew
  replace q6 := q6.drew
  replace q7 := q7.drew
  replace q8 := q8.drew
  replace x0 := x0.drew
  replace x1 := x1.drew
  replace y6 := y6.drew
  replace y7 := y7.drew
  replace q3 := q3.below b12
  replace q4 := q4.below b12
  replace q5 := q5.below b12
  replace q6 := q6.below b12
  replace q7 := q7.below b12
  replace q8 := q8.below b12
  replace x0 := x0.below b12
  replace x1 := x1.below b12
  replace y6 := y6.below b12
  replace y7 := y7.below b12
  replace bb := bb.trans (b12.mono bb.size)
  replace q3 := q3.below b13
  replace q4 := q4.below b13
  replace q5 := q5.below b13
  replace q6 := q6.below b13
  replace q7 := q7.below b13
  replace q8 := q8.below b13
  replace x0 := x0.below b13
  replace x1 := x1.below b13
  replace y6 := y6.below b13
  replace y7 := y7.below b13
  replace bb := bb.trans (b13.mono bb.size)
  clear x1d y7d rdd
  clear x10 x11 x12 x1g y70 y71 y72 y7g
  obtain ⟨y60, y61, y62⟩ := y6.c3
  have y6g := y6.1
  go_wp2_with fail
  refine (FrameH.mark f0 X6 n6 _ 1 _ hl0 (by omega) (by omega) q6).mono ?_
  rintro e w14 ⟨he, z14, g14⟩
  replace q3 := q3.kept g14 ap_q3_q6
  replace q4 := q4.kept g14 ap_q4_q6
  replace q5 := q5.kept g14 ap_q5_q6
  replace q7 := q7.kept g14 (fun g h1 h2 => ap_q6_q7 g h2 h1)
  replace q8 := q8.kept g14 (fun g h1 h2 => ap_q6_q8 g h2 h1)
  replace x0 := x0.kept g14 nb_q6_x0
  replace x1 := x1.kept g14 nb_q6_x1
  replace y6 := y6.kept g14 nb_q6_y6
  replace y7 := y7.kept g14 nb_q6_y7
  replace bb := bb.trans (K.below_of_grown g14 bb.size (fun g hg => (q6.lt g hg).1))
  replace q6 := z14
  clear z14 g14
  obtain ⟨k14z, hkk14z, hlk14z, hjk14z⟩ : ∃ k : Nat, k ≤ 1 + 2 * f0.rods.length ∧ 1 + 2 * f0.rods.length ≤ k ∧ e = .returned (.int .i64 (k : Int)) := ⟨_, Nat.le_refl _, Nat.le_refl _, by rw [he]; exact congrArg (fun x => Ending.returned (.int .i64 x)) (by omega)⟩
  subst hjk14z
  clear he
  clear y60 y61 y62 y6g
  obtain ⟨y70, y71, y72⟩ := y7.c3
  have y7g := y7.1
  go_wp2_with fail
  refine (FrameH.mark f1 X7 n7 _ k14z _ hl1 (by omega) (by omega) q7).mono ?_
  rintro e w15 ⟨he, z15, g15⟩
  replace q3 := q3.kept g15 ap_q3_q7
  replace q4 := q4.kept g15 ap_q4_q7
  replace q5 := q5.kept g15 ap_q5_q7
  replace q6 := q6.kept g15 ap_q6_q7
  replace q8 := q8.kept g15 (fun g h1 h2 => ap_q7_q8 g h2 h1)
  replace x0 := x0.kept g15 nb_q7_x0
  replace x1 := x1.kept g15 nb_q7_x1
  replace y6 := y6.kept g15 nb_q7_y6
  replace y7 := y7.kept g15 nb_q7_y7
  replace bb := bb.trans (K.below_of_grown g15 bb.size (fun g hg => (q7.lt g hg).1))
  replace q7 := z15
  clear z15 g15
  obtain ⟨k15z, hkk15z, hlk15z, hjk15z⟩ : ∃ k : Nat, k ≤ k14z + 2 * f1.rods.length ∧ k14z + 2 * f1.rods.length ≤ k ∧ e = .returned (.int .i64 (k : Int)) := ⟨_, Nat.le_refl _, Nat.le_refl _, by rw [he]; exact congrArg (fun x => Ending.returned (.int .i64 x)) (by omega)⟩
  subst hjk15z
  clear he
  clear y70 y71 y72 y7g
  go_wp2_with fail
  refine (Moves.eq_yes X8 X5 n8 n5 L _ hlen q8.rd q5.rd).mono ?_
  rintro e w16 ⟨rfl, b16⟩
  replace q3 := q3.below b16
  replace q4 := q4.below b16
  replace q5 := q5.below b16
  replace q6 := q6.below b16
  replace q7 := q7.below b16
  replace q8 := q8.below b16
  replace x0 := x0.below b16
  replace x1 := x1.below b16
  replace y6 := y6.below b16
  replace y7 := y7.below b16
  replace bb := bb.trans (b16.mono bb.size)
  go_wp2_with fail
  refine (Moves.mark X8 _ n8 _ 1 _ _ hlen (by omega) (by omega) q8).mono ?_
  rintro e w17 ⟨he, z17, g17⟩
  replace q3 := q3.kept g17 ap_q3_q8
  replace q4 := q4.kept g17 ap_q4_q8
  replace q5 := q5.kept g17 ap_q5_q8
  replace q6 := q6.kept g17 ap_q6_q8
  replace q7 := q7.kept g17 ap_q7_q8
  replace x0 := x0.kept g17 nb_q8_x0
  replace x1 := x1.kept g17 nb_q8_x1
  replace y6 := y6.kept g17 nb_q8_y6
  replace y7 := y7.kept g17 nb_q8_y7
  replace bb := bb.trans (K.below_of_grown g17 bb.size (fun g hg => (q8.lt g hg).1))
  replace q8 := z17
  clear z17 g17
  obtain ⟨k17z, hkk17z, hlk17z, hjk17z⟩ : ∃ k : Nat, k ≤ 1 + 3 * L.length ∧ 1 + 3 * L.length ≤ k ∧ e = .returned (.int .i64 (k : Int)) := ⟨_, Nat.le_refl _, Nat.le_refl _, by rw [he]; exact congrArg (fun x => Ending.returned (.int .i64 x)) (by omega)⟩
  subst hjk17z
  clear he
  go_wp2_with fail
  refine (Moves.held X8 _ n8 1 _ hlen (by omega) (by omega) q8.rd).mono ?_
  rintro e w18 ⟨he, b18⟩
  obtain rfl : e = .returned (.int .i64 (k17z : Int)) := by rw [he]; exact congrArg (fun x => Ending.returned (.int .i64 x)) (by omega)
  clear he
  replace q3 := q3.below b18
  replace q4 := q4.below b18
  replace q5 := q5.below b18
  replace q6 := q6.below b18
  replace q7 := q7.below b18
  replace q8 := q8.below b18
  replace x0 := x0.below b18
  replace x1 := x1.below b18
  replace y6 := y6.below b18
  replace y7 := y7.below b18
  replace bb := bb.trans (b18.mono bb.size)
  obtain ⟨x00, x01, x02⟩ := x0.c3
  have x0g := x0.1
  obtain ⟨x10, x11, x12⟩ := x1.c3
  have x1g := x1.1
  go_wp2_with fail
  have x0d := x0.drew
  have x1d := x1.drew
  have rd19 := (r0.below bb)
  have rd20 := (r1.below bb)
  go_region_held3 (fun w' => w'.cell? ⟨W.heap.size, 0, none⟩ = some (.int .i64 f0.upper) ∧ w'.cell? ⟨W.heap.size, 1, none⟩ = some (.int .i64 f0.lower) ∧ w'.cell? ⟨W.heap.size, 2, none⟩ = some (.slice A0 f0.rods.length c0) ∧ w'.cell? ⟨W.heap.size + 1, 0, none⟩ = some (.int .i64 f1.upper) ∧ w'.cell? ⟨W.heap.size + 1, 1, none⟩ = some (.int .i64 f1.lower) ∧ w'.cell? ⟨W.heap.size + 1, 2, none⟩ = some (.slice A1 f1.rods.length c1))
    (((try dsimp only); refine ⟨(by (refine K.Box.at_ (vs := [.int .i64 f0.upper, .int .i64 f0.lower, .slice A0 f0.rods.length c0]) (j := 0) ?_ rfl; (repeat (first | with_reducible assumption | (with_reducible refine K.Box.alloc ?_ _) | (with_reducible refine K.Box.drew ?_) | (with_reducible refine K.Box.setOther ?_ (by simp <;> omega) _) | (with_reducible refine K.Box.below ?_ (by with_reducible assumption)))))), (by (refine K.Box.at_ (vs := [.int .i64 f0.upper, .int .i64 f0.lower, .slice A0 f0.rods.length c0]) (j := 1) ?_ rfl; (repeat (first | with_reducible assumption | (with_reducible refine K.Box.alloc ?_ _) | (with_reducible refine K.Box.drew ?_) | (with_reducible refine K.Box.setOther ?_ (by simp <;> omega) _) | (with_reducible refine K.Box.below ?_ (by with_reducible assumption)))))), (by (refine K.Box.at_ (vs := [.int .i64 f0.upper, .int .i64 f0.lower, .slice A0 f0.rods.length c0]) (j := 2) ?_ rfl; (repeat (first | with_reducible assumption | (with_reducible refine K.Box.alloc ?_ _) | (with_reducible refine K.Box.drew ?_) | (with_reducible refine K.Box.setOther ?_ (by simp <;> omega) _) | (with_reducible refine K.Box.below ?_ (by with_reducible assumption)))))), (by (refine K.Box.at_ (vs := [.int .i64 f1.upper, .int .i64 f1.lower, .slice A1 f1.rods.length c1]) (j := 0) ?_ rfl; (repeat (first | with_reducible assumption | (with_reducible refine K.Box.alloc ?_ _) | (with_reducible refine K.Box.drew ?_) | (with_reducible refine K.Box.setOther ?_ (by simp <;> omega) _) | (with_reducible refine K.Box.below ?_ (by with_reducible assumption)))))), (by (refine K.Box.at_ (vs := [.int .i64 f1.upper, .int .i64 f1.lower, .slice A1 f1.rods.length c1]) (j := 1) ?_ rfl; (repeat (first | with_reducible assumption | (with_reducible refine K.Box.alloc ?_ _) | (with_reducible refine K.Box.drew ?_) | (with_reducible refine K.Box.setOther ?_ (by simp <;> omega) _) | (with_reducible refine K.Box.below ?_ (by with_reducible assumption)))))), (by (refine K.Box.at_ (vs := [.int .i64 f1.upper, .int .i64 f1.lower, .slice A1 f1.rods.length c1]) (j := 2) ?_ rfl; (repeat (first | with_reducible assumption | (with_reducible refine K.Box.alloc ?_ _) | (with_reducible refine K.Box.drew ?_) | (with_reducible refine K.Box.setOther ?_ (by simp <;> omega) _) | (with_reducible refine K.Box.below ?_ (by with_reducible assumption))))))⟩))
    (first | (go_at_call 23; ((with_reducible refine (FrameH.copy f0 A0 c0 _ hl0 (by (repeat (first | with_reducible assumption | (with_reducible refine K.Rd.alloc ?_ _) | (with_reducible refine K.Rd.drew ?_) | (with_reducible refine K.Rd.below ?_ (by with_reducible assumption)))))).mono ?_)); rintro e w19 ⟨X19, n19, rfl, q19, b19⟩; have qd19 := q19.rd) | (go_at_call 23; ((with_reducible refine (FrameH.copy f1 A1 c1 _ hl1 (by (repeat (first | with_reducible assumption | (with_reducible refine K.Rd.alloc ?_ _) | (with_reducible refine K.Rd.drew ?_) | (with_reducible refine K.Rd.below ?_ (by with_reducible assumption)))))).mono ?_)); rintro e w20 ⟨X20, n20, rfl, q20, b20⟩; have qd20 := q20.rd) | (go_at_call 63; ((with_reducible refine (HI.out X19 n19 X20 n20 _ (by (repeat (first | with_reducible assumption | (with_reducible refine K.Rd.alloc ?_ _) | (with_reducible refine K.Rd.drew ?_) | (with_reducible refine K.Rd.below ?_ (by with_reducible assumption))))) (by (repeat (first | with_reducible assumption | (with_reducible refine K.Rd.alloc ?_ _) | (with_reducible refine K.Rd.drew ?_) | (with_reducible refine K.Rd.below ?_ (by with_reducible assumption)))))).mono ?_)); rintro e w21 ⟨X21, n21, rfl, q21, b21⟩))
  replace bb := bb.drew
  replace q3 := q3.drew
  replace q4 := q4.drew
  replace q5 := q5.drew
  replace q6 := q6.drew
  replace q7 := q7.drew
  replace q8 := q8.drew
  replace x0 := x0.drew
  replace x1 := x1.drew
  replace y6 := y6.drew
  replace y7 := y7.drew
  have ap_q3_q19 := K.apart q3 q19 (Nat.le_refl _) (Nat.le_refl _)
  have ap_q4_q19 := K.apart q4 q19 (Nat.le_refl _) (Nat.le_refl _)
  have ap_q5_q19 := K.apart q5 q19 (Nat.le_refl _) (Nat.le_refl _)
  have ap_q6_q19 := K.apart q6 q19 (Nat.le_refl _) (Nat.le_refl _)
  have ap_q7_q19 := K.apart q7 q19 (Nat.le_refl _) (Nat.le_refl _)
  have ap_q8_q19 := K.apart q8 q19 (Nat.le_refl _) (Nat.le_refl _)
  have nb_q19_x0 : K.blk X19 ≠ some (W.heap.size) := fun h => by have h1 := (q19.lt _ h).1; have h2 := x0.1; omega
  have nb_q19_x1 : K.blk X19 ≠ some (W.heap.size + 1) := fun h => by have h1 := (q19.lt _ h).1; have h2 := x1.1; omega
  have nb_q19_y6 : K.blk X19 ≠ some (w6.heap.size) := fun h => by have h1 := (q19.lt _ h).1; have h2 := y6.1; omega
  have nb_q19_y7 : K.blk X19 ≠ some (w7.heap.size) := fun h => by have h1 := (q19.lt _ h).1; have h2 := y7.1; omega
  replace q19 := q19.more bb.size
  replace q3 := q3.below b19
  replace q4 := q4.below b19
  replace q5 := q5.below b19
  replace q6 := q6.below b19
  replace q7 := q7.below b19
  replace q8 := q8.below b19
  replace x0 := x0.below b19
  replace x1 := x1.below b19
  replace y6 := y6.below b19
  replace y7 := y7.below b19
  replace bb := bb.trans (b19.mono bb.size)
  have ap_q3_q20 := K.apart q3 q20 (Nat.le_refl _) (Nat.le_refl _)
  have ap_q4_q20 := K.apart q4 q20 (Nat.le_refl _) (Nat.le_refl _)
  have ap_q5_q20 := K.apart q5 q20 (Nat.le_refl _) (Nat.le_refl _)
  have ap_q6_q20 := K.apart q6 q20 (Nat.le_refl _) (Nat.le_refl _)
  have ap_q7_q20 := K.apart q7 q20 (Nat.le_refl _) (Nat.le_refl _)
  have ap_q8_q20 := K.apart q8 q20 (Nat.le_refl _) (Nat.le_refl _)
  have ap_q19_q20 := K.apart q19 q20 (Nat.le_refl _) (Nat.le_refl _)
  have nb_q20_x0 : K.blk X20 ≠ some (W.heap.size) := fun h => by have h1 := (q20.lt _ h).1; have h2 := x0.1; omega
  have nb_q20_x1 : K.blk X20 ≠ some (W.heap.size + 1) := fun h => by have h1 := (q20.lt _ h).1; have h2 := x1.1; omega
  have nb_q20_y6 : K.blk X20 ≠ some (w6.heap.size) := fun h => by have h1 := (q20.lt _ h).1; have h2 := y6.1; omega
  have nb_q20_y7 : K.blk X20 ≠ some (w7.heap.size) := fun h => by have h1 := (q20.lt _ h).1; have h2 := y7.1; omega
  replace q20 := q20.more bb.size
  replace q3 := q3.below b20
  replace q4 := q4.below b20
  replace q5 := q5.below b20
  replace q6 := q6.below b20
  replace q7 := q7.below b20
  replace q8 := q8.below b20
  replace q19 := q19.below b20
  replace x0 := x0.below b20
  replace x1 := x1.below b20
  replace y6 := y6.below b20
  replace y7 := y7.below b20
  replace bb := bb.trans (b20.mono bb.size)
  clear x0d x1d
  clear x00 x01 x02 x0g x10 x11 x12 x1g
  have ap_q3_q21 := K.apart q3 q21 (Nat.le_refl _) (Nat.le_refl _)
  have ap_q4_q21 := K.apart q4 q21 (Nat.le_refl _) (Nat.le_refl _)
  have ap_q5_q21 := K.apart q5 q21 (Nat.le_refl _) (Nat.le_refl _)
  have ap_q6_q21 := K.apart q6 q21 (Nat.le_refl _) (Nat.le_refl _)
  have ap_q7_q21 := K.apart q7 q21 (Nat.le_refl _) (Nat.le_refl _)
  have ap_q8_q21 := K.apart q8 q21 (Nat.le_refl _) (Nat.le_refl _)
  have ap_q19_q21 := K.apart q19 q21 (Nat.le_refl _) (Nat.le_refl _)
  have ap_q20_q21 := K.apart q20 q21 (Nat.le_refl _) (Nat.le_refl _)
  have nb_q21_x0 : K.blk X21 ≠ some (W.heap.size) := fun h => by have h1 := (q21.lt _ h).1; have h2 := x0.1; omega
  have nb_q21_x1 : K.blk X21 ≠ some (W.heap.size + 1) := fun h => by have h1 := (q21.lt _ h).1; have h2 := x1.1; omega
  have nb_q21_y6 : K.blk X21 ≠ some (w6.heap.size) := fun h => by have h1 := (q21.lt _ h).1; have h2 := y6.1; omega
  have nb_q21_y7 : K.blk X21 ≠ some (w7.heap.size) := fun h => by have h1 := (q21.lt _ h).1; have h2 := y7.1; omega
  replace q21 := q21.more bb.size
  replace q3 := q3.below b21
  replace q4 := q4.below b21
  replace q5 := q5.below b21
  replace q6 := q6.below b21
  replace q7 := q7.below b21
  replace q8 := q8.below b21
  replace q19 := q19.below b21
  replace q20 := q20.below b21
  replace x0 := x0.below b21
  replace x1 := x1.below b21
  replace y6 := y6.below b21
  replace y7 := y7.below b21
  replace bb := bb.trans (b21.mono bb.size)
  go_wp2_with fail
  refine (Moves.eq_yes X21 X5 n21 n5 L _ hlen q21.rd q5.rd).mono ?_
  rintro e w22 ⟨rfl, b22⟩
  replace q3 := q3.below b22
  replace q4 := q4.below b22
  replace q5 := q5.below b22
  replace q6 := q6.below b22
  replace q7 := q7.below b22
  replace q8 := q8.below b22
  replace q19 := q19.below b22
  replace q20 := q20.below b22
  replace q21 := q21.below b22
  replace x0 := x0.below b22
  replace x1 := x1.below b22
  replace y6 := y6.below b22
  replace y7 := y7.below b22
  replace bb := bb.trans (b22.mono bb.size)
  go_wp2_with fail
  refine (Moves.held X8 _ n8 1 _ hlen (by omega) (by omega) q8.rd).mono ?_
  rintro e w23 ⟨he, b23⟩
  obtain rfl : e = .returned (.int .i64 (k17z : Int)) := by rw [he]; exact congrArg (fun x => Ending.returned (.int .i64 x)) (by omega)
  clear he
  replace q3 := q3.below b23
  replace q4 := q4.below b23
  replace q5 := q5.below b23
  replace q6 := q6.below b23
  replace q7 := q7.below b23
  replace q8 := q8.below b23
  replace q19 := q19.below b23
  replace q20 := q20.below b23
  replace q21 := q21.below b23
  replace x0 := x0.below b23
  replace x1 := x1.below b23
  replace y6 := y6.below b23
  replace y7 := y7.below b23
  replace bb := bb.trans (b23.mono bb.size)
  go_wp2_with fail
  go_ret
  exact ⟨rfl, b0.trans (bb.mono b0.size)⟩
end Go.Proofs.Ythlkdaogmcjlbaa.fnExactMovesBetween
