/-
  The walk of FnExactSetBoard.
-/
import Derived.Test.YtmgegacgjppdbaaArg
import Derived.Test.YtmgegacgjppdbaaKit2
import Derived.Test.YtmgegacgjppdbaaBoardS
import Derived.OpenShut
import Derived.Deep.DeepCutAuto
set_option linter.unusedVariables false
namespace Go.Proofs.Ytmgegacgjppdbaa.fnExactSetBoard
open Go.ChangeShapes Go.WideShapes Go.ChangeAt Go.RowKit

set_option maxRecDepth 100000 in
set_option maxHeartbeats 2000000 in
/-- the walk: the law's text returns true; nothing that was there has turned. -/
theorem walk (a0 : Int) (a1 : Int) (W : World) (h0 : (Lit.int .i64 a0).wf = true) (h1 : (Lit.int .i64 a1).wf = true) :
    Calls Try.prog 4 #[.int .i64 a0, .int .i64 a1] W fun e w' => e = .returned (.bool true) ∧ Below W.heap.size W w' := by
  have b0 : Below W.heap.size W W := Below.refl _ _
  have bb : Below W.heap.size W W := Below.refl _ _
  go_enter Try.func4, Try.ntmps4
  have hs := fun  (W' : World)  => BoardS.s_set a0 a1 W' (Go.bounds_i64 h1).2
  have hi := fun  (W' : World)  => BoardS.i_set a0 a1 W' (Go.bounds_i64 h1).2
  have hlen : (M.setB a0 a1).1.1.length ≤ 1048576 := by have := M.setB_le a0 a1; omega
  have hlen2 : (M.setB a0 a1).1.2.length ≤ 1048576 := by have := M.setB_le a0 a1; omega
  generalize M.setB a0 a1 = R at hs hi hlen hlen2
  obtain ⟨⟨L, L2⟩, b⟩ := R
  dsimp only at hs hi hlen hlen2
  have hbb_b : (b != b) = false := by simp
  have HS := Lib.hid hs
  have HI := Lib.hid hi
  clear hs hi
  go_wp2_with fail
  refine (HS.out  _ ).mono ?_
  rintro e w1 ⟨X1, n1, Y1, j1, rfl, q1, v1, ap_q1_v1, b1⟩
  replace q1 := q1.more bb.size
  replace v1 := v1.more bb.size
  replace bb := bb.trans (b1.mono bb.size)
  obtain ⟨ob, ho⟩ : ∃ o : Obj, o = .cells #[.slice X1 L.length n1, .slice Y1 L2.length j1] 27 := ⟨_, rfl⟩
  have y1 : K.Box (w1.alloc ob) w1.heap.size [.slice X1 L.length n1, .slice Y1 L2.length j1] := by rw [ho]; exact K.Box.new _ _ _
  have nb_q1_y1 : K.blk X1 ≠ some (w1.heap.size) := fun h => Nat.lt_irrefl _ (q1.lt _ h).2
  have nb_v1_y1 : K.blk Y1 ≠ some (w1.heap.size) := fun h => Nat.lt_irrefl _ (v1.lt _ h).2
  replace q1 := q1.alloc ob
  replace v1 := v1.alloc ob
  replace bb := bb.alloc bb.size ob
  subst ho
  go_wp2_with fail
  refine (HI.out  _ ).mono ?_
  rintro e w2 ⟨X2, n2, Y2, j2, rfl, q2, v2, ap_q2_v2, b2⟩
  have ap_q1_q2 := K.apart q1 q2 (Nat.le_refl _) (Nat.le_refl _)
  have ap_v1_q2 := K.apart v1 q2 (Nat.le_refl _) (Nat.le_refl _)
  have nb_q2_y1 : K.blk X2 ≠ some (w1.heap.size) := fun h => by have h1 := (q2.lt _ h).1; have h2 := y1.1; omega
  replace q2 := q2.more bb.size
  have ap_q1_v2 := K.apart q1 v2 (Nat.le_refl _) (Nat.le_refl _)
  have ap_v1_v2 := K.apart v1 v2 (Nat.le_refl _) (Nat.le_refl _)
  have nb_v2_y1 : K.blk Y2 ≠ some (w1.heap.size) := fun h => by have h1 := (v2.lt _ h).1; have h2 := y1.1; omega
  replace v2 := v2.more bb.size
  replace q1 := q1.below b2
  replace v1 := v1.below b2
  replace y1 := y1.below b2
  replace bb := bb.trans (b2.mono bb.size)
  obtain ⟨ob, ho⟩ : ∃ o : Obj, o = .cells #[.slice X2 L.length n2, .slice Y2 L2.length j2] 27 := ⟨_, rfl⟩
  have y2 : K.Box (w2.alloc ob) w2.heap.size [.slice X2 L.length n2, .slice Y2 L2.length j2] := by rw [ho]; exact K.Box.new _ _ _
  have nb_q1_y2 : K.blk X1 ≠ some (w2.heap.size) := fun h => Nat.lt_irrefl _ (q1.lt _ h).2
  have nb_v1_y2 : K.blk Y1 ≠ some (w2.heap.size) := fun h => Nat.lt_irrefl _ (v1.lt _ h).2
  have nb_q2_y2 : K.blk X2 ≠ some (w2.heap.size) := fun h => Nat.lt_irrefl _ (q2.lt _ h).2
  have nb_v2_y2 : K.blk Y2 ≠ some (w2.heap.size) := fun h => Nat.lt_irrefl _ (v2.lt _ h).2
  obtain ⟨y1a0, y1a1⟩ := y1.c2
  have y1ag := y1.1
  replace q1 := q1.alloc ob
  replace v1 := v1.alloc ob
  replace q2 := q2.alloc ob
  replace v2 := v2.alloc ob
  replace y1 := y1.alloc ob
  replace bb := bb.alloc bb.size ob
  subst ho
  obtain ⟨y10, y11⟩ := y1.c2
  have y1g := y1.1
  obtain ⟨y20, y21⟩ := y2.c2
  have y2g := y2.1
  go_wp2_with fail
  refine (BoardH.eq_yes X2 X1 n2 n1 L Y2 Y1 j2 j1 L2 _ hlen hlen2 (q2.rd) (q1.rd) (v2.rd) (v1.rd)).mono ?_
  rintro e w3 ⟨rfl, b3⟩
  replace q1 := q1.below b3
  replace v1 := v1.below b3
  replace q2 := q2.below b3
  replace v2 := v2.below b3
  replace y1 := y1.below b3
  replace y2 := y2.below b3
  replace bb := bb.trans (b3.mono bb.size)
  clear y1a0 y1a1 y1ag y10 y11 y1g y20 y21 y2g
  obtain ⟨y20, y21⟩ := y2.c2
  have y2g := y2.1
  go_wp2_with fail
  refine (BoardH.mark X2 _ n2 Y2 _ j2 _ 1 _ _ _ hlen hlen2 (by omega) (by omega) q2 v2 ap_q2_v2).mono ?_
  rintro e w4 ⟨he, z4, zz4, wm, g4, gg4⟩
  replace q1 := q1.kept g4 ap_q1_q2
  replace v1 := v1.kept g4 ap_v1_q2
  replace y1 := y1.kept g4 nb_q2_y1
  replace y2 := y2.kept g4 nb_q2_y2
  replace q1 := q1.kept gg4 ap_q1_v2
  replace v1 := v1.kept gg4 ap_v1_v2
  replace y1 := y1.kept gg4 nb_v2_y1
  replace y2 := y2.kept gg4 nb_v2_y2
  have bu1 := K.below_of_grown g4 bb.size (fun g hg => (q2.lt g hg).1)
  have bu2 := K.below_of_grown gg4 (bb.trans bu1).size (fun g hg => (v2.lt g hg).1)
  replace bb := (bb.trans bu1).trans bu2
  replace q2 := z4
  replace v2 := zz4
  clear bu1 bu2 z4 zz4 g4 gg4
  obtain ⟨k4z, hkk4z, hlk4z, hjk4z⟩ : ∃ k : Nat, k ≤ 1 + L.length + L2.length ∧ 1 + L.length + L2.length ≤ k ∧ e = .returned (.int .i64 (k : Int)) := ⟨_, Nat.le_refl _, Nat.le_refl _, by rw [he]; exact congrArg (fun x => Ending.returned (.int .i64 x)) (by omega)⟩
  subst hjk4z
  clear he
  clear y20 y21 y2g
  obtain ⟨y20, y21⟩ := y2.c2
  have y2g := y2.1
  go_wp2_with fail
  refine (BoardH.held X2 _ n2 Y2 _ j2 1 _ hlen hlen2 (by omega) (by omega) q2.rd v2.rd).mono ?_
  rintro e w5 ⟨he, b5⟩
  obtain rfl : e = .returned (.int .i64 (k4z : Int)) := by rw [he]; exact congrArg (fun x => Ending.returned (.int .i64 x)) (by omega)
  clear he
  replace q1 := q1.below b5
  replace v1 := v1.below b5
  replace q2 := q2.below b5
  replace v2 := v2.below b5
  replace y1 := y1.below b5
  replace y2 := y2.below b5
  replace bb := bb.trans (b5.mono bb.size)
  clear y20 y21 y2g
  go_wp2_with fail
  refine (HI.out  _ ).mono ?_
  rintro e w6 ⟨X6, n6, Y6, j6, rfl, q6, v6, ap_q6_v6, b6⟩
  have ap_q1_q6 := K.apart q1 q6 (Nat.le_refl _) (Nat.le_refl _)
  have ap_v1_q6 := K.apart v1 q6 (Nat.le_refl _) (Nat.le_refl _)
  have ap_q2_q6 := K.apart q2 q6 (Nat.le_refl _) (Nat.le_refl _)
  have ap_v2_q6 := K.apart v2 q6 (Nat.le_refl _) (Nat.le_refl _)
  have nb_q6_y1 : K.blk X6 ≠ some (w1.heap.size) := fun h => by have h1 := (q6.lt _ h).1; have h2 := y1.1; omega
  have nb_q6_y2 : K.blk X6 ≠ some (w2.heap.size) := fun h => by have h1 := (q6.lt _ h).1; have h2 := y2.1; omega
  replace q6 := q6.more bb.size
  have ap_q1_v6 := K.apart q1 v6 (Nat.le_refl _) (Nat.le_refl _)
  have ap_v1_v6 := K.apart v1 v6 (Nat.le_refl _) (Nat.le_refl _)
  have ap_q2_v6 := K.apart q2 v6 (Nat.le_refl _) (Nat.le_refl _)
  have ap_v2_v6 := K.apart v2 v6 (Nat.le_refl _) (Nat.le_refl _)
  have nb_v6_y1 : K.blk Y6 ≠ some (w1.heap.size) := fun h => by have h1 := (v6.lt _ h).1; have h2 := y1.1; omega
  have nb_v6_y2 : K.blk Y6 ≠ some (w2.heap.size) := fun h => by have h1 := (v6.lt _ h).1; have h2 := y2.1; omega
  replace v6 := v6.more bb.size
  replace q1 := q1.below b6
  replace v1 := v1.below b6
  replace q2 := q2.below b6
  replace v2 := v2.below b6
  replace y1 := y1.below b6
  replace y2 := y2.below b6
  replace bb := bb.trans (b6.mono bb.size)
  obtain ⟨ob, ho⟩ : ∃ o : Obj, o = .cells #[.slice X6 L.length n6, .slice Y6 L2.length j6] 27 := ⟨_, rfl⟩
  have y6 : K.Box (w6.alloc ob) w6.heap.size [.slice X6 L.length n6, .slice Y6 L2.length j6] := by rw [ho]; exact K.Box.new _ _ _
  have nb_q1_y6 : K.blk X1 ≠ some (w6.heap.size) := fun h => Nat.lt_irrefl _ (q1.lt _ h).2
  have nb_v1_y6 : K.blk Y1 ≠ some (w6.heap.size) := fun h => Nat.lt_irrefl _ (v1.lt _ h).2
  have nb_q2_y6 : K.blk X2 ≠ some (w6.heap.size) := fun h => Nat.lt_irrefl _ (q2.lt _ h).2
  have nb_v2_y6 : K.blk Y2 ≠ some (w6.heap.size) := fun h => Nat.lt_irrefl _ (v2.lt _ h).2
  have nb_q6_y6 : K.blk X6 ≠ some (w6.heap.size) := fun h => Nat.lt_irrefl _ (q6.lt _ h).2
  have nb_v6_y6 : K.blk Y6 ≠ some (w6.heap.size) := fun h => Nat.lt_irrefl _ (v6.lt _ h).2
  obtain ⟨y1a0, y1a1⟩ := y1.c2
  have y1ag := y1.1
  obtain ⟨y2a0, y2a1⟩ := y2.c2
  have y2ag := y2.1
  replace q1 := q1.alloc ob
  replace v1 := v1.alloc ob
  replace q2 := q2.alloc ob
  replace v2 := v2.alloc ob
  replace q6 := q6.alloc ob
  replace v6 := v6.alloc ob
  replace y1 := y1.alloc ob
  replace y2 := y2.alloc ob
  replace bb := bb.alloc bb.size ob
  subst ho
  obtain ⟨y10, y11⟩ := y1.c2
  have y1g := y1.1
  obtain ⟨y60, y61⟩ := y6.c2
  have y6g := y6.1
  go_wp2_with fail
  refine (BoardH.eq_yes X6 X1 n6 n1 L Y6 Y1 j6 j1 L2 _ hlen hlen2 (q6.rd) (q1.rd) (v6.rd) (v1.rd)).mono ?_
  rintro e w7 ⟨rfl, b7⟩
  replace q1 := q1.below b7
  replace v1 := v1.below b7
  replace q2 := q2.below b7
  replace v2 := v2.below b7
  replace q6 := q6.below b7
  replace v6 := v6.below b7
  replace y1 := y1.below b7
  replace y2 := y2.below b7
  replace y6 := y6.below b7
  replace bb := bb.trans (b7.mono bb.size)
  clear y1a0 y1a1 y1ag y2a0 y2a1 y2ag y10 y11 y1g y60 y61 y6g
  obtain ⟨y20, y21⟩ := y2.c2
  have y2g := y2.1
  go_wp2_with fail
  refine (BoardH.held X2 _ n2 Y2 _ j2 1 _ hlen hlen2 (by omega) (by omega) q2.rd v2.rd).mono ?_
  rintro e w8 ⟨he, b8⟩
  obtain rfl : e = .returned (.int .i64 (k4z : Int)) := by rw [he]; exact congrArg (fun x => Ending.returned (.int .i64 x)) (by omega)
  clear he
  replace q1 := q1.below b8
  replace v1 := v1.below b8
  replace q2 := q2.below b8
  replace v2 := v2.below b8
  replace q6 := q6.below b8
  replace v6 := v6.below b8
  replace y1 := y1.below b8
  replace y2 := y2.below b8
  replace y6 := y6.below b8
  replace bb := bb.trans (b8.mono bb.size)
  clear y20 y21 y2g
  go_wp2_with fail
  go_ret
  exact ⟨rfl, b0.trans (bb.mono b0.size)⟩
end Go.Proofs.Ytmgegacgjppdbaa.fnExactSetBoard
