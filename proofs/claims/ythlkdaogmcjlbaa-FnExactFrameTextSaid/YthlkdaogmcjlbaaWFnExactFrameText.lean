/-
  The walk of FnExactFrameText.
-/
import Derived.Test.YthlkdaogmcjlbaaArg
import Derived.Test.YthlkdaogmcjlbaaKit2
import Derived.Test.YthlkdaogmcjlbaaFrameT
set_option linter.unusedVariables false
namespace Go.Proofs.Ythlkdaogmcjlbaa.fnExactFrameText
open Go.ChangeShapes Go.WideShapes Go.ChangeAt Go.RowKit

/-- the walk: the law's text returns true; nothing that was there has turned. -/
theorem walk (f0 : M.Frame) (A0 : Option Addr) (c0 : Nat) (W : World) (h0 : K.Rd W 2 A0 f0.rods.length (f0.rods.flatMap M.rodCells)) (m0 : f0.wf) :
    Calls Try.prog 12 #[.agg #[.int .i64 f0.upper, .int .i64 f0.lower, .slice A0 f0.rods.length c0]] W fun e w' => e = .returned (.bool true) ∧ Below W.heap.size W w' := by
  obtain ⟨o0, ho0⟩ : ∃ o : Obj, o = .cells #[.int .i64 f0.upper, .int .i64 f0.lower, .slice A0 f0.rods.length c0] 30 := ⟨_, rfl⟩
  have x0 : K.Box (W.alloc o0) (W.heap.size) [.int .i64 f0.upper, .int .i64 f0.lower, .slice A0 f0.rods.length c0] := by have h := K.Box.new W #[.int .i64 f0.upper, .int .i64 f0.lower, .slice A0 f0.rods.length c0] 30; rw [← ho0] at h; exact h
  have b0 : Below W.heap.size W (W.alloc o0) := (Below.refl W.heap.size W).alloc (Nat.le_refl _) _
  have r0 := h0.below b0
  have bb : Below (W.alloc o0).heap.size (W.alloc o0) (W.alloc o0) := Below.refl _ _
  subst ho0
  go_enter Try.func12, Try.ntmps12
  obtain ⟨x00, x01, x02⟩ := x0.c3
  have x0g := x0.1
  go_wp2_with fail
  refine (FrameH.sz f0 A0 c0 1048576 _ m0.2.2.1 (by omega) (by omega)).mono ?_
  rintro e w1 ⟨⟨d1, rfl, hd1⟩, b1⟩
  replace x0 := x0.below b1
  replace bb := bb.trans (b1.mono bb.size)
  clear x00 x01 x02 x0g
  by_cases hneg1 : d1 < 0
  · go_wp2
    go_ret
    exact ⟨rfl, b0.trans (bb.mono b0.size)⟩
  have hl0 : f0.rods.length ≤ 1048576 := by omega
  have hz1 : 0 ≤ d1 ∧ d1 ≤ 1048576 := by omega
  clear hd1 hneg1
  have hs := fun (A0q : Option Addr) (c0q : Nat) (W' : World) (r0q : K.Rd W' 2 A0q f0.rods.length (f0.rods.flatMap M.rodCells)) => FrameT.s_text f0 A0q c0q W' hl0 r0q
  have hi := fun (A0q : Option Addr) (c0q : Nat) (W' : World) (r0q : K.Rd W' 2 A0q f0.rods.length (f0.rods.flatMap M.rodCells)) => FrameT.i_text f0 A0q c0q W' hl0 r0q
  generalize M.frameText f0 = R at hs hi
  obtain ⟨v, b⟩ := R
  dsimp only at hs hi
  have hbb_b : (b != b) = false := by simp
  have HS := Lib.hid hs
  have HI := Lib.hid hi
  clear hs hi
  try clear m0 h0
  obtain ⟨x00, x01, x02⟩ := x0.c3
  have x0g := x0.1
  go_wp2_with fail
  refine (FrameH.copy f0 A0 c0 _ hl0 (r0.below bb)).mono ?_
  rintro e w2 ⟨X2, n2, rfl, q2, b2⟩
  have nb_q2_x0 : K.blk X2 ≠ some (W.heap.size) := fun h => by have h1 := (q2.lt _ h).1; have h2 := x0.1; omega
  replace q2 := q2.more bb.size
  replace x0 := x0.below b2
  replace bb := bb.trans (b2.mono bb.size)
  clear x00 x01 x02 x0g
  go_wp2_with fail
  refine (HS.out X2 n2 _ q2.rd).mono ?_
  rintro e w3 ⟨rfl, b3⟩
  replace q2 := q2.below b3
  replace x0 := x0.below b3
  replace bb := bb.trans (b3.mono bb.size)
  obtain ⟨x00, x01, x02⟩ := x0.c3
  have x0g := x0.1
  go_wp2_with fail
  refine (FrameH.copy f0 A0 c0 _ hl0 (r0.below bb)).mono ?_
  rintro e w4 ⟨X4, n4, rfl, q4, b4⟩
  have ap_q2_q4 := K.apart q2 q4 (Nat.le_refl _) (Nat.le_refl _)
  have nb_q4_x0 : K.blk X4 ≠ some (W.heap.size) := fun h => by have h1 := (q4.lt _ h).1; have h2 := x0.1; omega
  replace q4 := q4.more bb.size
  replace q2 := q2.below b4
  replace x0 := x0.below b4
  replace bb := bb.trans (b4.mono bb.size)
  clear x00 x01 x02 x0g
  obtain ⟨ob, ho⟩ : ∃ o : Obj, o = .cells #[.int .i64 f0.upper, .int .i64 f0.lower, .slice X4 f0.rods.length n4] 33 := ⟨_, rfl⟩
  have y4 : K.Box (w4.alloc ob) w4.heap.size [.int .i64 f0.upper, .int .i64 f0.lower, .slice X4 f0.rods.length n4] := by rw [ho]; exact K.Box.new _ _ _
  have nb_q2_y4 : K.blk X2 ≠ some (w4.heap.size) := fun h => Nat.lt_irrefl _ (q2.lt _ h).2
  have nb_q4_y4 : K.blk X4 ≠ some (w4.heap.size) := fun h => Nat.lt_irrefl _ (q4.lt _ h).2
  obtain ⟨x0a0, x0a1, x0a2⟩ := x0.c3
  have x0ag := x0.1
  replace q2 := q2.alloc ob
  replace q4 := q4.alloc ob
  replace x0 := x0.alloc ob
  replace bb := bb.alloc bb.size ob
  subst ho
  obtain ⟨y40, y41, y42⟩ := y4.c3
  have y4g := y4.1
  go_wp2_with fail
  refine (HI.out X4 n4 _ q4.rd).mono ?_
  rintro e w5 ⟨rfl, b5⟩
  replace q2 := q2.below b5
  replace q4 := q4.below b5
  replace x0 := x0.below b5
  replace y4 := y4.below b5
  replace bb := bb.trans (b5.mono bb.size)
  clear x0a0 x0a1 x0a2 x0ag y40 y41 y42 y4g
  obtain ⟨x00, x01, x02⟩ := x0.c3
  have x0g := x0.1
  obtain ⟨y40, y41, y42⟩ := y4.c3
  have y4g := y4.1
  go_wp2_with fail
  have x0d := x0.drew
  have y4d := y4.drew
  have rdd := (r0.below bb).drew
  go_region_held3 (fun w' => w'.cell? ⟨W.heap.size, 0, none⟩ = some (.int .i64 f0.upper) ∧ w'.cell? ⟨W.heap.size, 1, none⟩ = some (.int .i64 f0.lower) ∧ w'.cell? ⟨W.heap.size, 2, none⟩ = some (.slice A0 f0.rods.length c0) ∧ w'.cell? ⟨w4.heap.size, 0, none⟩ = some (.int .i64 f0.upper) ∧ w'.cell? ⟨w4.heap.size, 1, none⟩ = some (.int .i64 f0.lower) ∧ w'.cell? ⟨w4.heap.size, 2, none⟩ = some (.slice X4 f0.rods.length n4))
    (first | go_keep | exact ⟨(x0d.below b6).2 0 _ rfl, (x0d.below b6).2 1 _ rfl, (x0d.below b6).2 2 _ rfl, (y4d.below b6).2 0 _ rfl, (y4d.below b6).2 1 _ rfl, (y4d.below b6).2 2 _ rfl⟩ | exact ⟨((x0d.below b6).below b7).2 0 _ rfl, ((x0d.below b6).below b7).2 1 _ rfl, ((x0d.below b6).below b7).2 2 _ rfl, ((y4d.below b6).below b7).2 0 _ rfl, ((y4d.below b6).below b7).2 1 _ rfl, ((y4d.below b6).below b7).2 2 _ rfl⟩)
    (first | (go_at_call 23; refine (FrameH.copy f0 A0 c0 _ hl0 (by exact rdd)).mono ?_; rintro e w6 ⟨X6, n6, rfl, q6, b6⟩) | (go_at_call 25; refine (FrameH.eq_yes f0 X4 X6 n4 n6 _ hl0 (by exact q4.drew.rd.below b6) (by exact q6.rd)).mono ?_; rintro e w7 ⟨rfl, b7⟩))
  replace bb := bb.drew
  replace q2 := q2.drew
  replace q4 := q4.drew
  replace x0 := x0.drew
  replace y4 := y4.drew
  replace q2 := q2.below b6
  replace q4 := q4.below b6
  replace x0 := x0.below b6
  replace y4 := y4.below b6
  replace bb := bb.trans (b6.mono bb.size)
  replace q2 := q2.below b7
  replace q4 := q4.below b7
  replace x0 := x0.below b7
  replace y4 := y4.below b7
  replace bb := bb.trans (b7.mono bb.size)
  clear x0d y4d rdd
  clear x00 x01 x02 x0g y40 y41 y42 y4g
  go_wp2_with fail
  go_ret
  exact ⟨rfl, b0.trans (bb.mono b0.size)⟩
end Go.Proofs.Ythlkdaogmcjlbaa.fnExactFrameText
