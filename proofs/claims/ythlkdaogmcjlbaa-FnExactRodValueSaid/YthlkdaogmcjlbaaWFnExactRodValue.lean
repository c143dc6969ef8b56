/-
  The walk of FnExactRodValue.
-/
import Derived.Test.YthlkdaogmcjlbaaArg
import Derived.OpenShut
import Derived.Test.YthlkdaogmcjlbaaFrameN
set_option linter.unusedVariables false
namespace Go.Proofs.Ythlkdaogmcjlbaa.fnExactRodValue
open Go.ChangeShapes Go.WideShapes Go.ChangeAt Go.RowKit

/-- the walk: the law's text returns true; nothing that was there has turned. -/
theorem walk (f0 : M.Frame) (A0 : Option Addr) (c0 : Nat) (a1 : Int) (W : World) (h0 : K.Rd W 2 A0 f0.rods.length (f0.rods.flatMap M.rodCells)) (m0 : f0.wf) (h1 : (Lit.int .i64 a1).wf = true) :
    Calls Try.prog 5 #[.agg #[.int .i64 f0.upper, .int .i64 f0.lower, .slice A0 f0.rods.length c0], .int .i64 a1] W fun e w' => e = .returned (.bool true) ∧ Below W.heap.size W w' := by
  have hml : f0.rods.length ≤ 9223372036854775807 := m0.2.2.1
  obtain ⟨o0, ho⟩ : ∃ o0 : Obj, o0 = .cells #[.int .i64 f0.upper, .int .i64 f0.lower, .slice A0 f0.rods.length c0] 30 := ⟨_, rfl⟩
  have r0 := h0.alloc o0
  have x0 : K.Box (W.alloc o0) W.heap.size [.int .i64 f0.upper, .int .i64 f0.lower, .slice A0 f0.rods.length c0] := by rw [ho]; exact K.Box.new _ _ _
  have b0 : Below W.heap.size W (W.alloc o0) := (Below.refl W.heap.size W).alloc (Nat.le_refl _) _
  subst ho
  have HM := Lib.hid m0
  clear m0 h0
  go_enter Try.func5, Try.ntmps5
  go_wp2_with fail
  refine (FrameH.sz f0 A0 c0 1048576 _ hml (by omega) (by omega)).mono ?_
  rintro e w1 ⟨⟨r, rfl, hr⟩, b1⟩
  by_cases hneg : r < 0
  · have bb : Below W.heap.size W w1 := b0.trans (b1.mono b0.size)
    clear b1 b0
    go_wp2
    go_ret
    exact ⟨rfl, bb⟩
  · have hl : f0.rods.length ≤ 1048576 := by omega
    have r1 := r0.below b1
    have x1 := x0.below b1
    have b1' := b0.trans (b1.mono b0.size)
    obtain ⟨q0, q1, q2⟩ := x1.c3
    clear b1 b0 r0 x0
    have hs := fun A c W' ha => Frame.s_rodval f0 A c a1 W' hl (Go.bounds_i64 h1) ha
    have hi := fun A c W' ha => Frame.i_rodval f0 A c a1 W' hl (Go.bounds_i64 h1) ha
    generalize M.rodVal f0 a1 = R at hs hi
    obtain ⟨v, b⟩ := R
    have HS := Lib.hid hs
    have HI := Lib.hid hi
    have hbb : (b != b) = false := by simp
    clear hs hi
    go_wp2_with fail
    refine (FrameH.copy f0 A0 c0 _ hl r1).mono ?_
    rintro e w2 ⟨A1, c1, rfl, ra, b2⟩
    have bb2 := b1'.trans (b2.mono b1'.size)
    have r2 := r1.below b2
    have x2 := x1.below b2
    clear q0 q1 q2
    go_wp2_with fail
    refine (HS.out A1 c1 _ ra.rd).mono ?_
    rintro e w3 ⟨rfl, b3⟩
    have bb3 := bb2.trans (b3.mono bb2.size)
    have r3 := r2.below b3
    have x3 := x2.below b3
    obtain ⟨q0, q1, q2⟩ := x3.c3
    go_wp2_with fail
    refine (FrameH.copy f0 A0 c0 _ hl r3).mono ?_
    rintro e w4 ⟨A2, c2, rfl, rb, b4⟩
    have bb4 := bb3.trans (b4.mono bb3.size)
    have r4 := r3.below b4
    have x4 := x3.below b4
    obtain ⟨o4, ho⟩ : ∃ o4 : Obj, o4 = .cells #[.int .i64 f0.upper, .int .i64 f0.lower, .slice A2 f0.rods.length c2] 33 := ⟨_, rfl⟩
    have r5 := r4.alloc o4
    have x5 := x4.alloc o4
    have rb5 := rb.alloc o4
    have y5 : K.Box (w4.alloc o4) w4.heap.size [.int .i64 f0.upper, .int .i64 f0.lower, .slice A2 f0.rods.length c2] := by rw [ho]; exact K.Box.new _ _ _
    have bb5 := bb4.alloc bb4.size o4
    subst ho
    clear q0 q1 q2
    go_wp2_with fail
    refine (HI.out A2 c2 _ rb5.rd).mono ?_
    rintro e w6 ⟨rfl, b6⟩
    have bb6 := bb5.trans (b6.mono bb5.size)
    have r6 := r5.below b6
    have x6 := x5.below b6
    have y6 := y5.below b6
    have rb6 := rb5.below b6
    obtain ⟨q0, q1, q2⟩ := x6.c3
    obtain ⟨p0, p1, p2⟩ := y6.c3
    clear r1 r2 r3 r4 r5 x1 x2 x3 x4 x5 y5 b2 b3 b4 b6 rb rb5 ra bb2 bb3 bb4 bb5
    go_wp2_with fail
    have xg := x6.1
    have yg := y6.1
    go_region_held3 (fun w' => w'.cell? ⟨W.heap.size, 0, none⟩ = some (.int .i64 f0.upper) ∧ w'.cell? ⟨W.heap.size, 1, none⟩ = some (.int .i64 f0.lower) ∧ w'.cell? ⟨W.heap.size, 2, none⟩ = some (.slice A0 f0.rods.length c0) ∧
        w'.cell? ⟨w4.heap.size, 0, none⟩ = some (.int .i64 f0.upper) ∧ w'.cell? ⟨w4.heap.size, 1, none⟩ = some (.int .i64 f0.lower) ∧ w'.cell? ⟨w4.heap.size, 2, none⟩ = some (.slice A2 f0.rods.length c2))
      (first | go_keep | exact ⟨(b7.cell (p := ⟨W.heap.size, 0, none⟩) xg).trans q0, (b7.cell (p := ⟨W.heap.size, 1, none⟩) xg).trans q1, (b7.cell (p := ⟨W.heap.size, 2, none⟩) xg).trans q2, (b7.cell (p := ⟨w4.heap.size, 0, none⟩) yg).trans p0, (b7.cell (p := ⟨w4.heap.size, 1, none⟩) yg).trans p1, (b7.cell (p := ⟨w4.heap.size, 2, none⟩) yg).trans p2⟩ | exact ⟨(b8.cell (p := ⟨W.heap.size, 0, none⟩) (Nat.lt_of_lt_of_le xg b7.size)).trans ((b7.cell (p := ⟨W.heap.size, 0, none⟩) xg).trans q0), (b8.cell (p := ⟨W.heap.size, 1, none⟩) (Nat.lt_of_lt_of_le xg b7.size)).trans ((b7.cell (p := ⟨W.heap.size, 1, none⟩) xg).trans q1), (b8.cell (p := ⟨W.heap.size, 2, none⟩) (Nat.lt_of_lt_of_le xg b7.size)).trans ((b7.cell (p := ⟨W.heap.size, 2, none⟩) xg).trans q2), (b8.cell (p := ⟨w4.heap.size, 0, none⟩) (Nat.lt_of_lt_of_le yg b7.size)).trans ((b7.cell (p := ⟨w4.heap.size, 0, none⟩) yg).trans p0), (b8.cell (p := ⟨w4.heap.size, 1, none⟩) (Nat.lt_of_lt_of_le yg b7.size)).trans ((b7.cell (p := ⟨w4.heap.size, 1, none⟩) yg).trans p1), (b8.cell (p := ⟨w4.heap.size, 2, none⟩) (Nat.lt_of_lt_of_le yg b7.size)).trans ((b7.cell (p := ⟨w4.heap.size, 2, none⟩) yg).trans p2)⟩)
      (first | (go_at_call 23; refine (FrameH.copy f0 A0 c0 _ hl (by exact r6)).mono ?_; rintro e w7 ⟨A3, c3, rfl, rc, b7⟩) | (go_at_call 25; refine (FrameH.eq_yes f0 A2 A3 c2 c3 _ hl (by exact rb6.drew.rd.below b7) (by exact rc.rd)).mono ?_; rintro e w8 ⟨rfl, b8⟩))
    go_wp2
    go_ret
    have h6 := bb6.size
    have h7 := b7.size
    exact ⟨rfl, (bb6.drew.trans (b7.mono h6)).trans (b8.mono (Nat.le_trans h6 h7))⟩
end Go.Proofs.Ythlkdaogmcjlbaa.fnExactRodValue
