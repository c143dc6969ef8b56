/-
  The walk of FnExactBoardText.
-/
import Derived.Test.YtmgegacgjppdbaaArg
import Derived.Test.YtmgegacgjppdbaaKit2
import Derived.Test.YtmgegacgjppdbaaBoardX
set_option linter.unusedVariables false
namespace Go.Proofs.Ytmgegacgjppdbaa.fnExactBoardText
open Go.ChangeShapes Go.WideShapes Go.ChangeAt Go.RowKit

set_option maxRecDepth 100000 in
set_option maxHeartbeats 16000000 in
/-- the walk: the law's text returns true; nothing that was there has turned. -/
theorem walk (A0 : Option Addr) (c0 : Nat) (l0 : List Int) (B0 : Option Addr) (d0 : Nat) (k0 : List Int) (W : World) (h0 : K.Rd W 1 A0 l0.length (l0.map (Value.int .i64))) (g0 : K.Rd W 1 B0 k0.length (k0.map (Value.int .i64))) (m0 : l0.length ≤ 9223372036854775807) (n0 : k0.length ≤ 9223372036854775807) (s0 : ∀ x ∈ l0, M.i64 x) (t0 : ∀ x ∈ k0, M.i64 x) :
    Calls Try.prog 8 #[.agg #[.slice A0 l0.length c0, .slice B0 k0.length d0]] W fun e w' => e = .returned (.bool true) ∧ Below W.heap.size W w' := by
  obtain ⟨o0, ho0⟩ : ∃ o : Obj, o = .cells #[.slice A0 l0.length c0, .slice B0 k0.length d0] 24 := ⟨_, rfl⟩
  have x0 : K.Box (W.alloc o0) (W.heap.size) [.slice A0 l0.length c0, .slice B0 k0.length d0] := by have h := K.Box.new W #[.slice A0 l0.length c0, .slice B0 k0.length d0] 24; rw [← ho0] at h; exact h
  have b0 : Below W.heap.size W (W.alloc o0) := (Below.refl W.heap.size W).alloc (Nat.le_refl _) _
  have r0 := h0.below b0
  have t0 := g0.below b0
  have bb : Below (W.alloc o0).heap.size (W.alloc o0) (W.alloc o0) := Below.refl _ _
  subst ho0
  go_enter Try.func8, Try.ntmps8
  obtain ⟨x00, x01⟩ := x0.c2
  have x0g := x0.1
  go_wp2_with fail
  refine (BoardH.sz A0 c0 l0.length B0 d0 k0.length 1048576 _ m0 n0 (by omega) (by omega)).mono ?_
  rintro e w1 ⟨⟨dz1, rfl, hd1⟩, b1⟩
  replace x0 := x0.below b1
  replace bb := bb.trans (b1.mono bb.size)
  clear x00 x01 x0g
  by_cases hneg1 : dz1 < 0
  · go_wp2
    go_ret
    exact ⟨rfl, b0.trans (bb.mono b0.size)⟩
  have hl0 : l0.length ≤ 1048576 := by omega
  have hk0 : k0.length ≤ 1048576 := by omega
  have hz1 : 0 ≤ dz1 ∧ dz1 ≤ 1048576 := by omega
  clear hd1 hneg1
  have hs := fun (A0q : Option Addr) (c0q : Nat) (B0q : Option Addr) (d0q : Nat) (W' : World) (r0q : K.Rd W' 1 A0q l0.length (l0.map (Value.int .i64))) (t0q : K.Rd W' 1 B0q k0.length (k0.map (Value.int .i64))) => BoardX.s_text A0q c0q l0 B0q d0q k0 W' hl0 hk0 r0q t0q
  have hi := fun (A0q : Option Addr) (c0q : Nat) (B0q : Option Addr) (d0q : Nat) (W' : World) (r0q : K.Rd W' 1 A0q l0.length (l0.map (Value.int .i64))) (t0q : K.Rd W' 1 B0q k0.length (k0.map (Value.int .i64))) => BoardX.i_text A0q c0q l0 B0q d0q k0 W' hl0 hk0 r0q t0q
  generalize M.boardText l0 k0 = R at hs hi
  obtain ⟨v, b⟩ := R
  dsimp only at hs hi
  have hbb_b : (b != b) = false := by simp
  have HS := Lib.hid hs
  have HI := Lib.hid hi
  clear hs hi
  obtain ⟨x00, x01⟩ := x0.c2
  have x0g := x0.1
  go_wp2_with fail
  refine (BoardH.copy A0 c0 l0 B0 d0 k0 _ hl0 hk0 (r0.below bb) (t0.below bb)).mono ?_
  rintro e w2 ⟨X2, n2, Y2, j2, rfl, q2, v2, ap_q2_v2, b2⟩
  have nb_q2_x0 : K.blk X2 ≠ some (W.heap.size) := fun h => by have h1 := (q2.lt _ h).1; have h2 := x0.1; omega
  replace q2 := q2.more bb.size
  have nb_v2_x0 : K.blk Y2 ≠ some (W.heap.size) := fun h => by have h1 := (v2.lt _ h).1; have h2 := x0.1; omega
  replace v2 := v2.more bb.size
  replace x0 := x0.below b2
  replace bb := bb.trans (b2.mono bb.size)
  clear x00 x01 x0g
  go_wp2_with fail
  refine (HS.out X2 n2 Y2 j2 _ q2.rd v2.rd).mono ?_
  rintro e w3 ⟨rfl, b3⟩
  replace q2 := q2.below b3
  replace v2 := v2.below b3
  replace x0 := x0.below b3
  replace bb := bb.trans (b3.mono bb.size)
  obtain ⟨x00, x01⟩ := x0.c2
  have x0g := x0.1
  go_wp2_with fail
  refine (BoardH.copy A0 c0 l0 B0 d0 k0 _ hl0 hk0 (r0.below bb) (t0.below bb)).mono ?_
  rintro e w4 ⟨X4, n4, Y4, j4, rfl, q4, v4, ap_q4_v4, b4⟩
  have ap_q2_q4 := K.apart q2 q4 (Nat.le_refl _) (Nat.le_refl _)
  have ap_v2_q4 := K.apart v2 q4 (Nat.le_refl _) (Nat.le_refl _)
  have nb_q4_x0 : K.blk X4 ≠ some (W.heap.size) := fun h => by have h1 := (q4.lt _ h).1; have h2 := x0.1; omega
  replace q4 := q4.more bb.size
  have ap_q2_v4 := K.apart q2 v4 (Nat.le_refl _) (Nat.le_refl _)
  have ap_v2_v4 := K.apart v2 v4 (Nat.le_refl _) (Nat.le_refl _)
  have nb_v4_x0 : K.blk Y4 ≠ some (W.heap.size) := fun h => by have h1 := (v4.lt _ h).1; have h2 := x0.1; omega
  replace v4 := v4.more bb.size
  replace q2 := q2.below b4
  replace v2 := v2.below b4
  replace x0 := x0.below b4
  replace bb := bb.trans (b4.mono bb.size)
  clear x00 x01 x0g
  obtain ⟨ob, ho⟩ : ∃ o : Obj, o = .cells #[.slice X4 l0.length n4, .slice Y4 k0.length j4] 27 := ⟨_, rfl⟩
  have y4 : K.Box (w4.alloc ob) w4.heap.size [.slice X4 l0.length n4, .slice Y4 k0.length j4] := by rw [ho]; exact K.Box.new _ _ _
  have nb_q2_y4 : K.blk X2 ≠ some (w4.heap.size) := fun h => Nat.lt_irrefl _ (q2.lt _ h).2
  have nb_v2_y4 : K.blk Y2 ≠ some (w4.heap.size) := fun h => Nat.lt_irrefl _ (v2.lt _ h).2
  have nb_q4_y4 : K.blk X4 ≠ some (w4.heap.size) := fun h => Nat.lt_irrefl _ (q4.lt _ h).2
  have nb_v4_y4 : K.blk Y4 ≠ some (w4.heap.size) := fun h => Nat.lt_irrefl _ (v4.lt _ h).2
  obtain ⟨x0a0, x0a1⟩ := x0.c2
  have x0ag := x0.1
  replace q2 := q2.alloc ob
  replace v2 := v2.alloc ob
  replace q4 := q4.alloc ob
  replace v4 := v4.alloc ob
  replace x0 := x0.alloc ob
  replace bb := bb.alloc bb.size ob
  subst ho
  obtain ⟨y40, y41⟩ := y4.c2
  have y4g := y4.1
  go_wp2_with fail
  refine (HI.out X4 n4 Y4 j4 _ q4.rd v4.rd).mono ?_
  rintro e w5 ⟨rfl, b5⟩
  replace q2 := q2.below b5
  replace v2 := v2.below b5
  replace q4 := q4.below b5
  replace v4 := v4.below b5
  replace x0 := x0.below b5
  replace y4 := y4.below b5
  replace bb := bb.trans (b5.mono bb.size)
  clear x0a0 x0a1 x0ag y40 y41 y4g
  obtain ⟨x00, x01⟩ := x0.c2
  have x0g := x0.1
  obtain ⟨y40, y41⟩ := y4.c2
  have y4g := y4.1
  go_wp2_with fail
  have x0d := x0.drew
  have y4d := y4.drew
  have rdd := (r0.below bb).drew
  have rde := (t0.below bb).drew
  go_region_held3 (fun w' => w'.cell? ⟨W.heap.size, 0, none⟩ = some (.slice A0 l0.length c0) ∧ w'.cell? ⟨W.heap.size, 1, none⟩ = some (.slice B0 k0.length d0) ∧ w'.cell? ⟨w4.heap.size, 0, none⟩ = some (.slice X4 l0.length n4) ∧ w'.cell? ⟨w4.heap.size, 1, none⟩ = some (.slice Y4 k0.length j4))
    (first | go_keep | exact ⟨(x0d.below b6).2 0 _ rfl, (x0d.below b6).2 1 _ rfl, (y4d.below b6).2 0 _ rfl, (y4d.below b6).2 1 _ rfl⟩ | exact ⟨((x0d.below b6).below b7).2 0 _ rfl, ((x0d.below b6).below b7).2 1 _ rfl, ((y4d.below b6).below b7).2 0 _ rfl, ((y4d.below b6).below b7).2 1 _ rfl⟩)
    (first | (go_at_call 18; refine (BoardH.copy A0 c0 l0 B0 d0 k0 _ hl0 hk0 (by exact rdd) (by exact rde)).mono ?_; rintro e w6 ⟨X6, n6, Y6, j6, rfl, q6, v6, apq, b6⟩) | (go_at_call 20; refine (BoardH.eq_yes X4 X6 n4 n6 l0 Y4 Y6 j4 j6 k0 _ hl0 hk0 (by exact q4.drew.rd.below b6) (by exact q6.rd) (by exact v4.drew.rd.below b6) (by exact v6.rd)).mono ?_; rintro e w7 ⟨rfl, b7⟩))
  replace bb := bb.drew
  replace q2 := q2.drew
  replace v2 := v2.drew
  replace q4 := q4.drew
  replace v4 := v4.drew
  replace x0 := x0.drew
  replace y4 := y4.drew
  replace q2 := q2.below b6
  replace v2 := v2.below b6
  replace q4 := q4.below b6
  replace v4 := v4.below b6
  replace x0 := x0.below b6
  replace y4 := y4.below b6
  replace bb := bb.trans (b6.mono bb.size)
  replace q2 := q2.below b7
  replace v2 := v2.below b7
  replace q4 := q4.below b7
  replace v4 := v4.below b7
  replace x0 := x0.below b7
  replace y4 := y4.below b7
  replace bb := bb.trans (b7.mono bb.size)
  clear x0d y4d rdd rde
  clear x00 x01 x0g y40 y41 y4g
  go_wp2_with fail
  go_ret
  exact ⟨rfl, b0.trans (bb.mono b0.size)⟩
end Go.Proofs.Ytmgegacgjppdbaa.fnExactBoardText
