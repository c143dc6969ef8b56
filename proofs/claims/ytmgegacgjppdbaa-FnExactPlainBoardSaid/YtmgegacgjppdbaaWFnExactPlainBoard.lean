/-
  The walk of FnExactPlainBoard.
-/
import Derived.Test.YtmgegacgjppdbaaArg
import Derived.Test.YtmgegacgjppdbaaKit2
import Derived.Test.YtmgegacgjppdbaaBoardR
import Derived.OpenShut
import Derived.Deep.DeepCutAuto
set_option linter.unusedVariables false
namespace Go.Proofs.Ytmgegacgjppdbaa.fnExactPlainBoard
open Go.ChangeShapes Go.WideShapes Go.ChangeAt Go.RowKit

set_option maxRecDepth 100000 in
set_option maxHeartbeats 16000000 in
/-- the walk: the law's text returns true; nothing that was there has turned. -/
theorem walk (A0 : Option Addr) (c0 : Nat) (l0 : List Int) (B0 : Option Addr) (d0 : Nat) (k0 : List Int) (W : World) (h0 : K.Rd W 1 A0 l0.length (l0.map (Value.int .i64))) (g0 : K.Rd W 1 B0 k0.length (k0.map (Value.int .i64))) (m0 : l0.length ≤ 9223372036854775807) (n0 : k0.length ≤ 9223372036854775807) (s0 : ∀ x ∈ l0, M.i64 x) (t0 : ∀ x ∈ k0, M.i64 x) :
    Calls Try.prog 13 #[.agg #[.slice A0 l0.length c0, .slice B0 k0.length d0]] W fun e w' => e = .returned (.bool true) ∧ Below W.heap.size W w' := by
  obtain ⟨o0, ho0⟩ : ∃ o : Obj, o = .cells #[.slice A0 l0.length c0, .slice B0 k0.length d0] 24 := ⟨_, rfl⟩
  have x0 : K.Box (W.alloc o0) (W.heap.size) [.slice A0 l0.length c0, .slice B0 k0.length d0] := by have h := K.Box.new W #[.slice A0 l0.length c0, .slice B0 k0.length d0] 24; rw [← ho0] at h; exact h
  have b0 : Below W.heap.size W (W.alloc o0) := (Below.refl W.heap.size W).alloc (Nat.le_refl _) _
  have r0 := h0.below b0
  have t0 := g0.below b0
  have bb : Below (W.alloc o0).heap.size (W.alloc o0) (W.alloc o0) := Below.refl _ _
  subst ho0
  go_enter Try.func13, Try.ntmps13
  obtain ⟨x00, x01⟩ := x0.c2
  have x0g := x0.1
  go_wp2_with fail
  refine (BoardH.sz A0 c0 l0.length B0 d0 k0.length 1048576 _ m0 n0 (by omega) (by omega)).mono ?_
  rintro e w1 ⟨⟨dz1, rfl, hd1⟩, b1⟩
  replace x0 := x0.below b1
  replace bb := bb.trans (b1.mono bb.size)
  clear x00 x01 x0g
  by_cases hneg1 : dz1 < 0
  · go_wp2
    go_ret
    exact ⟨rfl, b0.trans (bb.mono b0.size)⟩
  have hl0 : l0.length ≤ 1048576 := by omega
  have hk0 : k0.length ≤ 1048576 := by omega
  have hz1 : 0 ≤ dz1 ∧ dz1 ≤ 1048576 := by omega
  clear hd1 hneg1
  have hs := fun (A0q : Option Addr) (c0q : Nat) (B0q : Option Addr) (d0q : Nat) (W' : World) (r0q : K.Rd W' 1 A0q l0.length (l0.map (Value.int .i64))) (t0q : K.Rd W' 1 B0q k0.length (k0.map (Value.int .i64))) => BoardP.s_plain A0q c0q l0 B0q d0q k0 W' hl0 hk0 r0q t0q
  have hi := fun (A0q : Option Addr) (c0q : Nat) (B0q : Option Addr) (d0q : Nat) (W' : World) (r0q : K.Rd W' 1 A0q l0.length (l0.map (Value.int .i64))) (t0q : K.Rd W' 1 B0q k0.length (k0.map (Value.int .i64))) => BoardP.i_plain A0q c0q l0 B0q d0q k0 W' hl0 hk0 r0q t0q
  have hlen : (M.plainB l0 k0).1.1.length ≤ 1048576 := by have := M.plainB_le l0 k0; omega
  have hlen2 : (M.plainB l0 k0).1.2.length ≤ 1048576 := by have := M.plainB_le l0 k0; omega
  generalize M.plainB l0 k0 = R at hs hi hlen hlen2
  obtain ⟨⟨L, L2⟩, v, b⟩ := R
  dsimp only at hs hi hlen hlen2
  have hbb_b : (b != b) = false := by simp
  have HS := Lib.hid hs
  have HI := Lib.hid hi
  clear hs hi
  obtain ⟨x00, x01⟩ := x0.c2
  have x0g := x0.1
  go_wp2_with fail
  refine (BoardH.copy A0 c0 l0 B0 d0 k0 _ hl0 hk0 (r0.below bb) (t0.below bb)).mono ?_
  rintro e w2 ⟨X2, n2, Y2, j2, rfl, q2, v2, ap_q2_v2, b2⟩
  have nb_q2_x0 : K.blk X2 ≠ some (W.heap.size) := fun h => by have h1 := (q2.lt _ h).1; have h2 := x0.1; omega
  replace q2 := q2.more bb.size
  have nb_v2_x0 : K.blk Y2 ≠ some (W.heap.size) := fun h => by have h1 := (v2.lt _ h).1; have h2 := x0.1; omega
  replace v2 := v2.more bb.size
  replace x0 := x0.below b2
  replace bb := bb.trans (b2.mono bb.size)
  clear x00 x01 x0g
  go_wp2_with fail
  refine (HS.out X2 n2 Y2 j2 _ q2.rd v2.rd).mono ?_
  rintro e w3 ⟨X3, n3, Y3, j3, rfl, q3, v3, ap_q3_v3, b3⟩
  have ap_q2_q3 := K.apart q2 q3 (Nat.le_refl _) (Nat.le_refl _)
  have ap_v2_q3 := K.apart v2 q3 (Nat.le_refl _) (Nat.le_refl _)
  have nb_q3_x0 : K.blk X3 ≠ some (W.heap.size) := fun h => by have h1 := (q3.lt _ h).1; have h2 := x0.1; omega
  replace q3 := q3.more bb.size
  have ap_q2_v3 := K.apart q2 v3 (Nat.le_refl _) (Nat.le_refl _)
  have ap_v2_v3 := K.apart v2 v3 (Nat.le_refl _) (Nat.le_refl _)
  have nb_v3_x0 : K.blk Y3 ≠ some (W.heap.size) := fun h => by have h1 := (v3.lt _ h).1; have h2 := x0.1; omega
  replace v3 := v3.more bb.size
  replace q2 := q2.below b3
  replace v2 := v2.below b3
  replace x0 := x0.below b3
  replace bb := bb.trans (b3.mono bb.size)
  obtain ⟨ob, ho⟩ : ∃ o : Obj, o = .cells #[.slice X3 L.length n3, .slice Y3 L2.length j3] 27 := ⟨_, rfl⟩
  have y3 : K.Box (w3.alloc ob) w3.heap.size [.slice X3 L.length n3, .slice Y3 L2.length j3] := by rw [ho]; exact K.Box.new _ _ _
  have nb_q2_y3 : K.blk X2 ≠ some (w3.heap.size) := fun h => Nat.lt_irrefl _ (q2.lt _ h).2
  have nb_v2_y3 : K.blk Y2 ≠ some (w3.heap.size) := fun h => Nat.lt_irrefl _ (v2.lt _ h).2
  have nb_q3_y3 : K.blk X3 ≠ some (w3.heap.size) := fun h => Nat.lt_irrefl _ (q3.lt _ h).2
  have nb_v3_y3 : K.blk Y3 ≠ some (w3.heap.size) := fun h => Nat.lt_irrefl _ (v3.lt _ h).2
  obtain ⟨x0a0, x0a1⟩ := x0.c2
  have x0ag := x0.1
  replace q2 := q2.alloc ob
  replace v2 := v2.alloc ob
  replace q3 := q3.alloc ob
  replace v3 := v3.alloc ob
  replace x0 := x0.alloc ob
  replace bb := bb.alloc bb.size ob
  subst ho
  obtain ⟨x00, x01⟩ := x0.c2
  have x0g := x0.1
  go_wp2_with fail
  refine (BoardH.copy A0 c0 l0 B0 d0 k0 _ hl0 hk0 (r0.below bb) (t0.below bb)).mono ?_
  rintro e w4 ⟨X4, n4, Y4, j4, rfl, q4, v4, ap_q4_v4, b4⟩
  have ap_q2_q4 := K.apart q2 q4 (Nat.le_refl _) (Nat.le_refl _)
  have ap_v2_q4 := K.apart v2 q4 (Nat.le_refl _) (Nat.le_refl _)
  have ap_q3_q4 := K.apart q3 q4 (Nat.le_refl _) (Nat.le_refl _)
  have ap_v3_q4 := K.apart v3 q4 (Nat.le_refl _) (Nat.le_refl _)
  have nb_q4_x0 : K.blk X4 ≠ some (W.heap.size) := fun h => by have h1 := (q4.lt _ h).1; have h2 := x0.1; omega
  have nb_q4_y3 : K.blk X4 ≠ some (w3.heap.size) := fun h => by have h1 := (q4.lt _ h).1; have h2 := y3.1; omega
  replace q4 := q4.more bb.size
  have ap_q2_v4 := K.apart q2 v4 (Nat.le_refl _) (Nat.le_refl _)
  have ap_v2_v4 := K.apart v2 v4 (Nat.le_refl _) (Nat.le_refl _)
  have ap_q3_v4 := K.apart q3 v4 (Nat.le_refl _) (Nat.le_refl _)
  have ap_v3_v4 := K.apart v3 v4 (Nat.le_refl _) (Nat.le_refl _)
  have nb_v4_x0 : K.blk Y4 ≠ some (W.heap.size) := fun h => by have h1 := (v4.lt _ h).1; have h2 := x0.1; omega
  have nb_v4_y3 : K.blk Y4 ≠ some (w3.heap.size) := fun h => by have h1 := (v4.lt _ h).1; have h2 := y3.1; omega
  replace v4 := v4.more bb.size
  replace q2 := q2.below b4
  replace v2 := v2.below b4
  replace q3 := q3.below b4
  replace v3 := v3.below b4
  replace x0 := x0.below b4
  replace y3 := y3.below b4
  replace bb := bb.trans (b4.mono bb.size)
  clear x0a0 x0a1 x0ag x00 x01 x0g
  obtain ⟨ob, ho⟩ : ∃ o : Obj, o = .cells #[.slice X4 l0.length n4, .slice Y4 k0.length j4] 27 := ⟨_, rfl⟩
  have y4 : K.Box (w4.alloc ob) w4.heap.size [.slice X4 l0.length n4, .slice Y4 k0.length j4] := by rw [ho]; exact K.Box.new _ _ _
  have nb_q2_y4 : K.blk X2 ≠ some (w4.heap.size) := fun h => Nat.lt_irrefl _ (q2.lt _ h).2
  have nb_v2_y4 : K.blk Y2 ≠ some (w4.heap.size) := fun h => Nat.lt_irrefl _ (v2.lt _ h).2
  have nb_q3_y4 : K.blk X3 ≠ some (w4.heap.size) := fun h => Nat.lt_irrefl _ (q3.lt _ h).2
  have nb_v3_y4 : K.blk Y3 ≠ some (w4.heap.size) := fun h => Nat.lt_irrefl _ (v3.lt _ h).2
  have nb_q4_y4 : K.blk X4 ≠ some (w4.heap.size) := fun h => Nat.lt_irrefl _ (q4.lt _ h).2
  have nb_v4_y4 : K.blk Y4 ≠ some (w4.heap.size) := fun h => Nat.lt_irrefl _ (v4.lt _ h).2
  obtain ⟨x0a0, x0a1⟩ := x0.c2
  have x0ag := x0.1
  obtain ⟨y3a0, y3a1⟩ := y3.c2
  have y3ag := y3.1
  replace q2 := q2.alloc ob
  replace v2 := v2.alloc ob
  replace q3 := q3.alloc ob
  replace v3 := v3.alloc ob
  replace q4 := q4.alloc ob
  replace v4 := v4.alloc ob
  replace x0 := x0.alloc ob
  replace y3 := y3.alloc ob
  replace bb := bb.alloc bb.size ob
  subst ho
  obtain ⟨y40, y41⟩ := y4.c2
  have y4g := y4.1
  go_wp2_with fail
  refine (HI.out X4 n4 Y4 j4 _ q4.rd v4.rd).mono ?_
  rintro e w5 ⟨X5, n5, Y5, j5, rfl, q5, v5, ap_q5_v5, b5⟩
  have ap_q2_q5 := K.apart q2 q5 (Nat.le_refl _) (Nat.le_refl _)
  have ap_v2_q5 := K.apart v2 q5 (Nat.le_refl _) (Nat.le_refl _)
  have ap_q3_q5 := K.apart q3 q5 (Nat.le_refl _) (Nat.le_refl _)
  have ap_v3_q5 := K.apart v3 q5 (Nat.le_refl _) (Nat.le_refl _)
  have ap_q4_q5 := K.apart q4 q5 (Nat.le_refl _) (Nat.le_refl _)
  have ap_v4_q5 := K.apart v4 q5 (Nat.le_refl _) (Nat.le_refl _)
  have nb_q5_x0 : K.blk X5 ≠ some (W.heap.size) := fun h => by have h1 := (q5.lt _ h).1; have h2 := x0.1; omega
  have nb_q5_y3 : K.blk X5 ≠ some (w3.heap.size) := fun h => by have h1 := (q5.lt _ h).1; have h2 := y3.1; omega
  have nb_q5_y4 : K.blk X5 ≠ some (w4.heap.size) := fun h => by have h1 := (q5.lt _ h).1; have h2 := y4.1; omega
  replace q5 := q5.more bb.size
  have ap_q2_v5 := K.apart q2 v5 (Nat.le_refl _) (Nat.le_refl _)
  have ap_v2_v5 := K.apart v2 v5 (Nat.le_refl _) (Nat.le_refl _)
  have ap_q3_v5 := K.apart q3 v5 (Nat.le_refl _) (Nat.le_refl _)
  have ap_v3_v5 := K.apart v3 v5 (Nat.le_refl _) (Nat.le_refl _)
  have ap_q4_v5 := K.apart q4 v5 (Nat.le_refl _) (Nat.le_refl _)
  have ap_v4_v5 := K.apart v4 v5 (Nat.le_refl _) (Nat.le_refl _)
  have nb_v5_x0 : K.blk Y5 ≠ some (W.heap.size) := fun h => by have h1 := (v5.lt _ h).1; have h2 := x0.1; omega
  have nb_v5_y3 : K.blk Y5 ≠ some (w3.heap.size) := fun h => by have h1 := (v5.lt _ h).1; have h2 := y3.1; omega
  have nb_v5_y4 : K.blk Y5 ≠ some (w4.heap.size) := fun h => by have h1 := (v5.lt _ h).1; have h2 := y4.1; omega
  replace v5 := v5.more bb.size
  replace q2 := q2.below b5
  replace v2 := v2.below b5
  replace q3 := q3.below b5
  replace v3 := v3.below b5
  replace q4 := q4.below b5
  replace v4 := v4.below b5
  replace x0 := x0.below b5
  replace y3 := y3.below b5
  replace y4 := y4.below b5
  replace bb := bb.trans (b5.mono bb.size)
  clear x0a0 x0a1 x0ag y3a0 y3a1 y3ag y40 y41 y4g
  obtain ⟨ob, ho⟩ : ∃ o : Obj, o = .cells #[.slice X5 L.length n5, .slice Y5 L2.length j5] 27 := ⟨_, rfl⟩
  have y5 : K.Box (w5.alloc ob) w5.heap.size [.slice X5 L.length n5, .slice Y5 L2.length j5] := by rw [ho]; exact K.Box.new _ _ _
  have nb_q2_y5 : K.blk X2 ≠ some (w5.heap.size) := fun h => Nat.lt_irrefl _ (q2.lt _ h).2
  have nb_v2_y5 : K.blk Y2 ≠ some (w5.heap.size) := fun h => Nat.lt_irrefl _ (v2.lt _ h).2
  have nb_q3_y5 : K.blk X3 ≠ some (w5.heap.size) := fun h => Nat.lt_irrefl _ (q3.lt _ h).2
  have nb_v3_y5 : K.blk Y3 ≠ some (w5.heap.size) := fun h => Nat.lt_irrefl _ (v3.lt _ h).2
  have nb_q4_y5 : K.blk X4 ≠ some (w5.heap.size) := fun h => Nat.lt_irrefl _ (q4.lt _ h).2
  have nb_v4_y5 : K.blk Y4 ≠ some (w5.heap.size) := fun h => Nat.lt_irrefl _ (v4.lt _ h).2
  have nb_q5_y5 : K.blk X5 ≠ some (w5.heap.size) := fun h => Nat.lt_irrefl _ (q5.lt _ h).2
  have nb_v5_y5 : K.blk Y5 ≠ some (w5.heap.size) := fun h => Nat.lt_irrefl _ (v5.lt _ h).2
  obtain ⟨x0a0, x0a1⟩ := x0.c2
  have x0ag := x0.1
  obtain ⟨y3a0, y3a1⟩ := y3.c2
  have y3ag := y3.1
  obtain ⟨y4a0, y4a1⟩ := y4.c2
  have y4ag := y4.1
  replace q2 := q2.alloc ob
  replace v2 := v2.alloc ob
  replace q3 := q3.alloc ob
  replace v3 := v3.alloc ob
  replace q4 := q4.alloc ob
  replace v4 := v4.alloc ob
  replace q5 := q5.alloc ob
  replace v5 := v5.alloc ob
  replace x0 := x0.alloc ob
  replace y3 := y3.alloc ob
  replace y4 := y4.alloc ob
  replace bb := bb.alloc bb.size ob
  subst ho
  obtain ⟨y30, y31⟩ := y3.c2
  have y3g := y3.1
  obtain ⟨y50, y51⟩ := y5.c2
  have y5g := y5.1
  go_wp2_with fail
  refine (BoardH.eq_yes X5 X3 n5 n3 L Y5 Y3 j5 j3 L2 _ hlen hlen2 (q5.rd) (q3.rd) (v5.rd) (v3.rd)).mono ?_
  rintro e w6 ⟨rfl, b6⟩
  replace q2 := q2.below b6
  replace v2 := v2.below b6
  replace q3 := q3.below b6
  replace v3 := v3.below b6
  replace q4 := q4.below b6
  replace v4 := v4.below b6
  replace q5 := q5.below b6
  replace v5 := v5.below b6
  replace x0 := x0.below b6
  replace y3 := y3.below b6
  replace y4 := y4.below b6
  replace y5 := y5.below b6
  replace bb := bb.trans (b6.mono bb.size)
  clear x0a0 x0a1 x0ag y3a0 y3a1 y3ag y4a0 y4a1 y4ag y30 y31 y3g y50 y51 y5g
  obtain ⟨x00, x01⟩ := x0.c2
  have x0g := x0.1
  obtain ⟨y40, y41⟩ := y4.c2
  have y4g := y4.1
  go_wp2_with fail
  have x0d := x0.drew
  have y4d := y4.drew
  have rdd := (r0.below bb).drew
  have rde := (t0.below bb).drew
  go_region_held3 (fun w' => w'.cell? ⟨W.heap.size, 0, none⟩ = some (.slice A0 l0.length c0) ∧ w'.cell? ⟨W.heap.size, 1, none⟩ = some (.slice B0 k0.length d0) ∧ w'.cell? ⟨w4.heap.size, 0, none⟩ = some (.slice X4 l0.length n4) ∧ w'.cell? ⟨w4.heap.size, 1, none⟩ = some (.slice Y4 k0.length j4))
    (first | go_keep | exact ⟨(x0d.below b7).2 0 _ rfl, (x0d.below b7).2 1 _ rfl, (y4d.below b7).2 0 _ rfl, (y4d.below b7).2 1 _ rfl⟩ | exact ⟨((x0d.below b7).below b8).2 0 _ rfl, ((x0d.below b7).below b8).2 1 _ rfl, ((y4d.below b7).below b8).2 0 _ rfl, ((y4d.below b7).below b8).2 1 _ rfl⟩)
    (first | (go_at_call 18; refine (BoardH.copy A0 c0 l0 B0 d0 k0 _ hl0 hk0 (by exact rdd) (by exact rde)).mono ?_; rintro e w7 ⟨X7, n7, Y7, j7, rfl, q7, v7, apq, b7⟩) | (go_at_call 20; refine (BoardH.eq_yes X4 X7 n4 n7 l0 Y4 Y7 j4 j7 k0 _ hl0 hk0 (by exact q4.drew.rd.below b7) (by exact q7.rd) (by exact v4.drew.rd.below b7) (by exact v7.rd)).mono ?_; rintro e w8 ⟨rfl, b8⟩))
  replace bb := bb.drew
  replace q2 := q2.drew
  replace v2 := v2.drew
  replace q3 := q3.drew
  replace v3 := v3.drew
  replace q4 := q4.drew
  replace v4 := v4.drew
  replace q5 := q5.drew
  replace v5 := v5.drew
  replace x0 := x0.drew
  replace y3 := y3.drew
  replace y4 := y4.drew
  replace y5 := y5.drew
  replace q2 := q2.below b7
  replace v2 := v2.below b7
  replace q3 := q3.below b7
  replace v3 := v3.below b7
  replace q4 := q4.below b7
  replace v4 := v4.below b7
  replace q5 := q5.below b7
  replace v5 := v5.below b7
  replace x0 := x0.below b7
  replace y3 := y3.below b7
  replace y4 := y4.below b7
  replace y5 := y5.below b7
  replace bb := bb.trans (b7.mono bb.size)
  replace q2 := q2.below b8
  replace v2 := v2.below b8
  replace q3 := q3.below b8
  replace v3 := v3.below b8
  replace q4 := q4.below b8
  replace v4 := v4.below b8
  replace q5 := q5.below b8
  replace v5 := v5.below b8
  replace x0 := x0.below b8
  replace y3 := y3.below b8
  replace y4 := y4.below b8
  replace y5 := y5.below b8
  replace bb := bb.trans (b8.mono bb.size)
  clear x0d y4d rdd rde
  clear x00 x01 x0g y40 y41 y4g
  obtain ⟨y40, y41⟩ := y4.c2
  have y4g := y4.1
  go_wp2_with fail
  refine (BoardH.mark X4 _ n4 Y4 _ j4 _ 1 _ _ _ hl0 hk0 (by omega) (by omega) q4 v4 ap_q4_v4).mono ?_
  rintro e w9 ⟨he, z9, zz9, wm, g9, gg9⟩
  replace q2 := q2.kept g9 ap_q2_q4
  replace v2 := v2.kept g9 ap_v2_q4
  replace q3 := q3.kept g9 ap_q3_q4
  replace v3 := v3.kept g9 ap_v3_q4
  replace q5 := q5.kept g9 (fun g h1 h2 => ap_q4_q5 g h2 h1)
  replace v5 := v5.kept g9 (fun g h1 h2 => ap_q4_v5 g h2 h1)
  replace x0 := x0.kept g9 nb_q4_x0
  replace y3 := y3.kept g9 nb_q4_y3
  replace y4 := y4.kept g9 nb_q4_y4
  replace y5 := y5.kept g9 nb_q4_y5
  replace q2 := q2.kept gg9 ap_q2_v4
  replace v2 := v2.kept gg9 ap_v2_v4
  replace q3 := q3.kept gg9 ap_q3_v4
  replace v3 := v3.kept gg9 ap_v3_v4
  replace q5 := q5.kept gg9 (fun g h1 h2 => ap_v4_q5 g h2 h1)
  replace v5 := v5.kept gg9 (fun g h1 h2 => ap_v4_v5 g h2 h1)
  replace x0 := x0.kept gg9 nb_v4_x0
  replace y3 := y3.kept gg9 nb_v4_y3
  replace y4 := y4.kept gg9 nb_v4_y4
  replace y5 := y5.kept gg9 nb_v4_y5
  have bu1 := K.below_of_grown g9 bb.size (fun g hg => (q4.lt g hg).1)
  have bu2 := K.below_of_grown gg9 (bb.trans bu1).size (fun g hg => (v4.lt g hg).1)
  replace bb := (bb.trans bu1).trans bu2
  replace q4 := z9
  replace v4 := zz9
  clear bu1 bu2 z9 zz9 g9 gg9
  obtain ⟨k9z, hkk9z, hlk9z, hjk9z⟩ : ∃ k : Nat, k ≤ 1 + l0.length + k0.length ∧ 1 + l0.length + k0.length ≤ k ∧ e = .returned (.int .i64 (k : Int)) := ⟨_, Nat.le_refl _, Nat.le_refl _, by rw [he]; exact congrArg (fun x => Ending.returned (.int .i64 x)) (by omega)⟩
  subst hjk9z
  clear he
  clear y40 y41 y4g
  obtain ⟨y30, y31⟩ := y3.c2
  have y3g := y3.1
  obtain ⟨y50, y51⟩ := y5.c2
  have y5g := y5.1
  go_wp2_with fail
  refine (BoardH.eq_yes X5 X3 n5 n3 L Y5 Y3 j5 j3 L2 _ hlen hlen2 (q5.rd) (q3.rd) (v5.rd) (v3.rd)).mono ?_
  rintro e w10 ⟨rfl, b10⟩
  replace q2 := q2.below b10
  replace v2 := v2.below b10
  replace q3 := q3.below b10
  replace v3 := v3.below b10
  replace q4 := q4.below b10
  replace v4 := v4.below b10
  replace q5 := q5.below b10
  replace v5 := v5.below b10
  replace x0 := x0.below b10
  replace y3 := y3.below b10
  replace y4 := y4.below b10
  replace y5 := y5.below b10
  replace bb := bb.trans (b10.mono bb.size)
  clear y30 y31 y3g y50 y51 y5g
  obtain ⟨y50, y51⟩ := y5.c2
  have y5g := y5.1
  go_wp2_with fail
  refine (BoardH.mark X5 _ n5 Y5 _ j5 _ 1 _ _ _ hlen hlen2 (by omega) (by omega) q5 v5 ap_q5_v5).mono ?_
  rintro e w11 ⟨he, z11, zz11, wm, g11, gg11⟩
  replace q2 := q2.kept g11 ap_q2_q5
  replace v2 := v2.kept g11 ap_v2_q5
  replace q3 := q3.kept g11 ap_q3_q5
  replace v3 := v3.kept g11 ap_v3_q5
  replace q4 := q4.kept g11 ap_q4_q5
  replace v4 := v4.kept g11 ap_v4_q5
  replace x0 := x0.kept g11 nb_q5_x0
  replace y3 := y3.kept g11 nb_q5_y3
  replace y4 := y4.kept g11 nb_q5_y4
  replace y5 := y5.kept g11 nb_q5_y5
  replace q2 := q2.kept gg11 ap_q2_v5
  replace v2 := v2.kept gg11 ap_v2_v5
  replace q3 := q3.kept gg11 ap_q3_v5
  replace v3 := v3.kept gg11 ap_v3_v5
  replace q4 := q4.kept gg11 ap_q4_v5
  replace v4 := v4.kept gg11 ap_v4_v5
  replace x0 := x0.kept gg11 nb_v5_x0
  replace y3 := y3.kept gg11 nb_v5_y3
  replace y4 := y4.kept gg11 nb_v5_y4
  replace y5 := y5.kept gg11 nb_v5_y5
  have bu1 := K.below_of_grown g11 bb.size (fun g hg => (q5.lt g hg).1)
  have bu2 := K.below_of_grown gg11 (bb.trans bu1).size (fun g hg => (v5.lt g hg).1)
  replace bb := (bb.trans bu1).trans bu2
  replace q5 := z11
  replace v5 := zz11
  clear bu1 bu2 z11 zz11 g11 gg11
  obtain ⟨k11z, hkk11z, hlk11z, hjk11z⟩ : ∃ k : Nat, k ≤ 1 + L.length + L2.length ∧ 1 + L.length + L2.length ≤ k ∧ e = .returned (.int .i64 (k : Int)) := ⟨_, Nat.le_refl _, Nat.le_refl _, by rw [he]; exact congrArg (fun x => Ending.returned (.int .i64 x)) (by omega)⟩
  subst hjk11z
  clear he
  clear y50 y51 y5g
  obtain ⟨y50, y51⟩ := y5.c2
  have y5g := y5.1
  go_wp2_with fail
  refine (BoardH.held X5 _ n5 Y5 _ j5 1 _ hlen hlen2 (by omega) (by omega) q5.rd v5.rd).mono ?_
  rintro e w12 ⟨he, b12⟩
  obtain rfl : e = .returned (.int .i64 (k11z : Int)) := by rw [he]; exact congrArg (fun x => Ending.returned (.int .i64 x)) (by omega)
  clear he
  replace q2 := q2.below b12
  replace v2 := v2.below b12
  replace q3 := q3.below b12
  replace v3 := v3.below b12
  replace q4 := q4.below b12
  replace v4 := v4.below b12
  replace q5 := q5.below b12
  replace v5 := v5.below b12
  replace x0 := x0.below b12
  replace y3 := y3.below b12
  replace y4 := y4.below b12
  replace y5 := y5.below b12
  replace bb := bb.trans (b12.mono bb.size)
  clear y50 y51 y5g
  obtain ⟨x00, x01⟩ := x0.c2
  have x0g := x0.1
  go_wp2_with fail
  refine (BoardH.copy A0 c0 l0 B0 d0 k0 _ hl0 hk0 (r0.below bb) (t0.below bb)).mono ?_
  rintro e w13 ⟨X13, n13, Y13, j13, rfl, q13, v13, ap_q13_v13, b13⟩
  have ap_q2_q13 := K.apart q2 q13 (Nat.le_refl _) (Nat.le_refl _)
  have ap_v2_q13 := K.apart v2 q13 (Nat.le_refl _) (Nat.le_refl _)
  have ap_q3_q13 := K.apart q3 q13 (Nat.le_refl _) (Nat.le_refl _)
  have ap_v3_q13 := K.apart v3 q13 (Nat.le_refl _) (Nat.le_refl _)
  have ap_q4_q13 := K.apart q4 q13 (Nat.le_refl _) (Nat.le_refl _)
  have ap_v4_q13 := K.apart v4 q13 (Nat.le_refl _) (Nat.le_refl _)
  have ap_q5_q13 := K.apart q5 q13 (Nat.le_refl _) (Nat.le_refl _)
  have ap_v5_q13 := K.apart v5 q13 (Nat.le_refl _) (Nat.le_refl _)
  have nb_q13_x0 : K.blk X13 ≠ some (W.heap.size) := fun h => by have h1 := (q13.lt _ h).1; have h2 := x0.1; omega
  have nb_q13_y3 : K.blk X13 ≠ some (w3.heap.size) := fun h => by have h1 := (q13.lt _ h).1; have h2 := y3.1; omega
  have nb_q13_y4 : K.blk X13 ≠ some (w4.heap.size) := fun h => by have h1 := (q13.lt _ h).1; have h2 := y4.1; omega
  have nb_q13_y5 : K.blk X13 ≠ some (w5.heap.size) := fun h => by have h1 := (q13.lt _ h).1; have h2 := y5.1; omega
  replace q13 := q13.more bb.size
  have ap_q2_v13 := K.apart q2 v13 (Nat.le_refl _) (Nat.le_refl _)
  have ap_v2_v13 := K.apart v2 v13 (Nat.le_refl _) (Nat.le_refl _)
  have ap_q3_v13 := K.apart q3 v13 (Nat.le_refl _) (Nat.le_refl _)
  have ap_v3_v13 := K.apart v3 v13 (Nat.le_refl _) (Nat.le_refl _)
  have ap_q4_v13 := K.apart q4 v13 (Nat.le_refl _) (Nat.le_refl _)
  have ap_v4_v13 := K.apart v4 v13 (Nat.le_refl _) (Nat.le_refl _)
  have ap_q5_v13 := K.apart q5 v13 (Nat.le_refl _) (Nat.le_refl _)
  have ap_v5_v13 := K.apart v5 v13 (Nat.le_refl _) (Nat.le_refl _)
  have nb_v13_x0 : K.blk Y13 ≠ some (W.heap.size) := fun h => by have h1 := (v13.lt _ h).1; have h2 := x0.1; omega
  have nb_v13_y3 : K.blk Y13 ≠ some (w3.heap.size) := fun h => by have h1 := (v13.lt _ h).1; have h2 := y3.1; omega
  have nb_v13_y4 : K.blk Y13 ≠ some (w4.heap.size) := fun h => by have h1 := (v13.lt _ h).1; have h2 := y4.1; omega
  have nb_v13_y5 : K.blk Y13 ≠ some (w5.heap.size) := fun h => by have h1 := (v13.lt _ h).1; have h2 := y5.1; omega
  replace v13 := v13.more bb.size
  replace q2 := q2.below b13
  replace v2 := v2.below b13
  replace q3 := q3.below b13
  replace v3 := v3.below b13
  replace q4 := q4.below b13
  replace v4 := v4.below b13
  replace q5 := q5.below b13
  replace v5 := v5.below b13
  replace x0 := x0.below b13
  replace y3 := y3.below b13
  replace y4 := y4.below b13
  replace y5 := y5.below b13
  replace bb := bb.trans (b13.mono bb.size)
  clear x00 x01 x0g
  go_wp2_with fail
  refine (HI.out X13 n13 Y13 j13 _ q13.rd v13.rd).mono ?_
  rintro e w14 ⟨X14, n14, Y14, j14, rfl, q14, v14, ap_q14_v14, b14⟩
  have ap_q2_q14 := K.apart q2 q14 (Nat.le_refl _) (Nat.le_refl _)
  have ap_v2_q14 := K.apart v2 q14 (Nat.le_refl _) (Nat.le_refl _)
  have ap_q3_q14 := K.apart q3 q14 (Nat.le_refl _) (Nat.le_refl _)
  have ap_v3_q14 := K.apart v3 q14 (Nat.le_refl _) (Nat.le_refl _)
  have ap_q4_q14 := K.apart q4 q14 (Nat.le_refl _) (Nat.le_refl _)
  have ap_v4_q14 := K.apart v4 q14 (Nat.le_refl _) (Nat.le_refl _)
  have ap_q5_q14 := K.apart q5 q14 (Nat.le_refl _) (Nat.le_refl _)
  have ap_v5_q14 := K.apart v5 q14 (Nat.le_refl _) (Nat.le_refl _)
  have ap_q13_q14 := K.apart q13 q14 (Nat.le_refl _) (Nat.le_refl _)
  have ap_v13_q14 := K.apart v13 q14 (Nat.le_refl _) (Nat.le_refl _)
  have nb_q14_x0 : K.blk X14 ≠ some (W.heap.size) := fun h => by have h1 := (q14.lt _ h).1; have h2 := x0.1; omega
  have nb_q14_y3 : K.blk X14 ≠ some (w3.heap.size) := fun h => by have h1 := (q14.lt _ h).1; have h2 := y3.1; omega
  have nb_q14_y4 : K.blk X14 ≠ some (w4.heap.size) := fun h => by have h1 := (q14.lt _ h).1; have h2 := y4.1; omega
  have nb_q14_y5 : K.blk X14 ≠ some (w5.heap.size) := fun h => by have h1 := (q14.lt _ h).1; have h2 := y5.1; omega
  replace q14 := q14.more bb.size
  have ap_q2_v14 := K.apart q2 v14 (Nat.le_refl _) (Nat.le_refl _)
  have ap_v2_v14 := K.apart v2 v14 (Nat.le_refl _) (Nat.le_refl _)
  have ap_q3_v14 := K.apart q3 v14 (Nat.le_refl _) (Nat.le_refl _)
  have ap_v3_v14 := K.apart v3 v14 (Nat.le_refl _) (Nat.le_refl _)
  have ap_q4_v14 := K.apart q4 v14 (Nat.le_refl _) (Nat.le_refl _)
  have ap_v4_v14 := K.apart v4 v14 (Nat.le_refl _) (Nat.le_refl _)
  have ap_q5_v14 := K.apart q5 v14 (Nat.le_refl _) (Nat.le_refl _)
  have ap_v5_v14 := K.apart v5 v14 (Nat.le_refl _) (Nat.le_refl _)
  have ap_q13_v14 := K.apart q13 v14 (Nat.le_refl _) (Nat.le_refl _)
  have ap_v13_v14 := K.apart v13 v14 (Nat.le_refl _) (Nat.le_refl _)
  have nb_v14_x0 : K.blk Y14 ≠ some (W.heap.size) := fun h => by have h1 := (v14.lt _ h).1; have h2 := x0.1; omega
  have nb_v14_y3 : K.blk Y14 ≠ some (w3.heap.size) := fun h => by have h1 := (v14.lt _ h).1; have h2 := y3.1; omega
  have nb_v14_y4 : K.blk Y14 ≠ some (w4.heap.size) := fun h => by have h1 := (v14.lt _ h).1; have h2 := y4.1; omega
  have nb_v14_y5 : K.blk Y14 ≠ some (w5.heap.size) := fun h => by have h1 := (v14.lt _ h).1; have h2 := y5.1; omega
  replace v14 := v14.more bb.size
  replace q2 := q2.below b14
  replace v2 := v2.below b14
  replace q3 := q3.below b14
  replace v3 := v3.below b14
  replace q4 := q4.below b14
  replace v4 := v4.below b14
  replace q5 := q5.below b14
  replace v5 := v5.below b14
  replace q13 := q13.below b14
  replace v13 := v13.below b14
  replace x0 := x0.below b14
  replace y3 := y3.below b14
  replace y4 := y4.below b14
  replace y5 := y5.below b14
  replace bb := bb.trans (b14.mono bb.size)
  obtain ⟨ob, ho⟩ : ∃ o : Obj, o = .cells #[.slice X14 L.length n14, .slice Y14 L2.length j14] 27 := ⟨_, rfl⟩
  have y14 : K.Box (w14.alloc ob) w14.heap.size [.slice X14 L.length n14, .slice Y14 L2.length j14] := by rw [ho]; exact K.Box.new _ _ _
  have nb_q2_y14 : K.blk X2 ≠ some (w14.heap.size) := fun h => Nat.lt_irrefl _ (q2.lt _ h).2
  have nb_v2_y14 : K.blk Y2 ≠ some (w14.heap.size) := fun h => Nat.lt_irrefl _ (v2.lt _ h).2
  have nb_q3_y14 : K.blk X3 ≠ some (w14.heap.size) := fun h => Nat.lt_irrefl _ (q3.lt _ h).2
  have nb_v3_y14 : K.blk Y3 ≠ some (w14.heap.size) := fun h => Nat.lt_irrefl _ (v3.lt _ h).2
  have nb_q4_y14 : K.blk X4 ≠ some (w14.heap.size) := fun h => Nat.lt_irrefl _ (q4.lt _ h).2
  have nb_v4_y14 : K.blk Y4 ≠ some (w14.heap.size) := fun h => Nat.lt_irrefl _ (v4.lt _ h).2
  have nb_q5_y14 : K.blk X5 ≠ some (w14.heap.size) := fun h => Nat.lt_irrefl _ (q5.lt _ h).2
  have nb_v5_y14 : K.blk Y5 ≠ some (w14.heap.size) := fun h => Nat.lt_irrefl _ (v5.lt _ h).2
  have nb_q13_y14 : K.blk X13 ≠ some (w14.heap.size) := fun h => Nat.lt_irrefl _ (q13.lt _ h).2
  have nb_v13_y14 : K.blk Y13 ≠ some (w14.heap.size) := fun h => Nat.lt_irrefl _ (v13.lt _ h).2
  have nb_q14_y14 : K.blk X14 ≠ some (w14.heap.size) := fun h => Nat.lt_irrefl _ (q14.lt _ h).2
  have nb_v14_y14 : K.blk Y14 ≠ some (w14.heap.size) := fun h => Nat.lt_irrefl _ (v14.lt _ h).2
  obtain ⟨x0a0, x0a1⟩ := x0.c2
  have x0ag := x0.1
  obtain ⟨y3a0, y3a1⟩ := y3.c2
  have y3ag := y3.1
  obtain ⟨y4a0, y4a1⟩ := y4.c2
  have y4ag := y4.1
  obtain ⟨y5a0, y5a1⟩ := y5.c2
  have y5ag := y5.1
  replace q2 := q2.alloc ob
  replace v2 := v2.alloc ob
  replace q3 := q3.alloc ob
  replace v3 := v3.alloc ob
  replace q4 := q4.alloc ob
  replace v4 := v4.alloc ob
  replace q5 := q5.alloc ob
  replace v5 := v5.alloc ob
  replace q13 := q13.alloc ob
  replace v13 := v13.alloc ob
  replace q14 := q14.alloc ob
  replace v14 := v14.alloc ob
  replace x0 := x0.alloc ob
  replace y3 := y3.alloc ob
  replace y4 := y4.alloc ob
  replace y5 := y5.alloc ob
  replace bb := bb.alloc bb.size ob
  subst ho
  obtain ⟨y30, y31⟩ := y3.c2
  have y3g := y3.1
  obtain ⟨y140, y141⟩ := y14.c2
  have y14g := y14.1
  go_wp2_with fail
  refine (BoardH.eq_yes X14 X3 n14 n3 L Y14 Y3 j14 j3 L2 _ hlen hlen2 (q14.rd) (q3.rd) (v14.rd) (v3.rd)).mono ?_
  rintro e w15 ⟨rfl, b15⟩
  replace q2 := q2.below b15
  replace v2 := v2.below b15
  replace q3 := q3.below b15
  replace v3 := v3.below b15
  replace q4 := q4.below b15
  replace v4 := v4.below b15
  replace q5 := q5.below b15
  replace v5 := v5.below b15
  replace q13 := q13.below b15
  replace v13 := v13.below b15
  replace q14 := q14.below b15
  replace v14 := v14.below b15
  replace x0 := x0.below b15
  replace y3 := y3.below b15
  replace y4 := y4.below b15
  replace y5 := y5.below b15
  replace y14 := y14.below b15
  replace bb := bb.trans (b15.mono bb.size)
  clear x0a0 x0a1 x0ag y3a0 y3a1 y3ag y4a0 y4a1 y4ag y5a0 y5a1 y5ag y30 y31 y3g y140 y141 y14g
  obtain ⟨y50, y51⟩ := y5.c2
  have y5g := y5.1
  go_wp2_with fail
  refine (BoardH.held X5 _ n5 Y5 _ j5 1 _ hlen hlen2 (by omega) (by omega) q5.rd v5.rd).mono ?_
  rintro e w16 ⟨he, b16⟩
  obtain rfl : e = .returned (.int .i64 (k11z : Int)) := by rw [he]; exact congrArg (fun x => Ending.returned (.int .i64 x)) (by omega)
  clear he
  replace q2 := q2.below b16
  replace v2 := v2.below b16
  replace q3 := q3.below b16
  replace v3 := v3.below b16
  replace q4 := q4.below b16
  replace v4 := v4.below b16
  replace q5 := q5.below b16
  replace v5 := v5.below b16
  replace q13 := q13.below b16
  replace v13 := v13.below b16
  replace q14 := q14.below b16
  replace v14 := v14.below b16
  replace x0 := x0.below b16
  replace y3 := y3.below b16
  replace y4 := y4.below b16
  replace y5 := y5.below b16
  replace y14 := y14.below b16
  replace bb := bb.trans (b16.mono bb.size)
  clear y50 y51 y5g
  go_wp2_with fail
  go_ret
  exact ⟨rfl, b0.trans (bb.mono b0.size)⟩
end Go.Proofs.Ytmgegacgjppdbaa.fnExactPlainBoard
