/-
  The walk of FnExactJoinBoards.
-/
import Derived.Test.YtmgegacgjppdbaaArg
import Derived.Test.YtmgegacgjppdbaaKit2
import Derived.Test.YtmgegacgjppdbaaBoardJ
import Derived.OpenShut
import Derived.Deep.DeepCutAuto
set_option linter.unusedVariables false
namespace Go.Proofs.Ytmgegacgjppdbaa.fnExactJoinBoards
open Go.ChangeShapes Go.WideShapes Go.ChangeAt Go.RowKit

set_option maxRecDepth 100000 in
set_option maxHeartbeats 16000000 in
/-- the walk: the law's text returns true; nothing that was there has turned. -/
theorem walk (A0 : Option Addr) (c0 : Nat) (l0 : List Int) (B0 : Option Addr) (d0 : Nat) (k0 : List Int) (A1 : Option Addr) (c1 : Nat) (l1 : List Int) (B1 : Option Addr) (d1 : Nat) (k1 : List Int) (W : World) (h0 : K.Rd W 1 A0 l0.length (l0.map (Value.int .i64))) (g0 : K.Rd W 1 B0 k0.length (k0.map (Value.int .i64))) (m0 : l0.length ≤ 9223372036854775807) (n0 : k0.length ≤ 9223372036854775807) (s0 : ∀ x ∈ l0, M.i64 x) (t0 : ∀ x ∈ k0, M.i64 x) (h1 : K.Rd W 1 A1 l1.length (l1.map (Value.int .i64))) (g1 : K.Rd W 1 B1 k1.length (k1.map (Value.int .i64))) (m1 : l1.length ≤ 9223372036854775807) (n1 : k1.length ≤ 9223372036854775807) (s1 : ∀ x ∈ l1, M.i64 x) (t1 : ∀ x ∈ k1, M.i64 x) :
    Calls Try.prog 9 #[.agg #[.slice A0 l0.length c0, .slice B0 k0.length d0], .agg #[.slice A1 l1.length c1, .slice B1 k1.length d1]] W fun e w' => e = .returned (.bool true) ∧ Below W.heap.size W w' := by
  obtain ⟨o0, ho0⟩ : ∃ o : Obj, o = .cells #[.slice A0 l0.length c0, .slice B0 k0.length d0] 24 := ⟨_, rfl⟩
  have x0 : K.Box (W.alloc o0) (W.heap.size) [.slice A0 l0.length c0, .slice B0 k0.length d0] := by have h := K.Box.new W #[.slice A0 l0.length c0, .slice B0 k0.length d0] 24; rw [← ho0] at h; exact h
  obtain ⟨o1, ho1⟩ : ∃ o : Obj, o = .cells #[.slice A1 l1.length c1, .slice B1 k1.length d1] 24 := ⟨_, rfl⟩
  have x1 : K.Box ((W.alloc o0).alloc o1) (W.heap.size + 1) [.slice A1 l1.length c1, .slice B1 k1.length d1] := by have h := K.Box.new (W.alloc o0) #[.slice A1 l1.length c1, .slice B1 k1.length d1] 24; rw [← ho1] at h; rw [World.size_alloc] at h; exact h
  replace x0 := x0.alloc o1
  have b0 : Below W.heap.size W ((W.alloc o0).alloc o1) := ((Below.refl W.heap.size W).alloc (Nat.le_refl _) _).alloc (by simp) _
  have r0 := h0.below b0
  have t0 := g0.below b0
  have r1 := h1.below b0
  have t1 := g1.below b0
  have bb : Below ((W.alloc o0).alloc o1).heap.size ((W.alloc o0).alloc o1) ((W.alloc o0).alloc o1) := Below.refl _ _
  subst ho0
  subst ho1
  go_enter Try.func9, Try.ntmps9
  obtain ⟨x00, x01⟩ := x0.c2
  have x0g := x0.1
  go_wp2_with fail
  refine (BoardH.sz A0 c0 l0.length B0 d0 k0.length 1048576 _ m0 n0 (by omega) (by omega)).mono ?_
  rintro e w1 ⟨⟨dz1, rfl, hd1⟩, b1⟩
  replace x0 := x0.below b1
  replace x1 := x1.below b1
  replace bb := bb.trans (b1.mono bb.size)
  clear x00 x01 x0g
  by_cases hneg1 : dz1 < 0
  · go_wp2
    go_ret
    exact ⟨rfl, b0.trans (bb.mono b0.size)⟩
  have hl0 : l0.length ≤ 1048576 := by omega
  have hk0 : k0.length ≤ 1048576 := by omega
  have hz1 : 0 ≤ dz1 ∧ dz1 ≤ 1048576 := by omega
  clear hd1 hneg1
  obtain ⟨x10, x11⟩ := x1.c2
  have x1g := x1.1
  go_wp2_with fail
  refine (BoardH.sz A1 c1 l1.length B1 d1 k1.length dz1 _ m1 n1 (by omega) (by omega)).mono ?_
  rintro e w2 ⟨⟨dz2, rfl, hd2⟩, b2⟩
  replace x0 := x0.below b2
  replace x1 := x1.below b2
  replace bb := bb.trans (b2.mono bb.size)
  clear x10 x11 x1g
  by_cases hneg2 : dz2 < 0
  · go_wp2
    go_ret
    exact ⟨rfl, b0.trans (bb.mono b0.size)⟩
  have hl1 : l1.length ≤ 1048576 := by omega
  have hk1 : k1.length ≤ 1048576 := by omega
  have hz2 : 0 ≤ dz2 ∧ dz2 ≤ 1048576 := by omega
  clear hd2 hneg2
  have hs := fun (A0q : Option Addr) (c0q : Nat) (B0q : Option Addr) (d0q : Nat) (A1q : Option Addr) (c1q : Nat) (B1q : Option Addr) (d1q : Nat) (W' : World) (r0q : K.Rd W' 1 A0q l0.length (l0.map (Value.int .i64))) (t0q : K.Rd W' 1 B0q k0.length (k0.map (Value.int .i64))) (r1q : K.Rd W' 1 A1q l1.length (l1.map (Value.int .i64))) (t1q : K.Rd W' 1 B1q k1.length (k1.map (Value.int .i64))) => BoardJ.s_join A0q c0q l0 B0q d0q k0 A1q c1q l1 B1q d1q k1 W' hl0 hk0 r0q t0q hl1 hk1 r1q t1q
  have hi := fun (A0q : Option Addr) (c0q : Nat) (B0q : Option Addr) (d0q : Nat) (A1q : Option Addr) (c1q : Nat) (B1q : Option Addr) (d1q : Nat) (W' : World) (r0q : K.Rd W' 1 A0q l0.length (l0.map (Value.int .i64))) (t0q : K.Rd W' 1 B0q k0.length (k0.map (Value.int .i64))) (r1q : K.Rd W' 1 A1q l1.length (l1.map (Value.int .i64))) (t1q : K.Rd W' 1 B1q k1.length (k1.map (Value.int .i64))) => BoardJ.i_join A0q c0q l0 B0q d0q k0 A1q c1q l1 B1q d1q k1 W' hl0 hk0 r0q t0q hl1 hk1 r1q t1q
  have hlen : (M.joinB l0 k0 l1 k1).1.1.length ≤ 1048576 := by have := M.joinB_le l0 k0 l1 k1; omega
  have hlen2 : (M.joinB l0 k0 l1 k1).1.2.length ≤ 1048576 := by have := M.joinB_le l0 k0 l1 k1; omega
  generalize M.joinB l0 k0 l1 k1 = R at hs hi hlen hlen2
  obtain ⟨⟨L, L2⟩, b⟩ := R
  dsimp only at hs hi hlen hlen2
  have hbb_b : (b != b) = false := by simp
  have HS := Lib.hid hs
  have HI := Lib.hid hi
  clear hs hi
  go_upto_region 8 with fail
  go_cut [6, 7] (fun sb o0 wx => ∃ (X : Option Addr) (n : Nat) (Y : Option Addr) (m g : Nat), sb = .pointer (some ⟨g, 0, none⟩) ∧ o0 = .bool b ∧ K.Box wx g [.slice X L.length n, .slice Y L2.length m] ∧ K.Row wx w2.heap.size 3 1 X L.length n (L.map (Value.int .i64)) ∧ K.Row wx w2.heap.size 3 1 Y L2.length m (L2.map (Value.int .i64)) ∧ (∀ q, K.blk X = some q → K.blk Y ≠ some q) ∧ K.blk X ≠ some g ∧ K.blk Y ≠ some g ∧ w2.heap.size ≤ g ∧ Below w2.heap.size w2 wx)
  case first =>
    obtain ⟨x00, x01⟩ := x0.c2
    have x0g := x0.1
    obtain ⟨x10, x11⟩ := x1.c2
    have x1g := x1.1
    have rd0 := r0.below bb
    have te0 := t0.below bb
    have rd1 := r1.below bb
    have te1 := t1.below bb
    have BB := Lib.hid (Below.refl w2.heap.size w2)
    clear bb b0
    go_region_held3 (fun w' => w'.cell? ⟨W.heap.size, 0, none⟩ = some (.slice A0 l0.length c0) ∧ w'.cell? ⟨W.heap.size, 1, none⟩ = some (.slice B0 k0.length d0) ∧ w'.cell? ⟨W.heap.size + 1, 0, none⟩ = some (.slice A1 l1.length c1) ∧ w'.cell? ⟨W.heap.size + 1, 1, none⟩ = some (.slice B1 k1.length d1))
      (((try dsimp only); refine ⟨(by (refine K.Box.at_ (vs := [.slice A0 l0.length c0, .slice B0 k0.length d0]) (j := 0) ?_ rfl; (repeat (first | with_reducible assumption | (with_reducible refine K.Box.alloc ?_ _) | (with_reducible refine K.Box.drew ?_) | (with_reducible refine K.Box.setOther ?_ (by simp <;> omega) _) | (with_reducible refine K.Box.below ?_ (by with_reducible assumption)))))), (by (refine K.Box.at_ (vs := [.slice A0 l0.length c0, .slice B0 k0.length d0]) (j := 1) ?_ rfl; (repeat (first | with_reducible assumption | (with_reducible refine K.Box.alloc ?_ _) | (with_reducible refine K.Box.drew ?_) | (with_reducible refine K.Box.setOther ?_ (by simp <;> omega) _) | (with_reducible refine K.Box.below ?_ (by with_reducible assumption)))))), (by (refine K.Box.at_ (vs := [.slice A1 l1.length c1, .slice B1 k1.length d1]) (j := 0) ?_ rfl; (repeat (first | with_reducible assumption | (with_reducible refine K.Box.alloc ?_ _) | (with_reducible refine K.Box.drew ?_) | (with_reducible refine K.Box.setOther ?_ (by simp <;> omega) _) | (with_reducible refine K.Box.below ?_ (by with_reducible assumption)))))), (by (refine K.Box.at_ (vs := [.slice A1 l1.length c1, .slice B1 k1.length d1]) (j := 1) ?_ rfl; (repeat (first | with_reducible assumption | (with_reducible refine K.Box.alloc ?_ _) | (with_reducible refine K.Box.drew ?_) | (with_reducible refine K.Box.setOther ?_ (by simp <;> omega) _) | (with_reducible refine K.Box.below ?_ (by with_reducible assumption))))))⟩))
      (first | (go_at_call 18; first | (((with_reducible refine (BoardH.copy A0 c0 l0 B0 d0 k0 (w2.alloc (.cells #[.slice none 0 0, .slice none 0 0] 27)).drew hl0 hk0 (by (repeat (first | with_reducible assumption | (with_reducible refine K.Rd.alloc ?_ _) | (with_reducible refine K.Rd.drew ?_) | (with_reducible refine K.Rd.below ?_ (by with_reducible assumption))))) (by (repeat (first | with_reducible assumption | (with_reducible refine K.Rd.alloc ?_ _) | (with_reducible refine K.Rd.drew ?_) | (with_reducible refine K.Rd.below ?_ (by with_reducible assumption)))))).mono ?_)); rintro e w4 ⟨X4, n4, Y4, j4, rfl, q4, v4, ap4, b4⟩; have ow := (K.Own.new w2 #[.slice none 0 0, .slice none 0 0] 27).drew.below b4; obtain ⟨cw, cw1, fw, fw1, lw⟩ := ow.c2; have bb4 := Lib.hid (((BB.out.alloc BB.out.size (.cells #[.slice none 0 0, .slice none 0 0] 27)).drew).trans (b4.mono (by have hq := BB.out.size; simp <;> omega))); have s4 := b4.size; (try simp at s4); have qd4 := q4.rd; have vd4 := v4.rd) | (((with_reducible refine (BoardH.copy A0 c0 l0 B0 d0 k0 _ hl0 hk0 (by (repeat (first | with_reducible assumption | (with_reducible refine K.Rd.alloc ?_ _) | (with_reducible refine K.Rd.drew ?_) | (with_reducible refine K.Rd.below ?_ (by with_reducible assumption))))) (by (repeat (first | with_reducible assumption | (with_reducible refine K.Rd.alloc ?_ _) | (with_reducible refine K.Rd.drew ?_) | (with_reducible refine K.Rd.below ?_ (by with_reducible assumption)))))).mono ?_)); rintro e w4 ⟨X4, n4, Y4, j4, rfl, q4, v4, ap4, b4⟩; (try (replace ow := ow.below b4; obtain ⟨cw, cw1, fw, fw1, lw⟩ := ow.c2)); have bb4 := Lib.hid (BB.out.drew.trans (b4.mono (by have hq := BB.out.size; simp <;> omega))); have s4 := b4.size; (try simp at s4); have qd4 := q4.rd; have vd4 := v4.rd)) | (go_at_call 18; first | (((with_reducible refine (BoardH.copy A1 c1 l1 B1 d1 k1 (w4.alloc (.cells #[.slice none 0 0, .slice none 0 0] 27)) hl1 hk1 (by (repeat (first | with_reducible assumption | (with_reducible refine K.Rd.alloc ?_ _) | (with_reducible refine K.Rd.drew ?_) | (with_reducible refine K.Rd.below ?_ (by with_reducible assumption))))) (by (repeat (first | with_reducible assumption | (with_reducible refine K.Rd.alloc ?_ _) | (with_reducible refine K.Rd.drew ?_) | (with_reducible refine K.Rd.below ?_ (by with_reducible assumption)))))).mono ?_)); rintro e w5 ⟨X5, n5, Y5, j5, rfl, q5, v5, ap5, b5⟩; have ow := (K.Own.new w4 #[.slice none 0 0, .slice none 0 0] 27).below b5; obtain ⟨cw, cw1, fw, fw1, lw⟩ := ow.c2; have bb5 := Lib.hid (((bb4.out.alloc bb4.out.size (.cells #[.slice none 0 0, .slice none 0 0] 27))).trans (b5.mono (by have hq := bb4.out.size; simp <;> omega))); have s5 := b5.size; (try simp at s5); have qd5 := q5.rd; have vd5 := v5.rd) | (((with_reducible refine (BoardH.copy A1 c1 l1 B1 d1 k1 _ hl1 hk1 (by (repeat (first | with_reducible assumption | (with_reducible refine K.Rd.alloc ?_ _) | (with_reducible refine K.Rd.drew ?_) | (with_reducible refine K.Rd.below ?_ (by with_reducible assumption))))) (by (repeat (first | with_reducible assumption | (with_reducible refine K.Rd.alloc ?_ _) | (with_reducible refine K.Rd.drew ?_) | (with_reducible refine K.Rd.below ?_ (by with_reducible assumption)))))).mono ?_)); rintro e w5 ⟨X5, n5, Y5, j5, rfl, q5, v5, ap5, b5⟩; (try (replace ow := ow.below b5; obtain ⟨cw, cw1, fw, fw1, lw⟩ := ow.c2)); have bb5 := Lib.hid (bb4.out.trans (b5.mono (by have hq := bb4.out.size; simp <;> omega))); have s5 := b5.size; (try simp at s5); have qd5 := q5.rd; have vd5 := v5.rd)) | (go_at_call 33; first | (((with_reducible refine (HS.out X4 n4 Y4 j4 X5 n5 Y5 j5 (w5.alloc (.cells #[.slice none 0 0, .slice none 0 0] 27)) (by (repeat (first | with_reducible assumption | (with_reducible refine K.Rd.alloc ?_ _) | (with_reducible refine K.Rd.drew ?_) | (with_reducible refine K.Rd.below ?_ (by with_reducible assumption))))) (by (repeat (first | with_reducible assumption | (with_reducible refine K.Rd.alloc ?_ _) | (with_reducible refine K.Rd.drew ?_) | (with_reducible refine K.Rd.below ?_ (by with_reducible assumption))))) (by (repeat (first | with_reducible assumption | (with_reducible refine K.Rd.alloc ?_ _) | (with_reducible refine K.Rd.drew ?_) | (with_reducible refine K.Rd.below ?_ (by with_reducible assumption))))) (by (repeat (first | with_reducible assumption | (with_reducible refine K.Rd.alloc ?_ _) | (with_reducible refine K.Rd.drew ?_) | (with_reducible refine K.Rd.below ?_ (by with_reducible assumption)))))).mono ?_)); rintro e w6 ⟨X, n, Y, m, rfl, row, row2, apz, b6⟩; have ow := (K.Own.new w5 #[.slice none 0 0, .slice none 0 0] 27).below b6; obtain ⟨cw, cw1, fw, fw1, lw⟩ := ow.c2; have bb6 := Lib.hid (((bb5.out.alloc bb5.out.size (.cells #[.slice none 0 0, .slice none 0 0] 27))).trans (b6.mono (by have hq := bb5.out.size; simp <;> omega))); have s6 := b6.size; (try simp at s6); have hlt := row.lt; (try simp at hlt); have rw0 := row.more (lo' := w2.heap.size) (by have hq := bb5.out.size; simp <;> omega); have hlu := row2.lt; (try simp at hlu); have rw1 := row2.more (lo' := w2.heap.size) (by have hq := bb5.out.size; simp <;> omega)) | (((with_reducible refine (HS.out X4 n4 Y4 j4 X5 n5 Y5 j5 _ (by (repeat (first | with_reducible assumption | (with_reducible refine K.Rd.alloc ?_ _) | (with_reducible refine K.Rd.drew ?_) | (with_reducible refine K.Rd.below ?_ (by with_reducible assumption))))) (by (repeat (first | with_reducible assumption | (with_reducible refine K.Rd.alloc ?_ _) | (with_reducible refine K.Rd.drew ?_) | (with_reducible refine K.Rd.below ?_ (by with_reducible assumption))))) (by (repeat (first | with_reducible assumption | (with_reducible refine K.Rd.alloc ?_ _) | (with_reducible refine K.Rd.drew ?_) | (with_reducible refine K.Rd.below ?_ (by with_reducible assumption))))) (by (repeat (first | with_reducible assumption | (with_reducible refine K.Rd.alloc ?_ _) | (with_reducible refine K.Rd.drew ?_) | (with_reducible refine K.Rd.below ?_ (by with_reducible assumption)))))).mono ?_)); rintro e w6 ⟨X, n, Y, m, rfl, row, row2, apz, b6⟩; (try (replace ow := ow.below b6; obtain ⟨cw, cw1, fw, fw1, lw⟩ := ow.c2)); have bb6 := Lib.hid (bb5.out.trans (b6.mono (by have hq := bb5.out.size; simp <;> omega))); have s6 := b6.size; (try simp at s6); have hlt := row.lt; (try simp at hlt); have rw0 := row.more (lo' := w2.heap.size) (by have hq := bb5.out.size; simp <;> omega); have hlu := row2.lt; (try simp at hlu); have rw1 := row2.more (lo' := w2.heap.size) (by have hq := bb5.out.size; simp <;> omega))))
    all_goals have h0 := BB.out.size
    all_goals have h4 := bb4.out.size
    all_goals have h5 := bb5.out.size
    all_goals have h6 := bb6.out.size
    all_goals have bbz := bb6.out
    all_goals go_wp2_with fail
    all_goals go_meet
    all_goals exact ⟨X, n, Y, m, _, rfl, rfl, (by first | exact (K.Own.set2 ow _ _).1 | exact K.Box.new _ _ _), by (repeat (first | with_reducible assumption | (with_reducible refine K.Row.setNe ?_ (fun g hg => by have hq := hlt g hg; simp at hq ⊢; omega) _) | (with_reducible refine K.Row.alloc ?_ _) | (with_reducible refine K.Row.drew ?_))), by (repeat (first | with_reducible assumption | (with_reducible refine K.Row.setNe ?_ (fun g hg => by have hq := hlu g hg; simp at hq ⊢; omega) _) | (with_reducible refine K.Row.alloc ?_ _) | (with_reducible refine K.Row.drew ?_))), apz, (fun h => by have hq := hlt _ h; first | omega | (simp at hq; done) | (simp at hq; omega)), (fun h => by have hq := hlu _ h; first | omega | (simp at hq; done) | (simp at hq; omega)), by first | omega | (simp; done) | (simp; omega), by (repeat (first | exact Below.refl _ _ | assumption | (refine K.below_drewN ?_ _) | (refine Below.drew ?_) | (refine Below.alloc ?_ (by first | (simp; done) | (simp; omega) | omega) _) | (refine Below.setCell ?_ (by first | (simp; done) | (simp; omega) | omega) _)))⟩
  obtain ⟨X3, n3, Y3, j3, g3, rfl, rfl, y3, q3, v3, ap_q3_v3, nb_q3_y3, nb_v3_y3, hg3, b3⟩ := hcut
  rename World => w3
  have nb_q3_x0 : K.blk X3 ≠ some (W.heap.size) := fun h => by have h1 := (q3.lt _ h).1; have h2 := x0.1; omega
  have nb_q3_x1 : K.blk X3 ≠ some (W.heap.size + 1) := fun h => by have h1 := (q3.lt _ h).1; have h2 := x1.1; omega
  replace q3 := q3.more bb.size
  have nb_v3_x0 : K.blk Y3 ≠ some (W.heap.size) := fun h => by have h1 := (v3.lt _ h).1; have h2 := x0.1; omega
  have nb_v3_x1 : K.blk Y3 ≠ some (W.heap.size + 1) := fun h => by have h1 := (v3.lt _ h).1; have h2 := x1.1; omega
  replace v3 := v3.more bb.size
  replace x0 := x0.below b3
  replace x1 := x1.below b3
  replace bb := bb.trans (b3.mono bb.size)
  obtain ⟨x00, x01⟩ := x0.c2
  have x0g := x0.1
  go_wp2_with fail
  refine (BoardH.copy A0 c0 l0 B0 d0 k0 _ hl0 hk0 (r0.below bb) (t0.below bb)).mono ?_
  rintro e w7 ⟨X7, n7, Y7, j7, rfl, q7, v7, ap_q7_v7, b7⟩
  have ap_q3_q7 := K.apart q3 q7 (Nat.le_refl _) (Nat.le_refl _)
  have ap_v3_q7 := K.apart v3 q7 (Nat.le_refl _) (Nat.le_refl _)
  have nb_q7_x0 : K.blk X7 ≠ some (W.heap.size) := fun h => by have h1 := (q7.lt _ h).1; have h2 := x0.1; omega
  have nb_q7_x1 : K.blk X7 ≠ some (W.heap.size + 1) := fun h => by have h1 := (q7.lt _ h).1; have h2 := x1.1; omega
  have nb_q7_y3 : K.blk X7 ≠ some (g3) := fun h => by have h1 := (q7.lt _ h).1; have h2 := y3.1; omega
  replace q7 := q7.more bb.size
  have ap_q3_v7 := K.apart q3 v7 (Nat.le_refl _) (Nat.le_refl _)
  have ap_v3_v7 := K.apart v3 v7 (Nat.le_refl _) (Nat.le_refl _)
  have nb_v7_x0 : K.blk Y7 ≠ some (W.heap.size) := fun h => by have h1 := (v7.lt _ h).1; have h2 := x0.1; omega
  have nb_v7_x1 : K.blk Y7 ≠ some (W.heap.size + 1) := fun h => by have h1 := (v7.lt _ h).1; have h2 := x1.1; omega
  have nb_v7_y3 : K.blk Y7 ≠ some (g3) := fun h => by have h1 := (v7.lt _ h).1; have h2 := y3.1; omega
  replace v7 := v7.more bb.size
  replace q3 := q3.below b7
  replace v3 := v3.below b7
  replace x0 := x0.below b7
  replace x1 := x1.below b7
  replace y3 := y3.below b7
  replace bb := bb.trans (b7.mono bb.size)
  clear x00 x01 x0g
  obtain ⟨ob, ho⟩ : ∃ o : Obj, o = .cells #[.slice X7 l0.length n7, .slice Y7 k0.length j7] 27 := ⟨_, rfl⟩
  have y7 : K.Box (w7.alloc ob) w7.heap.size [.slice X7 l0.length n7, .slice Y7 k0.length j7] := by rw [ho]; exact K.Box.new _ _ _
  have nb_q3_y7 : K.blk X3 ≠ some (w7.heap.size) := fun h => Nat.lt_irrefl _ (q3.lt _ h).2
  have nb_v3_y7 : K.blk Y3 ≠ some (w7.heap.size) := fun h => Nat.lt_irrefl _ (v3.lt _ h).2
  have nb_q7_y7 : K.blk X7 ≠ some (w7.heap.size) := fun h => Nat.lt_irrefl _ (q7.lt _ h).2
  have nb_v7_y7 : K.blk Y7 ≠ some (w7.heap.size) := fun h => Nat.lt_irrefl _ (v7.lt _ h).2
  obtain ⟨x0a0, x0a1⟩ := x0.c2
  have x0ag := x0.1
  obtain ⟨x1a0, x1a1⟩ := x1.c2
  have x1ag := x1.1
  obtain ⟨y3a0, y3a1⟩ := y3.c2
  have y3ag := y3.1
  replace q3 := q3.alloc ob
  replace v3 := v3.alloc ob
  replace q7 := q7.alloc ob
  replace v7 := v7.alloc ob
  replace x0 := x0.alloc ob
  replace x1 := x1.alloc ob
  replace y3 := y3.alloc ob
  replace bb := bb.alloc bb.size ob
  subst ho
  obtain ⟨x10, x11⟩ := x1.c2
  have x1g := x1.1
  go_wp2_with fail
  refine (BoardH.copy A1 c1 l1 B1 d1 k1 _ hl1 hk1 (r1.below bb) (t1.below bb)).mono ?_
  rintro e w8 ⟨X8, n8, Y8, j8, rfl, q8, v8, ap_q8_v8, b8⟩
  have ap_q3_q8 := K.apart q3 q8 (Nat.le_refl _) (Nat.le_refl _)
  have ap_v3_q8 := K.apart v3 q8 (Nat.le_refl _) (Nat.le_refl _)
  have ap_q7_q8 := K.apart q7 q8 (Nat.le_refl _) (Nat.le_refl _)
  have ap_v7_q8 := K.apart v7 q8 (Nat.le_refl _) (Nat.le_refl _)
  have nb_q8_x0 : K.blk X8 ≠ some (W.heap.size) := fun h => by have h1 := (q8.lt _ h).1; have h2 := x0.1; omega
  have nb_q8_x1 : K.blk X8 ≠ some (W.heap.size + 1) := fun h => by have h1 := (q8.lt _ h).1; have h2 := x1.1; omega
  have nb_q8_y3 : K.blk X8 ≠ some (g3) := fun h => by have h1 := (q8.lt _ h).1; have h2 := y3.1; omega
  have nb_q8_y7 : K.blk X8 ≠ some (w7.heap.size) := fun h => by have h1 := (q8.lt _ h).1; have h2 := y7.1; omega
  replace q8 := q8.more bb.size
  have ap_q3_v8 := K.apart q3 v8 (Nat.le_refl _) (Nat.le_refl _)
  have ap_v3_v8 := K.apart v3 v8 (Nat.le_refl _) (Nat.le_refl _)
  have ap_q7_v8 := K.apart q7 v8 (Nat.le_refl _) (Nat.le_refl _)
  have ap_v7_v8 := K.apart v7 v8 (Nat.le_refl _) (Nat.le_refl _)
  have nb_v8_x0 : K.blk Y8 ≠ some (W.heap.size) := fun h => by have h1 := (v8.lt _ h).1; have h2 := x0.1; omega
  have nb_v8_x1 : K.blk Y8 ≠ some (W.heap.size + 1) := fun h => by have h1 := (v8.lt _ h).1; have h2 := x1.1; omega
  have nb_v8_y3 : K.blk Y8 ≠ some (g3) := fun h => by have h1 := (v8.lt _ h).1; have h2 := y3.1; omega
  have nb_v8_y7 : K.blk Y8 ≠ some (w7.heap.size) := fun h => by have h1 := (v8.lt _ h).1; have h2 := y7.1; omega
  replace v8 := v8.more bb.size
  replace q3 := q3.below b8
  replace v3 := v3.below b8
  replace q7 := q7.below b8
  replace v7 := v7.below b8
  replace x0 := x0.below b8
  replace x1 := x1.below b8
  replace y3 := y3.below b8
  replace y7 := y7.below b8
  replace bb := bb.trans (b8.mono bb.size)
  clear x0a0 x0a1 x0ag x1a0 x1a1 x1ag y3a0 y3a1 y3ag x10 x11 x1g
  obtain ⟨ob, ho⟩ : ∃ o : Obj, o = .cells #[.slice X8 l1.length n8, .slice Y8 k1.length j8] 27 := ⟨_, rfl⟩
  have y8 : K.Box (w8.alloc ob) w8.heap.size [.slice X8 l1.length n8, .slice Y8 k1.length j8] := by rw [ho]; exact K.Box.new _ _ _
  have nb_q3_y8 : K.blk X3 ≠ some (w8.heap.size) := fun h => Nat.lt_irrefl _ (q3.lt _ h).2
  have nb_v3_y8 : K.blk Y3 ≠ some (w8.heap.size) := fun h => Nat.lt_irrefl _ (v3.lt _ h).2
  have nb_q7_y8 : K.blk X7 ≠ some (w8.heap.size) := fun h => Nat.lt_irrefl _ (q7.lt _ h).2
  have nb_v7_y8 : K.blk Y7 ≠ some (w8.heap.size) := fun h => Nat.lt_irrefl _ (v7.lt _ h).2
  have nb_q8_y8 : K.blk X8 ≠ some (w8.heap.size) := fun h => Nat.lt_irrefl _ (q8.lt _ h).2
  have nb_v8_y8 : K.blk Y8 ≠ some (w8.heap.size) := fun h => Nat.lt_irrefl _ (v8.lt _ h).2
  obtain ⟨x0a0, x0a1⟩ := x0.c2
  have x0ag := x0.1
  obtain ⟨x1a0, x1a1⟩ := x1.c2
  have x1ag := x1.1
  obtain ⟨y3a0, y3a1⟩ := y3.c2
  have y3ag := y3.1
  obtain ⟨y7a0, y7a1⟩ := y7.c2
  have y7ag := y7.1
  replace q3 := q3.alloc ob
  replace v3 := v3.alloc ob
  replace q7 := q7.alloc ob
  replace v7 := v7.alloc ob
  replace q8 := q8.alloc ob
  replace v8 := v8.alloc ob
  replace x0 := x0.alloc ob
  replace x1 := x1.alloc ob
  replace y3 := y3.alloc ob
  replace y7 := y7.alloc ob
  replace bb := bb.alloc bb.size ob
  subst ho
  obtain ⟨y70, y71⟩ := y7.c2
  have y7g := y7.1
  obtain ⟨y80, y81⟩ := y8.c2
  have y8g := y8.1
  go_wp2_with fail
  refine (HI.out X7 n7 Y7 j7 X8 n8 Y8 j8 _ q7.rd v7.rd q8.rd v8.rd).mono ?_
  rintro e w9 ⟨X9, n9, Y9, j9, rfl, q9, v9, ap_q9_v9, b9⟩
  have ap_q3_q9 := K.apart q3 q9 (Nat.le_refl _) (Nat.le_refl _)
  have ap_v3_q9 := K.apart v3 q9 (Nat.le_refl _) (Nat.le_refl _)
  have ap_q7_q9 := K.apart q7 q9 (Nat.le_refl _) (Nat.le_refl _)
  have ap_v7_q9 := K.apart v7 q9 (Nat.le_refl _) (Nat.le_refl _)
  have ap_q8_q9 := K.apart q8 q9 (Nat.le_refl _) (Nat.le_refl _)
  have ap_v8_q9 := K.apart v8 q9 (Nat.le_refl _) (Nat.le_refl _)
  have nb_q9_x0 : K.blk X9 ≠ some (W.heap.size) := fun h => by have h1 := (q9.lt _ h).1; have h2 := x0.1; omega
  have nb_q9_x1 : K.blk X9 ≠ some (W.heap.size + 1) := fun h => by have h1 := (q9.lt _ h).1; have h2 := x1.1; omega
  have nb_q9_y3 : K.blk X9 ≠ some (g3) := fun h => by have h1 := (q9.lt _ h).1; have h2 := y3.1; omega
  have nb_q9_y7 : K.blk X9 ≠ some (w7.heap.size) := fun h => by have h1 := (q9.lt _ h).1; have h2 := y7.1; omega
  have nb_q9_y8 : K.blk X9 ≠ some (w8.heap.size) := fun h => by have h1 := (q9.lt _ h).1; have h2 := y8.1; omega
  replace q9 := q9.more bb.size
  have ap_q3_v9 := K.apart q3 v9 (Nat.le_refl _) (Nat.le_refl _)
  have ap_v3_v9 := K.apart v3 v9 (Nat.le_refl _) (Nat.le_refl _)
  have ap_q7_v9 := K.apart q7 v9 (Nat.le_refl _) (Nat.le_refl _)
  have ap_v7_v9 := K.apart v7 v9 (Nat.le_refl _) (Nat.le_refl _)
  have ap_q8_v9 := K.apart q8 v9 (Nat.le_refl _) (Nat.le_refl _)
  have ap_v8_v9 := K.apart v8 v9 (Nat.le_refl _) (Nat.le_refl _)
  have nb_v9_x0 : K.blk Y9 ≠ some (W.heap.size) := fun h => by have h1 := (v9.lt _ h).1; have h2 := x0.1; omega
  have nb_v9_x1 : K.blk Y9 ≠ some (W.heap.size + 1) := fun h => by have h1 := (v9.lt _ h).1; have h2 := x1.1; omega
  have nb_v9_y3 : K.blk Y9 ≠ some (g3) := fun h => by have h1 := (v9.lt _ h).1; have h2 := y3.1; omega
  have nb_v9_y7 : K.blk Y9 ≠ some (w7.heap.size) := fun h => by have h1 := (v9.lt _ h).1; have h2 := y7.1; omega
  have nb_v9_y8 : K.blk Y9 ≠ some (w8.heap.size) := fun h => by have h1 := (v9.lt _ h).1; have h2 := y8.1; omega
  replace v9 := v9.more bb.size
  replace q3 := q3.below b9
  replace v3 := v3.below b9
  replace q7 := q7.below b9
  replace v7 := v7.below b9
  replace q8 := q8.below b9
  replace v8 := v8.below b9
  replace x0 := x0.below b9
  replace x1 := x1.below b9
  replace y3 := y3.below b9
  replace y7 := y7.below b9
  replace y8 := y8.below b9
  replace bb := bb.trans (b9.mono bb.size)
  clear x0a0 x0a1 x0ag x1a0 x1a1 x1ag y3a0 y3a1 y3ag y7a0 y7a1 y7ag y70 y71 y7g y80 y81 y8g
  obtain ⟨ob, ho⟩ : ∃ o : Obj, o = .cells #[.slice X9 L.length n9, .slice Y9 L2.length j9] 27 := ⟨_, rfl⟩
  have y9 : K.Box (w9.alloc ob) w9.heap.size [.slice X9 L.length n9, .slice Y9 L2.length j9] := by rw [ho]; exact K.Box.new _ _ _
  have nb_q3_y9 : K.blk X3 ≠ some (w9.heap.size) := fun h => Nat.lt_irrefl _ (q3.lt _ h).2
  have nb_v3_y9 : K.blk Y3 ≠ some (w9.heap.size) := fun h => Nat.lt_irrefl _ (v3.lt _ h).2
  have nb_q7_y9 : K.blk X7 ≠ some (w9.heap.size) := fun h => Nat.lt_irrefl _ (q7.lt _ h).2
  have nb_v7_y9 : K.blk Y7 ≠ some (w9.heap.size) := fun h => Nat.lt_irrefl _ (v7.lt _ h).2
  have nb_q8_y9 : K.blk X8 ≠ some (w9.heap.size) := fun h => Nat.lt_irrefl _ (q8.lt _ h).2
  have nb_v8_y9 : K.blk Y8 ≠ some (w9.heap.size) := fun h => Nat.lt_irrefl _ (v8.lt _ h).2
  have nb_q9_y9 : K.blk X9 ≠ some (w9.heap.size) := fun h => Nat.lt_irrefl _ (q9.lt _ h).2
  have nb_v9_y9 : K.blk Y9 ≠ some (w9.heap.size) := fun h => Nat.lt_irrefl _ (v9.lt _ h).2
  obtain ⟨x0a0, x0a1⟩ := x0.c2
  have x0ag := x0.1
  obtain ⟨x1a0, x1a1⟩ := x1.c2
  have x1ag := x1.1
  obtain ⟨y3a0, y3a1⟩ := y3.c2
  have y3ag := y3.1
  obtain ⟨y7a0, y7a1⟩ := y7.c2
  have y7ag := y7.1
  obtain ⟨y8a0, y8a1⟩ := y8.c2
  have y8ag := y8.1
  replace q3 := q3.alloc ob
  replace v3 := v3.alloc ob
  replace q7 := q7.alloc ob
  replace v7 := v7.alloc ob
  replace q8 := q8.alloc ob
  replace v8 := v8.alloc ob
  replace q9 := q9.alloc ob
  replace v9 := v9.alloc ob
  replace x0 := x0.alloc ob
  replace x1 := x1.alloc ob
  replace y3 := y3.alloc ob
  replace y7 := y7.alloc ob
  replace y8 := y8.alloc ob
  replace bb := bb.alloc bb.size ob
  subst ho
  obtain ⟨y30, y31⟩ := y3.c2
  have y3g := y3.1
  obtain ⟨y90, y91⟩ := y9.c2
  have y9g := y9.1
  go_wp2_with fail
  refine (BoardH.eq_yes X9 X3 n9 n3 L Y9 Y3 j9 j3 L2 _ hlen hlen2 (q9.rd) (q3.rd) (v9.rd) (v3.rd)).mono ?_
  rintro e w10 ⟨rfl, b10⟩
  replace q3 := q3.below b10
  replace v3 := v3.below b10
  replace q7 := q7.below b10
  replace v7 := v7.below b10
  replace q8 := q8.below b10
  replace v8 := v8.below b10
  replace q9 := q9.below b10
  replace v9 := v9.below b10
  replace x0 := x0.below b10
  replace x1 := x1.below b10
  replace y3 := y3.below b10
  replace y7 := y7.below b10
  replace y8 := y8.below b10
  replace y9 := y9.below b10
  replace bb := bb.trans (b10.mono bb.size)
  clear x0a0 x0a1 x0ag x1a0 x1a1 x1ag y3a0 y3a1 y3ag y7a0 y7a1 y7ag y8a0 y8a1 y8ag y30 y31 y3g y90 y91 y9g
  obtain ⟨x00, x01⟩ := x0.c2
  have x0g := x0.1
  obtain ⟨y70, y71⟩ := y7.c2
  have y7g := y7.1
  go_wp2_with fail
  have x0d := x0.drew
  have y7d := y7.drew
  have rdd := (r0.below bb).drew
  have rde := (t0.below bb).drew
  go_region_held3 (fun w' => w'.cell? ⟨W.heap.size, 0, none⟩ = some (.slice A0 l0.length c0) ∧ w'.cell? ⟨W.heap.size, 1, none⟩ = some (.slice B0 k0.length d0) ∧ w'.cell? ⟨w7.heap.size, 0, none⟩ = some (.slice X7 l0.length n7) ∧ w'.cell? ⟨w7.heap.size, 1, none⟩ = some (.slice Y7 k0.length j7))
    (first | go_keep | exact ⟨(x0d.below b11).2 0 _ rfl, (x0d.below b11).2 1 _ rfl, (y7d.below b11).2 0 _ rfl, (y7d.below b11).2 1 _ rfl⟩ | exact ⟨((x0d.below b11).below b12).2 0 _ rfl, ((x0d.below b11).below b12).2 1 _ rfl, ((y7d.below b11).below b12).2 0 _ rfl, ((y7d.below b11).below b12).2 1 _ rfl⟩)
    (first | (go_at_call 18; refine (BoardH.copy A0 c0 l0 B0 d0 k0 _ hl0 hk0 (by exact rdd) (by exact rde)).mono ?_; rintro e w11 ⟨X11, n11, Y11, j11, rfl, q11, v11, apq, b11⟩) | (go_at_call 20; refine (BoardH.eq_yes X7 X11 n7 n11 l0 Y7 Y11 j7 j11 k0 _ hl0 hk0 (by exact q7.drew.rd.below b11) (by exact q11.rd) (by exact v7.drew.rd.below b11) (by exact v11.rd)).mono ?_; rintro e w12 ⟨rfl, b12⟩))
  replace bb := bb.drew
  replace q3 := q3.drew
  replace v3 := v3.drew
  replace q7 := q7.drew
  replace v7 := v7.drew
  replace q8 := q8.drew
  replace v8 := v8.drew
  replace q9 := q9.drew
  replace v9 := v9.drew
  replace x0 := x0.drew
  replace x1 := x1.drew
  replace y3 := y3.drew
  replace y7 := y7.drew
  replace y8 := y8.drew
  replace y9 := y9.drew
  replace q3 := q3.below b11
  replace v3 := v3.below b11
  replace q7 := q7.below b11
  replace v7 := v7.below b11
  replace q8 := q8.below b11
  replace v8 := v8.below b11
  replace q9 := q9.below b11
  replace v9 := v9.below b11
  replace x0 := x0.below b11
  replace x1 := x1.below b11
  replace y3 := y3.below b11
  replace y7 := y7.below b11
  replace y8 := y8.below b11
  replace y9 := y9.below b11
  replace bb := bb.trans (b11.mono bb.size)
  replace q3 := q3.below b12
  replace v3 := v3.below b12
  replace q7 := q7.below b12
  replace v7 := v7.below b12
  replace q8 := q8.below b12
  replace v8 := v8.below b12
  replace q9 := q9.below b12
  replace v9 := v9.below b12
  replace x0 := x0.below b12
  replace x1 := x1.below b12
  replace y3 := y3.below b12
  replace y7 := y7.below b12
  replace y8 := y8.below b12
  replace y9 := y9.below b12
  replace bb := bb.trans (b12.mono bb.size)
  clear x0d y7d rdd rde
  clear x00 x01 x0g y70 y71 y7g
  obtain ⟨x10, x11⟩ := x1.c2
  have x1g := x1.1
  obtain ⟨y80, y81⟩ := y8.c2
  have y8g := y8.1
  go_wp2_with fail
  have x1d := x1.drew
  have y8d := y8.drew
  have rdd := (r1.below bb).drew
  have rde := (t1.below bb).drew
  go_region_held3 (fun w' => w'.cell? ⟨W.heap.size + 1, 0, none⟩ = some (.slice A1 l1.length c1) ∧ w'.cell? ⟨W.heap.size + 1, 1, none⟩ = some (.slice B1 k1.length d1) ∧ w'.cell? ⟨w8.heap.size, 0, none⟩ = some (.slice X8 l1.length n8) ∧ w'.cell? ⟨w8.heap.size, 1, none⟩ = some (.slice Y8 k1.length j8))
    (first | go_keep | exact ⟨(x1d.below b13).2 0 _ rfl, (x1d.below b13).2 1 _ rfl, (y8d.below b13).2 0 _ rfl, (y8d.below b13).2 1 _ rfl⟩ | exact ⟨((x1d.below b13).below b14).2 0 _ rfl, ((x1d.below b13).below b14).2 1 _ rfl, ((y8d.below b13).below b14).2 0 _ rfl, ((y8d.below b13).below b14).2 1 _ rfl⟩)
    (first | (go_at_call 18; refine (BoardH.copy A1 c1 l1 B1 d1 k1 _ hl1 hk1 (by exact rdd) (by exact rde)).mono ?_; rintro e w13 ⟨X13, n13, Y13, j13, rfl, q13, v13, apq, b13⟩) | (go_at_call 20; refine (BoardH.eq_yes X8 X13 n8 n13 l1 Y8 Y13 j8 j13 k1 _ hl1 hk1 (by exact q8.drew.rd.below b13) (by exact q13.rd) (by exact v8.drew.rd.below b13) (by exact v13.rd)).mono ?_; rintro e w14 ⟨rfl, b14⟩))
  replace bb := bb.drew
  replace q3 := q3.drew
  replace v3 := v3.drew
  replace q7 := q7.drew
  replace v7 := v7.drew
  replace q8 := q8.drew
  replace v8 := v8.drew
  replace q9 := q9.drew
  replace v9 := v9.drew
  replace x0 := x0.drew
  replace x1 := x1.drew
  replace y3 := y3.drew
  replace y7 := y7.drew
  replace y8 := y8.drew
  replace y9 := y9.drew
  replace q3 := q3.below b13
  replace v3 := v3.below b13
  replace q7 := q7.below b13
  replace v7 := v7.below b13
  replace q8 := q8.below b13
  replace v8 := v8.below b13
  replace q9 := q9.below b13
  replace v9 := v9.below b13
  replace x0 := x0.below b13
  replace x1 := x1.below b13
  replace y3 := y3.below b13
  replace y7 := y7.below b13
  replace y8 := y8.below b13
  replace y9 := y9.below b13
  replace bb := bb.trans (b13.mono bb.size)
  replace q3 := q3.below b14
  replace v3 := v3.below b14
  replace q7 := q7.below b14
  replace v7 := v7.below b14
  replace q8 := q8.below b14
  replace v8 := v8.below b14
  replace q9 := q9.below b14
  replace v9 := v9.below b14
  replace x0 := x0.below b14
  replace x1 := x1.below b14
  replace y3 := y3.below b14
  replace y7 := y7.below b14
  replace y8 := y8.below b14
  replace y9 := y9.below b14
  replace bb := bb.trans (b14.mono bb.size)
  clear x1d y8d rdd rde
  clear x10 x11 x1g y80 y81 y8g
  obtain ⟨y70, y71⟩ := y7.c2
  have y7g := y7.1
  go_wp2_with fail
  refine (BoardH.mark X7 _ n7 Y7 _ j7 _ 1 _ _ _ hl0 hk0 (by omega) (by omega) q7 v7 ap_q7_v7).mono ?_
  rintro e w15 ⟨he, z15, zz15, wm, g15, gg15⟩
  replace q3 := q3.kept g15 ap_q3_q7
  replace v3 := v3.kept g15 ap_v3_q7
  replace q8 := q8.kept g15 (fun g h1 h2 => ap_q7_q8 g h2 h1)
  replace v8 := v8.kept g15 (fun g h1 h2 => ap_q7_v8 g h2 h1)
  replace q9 := q9.kept g15 (fun g h1 h2 => ap_q7_q9 g h2 h1)
  replace v9 := v9.kept g15 (fun g h1 h2 => ap_q7_v9 g h2 h1)
  replace x0 := x0.kept g15 nb_q7_x0
  replace x1 := x1.kept g15 nb_q7_x1
  replace y3 := y3.kept g15 nb_q7_y3
  replace y7 := y7.kept g15 nb_q7_y7
  replace y8 := y8.kept g15 nb_q7_y8
  replace y9 := y9.kept g15 nb_q7_y9
  replace q3 := q3.kept gg15 ap_q3_v7
  replace v3 := v3.kept gg15 ap_v3_v7
  replace q8 := q8.kept gg15 (fun g h1 h2 => ap_v7_q8 g h2 h1)
  replace v8 := v8.kept gg15 (fun g h1 h2 => ap_v7_v8 g h2 h1)
  replace q9 := q9.kept gg15 (fun g h1 h2 => ap_v7_q9 g h2 h1)
  replace v9 := v9.kept gg15 (fun g h1 h2 => ap_v7_v9 g h2 h1)
  replace x0 := x0.kept gg15 nb_v7_x0
  replace x1 := x1.kept gg15 nb_v7_x1
  replace y3 := y3.kept gg15 nb_v7_y3
  replace y7 := y7.kept gg15 nb_v7_y7
  replace y8 := y8.kept gg15 nb_v7_y8
  replace y9 := y9.kept gg15 nb_v7_y9
  have bu1 := K.below_of_grown g15 bb.size (fun g hg => (q7.lt g hg).1)
  have bu2 := K.below_of_grown gg15 (bb.trans bu1).size (fun g hg => (v7.lt g hg).1)
  replace bb := (bb.trans bu1).trans bu2
  replace q7 := z15
  replace v7 := zz15
  clear bu1 bu2 z15 zz15 g15 gg15
  obtain ⟨k15z, hkk15z, hlk15z, hjk15z⟩ : ∃ k : Nat, k ≤ 1 + l0.length + k0.length ∧ 1 + l0.length + k0.length ≤ k ∧ e = .returned (.int .i64 (k : Int)) := ⟨_, Nat.le_refl _, Nat.le_refl _, by rw [he]; exact congrArg (fun x => Ending.returned (.int .i64 x)) (by omega)⟩
  subst hjk15z
  clear he
  clear y70 y71 y7g
  obtain ⟨y80, y81⟩ := y8.c2
  have y8g := y8.1
  go_wp2_with fail
  refine (BoardH.mark X8 _ n8 Y8 _ j8 _ k15z _ _ _ hl1 hk1 (by omega) (by omega) q8 v8 ap_q8_v8).mono ?_
  rintro e w16 ⟨he, z16, zz16, wm, g16, gg16⟩
  replace q3 := q3.kept g16 ap_q3_q8
  replace v3 := v3.kept g16 ap_v3_q8
  replace q7 := q7.kept g16 ap_q7_q8
  replace v7 := v7.kept g16 ap_v7_q8
  replace q9 := q9.kept g16 (fun g h1 h2 => ap_q8_q9 g h2 h1)
  replace v9 := v9.kept g16 (fun g h1 h2 => ap_q8_v9 g h2 h1)
  replace x0 := x0.kept g16 nb_q8_x0
  replace x1 := x1.kept g16 nb_q8_x1
  replace y3 := y3.kept g16 nb_q8_y3
  replace y7 := y7.kept g16 nb_q8_y7
  replace y8 := y8.kept g16 nb_q8_y8
  replace y9 := y9.kept g16 nb_q8_y9
  replace q3 := q3.kept gg16 ap_q3_v8
  replace v3 := v3.kept gg16 ap_v3_v8
  replace q7 := q7.kept gg16 ap_q7_v8
  replace v7 := v7.kept gg16 ap_v7_v8
  replace q9 := q9.kept gg16 (fun g h1 h2 => ap_v8_q9 g h2 h1)
  replace v9 := v9.kept gg16 (fun g h1 h2 => ap_v8_v9 g h2 h1)
  replace x0 := x0.kept gg16 nb_v8_x0
  replace x1 := x1.kept gg16 nb_v8_x1
  replace y3 := y3.kept gg16 nb_v8_y3
  replace y7 := y7.kept gg16 nb_v8_y7
  replace y8 := y8.kept gg16 nb_v8_y8
  replace y9 := y9.kept gg16 nb_v8_y9
  have bu1 := K.below_of_grown g16 bb.size (fun g hg => (q8.lt g hg).1)
  have bu2 := K.below_of_grown gg16 (bb.trans bu1).size (fun g hg => (v8.lt g hg).1)
  replace bb := (bb.trans bu1).trans bu2
  replace q8 := z16
  replace v8 := zz16
  clear bu1 bu2 z16 zz16 g16 gg16
  obtain ⟨k16z, hkk16z, hlk16z, hjk16z⟩ : ∃ k : Nat, k ≤ k15z + l1.length + k1.length ∧ k15z + l1.length + k1.length ≤ k ∧ e = .returned (.int .i64 (k : Int)) := ⟨_, Nat.le_refl _, Nat.le_refl _, by rw [he]; exact congrArg (fun x => Ending.returned (.int .i64 x)) (by omega)⟩
  subst hjk16z
  clear he
  clear y80 y81 y8g
  obtain ⟨y30, y31⟩ := y3.c2
  have y3g := y3.1
  obtain ⟨y90, y91⟩ := y9.c2
  have y9g := y9.1
  go_wp2_with fail
  refine (BoardH.eq_yes X9 X3 n9 n3 L Y9 Y3 j9 j3 L2 _ hlen hlen2 (q9.rd) (q3.rd) (v9.rd) (v3.rd)).mono ?_
  rintro e w17 ⟨rfl, b17⟩
  replace q3 := q3.below b17
  replace v3 := v3.below b17
  replace q7 := q7.below b17
  replace v7 := v7.below b17
  replace q8 := q8.below b17
  replace v8 := v8.below b17
  replace q9 := q9.below b17
  replace v9 := v9.below b17
  replace x0 := x0.below b17
  replace x1 := x1.below b17
  replace y3 := y3.below b17
  replace y7 := y7.below b17
  replace y8 := y8.below b17
  replace y9 := y9.below b17
  replace bb := bb.trans (b17.mono bb.size)
  clear y30 y31 y3g y90 y91 y9g
  obtain ⟨y90, y91⟩ := y9.c2
  have y9g := y9.1
  go_wp2_with fail
  refine (BoardH.mark X9 _ n9 Y9 _ j9 _ 1 _ _ _ hlen hlen2 (by omega) (by omega) q9 v9 ap_q9_v9).mono ?_
  rintro e w18 ⟨he, z18, zz18, wm, g18, gg18⟩
  replace q3 := q3.kept g18 ap_q3_q9
  replace v3 := v3.kept g18 ap_v3_q9
  replace q7 := q7.kept g18 ap_q7_q9
  replace v7 := v7.kept g18 ap_v7_q9
  replace q8 := q8.kept g18 ap_q8_q9
  replace v8 := v8.kept g18 ap_v8_q9
  replace x0 := x0.kept g18 nb_q9_x0
  replace x1 := x1.kept g18 nb_q9_x1
  replace y3 := y3.kept g18 nb_q9_y3
  replace y7 := y7.kept g18 nb_q9_y7
  replace y8 := y8.kept g18 nb_q9_y8
  replace y9 := y9.kept g18 nb_q9_y9
  replace q3 := q3.kept gg18 ap_q3_v9
  replace v3 := v3.kept gg18 ap_v3_v9
  replace q7 := q7.kept gg18 ap_q7_v9
  replace v7 := v7.kept gg18 ap_v7_v9
  replace q8 := q8.kept gg18 ap_q8_v9
  replace v8 := v8.kept gg18 ap_v8_v9
  replace x0 := x0.kept gg18 nb_v9_x0
  replace x1 := x1.kept gg18 nb_v9_x1
  replace y3 := y3.kept gg18 nb_v9_y3
  replace y7 := y7.kept gg18 nb_v9_y7
  replace y8 := y8.kept gg18 nb_v9_y8
  replace y9 := y9.kept gg18 nb_v9_y9
  have bu1 := K.below_of_grown g18 bb.size (fun g hg => (q9.lt g hg).1)
  have bu2 := K.below_of_grown gg18 (bb.trans bu1).size (fun g hg => (v9.lt g hg).1)
  replace bb := (bb.trans bu1).trans bu2
  replace q9 := z18
  replace v9 := zz18
  clear bu1 bu2 z18 zz18 g18 gg18
  obtain ⟨k18z, hkk18z, hlk18z, hjk18z⟩ : ∃ k : Nat, k ≤ 1 + L.length + L2.length ∧ 1 + L.length + L2.length ≤ k ∧ e = .returned (.int .i64 (k : Int)) := ⟨_, Nat.le_refl _, Nat.le_refl _, by rw [he]; exact congrArg (fun x => Ending.returned (.int .i64 x)) (by omega)⟩
  subst hjk18z
  clear he
  clear y90 y91 y9g
  obtain ⟨y90, y91⟩ := y9.c2
  have y9g := y9.1
  go_wp2_with fail
  refine (BoardH.held X9 _ n9 Y9 _ j9 1 _ hlen hlen2 (by omega) (by omega) q9.rd v9.rd).mono ?_
  rintro e w19 ⟨he, b19⟩
  obtain rfl : e = .returned (.int .i64 (k18z : Int)) := by rw [he]; exact congrArg (fun x => Ending.returned (.int .i64 x)) (by omega)
  clear he
  replace q3 := q3.below b19
  replace v3 := v3.below b19
  replace q7 := q7.below b19
  replace v7 := v7.below b19
  replace q8 := q8.below b19
  replace v8 := v8.below b19
  replace q9 := q9.below b19
  replace v9 := v9.below b19
  replace x0 := x0.below b19
  replace x1 := x1.below b19
  replace y3 := y3.below b19
  replace y7 := y7.below b19
  replace y8 := y8.below b19
  replace y9 := y9.below b19
  replace bb := bb.trans (b19.mono bb.size)
  clear y90 y91 y9g
  go_upto_region 31 with fail
  go_cut [15, 16] (fun sb o0 wx => ∃ (X : Option Addr) (n : Nat) (Y : Option Addr) (m g : Nat), sb = .pointer (some ⟨g, 0, none⟩) ∧ o0 = .bool b ∧ K.Box wx g [.slice X L.length n, .slice Y L2.length m] ∧ K.Row wx w19.heap.size 3 1 X L.length n (L.map (Value.int .i64)) ∧ K.Row wx w19.heap.size 3 1 Y L2.length m (L2.map (Value.int .i64)) ∧ (∀ q, K.blk X = some q → K.blk Y ≠ some q) ∧ K.blk X ≠ some g ∧ K.blk Y ≠ some g ∧ w19.heap.size ≤ g ∧ Below w19.heap.size w19 wx)
  case first =>
    obtain ⟨x00, x01⟩ := x0.c2
    have x0g := x0.1
    obtain ⟨x10, x11⟩ := x1.c2
    have x1g := x1.1
    have rd0 := r0.below bb
    have te0 := t0.below bb
    have rd1 := r1.below bb
    have te1 := t1.below bb
    have BB := Lib.hid (Below.refl w19.heap.size w19)
    clear bb b0
    go_region_held3 (fun w' => w'.cell? ⟨W.heap.size, 0, none⟩ = some (.slice A0 l0.length c0) ∧ w'.cell? ⟨W.heap.size, 1, none⟩ = some (.slice B0 k0.length d0) ∧ w'.cell? ⟨W.heap.size + 1, 0, none⟩ = some (.slice A1 l1.length c1) ∧ w'.cell? ⟨W.heap.size + 1, 1, none⟩ = some (.slice B1 k1.length d1))
      (((try dsimp only); refine ⟨(by (refine K.Box.at_ (vs := [.slice A0 l0.length c0, .slice B0 k0.length d0]) (j := 0) ?_ rfl; (repeat (first | with_reducible assumption | (with_reducible refine K.Box.alloc ?_ _) | (with_reducible refine K.Box.drew ?_) | (with_reducible refine K.Box.setOther ?_ (by simp <;> omega) _) | (with_reducible refine K.Box.below ?_ (by with_reducible assumption)))))), (by (refine K.Box.at_ (vs := [.slice A0 l0.length c0, .slice B0 k0.length d0]) (j := 1) ?_ rfl; (repeat (first | with_reducible assumption | (with_reducible refine K.Box.alloc ?_ _) | (with_reducible refine K.Box.drew ?_) | (with_reducible refine K.Box.setOther ?_ (by simp <;> omega) _) | (with_reducible refine K.Box.below ?_ (by with_reducible assumption)))))), (by (refine K.Box.at_ (vs := [.slice A1 l1.length c1, .slice B1 k1.length d1]) (j := 0) ?_ rfl; (repeat (first | with_reducible assumption | (with_reducible refine K.Box.alloc ?_ _) | (with_reducible refine K.Box.drew ?_) | (with_reducible refine K.Box.setOther ?_ (by simp <;> omega) _) | (with_reducible refine K.Box.below ?_ (by with_reducible assumption)))))), (by (refine K.Box.at_ (vs := [.slice A1 l1.length c1, .slice B1 k1.length d1]) (j := 1) ?_ rfl; (repeat (first | with_reducible assumption | (with_reducible refine K.Box.alloc ?_ _) | (with_reducible refine K.Box.drew ?_) | (with_reducible refine K.Box.setOther ?_ (by simp <;> omega) _) | (with_reducible refine K.Box.below ?_ (by with_reducible assumption))))))⟩))
      (first | (go_at_call 18; first | (((with_reducible refine (BoardH.copy A0 c0 l0 B0 d0 k0 (w19.alloc (.cells #[.slice none 0 0, .slice none 0 0] 27)).drew hl0 hk0 (by (repeat (first | with_reducible assumption | (with_reducible refine K.Rd.alloc ?_ _) | (with_reducible refine K.Rd.drew ?_) | (with_reducible refine K.Rd.below ?_ (by with_reducible assumption))))) (by (repeat (first | with_reducible assumption | (with_reducible refine K.Rd.alloc ?_ _) | (with_reducible refine K.Rd.drew ?_) | (with_reducible refine K.Rd.below ?_ (by with_reducible assumption)))))).mono ?_)); rintro e w21 ⟨X21, n21, Y21, j21, rfl, q21, v21, ap21, b21⟩; have ow := (K.Own.new w19 #[.slice none 0 0, .slice none 0 0] 27).drew.below b21; obtain ⟨cw, cw1, fw, fw1, lw⟩ := ow.c2; have bb21 := Lib.hid (((BB.out.alloc BB.out.size (.cells #[.slice none 0 0, .slice none 0 0] 27)).drew).trans (b21.mono (by have hq := BB.out.size; simp <;> omega))); have s21 := b21.size; (try simp at s21); have qd21 := q21.rd; have vd21 := v21.rd) | (((with_reducible refine (BoardH.copy A0 c0 l0 B0 d0 k0 _ hl0 hk0 (by (repeat (first | with_reducible assumption | (with_reducible refine K.Rd.alloc ?_ _) | (with_reducible refine K.Rd.drew ?_) | (with_reducible refine K.Rd.below ?_ (by with_reducible assumption))))) (by (repeat (first | with_reducible assumption | (with_reducible refine K.Rd.alloc ?_ _) | (with_reducible refine K.Rd.drew ?_) | (with_reducible refine K.Rd.below ?_ (by with_reducible assumption)))))).mono ?_)); rintro e w21 ⟨X21, n21, Y21, j21, rfl, q21, v21, ap21, b21⟩; (try (replace ow := ow.below b21; obtain ⟨cw, cw1, fw, fw1, lw⟩ := ow.c2)); have bb21 := Lib.hid (BB.out.drew.trans (b21.mono (by have hq := BB.out.size; simp <;> omega))); have s21 := b21.size; (try simp at s21); have qd21 := q21.rd; have vd21 := v21.rd)) | (go_at_call 18; first | (((with_reducible refine (BoardH.copy A1 c1 l1 B1 d1 k1 (w21.alloc (.cells #[.slice none 0 0, .slice none 0 0] 27)) hl1 hk1 (by (repeat (first | with_reducible assumption | (with_reducible refine K.Rd.alloc ?_ _) | (with_reducible refine K.Rd.drew ?_) | (with_reducible refine K.Rd.below ?_ (by with_reducible assumption))))) (by (repeat (first | with_reducible assumption | (with_reducible refine K.Rd.alloc ?_ _) | (with_reducible refine K.Rd.drew ?_) | (with_reducible refine K.Rd.below ?_ (by with_reducible assumption)))))).mono ?_)); rintro e w22 ⟨X22, n22, Y22, j22, rfl, q22, v22, ap22, b22⟩; have ow := (K.Own.new w21 #[.slice none 0 0, .slice none 0 0] 27).below b22; obtain ⟨cw, cw1, fw, fw1, lw⟩ := ow.c2; have bb22 := Lib.hid (((bb21.out.alloc bb21.out.size (.cells #[.slice none 0 0, .slice none 0 0] 27))).trans (b22.mono (by have hq := bb21.out.size; simp <;> omega))); have s22 := b22.size; (try simp at s22); have qd22 := q22.rd; have vd22 := v22.rd) | (((with_reducible refine (BoardH.copy A1 c1 l1 B1 d1 k1 _ hl1 hk1 (by (repeat (first | with_reducible assumption | (with_reducible refine K.Rd.alloc ?_ _) | (with_reducible refine K.Rd.drew ?_) | (with_reducible refine K.Rd.below ?_ (by with_reducible assumption))))) (by (repeat (first | with_reducible assumption | (with_reducible refine K.Rd.alloc ?_ _) | (with_reducible refine K.Rd.drew ?_) | (with_reducible refine K.Rd.below ?_ (by with_reducible assumption)))))).mono ?_)); rintro e w22 ⟨X22, n22, Y22, j22, rfl, q22, v22, ap22, b22⟩; (try (replace ow := ow.below b22; obtain ⟨cw, cw1, fw, fw1, lw⟩ := ow.c2)); have bb22 := Lib.hid (bb21.out.trans (b22.mono (by have hq := bb21.out.size; simp <;> omega))); have s22 := b22.size; (try simp at s22); have qd22 := q22.rd; have vd22 := v22.rd)) | (go_at_call 34; first | (((with_reducible refine (HI.out X21 n21 Y21 j21 X22 n22 Y22 j22 (w22.alloc (.cells #[.slice none 0 0, .slice none 0 0] 27)) (by (repeat (first | with_reducible assumption | (with_reducible refine K.Rd.alloc ?_ _) | (with_reducible refine K.Rd.drew ?_) | (with_reducible refine K.Rd.below ?_ (by with_reducible assumption))))) (by (repeat (first | with_reducible assumption | (with_reducible refine K.Rd.alloc ?_ _) | (with_reducible refine K.Rd.drew ?_) | (with_reducible refine K.Rd.below ?_ (by with_reducible assumption))))) (by (repeat (first | with_reducible assumption | (with_reducible refine K.Rd.alloc ?_ _) | (with_reducible refine K.Rd.drew ?_) | (with_reducible refine K.Rd.below ?_ (by with_reducible assumption))))) (by (repeat (first | with_reducible assumption | (with_reducible refine K.Rd.alloc ?_ _) | (with_reducible refine K.Rd.drew ?_) | (with_reducible refine K.Rd.below ?_ (by with_reducible assumption)))))).mono ?_)); rintro e w23 ⟨X, n, Y, m, rfl, row, row2, apz, b23⟩; have ow := (K.Own.new w22 #[.slice none 0 0, .slice none 0 0] 27).below b23; obtain ⟨cw, cw1, fw, fw1, lw⟩ := ow.c2; have bb23 := Lib.hid (((bb22.out.alloc bb22.out.size (.cells #[.slice none 0 0, .slice none 0 0] 27))).trans (b23.mono (by have hq := bb22.out.size; simp <;> omega))); have s23 := b23.size; (try simp at s23); have hlt := row.lt; (try simp at hlt); have rw0 := row.more (lo' := w19.heap.size) (by have hq := bb22.out.size; simp <;> omega); have hlu := row2.lt; (try simp at hlu); have rw1 := row2.more (lo' := w19.heap.size) (by have hq := bb22.out.size; simp <;> omega)) | (((with_reducible refine (HI.out X21 n21 Y21 j21 X22 n22 Y22 j22 _ (by (repeat (first | with_reducible assumption | (with_reducible refine K.Rd.alloc ?_ _) | (with_reducible refine K.Rd.drew ?_) | (with_reducible refine K.Rd.below ?_ (by with_reducible assumption))))) (by (repeat (first | with_reducible assumption | (with_reducible refine K.Rd.alloc ?_ _) | (with_reducible refine K.Rd.drew ?_) | (with_reducible refine K.Rd.below ?_ (by with_reducible assumption))))) (by (repeat (first | with_reducible assumption | (with_reducible refine K.Rd.alloc ?_ _) | (with_reducible refine K.Rd.drew ?_) | (with_reducible refine K.Rd.below ?_ (by with_reducible assumption))))) (by (repeat (first | with_reducible assumption | (with_reducible refine K.Rd.alloc ?_ _) | (with_reducible refine K.Rd.drew ?_) | (with_reducible refine K.Rd.below ?_ (by with_reducible assumption)))))).mono ?_)); rintro e w23 ⟨X, n, Y, m, rfl, row, row2, apz, b23⟩; (try (replace ow := ow.below b23; obtain ⟨cw, cw1, fw, fw1, lw⟩ := ow.c2)); have bb23 := Lib.hid (bb22.out.trans (b23.mono (by have hq := bb22.out.size; simp <;> omega))); have s23 := b23.size; (try simp at s23); have hlt := row.lt; (try simp at hlt); have rw0 := row.more (lo' := w19.heap.size) (by have hq := bb22.out.size; simp <;> omega); have hlu := row2.lt; (try simp at hlu); have rw1 := row2.more (lo' := w19.heap.size) (by have hq := bb22.out.size; simp <;> omega))))
    all_goals have h0 := BB.out.size
    all_goals have h21 := bb21.out.size
    all_goals have h22 := bb22.out.size
    all_goals have h23 := bb23.out.size
    all_goals have bbz := bb23.out
    all_goals go_wp2_with fail
    all_goals go_meet
    all_goals exact ⟨X, n, Y, m, _, rfl, rfl, (by first | exact (K.Own.set2 ow _ _).1 | exact K.Box.new _ _ _), by (repeat (first | with_reducible assumption | (with_reducible refine K.Row.setNe ?_ (fun g hg => by have hq := hlt g hg; simp at hq ⊢; omega) _) | (with_reducible refine K.Row.alloc ?_ _) | (with_reducible refine K.Row.drew ?_))), by (repeat (first | with_reducible assumption | (with_reducible refine K.Row.setNe ?_ (fun g hg => by have hq := hlu g hg; simp at hq ⊢; omega) _) | (with_reducible refine K.Row.alloc ?_ _) | (with_reducible refine K.Row.drew ?_))), apz, (fun h => by have hq := hlt _ h; first | omega | (simp at hq; done) | (simp at hq; omega)), (fun h => by have hq := hlu _ h; first | omega | (simp at hq; done) | (simp at hq; omega)), by first | omega | (simp; done) | (simp; omega), by (repeat (first | exact Below.refl _ _ | assumption | (refine K.below_drewN ?_ _) | (refine Below.drew ?_) | (refine Below.alloc ?_ (by first | (simp; done) | (simp; omega) | omega) _) | (refine Below.setCell ?_ (by first | (simp; done) | (simp; omega) | omega) _)))⟩
  obtain ⟨X20, n20, Y20, j20, g20, rfl, rfl, y20, q20, v20, ap_q20_v20, nb_q20_y20, nb_v20_y20, hg20, b20⟩ := hcut
  rename World => w20
  have ap_q3_q20 := K.apart q3 q20 (Nat.le_refl _) (Nat.le_refl _)
  have ap_v3_q20 := K.apart v3 q20 (Nat.le_refl _) (Nat.le_refl _)
  have ap_q7_q20 := K.apart q7 q20 (Nat.le_refl _) (Nat.le_refl _)
  have ap_v7_q20 := K.apart v7 q20 (Nat.le_refl _) (Nat.le_refl _)
  have ap_q8_q20 := K.apart q8 q20 (Nat.le_refl _) (Nat.le_refl _)
  have ap_v8_q20 := K.apart v8 q20 (Nat.le_refl _) (Nat.le_refl _)
  have ap_q9_q20 := K.apart q9 q20 (Nat.le_refl _) (Nat.le_refl _)
  have ap_v9_q20 := K.apart v9 q20 (Nat.le_refl _) (Nat.le_refl _)
  have nb_q20_x0 : K.blk X20 ≠ some (W.heap.size) := fun h => by have h1 := (q20.lt _ h).1; have h2 := x0.1; omega
  have nb_q20_x1 : K.blk X20 ≠ some (W.heap.size + 1) := fun h => by have h1 := (q20.lt _ h).1; have h2 := x1.1; omega
  have nb_q20_y3 : K.blk X20 ≠ some (g3) := fun h => by have h1 := (q20.lt _ h).1; have h2 := y3.1; omega
  have nb_q20_y7 : K.blk X20 ≠ some (w7.heap.size) := fun h => by have h1 := (q20.lt _ h).1; have h2 := y7.1; omega
  have nb_q20_y8 : K.blk X20 ≠ some (w8.heap.size) := fun h => by have h1 := (q20.lt _ h).1; have h2 := y8.1; omega
  have nb_q20_y9 : K.blk X20 ≠ some (w9.heap.size) := fun h => by have h1 := (q20.lt _ h).1; have h2 := y9.1; omega
  replace q20 := q20.more bb.size
  have ap_q3_v20 := K.apart q3 v20 (Nat.le_refl _) (Nat.le_refl _)
  have ap_v3_v20 := K.apart v3 v20 (Nat.le_refl _) (Nat.le_refl _)
  have ap_q7_v20 := K.apart q7 v20 (Nat.le_refl _) (Nat.le_refl _)
  have ap_v7_v20 := K.apart v7 v20 (Nat.le_refl _) (Nat.le_refl _)
  have ap_q8_v20 := K.apart q8 v20 (Nat.le_refl _) (Nat.le_refl _)
  have ap_v8_v20 := K.apart v8 v20 (Nat.le_refl _) (Nat.le_refl _)
  have ap_q9_v20 := K.apart q9 v20 (Nat.le_refl _) (Nat.le_refl _)
  have ap_v9_v20 := K.apart v9 v20 (Nat.le_refl _) (Nat.le_refl _)
  have nb_v20_x0 : K.blk Y20 ≠ some (W.heap.size) := fun h => by have h1 := (v20.lt _ h).1; have h2 := x0.1; omega
  have nb_v20_x1 : K.blk Y20 ≠ some (W.heap.size + 1) := fun h => by have h1 := (v20.lt _ h).1; have h2 := x1.1; omega
  have nb_v20_y3 : K.blk Y20 ≠ some (g3) := fun h => by have h1 := (v20.lt _ h).1; have h2 := y3.1; omega
  have nb_v20_y7 : K.blk Y20 ≠ some (w7.heap.size) := fun h => by have h1 := (v20.lt _ h).1; have h2 := y7.1; omega
  have nb_v20_y8 : K.blk Y20 ≠ some (w8.heap.size) := fun h => by have h1 := (v20.lt _ h).1; have h2 := y8.1; omega
  have nb_v20_y9 : K.blk Y20 ≠ some (w9.heap.size) := fun h => by have h1 := (v20.lt _ h).1; have h2 := y9.1; omega
  replace v20 := v20.more bb.size
  have nb_q3_y20 : K.blk X3 ≠ some g20 := fun h => by have h1 := (q3.lt _ h).2; omega
  have nb_v3_y20 : K.blk Y3 ≠ some g20 := fun h => by have h1 := (v3.lt _ h).2; omega
  have nb_q7_y20 : K.blk X7 ≠ some g20 := fun h => by have h1 := (q7.lt _ h).2; omega
  have nb_v7_y20 : K.blk Y7 ≠ some g20 := fun h => by have h1 := (v7.lt _ h).2; omega
  have nb_q8_y20 : K.blk X8 ≠ some g20 := fun h => by have h1 := (q8.lt _ h).2; omega
  have nb_v8_y20 : K.blk Y8 ≠ some g20 := fun h => by have h1 := (v8.lt _ h).2; omega
  have nb_q9_y20 : K.blk X9 ≠ some g20 := fun h => by have h1 := (q9.lt _ h).2; omega
  have nb_v9_y20 : K.blk Y9 ≠ some g20 := fun h => by have h1 := (v9.lt _ h).2; omega
  replace q3 := q3.below b20
  replace v3 := v3.below b20
  replace q7 := q7.below b20
  replace v7 := v7.below b20
  replace q8 := q8.below b20
  replace v8 := v8.below b20
  replace q9 := q9.below b20
  replace v9 := v9.below b20
  replace x0 := x0.below b20
  replace x1 := x1.below b20
  replace y3 := y3.below b20
  replace y7 := y7.below b20
  replace y8 := y8.below b20
  replace y9 := y9.below b20
  replace bb := bb.trans (b20.mono bb.size)
  obtain ⟨y30, y31⟩ := y3.c2
  have y3g := y3.1
  obtain ⟨y200, y201⟩ := y20.c2
  have y20g := y20.1
  go_wp2_with fail
  refine (BoardH.eq_yes X20 X3 n20 n3 L Y20 Y3 j20 j3 L2 _ hlen hlen2 (q20.rd) (q3.rd) (v20.rd) (v3.rd)).mono ?_
  rintro e w24 ⟨rfl, b24⟩
  replace q3 := q3.below b24
  replace v3 := v3.below b24
  replace q7 := q7.below b24
  replace v7 := v7.below b24
  replace q8 := q8.below b24
  replace v8 := v8.below b24
  replace q9 := q9.below b24
  replace v9 := v9.below b24
  replace q20 := q20.below b24
  replace v20 := v20.below b24
  replace x0 := x0.below b24
  replace x1 := x1.below b24
  replace y3 := y3.below b24
  replace y7 := y7.below b24
  replace y8 := y8.below b24
  replace y9 := y9.below b24
  replace y20 := y20.below b24
  replace bb := bb.trans (b24.mono bb.size)
  clear y30 y31 y3g y200 y201 y20g
  obtain ⟨y90, y91⟩ := y9.c2
  have y9g := y9.1
  go_wp2_with fail
  refine (BoardH.held X9 _ n9 Y9 _ j9 1 _ hlen hlen2 (by omega) (by omega) q9.rd v9.rd).mono ?_
  rintro e w25 ⟨he, b25⟩
  obtain rfl : e = .returned (.int .i64 (k18z : Int)) := by rw [he]; exact congrArg (fun x => Ending.returned (.int .i64 x)) (by omega)
  clear he
  replace q3 := q3.below b25
  replace v3 := v3.below b25
  replace q7 := q7.below b25
  replace v7 := v7.below b25
  replace q8 := q8.below b25
  replace v8 := v8.below b25
  replace q9 := q9.below b25
  replace v9 := v9.below b25
  replace q20 := q20.below b25
  replace v20 := v20.below b25
  replace x0 := x0.below b25
  replace x1 := x1.below b25
  replace y3 := y3.below b25
  replace y7 := y7.below b25
  replace y8 := y8.below b25
  replace y9 := y9.below b25
  replace y20 := y20.below b25
  replace bb := bb.trans (b25.mono bb.size)
  clear y90 y91 y9g
  go_wp2_with fail
  go_ret
  exact ⟨rfl, b0.trans (bb.mono b0.size)⟩
end Go.Proofs.Ytmgegacgjppdbaa.fnExactJoinBoards
