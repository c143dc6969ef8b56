/-
  The walk of FnExactConvertTo.
-/
import Derived.Test.YtfgnmjnlhnpmoaaArg
import Derived.Test.YtfgnmjnlhnpmoaaKit2
import Derived.Test.YtfgnmjnlhnpmoaaKit3
import Derived.Test.YtfgnmjnlhnpmoaaUnits
import Derived.Test.YtfgnmjnlhnpmoaaSystem
import Derived.Test.YtfgnmjnlhnpmoaaAmountH
import Derived.Test.YtfgnmjnlhnpmoaaAmountF
import Derived.Test.YtfgnmjnlhnpmoaaAmtOps
import Derived.OpenShut
import Derived.Deep.DeepCutAuto
set_option linter.unusedVariables false
namespace Go.Proofs.Ytfgnmjnlhnpmoaa.fnExactConvertTo
open Go.ChangeShapes Go.WideShapes Go.ChangeAt Go.RowKit

set_option maxRecDepth 100000 in
set_option maxHeartbeats 2000000 in
/-- the walk: the law's text returns true; nothing that was there has turned. -/
theorem walk (A0 : Option Addr) (c0 : Nat) (l0 : List M.Unit) (A1 : Option Addr) (c1 : Nat) (l1 : List Int) (A2 : Option Addr) (c2 : Nat) (l2 : List M.Unit) (a3 : Int) (a4 : Int) (W : World) (h0 : K.Rd W 2 A0 l0.length (l0.flatMap M.unitCells)) (m0 : l0.length ≤ 9223372036854775807) (s0 : ∀ s ∈ l0, s.wf) (h1 : K.Rd W 1 A1 l1.length (l1.map (Value.int .i64))) (m1 : l1.length ≤ 9223372036854775807) (s1 : ∀ x ∈ l1, M.i64 x) (h2 : K.Rd W 2 A2 l2.length (l2.flatMap M.unitCells)) (m2 : l2.length ≤ 9223372036854775807) (s2 : ∀ s ∈ l2, s.wf) (h3 : (Lit.int .i64 a3).wf = true) (h4 : (Lit.int .i64 a4).wf = true) :
    Calls Try.prog 13 #[.slice A0 l0.length c0, .agg #[.slice A1 l1.length c1], .slice A2 l2.length c2, .int .i64 a3, .int .i64 a4] W fun e w' => e = .returned (.bool true) ∧ Below W.heap.size W w' := by
  obtain ⟨o1, ho1⟩ : ∃ o : Obj, o = .cells #[.slice A1 l1.length c1] 37 := ⟨_, rfl⟩
  have x1 : K.Box (W.alloc o1) (W.heap.size) [.slice A1 l1.length c1] := by have h := K.Box.new W #[.slice A1 l1.length c1] 37; rw [← ho1] at h; exact h
  have b0 : Below W.heap.size W (W.alloc o1) := (Below.refl W.heap.size W).alloc (Nat.le_refl _) _
  have r0 := h0.below b0
  have r1 := h1.below b0
  have r2 := h2.below b0
  have bb : Below (W.alloc o1).heap.size (W.alloc o1) (W.alloc o1) := Below.refl _ _
  subst ho1
  go_enter Try.func13, Try.ntmps13
  have HL0 := Lib.hid (@M.szf_len (l0.map (·.name)) 1048576)
  go_wp2_with fail
  refine (Units.sz A0 c0 l0 1048576 _ m0 (fun x hx => (s0 x hx).1) (by omega) (by omega) (r0.below bb)).mono ?_
  rintro e w1 ⟨⟨d1, rfl, hd1⟩, b1⟩
  replace x1 := x1.below b1
  replace bb := bb.trans (b1.mono bb.size)
  by_cases hneg1 : d1 < 0
  · go_wp2
    go_ret
    exact ⟨rfl, b0.trans (bb.mono b0.size)⟩
  have hzz1 : 0 ≤ M.szf (l0.map (·.name)) 1048576 := by omega
  have hlx0 := (HL0.out hzz1).1
  have hly0 := (HL0.out hzz1).2
  have hz1 : 0 ≤ d1 := by omega
  have hu1 : d1 ≤ 1048576 := by have := M.szf_le (l0.map (·.name)) 1048576; omega
  rw [List.length_map] at hlx0
  have hl0 : l0.length ≤ 1048576 := by omega
  have hss0 : ∀ x ∈ l0, x.name.size ≤ 1048576 := fun x hx => by have := hly0 x.name (List.mem_map.2 ⟨x, hx, rfl⟩); omega
  clear hd1 hneg1 hzz1 hlx0 hly0 HL0
  have x10 := x1.c1
  have x1g := x1.1
  go_wp2_with fail
  refine (AmountH.sz A1 c1 l1.length d1 _ m1 (by omega) (by omega)).mono ?_
  rintro e w2 ⟨⟨d2, rfl, hd2⟩, b2⟩
  replace x1 := x1.below b2
  replace bb := bb.trans (b2.mono bb.size)
  clear x10 x1g
  by_cases hneg2 : d2 < 0
  · go_wp2
    go_ret
    exact ⟨rfl, b0.trans (bb.mono b0.size)⟩
  have hl1 : l1.length ≤ 1048576 := by omega
  have hz2 : 0 ≤ d2 ∧ d2 ≤ 1048576 := by omega
  clear hd2 hneg2
  have HL2 := Lib.hid (@M.szf_len (l2.map (·.name)) d2)
  go_wp2_with fail
  refine (Units.sz A2 c2 l2 d2 _ m2 (fun x hx => (s2 x hx).1) (by omega) (by omega) (r2.below bb)).mono ?_
  rintro e w3 ⟨⟨d3, rfl, hd3⟩, b3⟩
  replace x1 := x1.below b3
  replace bb := bb.trans (b3.mono bb.size)
  by_cases hneg3 : d3 < 0
  · go_wp2
    go_ret
    exact ⟨rfl, b0.trans (bb.mono b0.size)⟩
  have hzz3 : 0 ≤ M.szf (l2.map (·.name)) d2 := by omega
  have hlx2 := (HL2.out hzz3).1
  have hly2 := (HL2.out hzz3).2
  have hz3 : 0 ≤ d3 := by omega
  have hu3 : d3 ≤ 1048576 := by have := M.szf_le (l2.map (·.name)) d2; omega
  rw [List.length_map] at hlx2
  have hl2 : l2.length ≤ 1048576 := by omega
  have hss2 : ∀ x ∈ l2, x.name.size ≤ 1048576 := fun x hx => by have := hly2 x.name (List.mem_map.2 ⟨x, hx, rfl⟩); omega
  clear hd3 hneg3 hzz3 hlx2 hly2 HL2
  have hnm0 : ∀ u ∈ l0, u.name.size ≤ 9223372036854775807 := fun u hu => by have := hss0 u hu; omega
  have hnm2 : ∀ u ∈ l2, u.name.size ≤ 9223372036854775807 := fun u hu => by have := hss2 u hu; omega
  have hs := fun (A0q : Option Addr) (c0q : Nat) (A1q : Option Addr) (c1q : Nat) (A2q : Option Addr) (c2q : Nat) (W' : World) (r0q : K.Rd W' 2 A0q l0.length (l0.flatMap M.unitCells)) (e0q : l0.length ≤ c0q) (z0q : c0q ≤ 9223372036854775807) (r1q : K.Rd W' 1 A1q l1.length (l1.map (Value.int .i64))) (r2q : K.Rd W' 2 A2q l2.length (l2.flatMap M.unitCells)) (e2q : l2.length ≤ c2q) (z2q : c2q ≤ 9223372036854775807) => AmtOps.s_conv A0q c0q l0 A1q c1q l1 A2q c2q l2 a3 a4 W' hl0 hnm0 e0q z0q r0q hl2 hnm2 e2q z2q r2q hl1 r1q
  have hi := fun (A0q : Option Addr) (c0q : Nat) (A1q : Option Addr) (c1q : Nat) (A2q : Option Addr) (c2q : Nat) (W' : World) (r0q : K.Rd W' 2 A0q l0.length (l0.flatMap M.unitCells)) (e0q : l0.length ≤ c0q) (z0q : c0q ≤ 9223372036854775807) (r1q : K.Rd W' 1 A1q l1.length (l1.map (Value.int .i64))) (r2q : K.Rd W' 2 A2q l2.length (l2.flatMap M.unitCells)) (e2q : l2.length ≤ c2q) (z2q : c2q ≤ 9223372036854775807) => AmtOps.i_conv A0q c0q l0 A1q c1q l1 A2q c2q l2 a3 a4 W' hl0 hnm0 e0q z0q r0q hl2 hnm2 e2q z2q r2q hl1 r1q
  have hlen : (M.convTo l0 l1 l2 a3 a4).1.length ≤ 1048576 := M.convTo_le l0 l1 l2 a3 a4 hl2
  generalize M.convTo l0 l1 l2 a3 a4 = R at hs hi hlen
  obtain ⟨L, b⟩ := R
  dsimp only at hs hi hlen
  have hbb_b : (b != b) = false := by simp
  have HS := Lib.hid hs
  have HI := Lib.hid hi
  clear hs hi
  try clear m0 s0 h0 m2 s2 h2
  go_upto_region 11 with fail
  go_cut [12, 13] (fun sb o0 wx => ∃ (X : Option Addr) (n g : Nat), sb = .pointer (some ⟨g, 0, none⟩) ∧ o0 = .bool b ∧ K.Box wx g [.slice X L.length n] ∧ K.Row wx w3.heap.size 3 1 X L.length n (L.map (Value.int .i64)) ∧ K.blk X ≠ some g ∧ w3.heap.size ≤ g ∧ Below w3.heap.size w3 wx)
  case first =>
    have x10 := x1.c1
    have x1g := x1.1
    have rd0 := r0.below bb
    have rd1 := r1.below bb
    have rd2 := r2.below bb
    have BB := Lib.hid (Below.refl w3.heap.size w3)
    clear bb b0
    go_region_held3 (fun w' => w'.cell? ⟨W.heap.size, 0, none⟩ = some (.slice A1 l1.length c1))
      ((refine K.Box.at_ (vs := [.slice A1 l1.length c1]) (j := 0) ?_ rfl; (repeat (first | with_reducible assumption | (with_reducible refine K.Box.alloc ?_ _) | (with_reducible refine K.Box.drew ?_) | (with_reducible refine K.Box.setOther ?_ (by simp <;> omega) _) | (with_reducible refine K.Box.below ?_ (by with_reducible assumption))))))
      (first | (go_at_call 19; first | (((with_reducible refine (Units.copy A0 c0 l0 (w3.alloc (.cells #[.slice none 0 0] 40)).drew hl0 (by (repeat (first | with_reducible assumption | (with_reducible refine K.Rd.alloc ?_ _) | (with_reducible refine K.Rd.drew ?_) | (with_reducible refine K.Rd.below ?_ (by with_reducible assumption)))))).mono ?_)); rintro e w5 ⟨X5, n5, rfl, q5, b5⟩; have ow := (K.Own.new w3 #[.slice none 0 0] 40).drew.below b5; obtain ⟨cw, fw, lw⟩ := ow.c1; have bb5 := Lib.hid (((BB.out.alloc BB.out.size (.cells #[.slice none 0 0] 40)).drew).trans (b5.mono (by have hq := BB.out.size; simp <;> omega))); have s5 := b5.size; (try simp at s5); have qd5 := q5.rd) | (((with_reducible refine (Units.copy A0 c0 l0 _ hl0 (by (repeat (first | with_reducible assumption | (with_reducible refine K.Rd.alloc ?_ _) | (with_reducible refine K.Rd.drew ?_) | (with_reducible refine K.Rd.below ?_ (by with_reducible assumption)))))).mono ?_)); rintro e w5 ⟨X5, n5, rfl, q5, b5⟩; (try (replace ow := ow.below b5; obtain ⟨cw, fw, lw⟩ := ow.c1)); have bb5 := Lib.hid (BB.out.drew.trans (b5.mono (by have hq := BB.out.size; simp <;> omega))); have s5 := b5.size; (try simp at s5); have qd5 := q5.rd)) | (go_at_call 26; first | (((with_reducible refine (AmountH.copy A1 c1 l1 (w5.alloc (.cells #[.slice none 0 0] 40)) hl1 (by (repeat (first | with_reducible assumption | (with_reducible refine K.Rd.alloc ?_ _) | (with_reducible refine K.Rd.drew ?_) | (with_reducible refine K.Rd.below ?_ (by with_reducible assumption)))))).mono ?_)); rintro e w6 ⟨X6, n6, rfl, q6, b6⟩; have ow := (K.Own.new w5 #[.slice none 0 0] 40).below b6; obtain ⟨cw, fw, lw⟩ := ow.c1; have bb6 := Lib.hid (((bb5.out.alloc bb5.out.size (.cells #[.slice none 0 0] 40))).trans (b6.mono (by have hq := bb5.out.size; simp <;> omega))); have s6 := b6.size; (try simp at s6); have qd6 := q6.rd) | (((with_reducible refine (AmountH.copy A1 c1 l1 _ hl1 (by (repeat (first | with_reducible assumption | (with_reducible refine K.Rd.alloc ?_ _) | (with_reducible refine K.Rd.drew ?_) | (with_reducible refine K.Rd.below ?_ (by with_reducible assumption)))))).mono ?_)); rintro e w6 ⟨X6, n6, rfl, q6, b6⟩; (try (replace ow := ow.below b6; obtain ⟨cw, fw, lw⟩ := ow.c1)); have bb6 := Lib.hid (bb5.out.trans (b6.mono (by have hq := bb5.out.size; simp <;> omega))); have s6 := b6.size; (try simp at s6); have qd6 := q6.rd)) | (go_at_call 19; first | (((with_reducible refine (Units.copy A2 c2 l2 (w6.alloc (.cells #[.slice none 0 0] 40)) hl2 (by (repeat (first | with_reducible assumption | (with_reducible refine K.Rd.alloc ?_ _) | (with_reducible refine K.Rd.drew ?_) | (with_reducible refine K.Rd.below ?_ (by with_reducible assumption)))))).mono ?_)); rintro e w7 ⟨X7, n7, rfl, q7, b7⟩; have ow := (K.Own.new w6 #[.slice none 0 0] 40).below b7; obtain ⟨cw, fw, lw⟩ := ow.c1; have bb7 := Lib.hid (((bb6.out.alloc bb6.out.size (.cells #[.slice none 0 0] 40))).trans (b7.mono (by have hq := bb6.out.size; simp <;> omega))); have s7 := b7.size; (try simp at s7); have qd7 := q7.rd) | (((with_reducible refine (Units.copy A2 c2 l2 _ hl2 (by (repeat (first | with_reducible assumption | (with_reducible refine K.Rd.alloc ?_ _) | (with_reducible refine K.Rd.drew ?_) | (with_reducible refine K.Rd.below ?_ (by with_reducible assumption)))))).mono ?_)); rintro e w7 ⟨X7, n7, rfl, q7, b7⟩; (try (replace ow := ow.below b7; obtain ⟨cw, fw, lw⟩ := ow.c1)); have bb7 := Lib.hid (bb6.out.trans (b7.mono (by have hq := bb6.out.size; simp <;> omega))); have s7 := b7.size; (try simp at s7); have qd7 := q7.rd)) | (go_at_call 44; first | (((with_reducible refine (HS.out X5 n5 X6 n6 X7 n7 (w7.alloc (.cells #[.slice none 0 0] 40)) (by (repeat (first | with_reducible assumption | (with_reducible refine K.Rd.alloc ?_ _) | (with_reducible refine K.Rd.drew ?_) | (with_reducible refine K.Rd.below ?_ (by with_reducible assumption))))) q5.max.2 q5.cap (by (repeat (first | with_reducible assumption | (with_reducible refine K.Rd.alloc ?_ _) | (with_reducible refine K.Rd.drew ?_) | (with_reducible refine K.Rd.below ?_ (by with_reducible assumption))))) (by (repeat (first | with_reducible assumption | (with_reducible refine K.Rd.alloc ?_ _) | (with_reducible refine K.Rd.drew ?_) | (with_reducible refine K.Rd.below ?_ (by with_reducible assumption))))) q7.max.2 q7.cap).mono ?_)); rintro e w8 ⟨X, n, rfl, row, b8⟩; have ow := (K.Own.new w7 #[.slice none 0 0] 40).below b8; obtain ⟨cw, fw, lw⟩ := ow.c1; have bb8 := Lib.hid (((bb7.out.alloc bb7.out.size (.cells #[.slice none 0 0] 40))).trans (b8.mono (by have hq := bb7.out.size; simp <;> omega))); have s8 := b8.size; (try simp at s8); have hlt := row.lt; (try simp at hlt); have rw0 := row.more (lo' := w3.heap.size) (by have hq := bb7.out.size; simp <;> omega)) | (((with_reducible refine (HS.out X5 n5 X6 n6 X7 n7 _ (by (repeat (first | with_reducible assumption | (with_reducible refine K.Rd.alloc ?_ _) | (with_reducible refine K.Rd.drew ?_) | (with_reducible refine K.Rd.below ?_ (by with_reducible assumption))))) q5.max.2 q5.cap (by (repeat (first | with_reducible assumption | (with_reducible refine K.Rd.alloc ?_ _) | (with_reducible refine K.Rd.drew ?_) | (with_reducible refine K.Rd.below ?_ (by with_reducible assumption))))) (by (repeat (first | with_reducible assumption | (with_reducible refine K.Rd.alloc ?_ _) | (with_reducible refine K.Rd.drew ?_) | (with_reducible refine K.Rd.below ?_ (by with_reducible assumption))))) q7.max.2 q7.cap).mono ?_)); rintro e w8 ⟨X, n, rfl, row, b8⟩; (try (replace ow := ow.below b8; obtain ⟨cw, fw, lw⟩ := ow.c1)); have bb8 := Lib.hid (bb7.out.trans (b8.mono (by have hq := bb7.out.size; simp <;> omega))); have s8 := b8.size; (try simp at s8); have hlt := row.lt; (try simp at hlt); have rw0 := row.more (lo' := w3.heap.size) (by have hq := bb7.out.size; simp <;> omega))))
    all_goals have h0 := BB.out.size
    all_goals have h5 := bb5.out.size
    all_goals have h6 := bb6.out.size
    all_goals have h7 := bb7.out.size
    all_goals have h8 := bb8.out.size
    all_goals have bbz := bb8.out
    all_goals go_wp2_with fail
    all_goals go_meet
    all_goals exact ⟨X, n, _, rfl, rfl, (by first | exact (K.Own.set1 ow _).1 | exact K.Box.new _ _ _), by (repeat (first | with_reducible assumption | (with_reducible refine K.Row.setNe ?_ (fun g hg => by have hq := hlt g hg; simp at hq ⊢; omega) _) | (with_reducible refine K.Row.alloc ?_ _) | (with_reducible refine K.Row.drew ?_))), (fun h => by have hq := hlt _ h; first | omega | (simp at hq; done) | (simp at hq; omega)), by first | omega | (simp; done) | (simp; omega), by (repeat (first | exact Below.refl _ _ | assumption | (refine K.below_drewN ?_ _) | (refine Below.drew ?_) | (refine Below.alloc ?_ (by first | (simp; done) | (simp; omega) | omega) _) | (refine Below.setCell ?_ (by first | (simp; done) | (simp; omega) | omega) _)))⟩
  obtain ⟨X4, n4, g4, rfl, rfl, y4, q4, nb_q4_y4, hg4, b4⟩ := hcut
  rename World => w4
  have nb_q4_x1 : K.blk X4 ≠ some (W.heap.size) := fun h => by have h1 := (q4.lt _ h).1; have h2 := x1.1; omega
  replace q4 := q4.more bb.size
  replace x1 := x1.below b4
  replace bb := bb.trans (b4.mono bb.size)
  go_wp2_with fail
  refine (Units.copy A0 c0 l0 _ hl0 (r0.below bb)).mono ?_
  rintro e w9 ⟨X9, n9, rfl, q9, b9⟩
  have ap_q4_q9 := K.apart q4 q9 (Nat.le_refl _) (Nat.le_refl _)
  have nb_q9_x1 : K.blk X9 ≠ some (W.heap.size) := fun h => by have h1 := (q9.lt _ h).1; have h2 := x1.1; omega
  have nb_q9_y4 : K.blk X9 ≠ some (g4) := fun h => by have h1 := (q9.lt _ h).1; have h2 := y4.1; omega
  replace q9 := q9.more bb.size
  replace q4 := q4.below b9
  replace x1 := x1.below b9
  replace y4 := y4.below b9
  replace bb := bb.trans (b9.mono bb.size)
  have x10 := x1.c1
  have x1g := x1.1
  go_wp2_with fail
  refine (AmountH.copy A1 c1 l1 _ hl1 (r1.below bb)).mono ?_
  rintro e w10 ⟨X10, n10, rfl, q10, b10⟩
  have ap_q4_q10 := K.apart q4 q10 (Nat.le_refl _) (Nat.le_refl _)
  have ap_q9_q10 := K.apart q9 q10 (Nat.le_refl _) (Nat.le_refl _)
  have nb_q10_x1 : K.blk X10 ≠ some (W.heap.size) := fun h => by have h1 := (q10.lt _ h).1; have h2 := x1.1; omega
  have nb_q10_y4 : K.blk X10 ≠ some (g4) := fun h => by have h1 := (q10.lt _ h).1; have h2 := y4.1; omega
  replace q10 := q10.more bb.size
  replace q4 := q4.below b10
  replace q9 := q9.below b10
  replace x1 := x1.below b10
  replace y4 := y4.below b10
  replace bb := bb.trans (b10.mono bb.size)
  clear x10 x1g
  obtain ⟨ob, ho⟩ : ∃ o : Obj, o = .cells #[.slice X10 l1.length n10] 40 := ⟨_, rfl⟩
  have y10 : K.Box (w10.alloc ob) w10.heap.size [.slice X10 l1.length n10] := by rw [ho]; exact K.Box.new _ _ _
  have nb_q4_y10 : K.blk X4 ≠ some (w10.heap.size) := fun h => Nat.lt_irrefl _ (q4.lt _ h).2
  have nb_q9_y10 : K.blk X9 ≠ some (w10.heap.size) := fun h => Nat.lt_irrefl _ (q9.lt _ h).2
  have nb_q10_y10 : K.blk X10 ≠ some (w10.heap.size) := fun h => Nat.lt_irrefl _ (q10.lt _ h).2
  have x1a0 := x1.c1
  have x1ag := x1.1
  have y4a0 := y4.c1
  have y4ag := y4.1
  replace q4 := q4.alloc ob
  replace q9 := q9.alloc ob
  replace q10 := q10.alloc ob
  replace x1 := x1.alloc ob
  replace y4 := y4.alloc ob
  replace bb := bb.alloc bb.size ob
  subst ho
  go_wp2_with fail
  refine (Units.copy A2 c2 l2 _ hl2 (r2.below bb)).mono ?_
  rintro e w11 ⟨X11, n11, rfl, q11, b11⟩
  have ap_q4_q11 := K.apart q4 q11 (Nat.le_refl _) (Nat.le_refl _)
  have ap_q9_q11 := K.apart q9 q11 (Nat.le_refl _) (Nat.le_refl _)
  have ap_q10_q11 := K.apart q10 q11 (Nat.le_refl _) (Nat.le_refl _)
  have nb_q11_x1 : K.blk X11 ≠ some (W.heap.size) := fun h => by have h1 := (q11.lt _ h).1; have h2 := x1.1; omega
  have nb_q11_y4 : K.blk X11 ≠ some (g4) := fun h => by have h1 := (q11.lt _ h).1; have h2 := y4.1; omega
  have nb_q11_y10 : K.blk X11 ≠ some (w10.heap.size) := fun h => by have h1 := (q11.lt _ h).1; have h2 := y10.1; omega
  replace q11 := q11.more bb.size
  replace q4 := q4.below b11
  replace q9 := q9.below b11
  replace q10 := q10.below b11
  replace x1 := x1.below b11
  replace y4 := y4.below b11
  replace y10 := y10.below b11
  replace bb := bb.trans (b11.mono bb.size)
  clear x1a0 x1ag y4a0 y4ag
  have y100 := y10.c1
  have y10g := y10.1
  go_wp2_with fail
  refine (HI.out X9 n9 X10 n10 X11 n11 _ q9.rd q9.max.2 q9.cap q10.rd q11.rd q11.max.2 q11.cap).mono ?_
  rintro e w12 ⟨X12, n12, rfl, q12, b12⟩
  have ap_q4_q12 := K.apart q4 q12 (Nat.le_refl _) (Nat.le_refl _)
  have ap_q9_q12 := K.apart q9 q12 (Nat.le_refl _) (Nat.le_refl _)
  have ap_q10_q12 := K.apart q10 q12 (Nat.le_refl _) (Nat.le_refl _)
  have ap_q11_q12 := K.apart q11 q12 (Nat.le_refl _) (Nat.le_refl _)
  have nb_q12_x1 : K.blk X12 ≠ some (W.heap.size) := fun h => by have h1 := (q12.lt _ h).1; have h2 := x1.1; omega
  have nb_q12_y4 : K.blk X12 ≠ some (g4) := fun h => by have h1 := (q12.lt _ h).1; have h2 := y4.1; omega
  have nb_q12_y10 : K.blk X12 ≠ some (w10.heap.size) := fun h => by have h1 := (q12.lt _ h).1; have h2 := y10.1; omega
  replace q12 := q12.more bb.size
  replace q4 := q4.below b12
  replace q9 := q9.below b12
  replace q10 := q10.below b12
  replace q11 := q11.below b12
  replace x1 := x1.below b12
  replace y4 := y4.below b12
  replace y10 := y10.below b12
  replace bb := bb.trans (b12.mono bb.size)
  clear y100 y10g
  obtain ⟨ob, ho⟩ : ∃ o : Obj, o = .cells #[.slice X12 L.length n12] 40 := ⟨_, rfl⟩
  have y12 : K.Box (w12.alloc ob) w12.heap.size [.slice X12 L.length n12] := by rw [ho]; exact K.Box.new _ _ _
  have nb_q4_y12 : K.blk X4 ≠ some (w12.heap.size) := fun h => Nat.lt_irrefl _ (q4.lt _ h).2
  have nb_q9_y12 : K.blk X9 ≠ some (w12.heap.size) := fun h => Nat.lt_irrefl _ (q9.lt _ h).2
  have nb_q10_y12 : K.blk X10 ≠ some (w12.heap.size) := fun h => Nat.lt_irrefl _ (q10.lt _ h).2
  have nb_q11_y12 : K.blk X11 ≠ some (w12.heap.size) := fun h => Nat.lt_irrefl _ (q11.lt _ h).2
  have nb_q12_y12 : K.blk X12 ≠ some (w12.heap.size) := fun h => Nat.lt_irrefl _ (q12.lt _ h).2
  have x1a0 := x1.c1
  have x1ag := x1.1
  have y4a0 := y4.c1
  have y4ag := y4.1
  have y10a0 := y10.c1
  have y10ag := y10.1
  replace q4 := q4.alloc ob
  replace q9 := q9.alloc ob
  replace q10 := q10.alloc ob
  replace q11 := q11.alloc ob
  replace q12 := q12.alloc ob
  replace x1 := x1.alloc ob
  replace y4 := y4.alloc ob
  replace y10 := y10.alloc ob
  replace bb := bb.alloc bb.size ob
  subst ho
  have y40 := y4.c1
  have y4g := y4.1
  have y120 := y12.c1
  have y12g := y12.1
  go_wp2_with fail
  refine (AmountH.eq_yes X12 X4 n12 n4 L _ hlen (q12.rd) (q4.rd)).mono ?_
  rintro e w13 ⟨rfl, b13⟩
  replace q4 := q4.below b13
  replace q9 := q9.below b13
  replace q10 := q10.below b13
  replace q11 := q11.below b13
  replace q12 := q12.below b13
  replace x1 := x1.below b13
  replace y4 := y4.below b13
  replace y10 := y10.below b13
  replace y12 := y12.below b13
  replace bb := bb.trans (b13.mono bb.size)
  clear x1a0 x1ag y4a0 y4ag y10a0 y10ag y40 y4g y120 y12g
  go_wp2_with fail
  refine (Units.copy A0 c0 l0 _ hl0 (r0.below bb)).mono ?_
  rintro e w14 ⟨X14, n14, rfl, q14, b14⟩
  have ap_q4_q14 := K.apart q4 q14 (Nat.le_refl _) (Nat.le_refl _)
  have ap_q9_q14 := K.apart q9 q14 (Nat.le_refl _) (Nat.le_refl _)
  have ap_q10_q14 := K.apart q10 q14 (Nat.le_refl _) (Nat.le_refl _)
  have ap_q11_q14 := K.apart q11 q14 (Nat.le_refl _) (Nat.le_refl _)
  have ap_q12_q14 := K.apart q12 q14 (Nat.le_refl _) (Nat.le_refl _)
  have nb_q14_x1 : K.blk X14 ≠ some (W.heap.size) := fun h => by have h1 := (q14.lt _ h).1; have h2 := x1.1; omega
  have nb_q14_y4 : K.blk X14 ≠ some (g4) := fun h => by have h1 := (q14.lt _ h).1; have h2 := y4.1; omega
  have nb_q14_y10 : K.blk X14 ≠ some (w10.heap.size) := fun h => by have h1 := (q14.lt _ h).1; have h2 := y10.1; omega
  have nb_q14_y12 : K.blk X14 ≠ some (w12.heap.size) := fun h => by have h1 := (q14.lt _ h).1; have h2 := y12.1; omega
  replace q14 := q14.more bb.size
  replace q4 := q4.below b14
  replace q9 := q9.below b14
  replace q10 := q10.below b14
  replace q11 := q11.below b14
  replace q12 := q12.below b14
  replace x1 := x1.below b14
  replace y4 := y4.below b14
  replace y10 := y10.below b14
  replace y12 := y12.below b14
  replace bb := bb.trans (b14.mono bb.size)
  go_wp2_with fail
  refine (Units.eq_yes X9 X14 n9 n14 l0 _ hl0 q9.rd q14.rd).mono ?_
  rintro e w15 ⟨rfl, b15⟩
  replace q4 := q4.below b15
  replace q9 := q9.below b15
  replace q10 := q10.below b15
  replace q11 := q11.below b15
  replace q12 := q12.below b15
  replace q14 := q14.below b15
  replace x1 := x1.below b15
  replace y4 := y4.below b15
  replace y10 := y10.below b15
  replace y12 := y12.below b15
  replace bb := bb.trans (b15.mono bb.size)
  clear q14
  have x10 := x1.c1
  have x1g := x1.1
  have y100 := y10.c1
  have y10g := y10.1
  go_wp2_with fail
  have x1d := x1.drew
  have y10d := y10.drew
  have rdd := (r1.below bb).drew
  go_region_held3 (fun w' => w'.cell? ⟨W.heap.size, 0, none⟩ = some (.slice A1 l1.length c1) ∧ w'.cell? ⟨w10.heap.size, 0, none⟩ = some (.slice X10 l1.length n10))
    (first | go_keep | exact ⟨(x1d.below b16).2 0 _ rfl, (y10d.below b16).2 0 _ rfl⟩ | exact ⟨((x1d.below b16).below b17).2 0 _ rfl, ((y10d.below b16).below b17).2 0 _ rfl⟩)
    (first | (go_at_call 26; refine (AmountH.copy A1 c1 l1 _ hl1 (by exact rdd)).mono ?_; rintro e w16 ⟨X16, n16, rfl, q16, b16⟩) | (go_at_call 28; refine (AmountH.eq_yes X10 X16 n10 n16 l1 _ hl1 (by exact q10.drew.rd.below b16) (by exact q16.rd)).mono ?_; rintro e w17 ⟨rfl, b17⟩))
  replace bb := bb.drew
  replace q4 := q4.drew
  replace q9 := q9.drew
  replace q10 := q10.drew
  replace q11 := q11.drew
  replace q12 := q12.drew
  replace x1 := x1.drew
  replace y4 := y4.drew
  replace y10 := y10.drew
  replace y12 := y12.drew
  replace q4 := q4.below b16
  replace q9 := q9.below b16
  replace q10 := q10.below b16
  replace q11 := q11.below b16
  replace q12 := q12.below b16
  replace x1 := x1.below b16
  replace y4 := y4.below b16
  replace y10 := y10.below b16
  replace y12 := y12.below b16
  replace bb := bb.trans (b16.mono bb.size)
  replace q4 := q4.below b17
  replace q9 := q9.below b17
  replace q10 := q10.below b17
  replace q11 := q11.below b17
  replace q12 := q12.below b17
  replace x1 := x1.below b17
  replace y4 := y4.below b17
  replace y10 := y10.below b17
  replace y12 := y12.below b17
  replace bb := bb.trans (b17.mono bb.size)
  clear x1d y10d rdd
  clear x10 x1g y100 y10g
  go_wp2_with fail
  refine (Units.copy A2 c2 l2 _ hl2 (r2.below bb)).mono ?_
  rintro e w18 ⟨X18, n18, rfl, q18, b18⟩
  have ap_q4_q18 := K.apart q4 q18 (Nat.le_refl _) (Nat.le_refl _)
  have ap_q9_q18 := K.apart q9 q18 (Nat.le_refl _) (Nat.le_refl _)
  have ap_q10_q18 := K.apart q10 q18 (Nat.le_refl _) (Nat.le_refl _)
  have ap_q11_q18 := K.apart q11 q18 (Nat.le_refl _) (Nat.le_refl _)
  have ap_q12_q18 := K.apart q12 q18 (Nat.le_refl _) (Nat.le_refl _)
  have nb_q18_x1 : K.blk X18 ≠ some (W.heap.size) := fun h => by have h1 := (q18.lt _ h).1; have h2 := x1.1; omega
  have nb_q18_y4 : K.blk X18 ≠ some (g4) := fun h => by have h1 := (q18.lt _ h).1; have h2 := y4.1; omega
  have nb_q18_y10 : K.blk X18 ≠ some (w10.heap.size) := fun h => by have h1 := (q18.lt _ h).1; have h2 := y10.1; omega
  have nb_q18_y12 : K.blk X18 ≠ some (w12.heap.size) := fun h => by have h1 := (q18.lt _ h).1; have h2 := y12.1; omega
  replace q18 := q18.more bb.size
  replace q4 := q4.below b18
  replace q9 := q9.below b18
  replace q10 := q10.below b18
  replace q11 := q11.below b18
  replace q12 := q12.below b18
  replace x1 := x1.below b18
  replace y4 := y4.below b18
  replace y10 := y10.below b18
  replace y12 := y12.below b18
  replace bb := bb.trans (b18.mono bb.size)
  go_wp2_with fail
  refine (Units.eq_yes X11 X18 n11 n18 l2 _ hl2 q11.rd q18.rd).mono ?_
  rintro e w19 ⟨rfl, b19⟩
  replace q4 := q4.below b19
  replace q9 := q9.below b19
  replace q10 := q10.below b19
  replace q11 := q11.below b19
  replace q12 := q12.below b19
  replace q18 := q18.below b19
  replace x1 := x1.below b19
  replace y4 := y4.below b19
  replace y10 := y10.below b19
  replace y12 := y12.below b19
  replace bb := bb.trans (b19.mono bb.size)
  clear q18
  go_wp2_with fail
  refine (Units.mark X9 _ n9 _ 1 _ _ hl0 (by omega) (by omega) q9).mono ?_
  rintro e w20 ⟨he, z20, g20⟩
  replace q4 := q4.kept g20 ap_q4_q9
  replace q10 := q10.kept g20 (fun g h1 h2 => ap_q9_q10 g h2 h1)
  replace q11 := q11.kept g20 (fun g h1 h2 => ap_q9_q11 g h2 h1)
  replace q12 := q12.kept g20 (fun g h1 h2 => ap_q9_q12 g h2 h1)
  replace x1 := x1.kept g20 nb_q9_x1
  replace y4 := y4.kept g20 nb_q9_y4
  replace y10 := y10.kept g20 nb_q9_y10
  replace y12 := y12.kept g20 nb_q9_y12
  replace bb := bb.trans (K.below_of_grown g20 bb.size (fun g hg => (q9.lt g hg).1))
  replace q9 := z20
  clear z20 g20
  obtain ⟨k20z, hkk20z, hlk20z, hjk20z⟩ : ∃ k : Nat, k ≤ 1 + 2 * l0.length ∧ 1 + 2 * l0.length ≤ k ∧ e = .returned (.int .i64 (k : Int)) := ⟨_, Nat.le_refl _, Nat.le_refl _, by rw [he]; exact congrArg (fun x => Ending.returned (.int .i64 x)) (by omega)⟩
  subst hjk20z
  clear he
  have y100 := y10.c1
  have y10g := y10.1
  go_wp2_with fail
  refine (AmountH.mark X10 _ n10 _ k20z _ _ hl1 (by omega) (by omega) q10).mono ?_
  rintro e w21 ⟨he, z21, g21⟩
  replace q4 := q4.kept g21 ap_q4_q10
  replace q9 := q9.kept g21 ap_q9_q10
  replace q11 := q11.kept g21 (fun g h1 h2 => ap_q10_q11 g h2 h1)
  replace q12 := q12.kept g21 (fun g h1 h2 => ap_q10_q12 g h2 h1)
  replace x1 := x1.kept g21 nb_q10_x1
  replace y4 := y4.kept g21 nb_q10_y4
  replace y10 := y10.kept g21 nb_q10_y10
  replace y12 := y12.kept g21 nb_q10_y12
  replace bb := bb.trans (K.below_of_grown g21 bb.size (fun g hg => (q10.lt g hg).1))
  replace q10 := z21
  clear z21 g21
  obtain ⟨k21z, hkk21z, hlk21z, hjk21z⟩ : ∃ k : Nat, k ≤ k20z + l1.length ∧ k20z + l1.length ≤ k ∧ e = .returned (.int .i64 (k : Int)) := ⟨_, Nat.le_refl _, Nat.le_refl _, by rw [he]; exact congrArg (fun x => Ending.returned (.int .i64 x)) (by omega)⟩
  subst hjk21z
  clear he
  clear y100 y10g
  go_wp2_with fail
  refine (Units.mark X11 _ n11 _ k21z _ _ hl2 (by omega) (by omega) q11).mono ?_
  rintro e w22 ⟨he, z22, g22⟩
  replace q4 := q4.kept g22 ap_q4_q11
  replace q9 := q9.kept g22 ap_q9_q11
  replace q10 := q10.kept g22 ap_q10_q11
  replace q12 := q12.kept g22 (fun g h1 h2 => ap_q11_q12 g h2 h1)
  replace x1 := x1.kept g22 nb_q11_x1
  replace y4 := y4.kept g22 nb_q11_y4
  replace y10 := y10.kept g22 nb_q11_y10
  replace y12 := y12.kept g22 nb_q11_y12
  replace bb := bb.trans (K.below_of_grown g22 bb.size (fun g hg => (q11.lt g hg).1))
  replace q11 := z22
  clear z22 g22
  obtain ⟨k22z, hkk22z, hlk22z, hjk22z⟩ : ∃ k : Nat, k ≤ k21z + 2 * l2.length ∧ k21z + 2 * l2.length ≤ k ∧ e = .returned (.int .i64 (k : Int)) := ⟨_, Nat.le_refl _, Nat.le_refl _, by rw [he]; exact congrArg (fun x => Ending.returned (.int .i64 x)) (by omega)⟩
  subst hjk22z
  clear he
  have y40 := y4.c1
  have y4g := y4.1
  have y120 := y12.c1
  have y12g := y12.1
  go_wp2_with fail
  refine (AmountH.eq_yes X12 X4 n12 n4 L _ hlen (q12.rd) (q4.rd)).mono ?_
  rintro e w23 ⟨rfl, b23⟩
  replace q4 := q4.below b23
  replace q9 := q9.below b23
  replace q10 := q10.below b23
  replace q11 := q11.below b23
  replace q12 := q12.below b23
  replace x1 := x1.below b23
  replace y4 := y4.below b23
  replace y10 := y10.below b23
  replace y12 := y12.below b23
  replace bb := bb.trans (b23.mono bb.size)
  clear y40 y4g y120 y12g
  have y120 := y12.c1
  have y12g := y12.1
  go_wp2_with fail
  refine (AmountH.mark X12 _ n12 _ 1 _ _ hlen (by omega) (by omega) q12).mono ?_
  rintro e w24 ⟨he, z24, g24⟩
  replace q4 := q4.kept g24 ap_q4_q12
  replace q9 := q9.kept g24 ap_q9_q12
  replace q10 := q10.kept g24 ap_q10_q12
  replace q11 := q11.kept g24 ap_q11_q12
  replace x1 := x1.kept g24 nb_q12_x1
  replace y4 := y4.kept g24 nb_q12_y4
  replace y10 := y10.kept g24 nb_q12_y10
  replace y12 := y12.kept g24 nb_q12_y12
  replace bb := bb.trans (K.below_of_grown g24 bb.size (fun g hg => (q12.lt g hg).1))
  replace q12 := z24
  clear z24 g24
  obtain ⟨k24z, hkk24z, hlk24z, hjk24z⟩ : ∃ k : Nat, k ≤ 1 + L.length ∧ 1 + L.length ≤ k ∧ e = .returned (.int .i64 (k : Int)) := ⟨_, Nat.le_refl _, Nat.le_refl _, by rw [he]; exact congrArg (fun x => Ending.returned (.int .i64 x)) (by omega)⟩
  subst hjk24z
  clear he
  clear y120 y12g
  have y120 := y12.c1
  have y12g := y12.1
  go_wp2_with fail
  refine (AmountH.held X12 _ n12 1 _ hlen (by omega) (by omega) q12.rd).mono ?_
  rintro e w25 ⟨he, b25⟩
  obtain rfl : e = .returned (.int .i64 (k24z : Int)) := by rw [he]; exact congrArg (fun x => Ending.returned (.int .i64 x)) (by omega)
  clear he
  replace q4 := q4.below b25
  replace q9 := q9.below b25
  replace q10 := q10.below b25
  replace q11 := q11.below b25
  replace q12 := q12.below b25
  replace x1 := x1.below b25
  replace y4 := y4.below b25
  replace y10 := y10.below b25
  replace y12 := y12.below b25
  replace bb := bb.trans (b25.mono bb.size)
  clear y120 y12g
  go_upto_region 38 with fail
  go_cut [22, 23] (fun sb o0 wx => ∃ (X : Option Addr) (n g : Nat), sb = .pointer (some ⟨g, 0, none⟩) ∧ o0 = .bool b ∧ K.Box wx g [.slice X L.length n] ∧ K.Row wx w25.heap.size 3 1 X L.length n (L.map (Value.int .i64)) ∧ K.blk X ≠ some g ∧ w25.heap.size ≤ g ∧ Below w25.heap.size w25 wx)
  case first =>
    have x10 := x1.c1
    have x1g := x1.1
    have rd0 := r0.below bb
    have rd1 := r1.below bb
    have rd2 := r2.below bb
    have BB := Lib.hid (Below.refl w25.heap.size w25)
    clear bb b0
    go_region_held3 (fun w' => w'.cell? ⟨W.heap.size, 0, none⟩ = some (.slice A1 l1.length c1))
      ((refine K.Box.at_ (vs := [.slice A1 l1.length c1]) (j := 0) ?_ rfl; (repeat (first | with_reducible assumption | (with_reducible refine K.Box.alloc ?_ _) | (with_reducible refine K.Box.drew ?_) | (with_reducible refine K.Box.setOther ?_ (by simp <;> omega) _) | (with_reducible refine K.Box.below ?_ (by with_reducible assumption))))))
      (first | (go_at_call 19; first | (((with_reducible refine (Units.copy A0 c0 l0 (w25.alloc (.cells #[.slice none 0 0] 40)).drew hl0 (by (repeat (first | with_reducible assumption | (with_reducible refine K.Rd.alloc ?_ _) | (with_reducible refine K.Rd.drew ?_) | (with_reducible refine K.Rd.below ?_ (by with_reducible assumption)))))).mono ?_)); rintro e w27 ⟨X27, n27, rfl, q27, b27⟩; have ow := (K.Own.new w25 #[.slice none 0 0] 40).drew.below b27; obtain ⟨cw, fw, lw⟩ := ow.c1; have bb27 := Lib.hid (((BB.out.alloc BB.out.size (.cells #[.slice none 0 0] 40)).drew).trans (b27.mono (by have hq := BB.out.size; simp <;> omega))); have s27 := b27.size; (try simp at s27); have qd27 := q27.rd) | (((with_reducible refine (Units.copy A0 c0 l0 _ hl0 (by (repeat (first | with_reducible assumption | (with_reducible refine K.Rd.alloc ?_ _) | (with_reducible refine K.Rd.drew ?_) | (with_reducible refine K.Rd.below ?_ (by with_reducible assumption)))))).mono ?_)); rintro e w27 ⟨X27, n27, rfl, q27, b27⟩; (try (replace ow := ow.below b27; obtain ⟨cw, fw, lw⟩ := ow.c1)); have bb27 := Lib.hid (BB.out.drew.trans (b27.mono (by have hq := BB.out.size; simp <;> omega))); have s27 := b27.size; (try simp at s27); have qd27 := q27.rd)) | (go_at_call 26; first | (((with_reducible refine (AmountH.copy A1 c1 l1 (w27.alloc (.cells #[.slice none 0 0] 40)) hl1 (by (repeat (first | with_reducible assumption | (with_reducible refine K.Rd.alloc ?_ _) | (with_reducible refine K.Rd.drew ?_) | (with_reducible refine K.Rd.below ?_ (by with_reducible assumption)))))).mono ?_)); rintro e w28 ⟨X28, n28, rfl, q28, b28⟩; have ow := (K.Own.new w27 #[.slice none 0 0] 40).below b28; obtain ⟨cw, fw, lw⟩ := ow.c1; have bb28 := Lib.hid (((bb27.out.alloc bb27.out.size (.cells #[.slice none 0 0] 40))).trans (b28.mono (by have hq := bb27.out.size; simp <;> omega))); have s28 := b28.size; (try simp at s28); have qd28 := q28.rd) | (((with_reducible refine (AmountH.copy A1 c1 l1 _ hl1 (by (repeat (first | with_reducible assumption | (with_reducible refine K.Rd.alloc ?_ _) | (with_reducible refine K.Rd.drew ?_) | (with_reducible refine K.Rd.below ?_ (by with_reducible assumption)))))).mono ?_)); rintro e w28 ⟨X28, n28, rfl, q28, b28⟩; (try (replace ow := ow.below b28; obtain ⟨cw, fw, lw⟩ := ow.c1)); have bb28 := Lib.hid (bb27.out.trans (b28.mono (by have hq := bb27.out.size; simp <;> omega))); have s28 := b28.size; (try simp at s28); have qd28 := q28.rd)) | (go_at_call 19; first | (((with_reducible refine (Units.copy A2 c2 l2 (w28.alloc (.cells #[.slice none 0 0] 40)) hl2 (by (repeat (first | with_reducible assumption | (with_reducible refine K.Rd.alloc ?_ _) | (with_reducible refine K.Rd.drew ?_) | (with_reducible refine K.Rd.below ?_ (by with_reducible assumption)))))).mono ?_)); rintro e w29 ⟨X29, n29, rfl, q29, b29⟩; have ow := (K.Own.new w28 #[.slice none 0 0] 40).below b29; obtain ⟨cw, fw, lw⟩ := ow.c1; have bb29 := Lib.hid (((bb28.out.alloc bb28.out.size (.cells #[.slice none 0 0] 40))).trans (b29.mono (by have hq := bb28.out.size; simp <;> omega))); have s29 := b29.size; (try simp at s29); have qd29 := q29.rd) | (((with_reducible refine (Units.copy A2 c2 l2 _ hl2 (by (repeat (first | with_reducible assumption | (with_reducible refine K.Rd.alloc ?_ _) | (with_reducible refine K.Rd.drew ?_) | (with_reducible refine K.Rd.below ?_ (by with_reducible assumption)))))).mono ?_)); rintro e w29 ⟨X29, n29, rfl, q29, b29⟩; (try (replace ow := ow.below b29; obtain ⟨cw, fw, lw⟩ := ow.c1)); have bb29 := Lib.hid (bb28.out.trans (b29.mono (by have hq := bb28.out.size; simp <;> omega))); have s29 := b29.size; (try simp at s29); have qd29 := q29.rd)) | (go_at_call 45; first | (((with_reducible refine (HI.out X27 n27 X28 n28 X29 n29 (w29.alloc (.cells #[.slice none 0 0] 40)) (by (repeat (first | with_reducible assumption | (with_reducible refine K.Rd.alloc ?_ _) | (with_reducible refine K.Rd.drew ?_) | (with_reducible refine K.Rd.below ?_ (by with_reducible assumption))))) q27.max.2 q27.cap (by (repeat (first | with_reducible assumption | (with_reducible refine K.Rd.alloc ?_ _) | (with_reducible refine K.Rd.drew ?_) | (with_reducible refine K.Rd.below ?_ (by with_reducible assumption))))) (by (repeat (first | with_reducible assumption | (with_reducible refine K.Rd.alloc ?_ _) | (with_reducible refine K.Rd.drew ?_) | (with_reducible refine K.Rd.below ?_ (by with_reducible assumption))))) q29.max.2 q29.cap).mono ?_)); rintro e w30 ⟨X, n, rfl, row, b30⟩; have ow := (K.Own.new w29 #[.slice none 0 0] 40).below b30; obtain ⟨cw, fw, lw⟩ := ow.c1; have bb30 := Lib.hid (((bb29.out.alloc bb29.out.size (.cells #[.slice none 0 0] 40))).trans (b30.mono (by have hq := bb29.out.size; simp <;> omega))); have s30 := b30.size; (try simp at s30); have hlt := row.lt; (try simp at hlt); have rw0 := row.more (lo' := w25.heap.size) (by have hq := bb29.out.size; simp <;> omega)) | (((with_reducible refine (HI.out X27 n27 X28 n28 X29 n29 _ (by (repeat (first | with_reducible assumption | (with_reducible refine K.Rd.alloc ?_ _) | (with_reducible refine K.Rd.drew ?_) | (with_reducible refine K.Rd.below ?_ (by with_reducible assumption))))) q27.max.2 q27.cap (by (repeat (first | with_reducible assumption | (with_reducible refine K.Rd.alloc ?_ _) | (with_reducible refine K.Rd.drew ?_) | (with_reducible refine K.Rd.below ?_ (by with_reducible assumption))))) (by (repeat (first | with_reducible assumption | (with_reducible refine K.Rd.alloc ?_ _) | (with_reducible refine K.Rd.drew ?_) | (with_reducible refine K.Rd.below ?_ (by with_reducible assumption))))) q29.max.2 q29.cap).mono ?_)); rintro e w30 ⟨X, n, rfl, row, b30⟩; (try (replace ow := ow.below b30; obtain ⟨cw, fw, lw⟩ := ow.c1)); have bb30 := Lib.hid (bb29.out.trans (b30.mono (by have hq := bb29.out.size; simp <;> omega))); have s30 := b30.size; (try simp at s30); have hlt := row.lt; (try simp at hlt); have rw0 := row.more (lo' := w25.heap.size) (by have hq := bb29.out.size; simp <;> omega))))
    all_goals have h0 := BB.out.size
    all_goals have h27 := bb27.out.size
    all_goals have h28 := bb28.out.size
    all_goals have h29 := bb29.out.size
    all_goals have h30 := bb30.out.size
    all_goals have bbz := bb30.out
    all_goals go_wp2_with fail
    all_goals go_meet
    all_goals exact ⟨X, n, _, rfl, rfl, (by first | exact (K.Own.set1 ow _).1 | exact K.Box.new _ _ _), by (repeat (first | with_reducible assumption | (with_reducible refine K.Row.setNe ?_ (fun g hg => by have hq := hlt g hg; simp at hq ⊢; omega) _) | (with_reducible refine K.Row.alloc ?_ _) | (with_reducible refine K.Row.drew ?_))), (fun h => by have hq := hlt _ h; first | omega | (simp at hq; done) | (simp at hq; omega)), by first | omega | (simp; done) | (simp; omega), by (repeat (first | exact Below.refl _ _ | assumption | (refine K.below_drewN ?_ _) | (refine Below.drew ?_) | (refine Below.alloc ?_ (by first | (simp; done) | (simp; omega) | omega) _) | (refine Below.setCell ?_ (by first | (simp; done) | (simp; omega) | omega) _)))⟩
  obtain ⟨X26, n26, g26, rfl, rfl, y26, q26, nb_q26_y26, hg26, b26⟩ := hcut
  rename World => w26
  have ap_q4_q26 := K.apart q4 q26 (Nat.le_refl _) (Nat.le_refl _)
  have ap_q9_q26 := K.apart q9 q26 (Nat.le_refl _) (Nat.le_refl _)
  have ap_q10_q26 := K.apart q10 q26 (Nat.le_refl _) (Nat.le_refl _)
  have ap_q11_q26 := K.apart q11 q26 (Nat.le_refl _) (Nat.le_refl _)
  have ap_q12_q26 := K.apart q12 q26 (Nat.le_refl _) (Nat.le_refl _)
  have nb_q26_x1 : K.blk X26 ≠ some (W.heap.size) := fun h => by have h1 := (q26.lt _ h).1; have h2 := x1.1; omega
  have nb_q26_y4 : K.blk X26 ≠ some (g4) := fun h => by have h1 := (q26.lt _ h).1; have h2 := y4.1; omega
  have nb_q26_y10 : K.blk X26 ≠ some (w10.heap.size) := fun h => by have h1 := (q26.lt _ h).1; have h2 := y10.1; omega
  have nb_q26_y12 : K.blk X26 ≠ some (w12.heap.size) := fun h => by have h1 := (q26.lt _ h).1; have h2 := y12.1; omega
  replace q26 := q26.more bb.size
  have nb_q4_y26 : K.blk X4 ≠ some g26 := fun h => by have h1 := (q4.lt _ h).2; omega
  have nb_q9_y26 : K.blk X9 ≠ some g26 := fun h => by have h1 := (q9.lt _ h).2; omega
  have nb_q10_y26 : K.blk X10 ≠ some g26 := fun h => by have h1 := (q10.lt _ h).2; omega
  have nb_q11_y26 : K.blk X11 ≠ some g26 := fun h => by have h1 := (q11.lt _ h).2; omega
  have nb_q12_y26 : K.blk X12 ≠ some g26 := fun h => by have h1 := (q12.lt _ h).2; omega
  replace q4 := q4.below b26
  replace q9 := q9.below b26
  replace q10 := q10.below b26
  replace q11 := q11.below b26
  replace q12 := q12.below b26
  replace x1 := x1.below b26
  replace y4 := y4.below b26
  replace y10 := y10.below b26
  replace y12 := y12.below b26
  replace bb := bb.trans (b26.mono bb.size)
  have y40 := y4.c1
  have y4g := y4.1
  have y260 := y26.c1
  have y26g := y26.1
  go_wp2_with fail
  refine (AmountH.eq_yes X26 X4 n26 n4 L _ hlen (q26.rd) (q4.rd)).mono ?_
  rintro e w31 ⟨rfl, b31⟩
  replace q4 := q4.below b31
  replace q9 := q9.below b31
  replace q10 := q10.below b31
  replace q11 := q11.below b31
  replace q12 := q12.below b31
  replace q26 := q26.below b31
  replace x1 := x1.below b31
  replace y4 := y4.below b31
  replace y10 := y10.below b31
  replace y12 := y12.below b31
  replace y26 := y26.below b31
  replace bb := bb.trans (b31.mono bb.size)
  clear y40 y4g y260 y26g
  have y120 := y12.c1
  have y12g := y12.1
  go_wp2_with fail
  refine (AmountH.held X12 _ n12 1 _ hlen (by omega) (by omega) q12.rd).mono ?_
  rintro e w32 ⟨he, b32⟩
  obtain rfl : e = .returned (.int .i64 (k24z : Int)) := by rw [he]; exact congrArg (fun x => Ending.returned (.int .i64 x)) (by omega)
  clear he
  replace q4 := q4.below b32
  replace q9 := q9.below b32
  replace q10 := q10.below b32
  replace q11 := q11.below b32
  replace q12 := q12.below b32
  replace q26 := q26.below b32
  replace x1 := x1.below b32
  replace y4 := y4.below b32
  replace y10 := y10.below b32
  replace y12 := y12.below b32
  replace y26 := y26.below b32
  replace bb := bb.trans (b32.mono bb.size)
  clear y120 y12g
  go_wp2_with fail
  go_ret
  exact ⟨rfl, b0.trans (bb.mono b0.size)⟩
end Go.Proofs.Ytfgnmjnlhnpmoaa.fnExactConvertTo
