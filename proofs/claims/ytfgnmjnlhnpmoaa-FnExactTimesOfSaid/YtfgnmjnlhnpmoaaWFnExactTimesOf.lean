/-
  The walk of FnExactTimesOf.
-/
import Derived.Test.YtfgnmjnlhnpmoaaArg
import Derived.Test.YtfgnmjnlhnpmoaaKit2
import Derived.Test.YtfgnmjnlhnpmoaaKit3
import Derived.Test.YtfgnmjnlhnpmoaaUnits
import Derived.Test.YtfgnmjnlhnpmoaaSystem
import Derived.Test.YtfgnmjnlhnpmoaaAmountH
import Derived.Test.YtfgnmjnlhnpmoaaAmountF
import Derived.Test.YtfgnmjnlhnpmoaaAmtOps
import Derived.OpenShut
import Derived.Deep.DeepCutAuto
set_option linter.unusedVariables false
namespace Go.Proofs.Ytfgnmjnlhnpmoaa.fnExactTimesOf
open Go.ChangeShapes Go.WideShapes Go.ChangeAt Go.RowKit

set_option maxRecDepth 100000 in
set_option maxHeartbeats 2000000 in
/-- the walk: the law's text returns true; nothing that was there has turned. -/
theorem walk (A0 : Option Addr) (c0 : Nat) (l0 : List M.Unit) (A1 : Option Addr) (c1 : Nat) (l1 : List Int) (a2 : Int) (W : World) (h0 : K.Rd W 2 A0 l0.length (l0.flatMap M.unitCells)) (m0 : l0.length ≤ 9223372036854775807) (s0 : ∀ s ∈ l0, s.wf) (h1 : K.Rd W 1 A1 l1.length (l1.map (Value.int .i64))) (m1 : l1.length ≤ 9223372036854775807) (s1 : ∀ x ∈ l1, M.i64 x) (h2 : (Lit.int .i64 a2).wf = true) :
    Calls Try.prog 12 #[.slice A0 l0.length c0, .agg #[.slice A1 l1.length c1], .int .i64 a2] W fun e w' => e = .returned (.bool true) ∧ Below W.heap.size W w' := by
  obtain ⟨o1, ho1⟩ : ∃ o : Obj, o = .cells #[.slice A1 l1.length c1] 37 := ⟨_, rfl⟩
  have x1 : K.Box (W.alloc o1) (W.heap.size) [.slice A1 l1.length c1] := by have h := K.Box.new W #[.slice A1 l1.length c1] 37; rw [← ho1] at h; exact h
  have b0 : Below W.heap.size W (W.alloc o1) := (Below.refl W.heap.size W).alloc (Nat.le_refl _) _
  have r0 := h0.below b0
  have r1 := h1.below b0
  have bb : Below (W.alloc o1).heap.size (W.alloc o1) (W.alloc o1) := Below.refl _ _
  subst ho1
  go_enter Try.func12, Try.ntmps12
  have HL0 := Lib.hid (@M.szf_len (l0.map (·.name)) 1048576)
  go_wp2_with fail
  refine (Units.sz A0 c0 l0 1048576 _ m0 (fun x hx => (s0 x hx).1) (by omega) (by omega) (r0.below bb)).mono ?_
  rintro e w1 ⟨⟨d1, rfl, hd1⟩, b1⟩
  replace x1 := x1.below b1
  replace bb := bb.trans (b1.mono bb.size)
  by_cases hneg1 : d1 < 0
  · go_wp2
    go_ret
    exact ⟨rfl, b0.trans (bb.mono b0.size)⟩
  have hzz1 : 0 ≤ M.szf (l0.map (·.name)) 1048576 := by omega
  have hlx0 := (HL0.out hzz1).1
  have hly0 := (HL0.out hzz1).2
  have hz1 : 0 ≤ d1 := by omega
  have hu1 : d1 ≤ 1048576 := by have := M.szf_le (l0.map (·.name)) 1048576; omega
  rw [List.length_map] at hlx0
  have hl0 : l0.length ≤ 1048576 := by omega
  have hss0 : ∀ x ∈ l0, x.name.size ≤ 1048576 := fun x hx => by have := hly0 x.name (List.mem_map.2 ⟨x, hx, rfl⟩); omega
  clear hd1 hneg1 hzz1 hlx0 hly0 HL0
  have x10 := x1.c1
  have x1g := x1.1
  go_wp2_with fail
  refine (AmountH.sz A1 c1 l1.length d1 _ m1 (by omega) (by omega)).mono ?_
  rintro e w2 ⟨⟨d2, rfl, hd2⟩, b2⟩
  replace x1 := x1.below b2
  replace bb := bb.trans (b2.mono bb.size)
  clear x10 x1g
  by_cases hneg2 : d2 < 0
  · go_wp2
    go_ret
    exact ⟨rfl, b0.trans (bb.mono b0.size)⟩
  have hl1 : l1.length ≤ 1048576 := by omega
  have hz2 : 0 ≤ d2 ∧ d2 ≤ 1048576 := by omega
  clear hd2 hneg2
  have hnm0 : ∀ u ∈ l0, u.name.size ≤ 9223372036854775807 := fun u hu => by have := hss0 u hu; omega
  have hs := fun (A0q : Option Addr) (c0q : Nat) (A1q : Option Addr) (c1q : Nat) (W' : World) (r0q : K.Rd W' 2 A0q l0.length (l0.flatMap M.unitCells)) (e0q : l0.length ≤ c0q) (z0q : c0q ≤ 9223372036854775807) (r1q : K.Rd W' 1 A1q l1.length (l1.map (Value.int .i64))) => AmtOps.s_times A0q c0q l0 A1q c1q l1 a2 W' hl0 hnm0 e0q z0q r0q hl1 r1q
  have hi := fun (A0q : Option Addr) (c0q : Nat) (A1q : Option Addr) (c1q : Nat) (W' : World) (r0q : K.Rd W' 2 A0q l0.length (l0.flatMap M.unitCells)) (e0q : l0.length ≤ c0q) (z0q : c0q ≤ 9223372036854775807) (r1q : K.Rd W' 1 A1q l1.length (l1.map (Value.int .i64))) => AmtOps.i_times A0q c0q l0 A1q c1q l1 a2 W' hl0 hnm0 e0q z0q r0q hl1 r1q
  have hlen : (M.timesOf l0 l1 a2).1.length ≤ 1048576 := M.timesOf_le l0 l1 a2 hl0
  generalize M.timesOf l0 l1 a2 = R at hs hi hlen
  obtain ⟨L, b⟩ := R
  dsimp only at hs hi hlen
  have hbb_b : (b != b) = false := by simp
  have HS := Lib.hid hs
  have HI := Lib.hid hi
  clear hs hi
  try clear m0 s0 h0
  go_upto_region 8 with fail
  go_cut [8, 9] (fun sb o0 wx => ∃ (X : Option Addr) (n g : Nat), sb = .pointer (some ⟨g, 0, none⟩) ∧ o0 = .bool b ∧ K.Box wx g [.slice X L.length n] ∧ K.Row wx w2.heap.size 3 1 X L.length n (L.map (Value.int .i64)) ∧ K.blk X ≠ some g ∧ w2.heap.size ≤ g ∧ Below w2.heap.size w2 wx)
  case first =>
    have x10 := x1.c1
    have x1g := x1.1
    have rd0 := r0.below bb
    have rd1 := r1.below bb
    have BB := Lib.hid (Below.refl w2.heap.size w2)
    clear bb b0
    go_region_held3 (fun w' => w'.cell? ⟨W.heap.size, 0, none⟩ = some (.slice A1 l1.length c1))
      ((refine K.Box.at_ (vs := [.slice A1 l1.length c1]) (j := 0) ?_ rfl; (repeat (first | with_reducible assumption | (with_reducible refine K.Box.alloc ?_ _) | (with_reducible refine K.Box.drew ?_) | (with_reducible refine K.Box.setOther ?_ (by simp <;> omega) _) | (with_reducible refine K.Box.below ?_ (by with_reducible assumption))))))
      (first | (go_at_call 19; first | (((with_reducible refine (Units.copy A0 c0 l0 (w2.alloc (.cells #[.slice none 0 0] 40)).drew hl0 (by (repeat (first | with_reducible assumption | (with_reducible refine K.Rd.alloc ?_ _) | (with_reducible refine K.Rd.drew ?_) | (with_reducible refine K.Rd.below ?_ (by with_reducible assumption)))))).mono ?_)); rintro e w4 ⟨X4, n4, rfl, q4, b4⟩; have ow := (K.Own.new w2 #[.slice none 0 0] 40).drew.below b4; obtain ⟨cw, fw, lw⟩ := ow.c1; have bb4 := Lib.hid (((BB.out.alloc BB.out.size (.cells #[.slice none 0 0] 40)).drew).trans (b4.mono (by have hq := BB.out.size; simp <;> omega))); have s4 := b4.size; (try simp at s4); have qd4 := q4.rd) | (((with_reducible refine (Units.copy A0 c0 l0 _ hl0 (by (repeat (first | with_reducible assumption | (with_reducible refine K.Rd.alloc ?_ _) | (with_reducible refine K.Rd.drew ?_) | (with_reducible refine K.Rd.below ?_ (by with_reducible assumption)))))).mono ?_)); rintro e w4 ⟨X4, n4, rfl, q4, b4⟩; (try (replace ow := ow.below b4; obtain ⟨cw, fw, lw⟩ := ow.c1)); have bb4 := Lib.hid (BB.out.drew.trans (b4.mono (by have hq := BB.out.size; simp <;> omega))); have s4 := b4.size; (try simp at s4); have qd4 := q4.rd)) | (go_at_call 26; first | (((with_reducible refine (AmountH.copy A1 c1 l1 (w4.alloc (.cells #[.slice none 0 0] 40)) hl1 (by (repeat (first | with_reducible assumption | (with_reducible refine K.Rd.alloc ?_ _) | (with_reducible refine K.Rd.drew ?_) | (with_reducible refine K.Rd.below ?_ (by with_reducible assumption)))))).mono ?_)); rintro e w5 ⟨X5, n5, rfl, q5, b5⟩; have ow := (K.Own.new w4 #[.slice none 0 0] 40).below b5; obtain ⟨cw, fw, lw⟩ := ow.c1; have bb5 := Lib.hid (((bb4.out.alloc bb4.out.size (.cells #[.slice none 0 0] 40))).trans (b5.mono (by have hq := bb4.out.size; simp <;> omega))); have s5 := b5.size; (try simp at s5); have qd5 := q5.rd) | (((with_reducible refine (AmountH.copy A1 c1 l1 _ hl1 (by (repeat (first | with_reducible assumption | (with_reducible refine K.Rd.alloc ?_ _) | (with_reducible refine K.Rd.drew ?_) | (with_reducible refine K.Rd.below ?_ (by with_reducible assumption)))))).mono ?_)); rintro e w5 ⟨X5, n5, rfl, q5, b5⟩; (try (replace ow := ow.below b5; obtain ⟨cw, fw, lw⟩ := ow.c1)); have bb5 := Lib.hid (bb4.out.trans (b5.mono (by have hq := bb4.out.size; simp <;> omega))); have s5 := b5.size; (try simp at s5); have qd5 := q5.rd)) | (go_at_call 42; first | (((with_reducible refine (HS.out X4 n4 X5 n5 (w5.alloc (.cells #[.slice none 0 0] 40)) (by (repeat (first | with_reducible assumption | (with_reducible refine K.Rd.alloc ?_ _) | (with_reducible refine K.Rd.drew ?_) | (with_reducible refine K.Rd.below ?_ (by with_reducible assumption))))) q4.max.2 q4.cap (by (repeat (first | with_reducible assumption | (with_reducible refine K.Rd.alloc ?_ _) | (with_reducible refine K.Rd.drew ?_) | (with_reducible refine K.Rd.below ?_ (by with_reducible assumption)))))).mono ?_)); rintro e w6 ⟨X, n, rfl, row, b6⟩; have ow := (K.Own.new w5 #[.slice none 0 0] 40).below b6; obtain ⟨cw, fw, lw⟩ := ow.c1; have bb6 := Lib.hid (((bb5.out.alloc bb5.out.size (.cells #[.slice none 0 0] 40))).trans (b6.mono (by have hq := bb5.out.size; simp <;> omega))); have s6 := b6.size; (try simp at s6); have hlt := row.lt; (try simp at hlt); have rw0 := row.more (lo' := w2.heap.size) (by have hq := bb5.out.size; simp <;> omega)) | (((with_reducible refine (HS.out X4 n4 X5 n5 _ (by (repeat (first | with_reducible assumption | (with_reducible refine K.Rd.alloc ?_ _) | (with_reducible refine K.Rd.drew ?_) | (with_reducible refine K.Rd.below ?_ (by with_reducible assumption))))) q4.max.2 q4.cap (by (repeat (first | with_reducible assumption | (with_reducible refine K.Rd.alloc ?_ _) | (with_reducible refine K.Rd.drew ?_) | (with_reducible refine K.Rd.below ?_ (by with_reducible assumption)))))).mono ?_)); rintro e w6 ⟨X, n, rfl, row, b6⟩; (try (replace ow := ow.below b6; obtain ⟨cw, fw, lw⟩ := ow.c1)); have bb6 := Lib.hid (bb5.out.trans (b6.mono (by have hq := bb5.out.size; simp <;> omega))); have s6 := b6.size; (try simp at s6); have hlt := row.lt; (try simp at hlt); have rw0 := row.more (lo' := w2.heap.size) (by have hq := bb5.out.size; simp <;> omega))))
    all_goals have h0 := BB.out.size
    all_goals have h4 := bb4.out.size
    all_goals have h5 := bb5.out.size
    all_goals have h6 := bb6.out.size
    all_goals have bbz := bb6.out
    all_goals go_wp2_with fail
    all_goals go_meet
    all_goals exact ⟨X, n, _, rfl, rfl, (by first | exact (K.Own.set1 ow _).1 | exact K.Box.new _ _ _), by (repeat (first | with_reducible assumption | (with_reducible refine K.Row.setNe ?_ (fun g hg => by have hq := hlt g hg; simp at hq ⊢; omega) _) | (with_reducible refine K.Row.alloc ?_ _) | (with_reducible refine K.Row.drew ?_))), (fun h => by have hq := hlt _ h; first | omega | (simp at hq; done) | (simp at hq; omega)), by first | omega | (simp; done) | (simp; omega), by (repeat (first | exact Below.refl _ _ | assumption | (refine K.below_drewN ?_ _) | (refine Below.drew ?_) | (refine Below.alloc ?_ (by first | (simp; done) | (simp; omega) | omega) _) | (refine Below.setCell ?_ (by first | (simp; done) | (simp; omega) | omega) _)))⟩
  obtain ⟨X3, n3, g3, rfl, rfl, y3, q3, nb_q3_y3, hg3, b3⟩ := hcut
  rename World => w3
  have nb_q3_x1 : K.blk X3 ≠ some (W.heap.size) := fun h => by have h1 := (q3.lt _ h).1; have h2 := x1.1; omega
  replace q3 := q3.more bb.size
  replace x1 := x1.below b3
  replace bb := bb.trans (b3.mono bb.size)
  go_wp2_with fail
  refine (Units.copy A0 c0 l0 _ hl0 (r0.below bb)).mono ?_
  rintro e w7 ⟨X7, n7, rfl, q7, b7⟩
  have ap_q3_q7 := K.apart q3 q7 (Nat.le_refl _) (Nat.le_refl _)
  have nb_q7_x1 : K.blk X7 ≠ some (W.heap.size) := fun h => by have h1 := (q7.lt _ h).1; have h2 := x1.1; omega
  have nb_q7_y3 : K.blk X7 ≠ some (g3) := fun h => by have h1 := (q7.lt _ h).1; have h2 := y3.1; omega
  replace q7 := q7.more bb.size
  replace q3 := q3.below b7
  replace x1 := x1.below b7
  replace y3 := y3.below b7
  replace bb := bb.trans (b7.mono bb.size)
  have x10 := x1.c1
  have x1g := x1.1
  go_wp2_with fail
  refine (AmountH.copy A1 c1 l1 _ hl1 (r1.below bb)).mono ?_
  rintro e w8 ⟨X8, n8, rfl, q8, b8⟩
  have ap_q3_q8 := K.apart q3 q8 (Nat.le_refl _) (Nat.le_refl _)
  have ap_q7_q8 := K.apart q7 q8 (Nat.le_refl _) (Nat.le_refl _)
  have nb_q8_x1 : K.blk X8 ≠ some (W.heap.size) := fun h => by have h1 := (q8.lt _ h).1; have h2 := x1.1; omega
  have nb_q8_y3 : K.blk X8 ≠ some (g3) := fun h => by have h1 := (q8.lt _ h).1; have h2 := y3.1; omega
  replace q8 := q8.more bb.size
  replace q3 := q3.below b8
  replace q7 := q7.below b8
  replace x1 := x1.below b8
  replace y3 := y3.below b8
  replace bb := bb.trans (b8.mono bb.size)
  clear x10 x1g
  obtain ⟨ob, ho⟩ : ∃ o : Obj, o = .cells #[.slice X8 l1.length n8] 40 := ⟨_, rfl⟩
  have y8 : K.Box (w8.alloc ob) w8.heap.size [.slice X8 l1.length n8] := by rw [ho]; exact K.Box.new _ _ _
  have nb_q3_y8 : K.blk X3 ≠ some (w8.heap.size) := fun h => Nat.lt_irrefl _ (q3.lt _ h).2
  have nb_q7_y8 : K.blk X7 ≠ some (w8.heap.size) := fun h => Nat.lt_irrefl _ (q7.lt _ h).2
  have nb_q8_y8 : K.blk X8 ≠ some (w8.heap.size) := fun h => Nat.lt_irrefl _ (q8.lt _ h).2
  have x1a0 := x1.c1
  have x1ag := x1.1
  have y3a0 := y3.c1
  have y3ag := y3.1
  replace q3 := q3.alloc ob
  replace q7 := q7.alloc ob
  replace q8 := q8.alloc ob
  replace x1 := x1.alloc ob
  replace y3 := y3.alloc ob
  replace bb := bb.alloc bb.size ob
  subst ho
  have y80 := y8.c1
  have y8g := y8.1
  go_wp2_with fail
  refine (HI.out X7 n7 X8 n8 _ q7.rd q7.max.2 q7.cap q8.rd).mono ?_
  rintro e w9 ⟨X9, n9, rfl, q9, b9⟩
  have ap_q3_q9 := K.apart q3 q9 (Nat.le_refl _) (Nat.le_refl _)
  have ap_q7_q9 := K.apart q7 q9 (Nat.le_refl _) (Nat.le_refl _)
  have ap_q8_q9 := K.apart q8 q9 (Nat.le_refl _) (Nat.le_refl _)
  have nb_q9_x1 : K.blk X9 ≠ some (W.heap.size) := fun h => by have h1 := (q9.lt _ h).1; have h2 := x1.1; omega
  have nb_q9_y3 : K.blk X9 ≠ some (g3) := fun h => by have h1 := (q9.lt _ h).1; have h2 := y3.1; omega
  have nb_q9_y8 : K.blk X9 ≠ some (w8.heap.size) := fun h => by have h1 := (q9.lt _ h).1; have h2 := y8.1; omega
  replace q9 := q9.more bb.size
  replace q3 := q3.below b9
  replace q7 := q7.below b9
  replace q8 := q8.below b9
  replace x1 := x1.below b9
  replace y3 := y3.below b9
  replace y8 := y8.below b9
  replace bb := bb.trans (b9.mono bb.size)
  clear x1a0 x1ag y3a0 y3ag y80 y8g
  obtain ⟨ob, ho⟩ : ∃ o : Obj, o = .cells #[.slice X9 L.length n9] 40 := ⟨_, rfl⟩
  have y9 : K.Box (w9.alloc ob) w9.heap.size [.slice X9 L.length n9] := by rw [ho]; exact K.Box.new _ _ _
  have nb_q3_y9 : K.blk X3 ≠ some (w9.heap.size) := fun h => Nat.lt_irrefl _ (q3.lt _ h).2
  have nb_q7_y9 : K.blk X7 ≠ some (w9.heap.size) := fun h => Nat.lt_irrefl _ (q7.lt _ h).2
  have nb_q8_y9 : K.blk X8 ≠ some (w9.heap.size) := fun h => Nat.lt_irrefl _ (q8.lt _ h).2
  have nb_q9_y9 : K.blk X9 ≠ some (w9.heap.size) := fun h => Nat.lt_irrefl _ (q9.lt _ h).2
  have x1a0 := x1.c1
  have x1ag := x1.1
  have y3a0 := y3.c1
  have y3ag := y3.1
  have y8a0 := y8.c1
  have y8ag := y8.1
  replace q3 := q3.alloc ob
  replace q7 := q7.alloc ob
  replace q8 := q8.alloc ob
  replace q9 := q9.alloc ob
  replace x1 := x1.alloc ob
  replace y3 := y3.alloc ob
  replace y8 := y8.alloc ob
  replace bb := bb.alloc bb.size ob
  subst ho
  have y30 := y3.c1
  have y3g := y3.1
  have y90 := y9.c1
  have y9g := y9.1
  go_wp2_with fail
  refine (AmountH.eq_yes X9 X3 n9 n3 L _ hlen (q9.rd) (q3.rd)).mono ?_
  rintro e w10 ⟨rfl, b10⟩
  replace q3 := q3.below b10
  replace q7 := q7.below b10
  replace q8 := q8.below b10
  replace q9 := q9.below b10
  replace x1 := x1.below b10
  replace y3 := y3.below b10
  replace y8 := y8.below b10
  replace y9 := y9.below b10
  replace bb := bb.trans (b10.mono bb.size)
  clear x1a0 x1ag y3a0 y3ag y8a0 y8ag y30 y3g y90 y9g
  go_wp2_with fail
  refine (Units.copy A0 c0 l0 _ hl0 (r0.below bb)).mono ?_
  rintro e w11 ⟨X11, n11, rfl, q11, b11⟩
  have ap_q3_q11 := K.apart q3 q11 (Nat.le_refl _) (Nat.le_refl _)
  have ap_q7_q11 := K.apart q7 q11 (Nat.le_refl _) (Nat.le_refl _)
  have ap_q8_q11 := K.apart q8 q11 (Nat.le_refl _) (Nat.le_refl _)
  have ap_q9_q11 := K.apart q9 q11 (Nat.le_refl _) (Nat.le_refl _)
  have nb_q11_x1 : K.blk X11 ≠ some (W.heap.size) := fun h => by have h1 := (q11.lt _ h).1; have h2 := x1.1; omega
  have nb_q11_y3 : K.blk X11 ≠ some (g3) := fun h => by have h1 := (q11.lt _ h).1; have h2 := y3.1; omega
  have nb_q11_y8 : K.blk X11 ≠ some (w8.heap.size) := fun h => by have h1 := (q11.lt _ h).1; have h2 := y8.1; omega
  have nb_q11_y9 : K.blk X11 ≠ some (w9.heap.size) := fun h => by have h1 := (q11.lt _ h).1; have h2 := y9.1; omega
  replace q11 := q11.more bb.size
  replace q3 := q3.below b11
  replace q7 := q7.below b11
  replace q8 := q8.below b11
  replace q9 := q9.below b11
  replace x1 := x1.below b11
  replace y3 := y3.below b11
  replace y8 := y8.below b11
  replace y9 := y9.below b11
  replace bb := bb.trans (b11.mono bb.size)
  go_wp2_with fail
  refine (Units.eq_yes X7 X11 n7 n11 l0 _ hl0 q7.rd q11.rd).mono ?_
  rintro e w12 ⟨rfl, b12⟩
  replace q3 := q3.below b12
  replace q7 := q7.below b12
  replace q8 := q8.below b12
  replace q9 := q9.below b12
  replace q11 := q11.below b12
  replace x1 := x1.below b12
  replace y3 := y3.below b12
  replace y8 := y8.below b12
  replace y9 := y9.below b12
  replace bb := bb.trans (b12.mono bb.size)
  clear q11
  have x10 := x1.c1
  have x1g := x1.1
  have y80 := y8.c1
  have y8g := y8.1
  go_wp2_with fail
  have x1d := x1.drew
  have y8d := y8.drew
  have rdd := (r1.below bb).drew
  go_region_held3 (fun w' => w'.cell? ⟨W.heap.size, 0, none⟩ = some (.slice A1 l1.length c1) ∧ w'.cell? ⟨w8.heap.size, 0, none⟩ = some (.slice X8 l1.length n8))
    (first | go_keep | exact ⟨(x1d.below b13).2 0 _ rfl, (y8d.below b13).2 0 _ rfl⟩ | exact ⟨((x1d.below b13).below b14).2 0 _ rfl, ((y8d.below b13).below b14).2 0 _ rfl⟩)
    (first | (go_at_call 26; refine (AmountH.copy A1 c1 l1 _ hl1 (by exact rdd)).mono ?_; rintro e w13 ⟨X13, n13, rfl, q13, b13⟩) | (go_at_call 28; refine (AmountH.eq_yes X8 X13 n8 n13 l1 _ hl1 (by exact q8.drew.rd.below b13) (by exact q13.rd)).mono ?_; rintro e w14 ⟨rfl, b14⟩))
  replace bb := bb.drew
  replace q3 := q3.drew
  replace q7 := q7.drew
  replace q8 := q8.drew
  replace q9 := q9.drew
  replace x1 := x1.drew
  replace y3 := y3.drew
  replace y8 := y8.drew
  replace y9 := y9.drew
  replace q3 := q3.below b13
  replace q7 := q7.below b13
  replace q8 := q8.below b13
  replace q9 := q9.below b13
  replace x1 := x1.below b13
  replace y3 := y3.below b13
  replace y8 := y8.below b13
  replace y9 := y9.below b13
  replace bb := bb.trans (b13.mono bb.size)
  replace q3 := q3.below b14
  replace q7 := q7.below b14
  replace q8 := q8.below b14
  replace q9 := q9.below b14
  replace x1 := x1.below b14
  replace y3 := y3.below b14
  replace y8 := y8.below b14
  replace y9 := y9.below b14
  replace bb := bb.trans (b14.mono bb.size)
  clear x1d y8d rdd
  clear x10 x1g y80 y8g
  go_wp2_with fail
  refine (Units.mark X7 _ n7 _ 1 _ _ hl0 (by omega) (by omega) q7).mono ?_
  rintro e w15 ⟨he, z15, g15⟩
  replace q3 := q3.kept g15 ap_q3_q7
  replace q8 := q8.kept g15 (fun g h1 h2 => ap_q7_q8 g h2 h1)
  replace q9 := q9.kept g15 (fun g h1 h2 => ap_q7_q9 g h2 h1)
  replace x1 := x1.kept g15 nb_q7_x1
  replace y3 := y3.kept g15 nb_q7_y3
  replace y8 := y8.kept g15 nb_q7_y8
  replace y9 := y9.kept g15 nb_q7_y9
  replace bb := bb.trans (K.below_of_grown g15 bb.size (fun g hg => (q7.lt g hg).1))
  replace q7 := z15
  clear z15 g15
  obtain ⟨k15z, hkk15z, hlk15z, hjk15z⟩ : ∃ k : Nat, k ≤ 1 + 2 * l0.length ∧ 1 + 2 * l0.length ≤ k ∧ e = .returned (.int .i64 (k : Int)) := ⟨_, Nat.le_refl _, Nat.le_refl _, by rw [he]; exact congrArg (fun x => Ending.returned (.int .i64 x)) (by omega)⟩
  subst hjk15z
  clear he
  have y80 := y8.c1
  have y8g := y8.1
  go_wp2_with fail
  refine (AmountH.mark X8 _ n8 _ k15z _ _ hl1 (by omega) (by omega) q8).mono ?_
  rintro e w16 ⟨he, z16, g16⟩
  replace q3 := q3.kept g16 ap_q3_q8
  replace q7 := q7.kept g16 ap_q7_q8
  replace q9 := q9.kept g16 (fun g h1 h2 => ap_q8_q9 g h2 h1)
  replace x1 := x1.kept g16 nb_q8_x1
  replace y3 := y3.kept g16 nb_q8_y3
  replace y8 := y8.kept g16 nb_q8_y8
  replace y9 := y9.kept g16 nb_q8_y9
  replace bb := bb.trans (K.below_of_grown g16 bb.size (fun g hg => (q8.lt g hg).1))
  replace q8 := z16
  clear z16 g16
  obtain ⟨k16z, hkk16z, hlk16z, hjk16z⟩ : ∃ k : Nat, k ≤ k15z + l1.length ∧ k15z + l1.length ≤ k ∧ e = .returned (.int .i64 (k : Int)) := ⟨_, Nat.le_refl _, Nat.le_refl _, by rw [he]; exact congrArg (fun x => Ending.returned (.int .i64 x)) (by omega)⟩
  subst hjk16z
  clear he
  clear y80 y8g
  have y30 := y3.c1
  have y3g := y3.1
  have y90 := y9.c1
  have y9g := y9.1
  go_wp2_with fail
  refine (AmountH.eq_yes X9 X3 n9 n3 L _ hlen (q9.rd) (q3.rd)).mono ?_
  rintro e w17 ⟨rfl, b17⟩
  replace q3 := q3.below b17
  replace q7 := q7.below b17
  replace q8 := q8.below b17
  replace q9 := q9.below b17
  replace x1 := x1.below b17
  replace y3 := y3.below b17
  replace y8 := y8.below b17
  replace y9 := y9.below b17
  replace bb := bb.trans (b17.mono bb.size)
  clear y30 y3g y90 y9g
  have y90 := y9.c1
  have y9g := y9.1
  go_wp2_with fail
  refine (AmountH.mark X9 _ n9 _ 1 _ _ hlen (by omega) (by omega) q9).mono ?_
  rintro e w18 ⟨he, z18, g18⟩
  replace q3 := q3.kept g18 ap_q3_q9
  replace q7 := q7.kept g18 ap_q7_q9
  replace q8 := q8.kept g18 ap_q8_q9
  replace x1 := x1.kept g18 nb_q9_x1
  replace y3 := y3.kept g18 nb_q9_y3
  replace y8 := y8.kept g18 nb_q9_y8
  replace y9 := y9.kept g18 nb_q9_y9
  replace bb := bb.trans (K.below_of_grown g18 bb.size (fun g hg => (q9.lt g hg).1))
  replace q9 := z18
  clear z18 g18
  obtain ⟨k18z, hkk18z, hlk18z, hjk18z⟩ : ∃ k : Nat, k ≤ 1 + L.length ∧ 1 + L.length ≤ k ∧ e = .returned (.int .i64 (k : Int)) := ⟨_, Nat.le_refl _, Nat.le_refl _, by rw [he]; exact congrArg (fun x => Ending.returned (.int .i64 x)) (by omega)⟩
  subst hjk18z
  clear he
  clear y90 y9g
  have y90 := y9.c1
  have y9g := y9.1
  go_wp2_with fail
  refine (AmountH.held X9 _ n9 1 _ hlen (by omega) (by omega) q9.rd).mono ?_
  rintro e w19 ⟨he, b19⟩
  obtain rfl : e = .returned (.int .i64 (k18z : Int)) := by rw [he]; exact congrArg (fun x => Ending.returned (.int .i64 x)) (by omega)
  clear he
  replace q3 := q3.below b19
  replace q7 := q7.below b19
  replace q8 := q8.below b19
  replace q9 := q9.below b19
  replace x1 := x1.below b19
  replace y3 := y3.below b19
  replace y8 := y8.below b19
  replace y9 := y9.below b19
  replace bb := bb.trans (b19.mono bb.size)
  clear y90 y9g
  go_upto_region 31 with fail
  go_cut [17, 18] (fun sb o0 wx => ∃ (X : Option Addr) (n g : Nat), sb = .pointer (some ⟨g, 0, none⟩) ∧ o0 = .bool b ∧ K.Box wx g [.slice X L.length n] ∧ K.Row wx w19.heap.size 3 1 X L.length n (L.map (Value.int .i64)) ∧ K.blk X ≠ some g ∧ w19.heap.size ≤ g ∧ Below w19.heap.size w19 wx)
  case first =>
    have x10 := x1.c1
    have x1g := x1.1
    have rd0 := r0.below bb
    have rd1 := r1.below bb
    have BB := Lib.hid (Below.refl w19.heap.size w19)
    clear bb b0
    go_region_held3 (fun w' => w'.cell? ⟨W.heap.size, 0, none⟩ = some (.slice A1 l1.length c1))
      ((refine K.Box.at_ (vs := [.slice A1 l1.length c1]) (j := 0) ?_ rfl; (repeat (first | with_reducible assumption | (with_reducible refine K.Box.alloc ?_ _) | (with_reducible refine K.Box.drew ?_) | (with_reducible refine K.Box.setOther ?_ (by simp <;> omega) _) | (with_reducible refine K.Box.below ?_ (by with_reducible assumption))))))
      (first | (go_at_call 19; first | (((with_reducible refine (Units.copy A0 c0 l0 (w19.alloc (.cells #[.slice none 0 0] 40)).drew hl0 (by (repeat (first | with_reducible assumption | (with_reducible refine K.Rd.alloc ?_ _) | (with_reducible refine K.Rd.drew ?_) | (with_reducible refine K.Rd.below ?_ (by with_reducible assumption)))))).mono ?_)); rintro e w21 ⟨X21, n21, rfl, q21, b21⟩; have ow := (K.Own.new w19 #[.slice none 0 0] 40).drew.below b21; obtain ⟨cw, fw, lw⟩ := ow.c1; have bb21 := Lib.hid (((BB.out.alloc BB.out.size (.cells #[.slice none 0 0] 40)).drew).trans (b21.mono (by have hq := BB.out.size; simp <;> omega))); have s21 := b21.size; (try simp at s21); have qd21 := q21.rd) | (((with_reducible refine (Units.copy A0 c0 l0 _ hl0 (by (repeat (first | with_reducible assumption | (with_reducible refine K.Rd.alloc ?_ _) | (with_reducible refine K.Rd.drew ?_) | (with_reducible refine K.Rd.below ?_ (by with_reducible assumption)))))).mono ?_)); rintro e w21 ⟨X21, n21, rfl, q21, b21⟩; (try (replace ow := ow.below b21; obtain ⟨cw, fw, lw⟩ := ow.c1)); have bb21 := Lib.hid (BB.out.drew.trans (b21.mono (by have hq := BB.out.size; simp <;> omega))); have s21 := b21.size; (try simp at s21); have qd21 := q21.rd)) | (go_at_call 26; first | (((with_reducible refine (AmountH.copy A1 c1 l1 (w21.alloc (.cells #[.slice none 0 0] 40)) hl1 (by (repeat (first | with_reducible assumption | (with_reducible refine K.Rd.alloc ?_ _) | (with_reducible refine K.Rd.drew ?_) | (with_reducible refine K.Rd.below ?_ (by with_reducible assumption)))))).mono ?_)); rintro e w22 ⟨X22, n22, rfl, q22, b22⟩; have ow := (K.Own.new w21 #[.slice none 0 0] 40).below b22; obtain ⟨cw, fw, lw⟩ := ow.c1; have bb22 := Lib.hid (((bb21.out.alloc bb21.out.size (.cells #[.slice none 0 0] 40))).trans (b22.mono (by have hq := bb21.out.size; simp <;> omega))); have s22 := b22.size; (try simp at s22); have qd22 := q22.rd) | (((with_reducible refine (AmountH.copy A1 c1 l1 _ hl1 (by (repeat (first | with_reducible assumption | (with_reducible refine K.Rd.alloc ?_ _) | (with_reducible refine K.Rd.drew ?_) | (with_reducible refine K.Rd.below ?_ (by with_reducible assumption)))))).mono ?_)); rintro e w22 ⟨X22, n22, rfl, q22, b22⟩; (try (replace ow := ow.below b22; obtain ⟨cw, fw, lw⟩ := ow.c1)); have bb22 := Lib.hid (bb21.out.trans (b22.mono (by have hq := bb21.out.size; simp <;> omega))); have s22 := b22.size; (try simp at s22); have qd22 := q22.rd)) | (go_at_call 43; first | (((with_reducible refine (HI.out X21 n21 X22 n22 (w22.alloc (.cells #[.slice none 0 0] 40)) (by (repeat (first | with_reducible assumption | (with_reducible refine K.Rd.alloc ?_ _) | (with_reducible refine K.Rd.drew ?_) | (with_reducible refine K.Rd.below ?_ (by with_reducible assumption))))) q21.max.2 q21.cap (by (repeat (first | with_reducible assumption | (with_reducible refine K.Rd.alloc ?_ _) | (with_reducible refine K.Rd.drew ?_) | (with_reducible refine K.Rd.below ?_ (by with_reducible assumption)))))).mono ?_)); rintro e w23 ⟨X, n, rfl, row, b23⟩; have ow := (K.Own.new w22 #[.slice none 0 0] 40).below b23; obtain ⟨cw, fw, lw⟩ := ow.c1; have bb23 := Lib.hid (((bb22.out.alloc bb22.out.size (.cells #[.slice none 0 0] 40))).trans (b23.mono (by have hq := bb22.out.size; simp <;> omega))); have s23 := b23.size; (try simp at s23); have hlt := row.lt; (try simp at hlt); have rw0 := row.more (lo' := w19.heap.size) (by have hq := bb22.out.size; simp <;> omega)) | (((with_reducible refine (HI.out X21 n21 X22 n22 _ (by (repeat (first | with_reducible assumption | (with_reducible refine K.Rd.alloc ?_ _) | (with_reducible refine K.Rd.drew ?_) | (with_reducible refine K.Rd.below ?_ (by with_reducible assumption))))) q21.max.2 q21.cap (by (repeat (first | with_reducible assumption | (with_reducible refine K.Rd.alloc ?_ _) | (with_reducible refine K.Rd.drew ?_) | (with_reducible refine K.Rd.below ?_ (by with_reducible assumption)))))).mono ?_)); rintro e w23 ⟨X, n, rfl, row, b23⟩; (try (replace ow := ow.below b23; obtain ⟨cw, fw, lw⟩ := ow.c1)); have bb23 := Lib.hid (bb22.out.trans (b23.mono (by have hq := bb22.out.size; simp <;> omega))); have s23 := b23.size; (try simp at s23); have hlt := row.lt; (try simp at hlt); have rw0 := row.more (lo' := w19.heap.size) (by have hq := bb22.out.size; simp <;> omega))))
    all_goals have h0 := BB.out.size
    all_goals have h21 := bb21.out.size
    all_goals have h22 := bb22.out.size
    all_goals have h23 := bb23.out.size
    all_goals have bbz := bb23.out
    all_goals go_wp2_with fail
    all_goals go_meet
    all_goals exact ⟨X, n, _, rfl, rfl, (by first | exact (K.Own.set1 ow _).1 | exact K.Box.new _ _ _), by (repeat (first | with_reducible assumption | (with_reducible refine K.Row.setNe ?_ (fun g hg => by have hq := hlt g hg; simp at hq ⊢; omega) _) | (with_reducible refine K.Row.alloc ?_ _) | (with_reducible refine K.Row.drew ?_))), (fun h => by have hq := hlt _ h; first | omega | (simp at hq; done) | (simp at hq; omega)), by first | omega | (simp; done) | (simp; omega), by (repeat (first | exact Below.refl _ _ | assumption | (refine K.below_drewN ?_ _) | (refine Below.drew ?_) | (refine Below.alloc ?_ (by first | (simp; done) | (simp; omega) | omega) _) | (refine Below.setCell ?_ (by first | (simp; done) | (simp; omega) | omega) _)))⟩
  obtain ⟨X20, n20, g20, rfl, rfl, y20, q20, nb_q20_y20, hg20, b20⟩ := hcut
  rename World => w20
  have ap_q3_q20 := K.apart q3 q20 (Nat.le_refl _) (Nat.le_refl _)
  have ap_q7_q20 := K.apart q7 q20 (Nat.le_refl _) (Nat.le_refl _)
  have ap_q8_q20 := K.apart q8 q20 (Nat.le_refl _) (Nat.le_refl _)
  have ap_q9_q20 := K.apart q9 q20 (Nat.le_refl _) (Nat.le_refl _)
  have nb_q20_x1 : K.blk X20 ≠ some (W.heap.size) := fun h => by have h1 := (q20.lt _ h).1; have h2 := x1.1; omega
  have nb_q20_y3 : K.blk X20 ≠ some (g3) := fun h => by have h1 := (q20.lt _ h).1; have h2 := y3.1; omega
  have nb_q20_y8 : K.blk X20 ≠ some (w8.heap.size) := fun h => by have h1 := (q20.lt _ h).1; have h2 := y8.1; omega
  have nb_q20_y9 : K.blk X20 ≠ some (w9.heap.size) := fun h => by have h1 := (q20.lt _ h).1; have h2 := y9.1; omega
  replace q20 := q20.more bb.size
  have nb_q3_y20 : K.blk X3 ≠ some g20 := fun h => by have h1 := (q3.lt _ h).2; omega
  have nb_q7_y20 : K.blk X7 ≠ some g20 := fun h => by have h1 := (q7.lt _ h).2; omega
  have nb_q8_y20 : K.blk X8 ≠ some g20 := fun h => by have h1 := (q8.lt _ h).2; omega
  have nb_q9_y20 : K.blk X9 ≠ some g20 := fun h => by have h1 := (q9.lt _ h).2; omega
  replace q3 := q3.below b20
  replace q7 := q7.below b20
  replace q8 := q8.below b20
  replace q9 := q9.below b20
  replace x1 := x1.below b20
  replace y3 := y3.below b20
  replace y8 := y8.below b20
  replace y9 := y9.below b20
  replace bb := bb.trans (b20.mono bb.size)
  have y30 := y3.c1
  have y3g := y3.1
  have y200 := y20.c1
  have y20g := y20.1
  go_wp2_with fail
  refine (AmountH.eq_yes X20 X3 n20 n3 L _ hlen (q20.rd) (q3.rd)).mono ?_
  rintro e w24 ⟨rfl, b24⟩
  replace q3 := q3.below b24
  replace q7 := q7.below b24
  replace q8 := q8.below b24
  replace q9 := q9.below b24
  replace q20 := q20.below b24
  replace x1 := x1.below b24
  replace y3 := y3.below b24
  replace y8 := y8.below b24
  replace y9 := y9.below b24
  replace y20 := y20.below b24
  replace bb := bb.trans (b24.mono bb.size)
  clear y30 y3g y200 y20g
  have y90 := y9.c1
  have y9g := y9.1
  go_wp2_with fail
  refine (AmountH.held X9 _ n9 1 _ hlen (by omega) (by omega) q9.rd).mono ?_
  rintro e w25 ⟨he, b25⟩
  obtain rfl : e = .returned (.int .i64 (k18z : Int)) := by rw [he]; exact congrArg (fun x => Ending.returned (.int .i64 x)) (by omega)
  clear he
  replace q3 := q3.below b25
  replace q7 := q7.below b25
  replace q8 := q8.below b25
  replace q9 := q9.below b25
  replace q20 := q20.below b25
  replace x1 := x1.below b25
  replace y3 := y3.below b25
  replace y8 := y8.below b25
  replace y9 := y9.below b25
  replace y20 := y20.below b25
  replace bb := bb.trans (b25.mono bb.size)
  clear y90 y9g
  go_wp2_with fail
  go_ret
  exact ⟨rfl, b0.trans (bb.mono b0.size)⟩
end Go.Proofs.Ytfgnmjnlhnpmoaa.fnExactTimesOf
