/-
  The walk of FnExactAmountText.
-/
import Derived.Test.YtfgnmjnlhnpmoaaArg
import Derived.Test.YtfgnmjnlhnpmoaaKit2
import Derived.Test.YtfgnmjnlhnpmoaaKit3
import Derived.Test.YtfgnmjnlhnpmoaaUnits
import Derived.Test.YtfgnmjnlhnpmoaaSystem
import Derived.Test.YtfgnmjnlhnpmoaaAmountH
import Derived.Test.YtfgnmjnlhnpmoaaAmountF
import Derived.Test.YtfgnmjnlhnpmoaaAmtText
set_option linter.unusedVariables false
namespace Go.Proofs.Ytfgnmjnlhnpmoaa.fnExactAmountText
open Go.ChangeShapes Go.WideShapes Go.ChangeAt Go.RowKit

set_option maxRecDepth 100000 in
set_option maxHeartbeats 16000000 in
/-- the walk: the law's text returns true; nothing that was there has turned. -/
theorem walk (A0 : Option Addr) (c0 : Nat) (l0 : List M.Unit) (A1 : Option Addr) (c1 : Nat) (l1 : List Int) (W : World) (h0 : K.Rd W 2 A0 l0.length (l0.flatMap M.unitCells)) (m0 : l0.length ≤ 9223372036854775807) (s0 : ∀ s ∈ l0, s.wf) (h1 : K.Rd W 1 A1 l1.length (l1.map (Value.int .i64))) (m1 : l1.length ≤ 9223372036854775807) (s1 : ∀ x ∈ l1, M.i64 x) :
    Calls Try.prog 9 #[.slice A0 l0.length c0, .agg #[.slice A1 l1.length c1]] W fun e w' => e = .returned (.bool true) ∧ Below W.heap.size W w' := by
  obtain ⟨o1, ho1⟩ : ∃ o : Obj, o = .cells #[.slice A1 l1.length c1] 37 := ⟨_, rfl⟩
  have x1 : K.Box (W.alloc o1) (W.heap.size) [.slice A1 l1.length c1] := by have h := K.Box.new W #[.slice A1 l1.length c1] 37; rw [← ho1] at h; exact h
  have b0 : Below W.heap.size W (W.alloc o1) := (Below.refl W.heap.size W).alloc (Nat.le_refl _) _
  have r0 := h0.below b0
  have r1 := h1.below b0
  have bb : Below (W.alloc o1).heap.size (W.alloc o1) (W.alloc o1) := Below.refl _ _
  subst ho1
  go_enter Try.func9, Try.ntmps9
  have HL0 := Lib.hid (@M.szf_len (l0.map (·.name)) 1048576)
  go_wp2_with fail
  refine (Units.sz A0 c0 l0 1048576 _ m0 (fun x hx => (s0 x hx).1) (by omega) (by omega) (r0.below bb)).mono ?_
  rintro e w1 ⟨⟨dz1, rfl, hd1⟩, b1⟩
  replace x1 := x1.below b1
  replace bb := bb.trans (b1.mono bb.size)
  by_cases hneg1 : dz1 < 0
  · go_wp2
    go_ret
    exact ⟨rfl, b0.trans (bb.mono b0.size)⟩
  have hzz1 : 0 ≤ M.szf (l0.map (·.name)) 1048576 := by omega
  have hlx0 := (HL0.out hzz1).1
  have hly0 := (HL0.out hzz1).2
  have hz1 : 0 ≤ dz1 := by omega
  have hu1 : dz1 ≤ 1048576 := by have := M.szf_le (l0.map (·.name)) 1048576; omega
  rw [List.length_map] at hlx0
  have hl0 : l0.length ≤ 1048576 := by omega
  have hss0 : ∀ x ∈ l0, x.name.size ≤ 1048576 := fun x hx => by have := hly0 x.name (List.mem_map.2 ⟨x, hx, rfl⟩); omega
  clear hd1 hneg1 hzz1 hlx0 hly0 HL0
  have x10 := x1.c1
  have x1g := x1.1
  go_wp2_with fail
  refine (AmountH.sz A1 c1 l1.length dz1 _ m1 (by omega) (by omega)).mono ?_
  rintro e w2 ⟨⟨dz2, rfl, hd2⟩, b2⟩
  replace x1 := x1.below b2
  replace bb := bb.trans (b2.mono bb.size)
  clear x10 x1g
  by_cases hneg2 : dz2 < 0
  · go_wp2
    go_ret
    exact ⟨rfl, b0.trans (bb.mono b0.size)⟩
  have hl1 : l1.length ≤ 1048576 := by omega
  have hz2 : 0 ≤ dz2 ∧ dz2 ≤ 1048576 := by omega
  clear hd2 hneg2
  have hnm0 : ∀ u ∈ l0, u.name.size ≤ 9223372036854775807 := fun u hu => by have := hss0 u hu; omega
  have hs := fun (A0q : Option Addr) (c0q : Nat) (A1q : Option Addr) (c1q : Nat) (W' : World) (r0q : K.Rd W' 2 A0q l0.length (l0.flatMap M.unitCells)) (e0q : l0.length ≤ c0q) (z0q : c0q ≤ 9223372036854775807) (r1q : K.Rd W' 1 A1q l1.length (l1.map (Value.int .i64))) => AmtText.s_text A0q c0q l0 A1q c1q l1 W' hl0 hl1 hnm0 e0q z0q r0q r1q
  have hi := fun (A0q : Option Addr) (c0q : Nat) (A1q : Option Addr) (c1q : Nat) (W' : World) (r0q : K.Rd W' 2 A0q l0.length (l0.flatMap M.unitCells)) (e0q : l0.length ≤ c0q) (z0q : c0q ≤ 9223372036854775807) (r1q : K.Rd W' 1 A1q l1.length (l1.map (Value.int .i64))) => AmtText.i_text A0q c0q l0 A1q c1q l1 W' hl0 hl1 hnm0 e0q z0q r0q r1q
  generalize M.amountText l0 l1 = R at hs hi
  obtain ⟨v, b⟩ := R
  dsimp only at hs hi
  have hbb_b : (b != b) = false := by simp
  have HS := Lib.hid hs
  have HI := Lib.hid hi
  clear hs hi
  try clear m0 s0 h0
  have x10 := x1.c1
  have x1g := x1.1
  go_wp2_with fail
  have x1d := x1.drew
  have rd3 := (r0.below bb).drew
  have rd4 := (r1.below bb).drew
  go_region_held3 (fun w' => w'.cell? ⟨W.heap.size, 0, none⟩ = some (.slice A1 l1.length c1))
    (first | go_keep | exact (x1d.below b3).2 0 _ rfl | exact ((x1d.below b3).below b4).2 0 _ rfl | exact (((x1d.below b3).below b4).below b5).2 0 _ rfl)
    (first | (go_at_call 19; have rr3 := rd3; refine (Units.copy A0 c0 l0 _ hl0 rr3).mono ?_; rintro e w3 ⟨X3, n3, rfl, q3, b3⟩) | (go_at_call 26; have rr4 := (rd4.below b3); refine (AmountH.copy A1 c1 l1 _ hl1 rr4).mono ?_; rintro e w4 ⟨X4, n4, rfl, q4, b4⟩) | (go_at_call 36; refine (HS.out X3 n3 X4 n4 _ (q3.rd.below b4) q3.max.2 q3.cap q4.rd).mono ?_; rintro e w5 ⟨rfl, b5⟩))
  replace bb := bb.drew
  replace x1 := x1.drew
  have nb_q3_x1 : K.blk X3 ≠ some (W.heap.size) := fun h => by have h1 := (q3.lt _ h).1; have h2 := x1.1; omega
  replace q3 := q3.more bb.size
  replace x1 := x1.below b3
  replace bb := bb.trans (b3.mono bb.size)
  have ap_q3_q4 := K.apart q3 q4 (Nat.le_refl _) (Nat.le_refl _)
  have nb_q4_x1 : K.blk X4 ≠ some (W.heap.size) := fun h => by have h1 := (q4.lt _ h).1; have h2 := x1.1; omega
  replace q4 := q4.more bb.size
  replace q3 := q3.below b4
  replace x1 := x1.below b4
  replace bb := bb.trans (b4.mono bb.size)
  clear x1d
  clear x10 x1g
  replace q3 := q3.below b5
  replace q4 := q4.below b5
  replace x1 := x1.below b5
  replace bb := bb.trans (b5.mono bb.size)
  go_wp2_with fail
  refine (Units.copy A0 c0 l0 _ hl0 (r0.below bb)).mono ?_
  rintro e w6 ⟨X6, n6, rfl, q6, b6⟩
  have ap_q3_q6 := K.apart q3 q6 (Nat.le_refl _) (Nat.le_refl _)
  have ap_q4_q6 := K.apart q4 q6 (Nat.le_refl _) (Nat.le_refl _)
  have nb_q6_x1 : K.blk X6 ≠ some (W.heap.size) := fun h => by have h1 := (q6.lt _ h).1; have h2 := x1.1; omega
  replace q6 := q6.more bb.size
  replace q3 := q3.below b6
  replace q4 := q4.below b6
  replace x1 := x1.below b6
  replace bb := bb.trans (b6.mono bb.size)
  have x10 := x1.c1
  have x1g := x1.1
  go_wp2_with fail
  refine (AmountH.copy A1 c1 l1 _ hl1 (r1.below bb)).mono ?_
  rintro e w7 ⟨X7, n7, rfl, q7, b7⟩
  have ap_q3_q7 := K.apart q3 q7 (Nat.le_refl _) (Nat.le_refl _)
  have ap_q4_q7 := K.apart q4 q7 (Nat.le_refl _) (Nat.le_refl _)
  have ap_q6_q7 := K.apart q6 q7 (Nat.le_refl _) (Nat.le_refl _)
  have nb_q7_x1 : K.blk X7 ≠ some (W.heap.size) := fun h => by have h1 := (q7.lt _ h).1; have h2 := x1.1; omega
  replace q7 := q7.more bb.size
  replace q3 := q3.below b7
  replace q4 := q4.below b7
  replace q6 := q6.below b7
  replace x1 := x1.below b7
  replace bb := bb.trans (b7.mono bb.size)
  clear x10 x1g
  obtain ⟨ob, ho⟩ : ∃ o : Obj, o = .cells #[.slice X7 l1.length n7] 40 := ⟨_, rfl⟩
  have y7 : K.Box (w7.alloc ob) w7.heap.size [.slice X7 l1.length n7] := by rw [ho]; exact K.Box.new _ _ _
  have nb_q3_y7 : K.blk X3 ≠ some (w7.heap.size) := fun h => Nat.lt_irrefl _ (q3.lt _ h).2
  have nb_q4_y7 : K.blk X4 ≠ some (w7.heap.size) := fun h => Nat.lt_irrefl _ (q4.lt _ h).2
  have nb_q6_y7 : K.blk X6 ≠ some (w7.heap.size) := fun h => Nat.lt_irrefl _ (q6.lt _ h).2
  have nb_q7_y7 : K.blk X7 ≠ some (w7.heap.size) := fun h => Nat.lt_irrefl _ (q7.lt _ h).2
  have x1a0 := x1.c1
  have x1ag := x1.1
  replace q3 := q3.alloc ob
  replace q4 := q4.alloc ob
  replace q6 := q6.alloc ob
  replace q7 := q7.alloc ob
  replace x1 := x1.alloc ob
  replace bb := bb.alloc bb.size ob
  subst ho
  have y70 := y7.c1
  have y7g := y7.1
  go_wp2_with fail
  refine (HI.out X6 n6 X7 n7 _ q6.rd q6.max.2 q6.cap q7.rd).mono ?_
  rintro e w8 ⟨rfl, b8⟩
  replace q3 := q3.below b8
  replace q4 := q4.below b8
  replace q6 := q6.below b8
  replace q7 := q7.below b8
  replace x1 := x1.below b8
  replace y7 := y7.below b8
  replace bb := bb.trans (b8.mono bb.size)
  clear x1a0 x1ag y70 y7g
  go_wp2_with fail
  refine (Units.copy A0 c0 l0 _ hl0 (r0.below bb)).mono ?_
  rintro e w9 ⟨X9, n9, rfl, q9, b9⟩
  have ap_q3_q9 := K.apart q3 q9 (Nat.le_refl _) (Nat.le_refl _)
  have ap_q4_q9 := K.apart q4 q9 (Nat.le_refl _) (Nat.le_refl _)
  have ap_q6_q9 := K.apart q6 q9 (Nat.le_refl _) (Nat.le_refl _)
  have ap_q7_q9 := K.apart q7 q9 (Nat.le_refl _) (Nat.le_refl _)
  have nb_q9_x1 : K.blk X9 ≠ some (W.heap.size) := fun h => by have h1 := (q9.lt _ h).1; have h2 := x1.1; omega
  have nb_q9_y7 : K.blk X9 ≠ some (w7.heap.size) := fun h => by have h1 := (q9.lt _ h).1; have h2 := y7.1; omega
  replace q9 := q9.more bb.size
  replace q3 := q3.below b9
  replace q4 := q4.below b9
  replace q6 := q6.below b9
  replace q7 := q7.below b9
  replace x1 := x1.below b9
  replace y7 := y7.below b9
  replace bb := bb.trans (b9.mono bb.size)
  go_wp2_with fail
  refine (Units.eq_yes X6 X9 n6 n9 l0 _ hl0 q6.rd q9.rd).mono ?_
  rintro e w10 ⟨rfl, b10⟩
  replace q3 := q3.below b10
  replace q4 := q4.below b10
  replace q6 := q6.below b10
  replace q7 := q7.below b10
  replace q9 := q9.below b10
  replace x1 := x1.below b10
  replace y7 := y7.below b10
  replace bb := bb.trans (b10.mono bb.size)
  clear q9
  have x10 := x1.c1
  have x1g := x1.1
  have y70 := y7.c1
  have y7g := y7.1
  go_wp2_with fail
  have x1d := x1.drew
  have y7d := y7.drew
  have rdd := (r1.below bb).drew
  go_region_held3 (fun w' => w'.cell? ⟨W.heap.size, 0, none⟩ = some (.slice A1 l1.length c1) ∧ w'.cell? ⟨w7.heap.size, 0, none⟩ = some (.slice X7 l1.length n7))
    (first | go_keep | exact ⟨(x1d.below b11).2 0 _ rfl, (y7d.below b11).2 0 _ rfl⟩ | exact ⟨((x1d.below b11).below b12).2 0 _ rfl, ((y7d.below b11).below b12).2 0 _ rfl⟩)
    (first | (go_at_call 26; refine (AmountH.copy A1 c1 l1 _ hl1 (by exact rdd)).mono ?_; rintro e w11 ⟨X11, n11, rfl, q11, b11⟩) | (go_at_call 28; refine (AmountH.eq_yes X7 X11 n7 n11 l1 _ hl1 (by exact q7.drew.rd.below b11) (by exact q11.rd)).mono ?_; rintro e w12 ⟨rfl, b12⟩))
  replace bb := bb.drew
  replace q3 := q3.drew
  replace q4 := q4.drew
  replace q6 := q6.drew
  replace q7 := q7.drew
  replace x1 := x1.drew
  replace y7 := y7.drew
  replace q3 := q3.below b11
  replace q4 := q4.below b11
  replace q6 := q6.below b11
  replace q7 := q7.below b11
  replace x1 := x1.below b11
  replace y7 := y7.below b11
  replace bb := bb.trans (b11.mono bb.size)
  replace q3 := q3.below b12
  replace q4 := q4.below b12
  replace q6 := q6.below b12
  replace q7 := q7.below b12
  replace x1 := x1.below b12
  replace y7 := y7.below b12
  replace bb := bb.trans (b12.mono bb.size)
  clear x1d y7d rdd
  clear x10 x1g y70 y7g
  go_wp2_with fail
  go_ret
  exact ⟨rfl, b0.trans (bb.mono b0.size)⟩
end Go.Proofs.Ytfgnmjnlhnpmoaa.fnExactAmountText
