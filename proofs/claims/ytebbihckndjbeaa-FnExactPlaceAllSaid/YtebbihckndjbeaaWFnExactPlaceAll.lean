/-
  The walk of FnExactPlaceAll.
-/
import Derived.Test.YtebbihckndjbeaaArg
import Derived.Test.YtebbihckndjbeaaKit2
import Derived.Test.YtebbihckndjbeaaPupils
import Derived.Test.YtebbihckndjbeaaPupilQ
set_option linter.unusedVariables false
namespace Go.Proofs.Ytebbihckndjbeaa.fnExactPlaceAll
open Go.ChangeShapes Go.WideShapes Go.ChangeAt Go.RowKit

set_option maxRecDepth 100000 in
set_option maxHeartbeats 2000000 in
/-- the walk: the law's text returns true; nothing that was there has turned. -/
theorem walk (A0 : Option Addr) (c0 : Nat) (l0 : List M.Pupil) (W : World) (h0 : K.Rd W 5 A0 l0.length (l0.flatMap M.pupilCells)) (m0 : l0.length ≤ 9223372036854775807) (s0 : ∀ s ∈ l0, s.wf) :
    Calls Try.prog 15 #[.slice A0 l0.length c0] W fun e w' => e = .returned (.bool true) ∧ Below W.heap.size W w' := by
  have b0 : Below W.heap.size W W := Below.refl _ _
  have r0 := h0.below b0
  have bb : Below W.heap.size W W := Below.refl _ _
  go_enter Try.func15, Try.ntmps15
  have HL0 := Lib.hid (@M.szf_len (l0.map (·.name)) 1048576)
  go_wp2_with fail
  refine (Pupils.sz A0 c0 l0 1048576 _ m0 (fun x hx => (s0 x hx).2.1) (by omega) (by omega) (r0.below bb)).mono ?_
  rintro e w1 ⟨⟨d1, rfl, hd1⟩, b1⟩
  replace bb := bb.trans (b1.mono bb.size)
  by_cases hneg1 : d1 < 0
  · go_wp2
    go_ret
    exact ⟨rfl, b0.trans (bb.mono b0.size)⟩
  have hzz1 : 0 ≤ M.szf (l0.map (·.name)) 1048576 := by omega
  have hlx0 := (HL0.out hzz1).1
  have hly0 := (HL0.out hzz1).2
  have hz1 : 0 ≤ d1 := by omega
  have hu1 : d1 ≤ 1048576 := by have := M.szf_le (l0.map (·.name)) 1048576; omega
  rw [List.length_map] at hlx0
  have hl0 : l0.length ≤ 1048576 := by omega
  have hss0 : ∀ x ∈ l0, x.name.size ≤ 1048576 := fun x hx => by have := hly0 x.name (List.mem_map.2 ⟨x, hx, rfl⟩); omega
  clear hd1 hneg1 hzz1 hlx0 hly0 HL0
  have hnm0 : ∀ p ∈ l0, p.name.size ≤ 9223372036854775807 := fun p hp => by have := hss0 p hp; omega
  have hs := fun (A0q : Option Addr) (c0q : Nat) (W' : World) (r0q : K.Rd W' 5 A0q l0.length (l0.flatMap M.pupilCells)) => PupilQ.s_place A0q c0q l0 W' hl0 hnm0 r0q
  have hi := fun (A0q : Option Addr) (c0q : Nat) (W' : World) (r0q : K.Rd W' 5 A0q l0.length (l0.flatMap M.pupilCells)) => PupilQ.i_place A0q c0q l0 W' hl0 hnm0 r0q
  have hlen : (M.placeAll l0).1.1.length ≤ 1048576 := by have := M.placeAll_le l0; omega
  generalize M.placeAll l0 = R at hs hi hlen
  obtain ⟨⟨L, v⟩, b⟩ := R
  dsimp only at hs hi hlen
  have hbb_b : (b != b) = false := by simp
  have HS := Lib.hid hs
  have HI := Lib.hid hi
  clear hs hi
  try clear m0 s0 h0
  go_wp2_with fail
  refine (Pupils.copy A0 c0 l0 _ hl0 (r0.below bb)).mono ?_
  rintro e w2 ⟨X2, n2, rfl, q2, b2⟩
  replace q2 := q2.more bb.size
  replace bb := bb.trans (b2.mono bb.size)
  go_wp2_with fail
  refine (HS.out X2 n2 _ q2.rd).mono ?_
  rintro e w3 ⟨X3, n3, rfl, q3, b3⟩
  have ap_q2_q3 := K.apart q2 q3 (Nat.le_refl _) (Nat.le_refl _)
  replace q3 := q3.more bb.size
  replace q2 := q2.below b3
  replace bb := bb.trans (b3.mono bb.size)
  go_wp2_with fail
  refine (Pupils.copy A0 c0 l0 _ hl0 (r0.below bb)).mono ?_
  rintro e w4 ⟨X4, n4, rfl, q4, b4⟩
  have ap_q2_q4 := K.apart q2 q4 (Nat.le_refl _) (Nat.le_refl _)
  have ap_q3_q4 := K.apart q3 q4 (Nat.le_refl _) (Nat.le_refl _)
  replace q4 := q4.more bb.size
  replace q2 := q2.below b4
  replace q3 := q3.below b4
  replace bb := bb.trans (b4.mono bb.size)
  go_wp2_with fail
  refine (HI.out X4 n4 _ q4.rd).mono ?_
  rintro e w5 ⟨X5, n5, rfl, q5, b5⟩
  have ap_q2_q5 := K.apart q2 q5 (Nat.le_refl _) (Nat.le_refl _)
  have ap_q3_q5 := K.apart q3 q5 (Nat.le_refl _) (Nat.le_refl _)
  have ap_q4_q5 := K.apart q4 q5 (Nat.le_refl _) (Nat.le_refl _)
  replace q5 := q5.more bb.size
  replace q2 := q2.below b5
  replace q3 := q3.below b5
  replace q4 := q4.below b5
  replace bb := bb.trans (b5.mono bb.size)
  go_wp2_with fail
  refine (Pupils.eq_yes X5 X3 n5 n3 L _ hlen q5.rd q3.rd).mono ?_
  rintro e w6 ⟨rfl, b6⟩
  replace q2 := q2.below b6
  replace q3 := q3.below b6
  replace q4 := q4.below b6
  replace q5 := q5.below b6
  replace bb := bb.trans (b6.mono bb.size)
  go_wp2_with fail
  refine (Pupils.copy A0 c0 l0 _ hl0 (r0.below bb)).mono ?_
  rintro e w7 ⟨X7, n7, rfl, q7, b7⟩
  have ap_q2_q7 := K.apart q2 q7 (Nat.le_refl _) (Nat.le_refl _)
  have ap_q3_q7 := K.apart q3 q7 (Nat.le_refl _) (Nat.le_refl _)
  have ap_q4_q7 := K.apart q4 q7 (Nat.le_refl _) (Nat.le_refl _)
  have ap_q5_q7 := K.apart q5 q7 (Nat.le_refl _) (Nat.le_refl _)
  replace q7 := q7.more bb.size
  replace q2 := q2.below b7
  replace q3 := q3.below b7
  replace q4 := q4.below b7
  replace q5 := q5.below b7
  replace bb := bb.trans (b7.mono bb.size)
  go_wp2_with fail
  refine (Pupils.eq_yes X4 X7 n4 n7 l0 _ hl0 q4.rd q7.rd).mono ?_
  rintro e w8 ⟨rfl, b8⟩
  replace q2 := q2.below b8
  replace q3 := q3.below b8
  replace q4 := q4.below b8
  replace q5 := q5.below b8
  replace q7 := q7.below b8
  replace bb := bb.trans (b8.mono bb.size)
  clear q7
  go_wp2_with fail
  refine (Pupils.mark X4 _ n4 _ 1 _ _ hl0 (by omega) (by omega) q4).mono ?_
  rintro e w9 ⟨he, z9, g9⟩
  replace q2 := q2.kept g9 ap_q2_q4
  replace q3 := q3.kept g9 ap_q3_q4
  replace q5 := q5.kept g9 (fun g h1 h2 => ap_q4_q5 g h2 h1)
  replace bb := bb.trans (K.below_of_grown g9 bb.size (fun g hg => (q4.lt g hg).1))
  replace q4 := z9
  clear z9 g9
  obtain ⟨k9z, hkk9z, hlk9z, hjk9z⟩ : ∃ k : Nat, k ≤ 1 + 5 * l0.length ∧ 1 + 5 * l0.length ≤ k ∧ e = .returned (.int .i64 (k : Int)) := ⟨_, Nat.le_refl _, Nat.le_refl _, by rw [he]; exact congrArg (fun x => Ending.returned (.int .i64 x)) (by omega)⟩
  subst hjk9z
  clear he
  go_wp2_with fail
  refine (Pupils.eq_yes X5 X3 n5 n3 L _ hlen q5.rd q3.rd).mono ?_
  rintro e w10 ⟨rfl, b10⟩
  replace q2 := q2.below b10
  replace q3 := q3.below b10
  replace q4 := q4.below b10
  replace q5 := q5.below b10
  replace bb := bb.trans (b10.mono bb.size)
  go_wp2_with fail
  refine (Pupils.mark X5 _ n5 _ 1 _ _ hlen (by omega) (by omega) q5).mono ?_
  rintro e w11 ⟨he, z11, g11⟩
  replace q2 := q2.kept g11 ap_q2_q5
  replace q3 := q3.kept g11 ap_q3_q5
  replace q4 := q4.kept g11 ap_q4_q5
  replace bb := bb.trans (K.below_of_grown g11 bb.size (fun g hg => (q5.lt g hg).1))
  replace q5 := z11
  clear z11 g11
  obtain ⟨k11z, hkk11z, hlk11z, hjk11z⟩ : ∃ k : Nat, k ≤ 1 + 5 * L.length ∧ 1 + 5 * L.length ≤ k ∧ e = .returned (.int .i64 (k : Int)) := ⟨_, Nat.le_refl _, Nat.le_refl _, by rw [he]; exact congrArg (fun x => Ending.returned (.int .i64 x)) (by omega)⟩
  subst hjk11z
  clear he
  go_wp2_with fail
  refine (Pupils.held X5 _ n5 1 _ hlen (by omega) (by omega) q5.rd).mono ?_
  rintro e w12 ⟨he, b12⟩
  obtain rfl : e = .returned (.int .i64 (k11z : Int)) := by rw [he]; exact congrArg (fun x => Ending.returned (.int .i64 x)) (by omega)
  clear he
  replace q2 := q2.below b12
  replace q3 := q3.below b12
  replace q4 := q4.below b12
  replace q5 := q5.below b12
  replace bb := bb.trans (b12.mono bb.size)
  go_wp2_with fail
  refine (Pupils.copy A0 c0 l0 _ hl0 (r0.below bb)).mono ?_
  rintro e w13 ⟨X13, n13, rfl, q13, b13⟩
  have ap_q2_q13 := K.apart q2 q13 (Nat.le_refl _) (Nat.le_refl _)
  have ap_q3_q13 := K.apart q3 q13 (Nat.le_refl _) (Nat.le_refl _)
  have ap_q4_q13 := K.apart q4 q13 (Nat.le_refl _) (Nat.le_refl _)
  have ap_q5_q13 := K.apart q5 q13 (Nat.le_refl _) (Nat.le_refl _)
  replace q13 := q13.more bb.size
  replace q2 := q2.below b13
  replace q3 := q3.below b13
  replace q4 := q4.below b13
  replace q5 := q5.below b13
  replace bb := bb.trans (b13.mono bb.size)
  go_wp2_with fail
  refine (HI.out X13 n13 _ q13.rd).mono ?_
  rintro e w14 ⟨X14, n14, rfl, q14, b14⟩
  have ap_q2_q14 := K.apart q2 q14 (Nat.le_refl _) (Nat.le_refl _)
  have ap_q3_q14 := K.apart q3 q14 (Nat.le_refl _) (Nat.le_refl _)
  have ap_q4_q14 := K.apart q4 q14 (Nat.le_refl _) (Nat.le_refl _)
  have ap_q5_q14 := K.apart q5 q14 (Nat.le_refl _) (Nat.le_refl _)
  have ap_q13_q14 := K.apart q13 q14 (Nat.le_refl _) (Nat.le_refl _)
  replace q14 := q14.more bb.size
  replace q2 := q2.below b14
  replace q3 := q3.below b14
  replace q4 := q4.below b14
  replace q5 := q5.below b14
  replace q13 := q13.below b14
  replace bb := bb.trans (b14.mono bb.size)
  go_wp2_with fail
  refine (Pupils.eq_yes X14 X3 n14 n3 L _ hlen q14.rd q3.rd).mono ?_
  rintro e w15 ⟨rfl, b15⟩
  replace q2 := q2.below b15
  replace q3 := q3.below b15
  replace q4 := q4.below b15
  replace q5 := q5.below b15
  replace q13 := q13.below b15
  replace q14 := q14.below b15
  replace bb := bb.trans (b15.mono bb.size)
  go_wp2_with fail
  refine (Pupils.held X5 _ n5 1 _ hlen (by omega) (by omega) q5.rd).mono ?_
  rintro e w16 ⟨he, b16⟩
  obtain rfl : e = .returned (.int .i64 (k11z : Int)) := by rw [he]; exact congrArg (fun x => Ending.returned (.int .i64 x)) (by omega)
  clear he
  replace q2 := q2.below b16
  replace q3 := q3.below b16
  replace q4 := q4.below b16
  replace q5 := q5.below b16
  replace q13 := q13.below b16
  replace q14 := q14.below b16
  replace bb := bb.trans (b16.mono bb.size)
  go_wp2_with fail
  go_ret
  exact ⟨rfl, b0.trans (bb.mono b0.size)⟩
end Go.Proofs.Ytebbihckndjbeaa.fnExactPlaceAll
