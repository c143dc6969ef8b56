/-
  The walk of FnExactMeanLevel.
-/
import Derived.Test.YtebbihckndjbeaaArg
import Derived.Test.YtebbihckndjbeaaKit2
import Derived.Test.YtebbihckndjbeaaPupils
import Derived.Test.YtebbihckndjbeaaPupilE
set_option linter.unusedVariables false
namespace Go.Proofs.Ytebbihckndjbeaa.fnExactMeanLevel
open Go.ChangeShapes Go.WideShapes Go.ChangeAt Go.RowKit

set_option maxRecDepth 100000 in
set_option maxHeartbeats 2000000 in
/-- the walk: the law's text returns true; nothing that was there has turned. -/
theorem walk (A0 : Option Addr) (c0 : Nat) (l0 : List M.Pupil) (a1 : Int) (W : World) (h0 : K.Rd W 5 A0 l0.length (l0.flatMap M.pupilCells)) (m0 : l0.length ≤ 9223372036854775807) (s0 : ∀ s ∈ l0, s.wf) (h1 : (Lit.int .i64 a1).wf = true) :
    Calls Try.prog 8 #[.slice A0 l0.length c0, .int .i64 a1] W fun e w' => e = .returned (.bool true) ∧ Below W.heap.size W w' := by
  have b0 : Below W.heap.size W W := Below.refl _ _
  have r0 := h0.below b0
  have bb : Below W.heap.size W W := Below.refl _ _
  go_enter Try.func8, Try.ntmps8
  have HL0 := Lib.hid (@M.szf_len (l0.map (·.name)) 1048576)
  go_wp2_with fail
  refine (Pupils.sz A0 c0 l0 1048576 _ m0 (fun x hx => (s0 x hx).2.1) (by omega) (by omega) (r0.below bb)).mono ?_
  rintro e w1 ⟨⟨d1, rfl, hd1⟩, b1⟩
  replace bb := bb.trans (b1.mono bb.size)
  by_cases hneg1 : d1 < 0
  · go_wp2
    go_ret
    exact ⟨rfl, b0.trans (bb.mono b0.size)⟩
  have hzz1 : 0 ≤ M.szf (l0.map (·.name)) 1048576 := by omega
  have hlx0 := (HL0.out hzz1).1
  have hly0 := (HL0.out hzz1).2
  have hz1 : 0 ≤ d1 := by omega
  have hu1 : d1 ≤ 1048576 := by have := M.szf_le (l0.map (·.name)) 1048576; omega
  rw [List.length_map] at hlx0
  have hl0 : l0.length ≤ 1048576 := by omega
  have hss0 : ∀ x ∈ l0, x.name.size ≤ 1048576 := fun x hx => by have := hly0 x.name (List.mem_map.2 ⟨x, hx, rfl⟩); omega
  clear hd1 hneg1 hzz1 hlx0 hly0 HL0
  have hnm0 : ∀ p ∈ l0, p.name.size ≤ 9223372036854775807 := fun p hp => by have := hss0 p hp; omega
  have hs := fun (A0q : Option Addr) (c0q : Nat) (W' : World) (r0q : K.Rd W' 5 A0q l0.length (l0.flatMap M.pupilCells)) => PupilE.s_mean A0q c0q l0 a1 W' hl0 hnm0 r0q
  have hi := fun (A0q : Option Addr) (c0q : Nat) (W' : World) (r0q : K.Rd W' 5 A0q l0.length (l0.flatMap M.pupilCells)) => PupilE.i_mean A0q c0q l0 a1 W' hl0 hnm0 r0q
  generalize M.meanLv l0 a1 = R at hs hi
  obtain ⟨⟨v, v2⟩, b⟩ := R
  dsimp only at hs hi
  have hbb_b : (b != b) = false := by simp
  have HS := Lib.hid hs
  have HI := Lib.hid hi
  clear hs hi
  try clear m0 s0 h0
  go_wp2_with fail
  refine (Pupils.copy A0 c0 l0 _ hl0 (r0.below bb)).mono ?_
  rintro e w2 ⟨X2, n2, rfl, q2, b2⟩
  replace q2 := q2.more bb.size
  replace bb := bb.trans (b2.mono bb.size)
  go_wp2_with fail
  refine (HS.out X2 n2 _ q2.rd).mono ?_
  rintro e w3 ⟨rfl, b3⟩
  replace q2 := q2.below b3
  replace bb := bb.trans (b3.mono bb.size)
  go_wp2_with fail
  refine (Pupils.copy A0 c0 l0 _ hl0 (r0.below bb)).mono ?_
  rintro e w4 ⟨X4, n4, rfl, q4, b4⟩
  have ap_q2_q4 := K.apart q2 q4 (Nat.le_refl _) (Nat.le_refl _)
  replace q4 := q4.more bb.size
  replace q2 := q2.below b4
  replace bb := bb.trans (b4.mono bb.size)
  go_wp2_with fail
  refine (HI.out X4 n4 _ q4.rd).mono ?_
  rintro e w5 ⟨rfl, b5⟩
  replace q2 := q2.below b5
  replace q4 := q4.below b5
  replace bb := bb.trans (b5.mono bb.size)
  go_wp2_with fail
  refine (Pupils.copy A0 c0 l0 _ hl0 (r0.below bb)).mono ?_
  rintro e w6 ⟨X6, n6, rfl, q6, b6⟩
  have ap_q2_q6 := K.apart q2 q6 (Nat.le_refl _) (Nat.le_refl _)
  have ap_q4_q6 := K.apart q4 q6 (Nat.le_refl _) (Nat.le_refl _)
  replace q6 := q6.more bb.size
  replace q2 := q2.below b6
  replace q4 := q4.below b6
  replace bb := bb.trans (b6.mono bb.size)
  go_wp2_with fail
  refine (Pupils.eq_yes X4 X6 n4 n6 l0 _ hl0 q4.rd q6.rd).mono ?_
  rintro e w7 ⟨rfl, b7⟩
  replace q2 := q2.below b7
  replace q4 := q4.below b7
  replace q6 := q6.below b7
  replace bb := bb.trans (b7.mono bb.size)
  clear q6
  go_wp2_with fail
  go_ret
  exact ⟨rfl, b0.trans (bb.mono b0.size)⟩
end Go.Proofs.Ytebbihckndjbeaa.fnExactMeanLevel
