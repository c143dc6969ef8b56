/-
  The walk of FnExactSameNames.
-/
import Derived.Test.YtebbihckndjbeaaArg
import Derived.Test.YtebbihckndjbeaaKit2
import Derived.Test.YtebbihckndjbeaaPupils
import Derived.Test.YtebbihckndjbeaaPupilT
import Derived.Test.YtebbihckndjbeaaTabH
set_option linter.unusedVariables false
namespace Go.Proofs.Ytebbihckndjbeaa.fnExactSameNames
open Go.ChangeShapes Go.WideShapes Go.ChangeAt Go.RowKit

set_option maxRecDepth 100000 in
set_option maxHeartbeats 16000000 in
/-- the walk: the law's text returns true; nothing that was there has turned. -/
theorem walk (A0 : Option Addr) (c0 : Nat) (l0 : List M.Pupil) (W : World) (h0 : K.Rd W 5 A0 l0.length (l0.flatMap M.pupilCells)) (m0 : l0.length ≤ 9223372036854775807) (s0 : ∀ s ∈ l0, s.wf) :
    Calls Try.prog 14 #[.slice A0 l0.length c0] W fun e w' => e = .returned (.bool true) ∧ Below W.heap.size W w' := by
  have b0 : Below W.heap.size W W := Below.refl _ _
  have r0 := h0.below b0
  have bb : Below W.heap.size W W := Below.refl _ _
  go_enter Try.func14, Try.ntmps14
  have HL0 := Lib.hid (@M.szf_len (l0.map (·.name)) 1048576)
  go_wp2_with fail
  refine (Pupils.sz A0 c0 l0 1048576 _ m0 (fun x hx => (s0 x hx).2.1) (by omega) (by omega) (r0.below bb)).mono ?_
  rintro e w1 ⟨⟨d1, rfl, hd1⟩, b1⟩
  replace bb := bb.trans (b1.mono bb.size)
  by_cases hneg1 : d1 < 0
  · go_wp2
    go_ret
    exact ⟨rfl, b0.trans (bb.mono b0.size)⟩
  have hzz1 : 0 ≤ M.szf (l0.map (·.name)) 1048576 := by omega
  have hlx0 := (HL0.out hzz1).1
  have hly0 := (HL0.out hzz1).2
  have hz1 : 0 ≤ d1 := by omega
  have hu1 : d1 ≤ 1048576 := by have := M.szf_le (l0.map (·.name)) 1048576; omega
  rw [List.length_map] at hlx0
  have hl0 : l0.length ≤ 1048576 := by omega
  have hss0 : ∀ x ∈ l0, x.name.size ≤ 1048576 := fun x hx => by have := hly0 x.name (List.mem_map.2 ⟨x, hx, rfl⟩); omega
  clear hd1 hneg1 hzz1 hlx0 hly0 HL0
  have hnm0 : ∀ p ∈ l0, p.name.size ≤ 9223372036854775807 := fun p hp => by have := hss0 p hp; omega
  have hs := fun (A0q : Option Addr) (c0q : Nat) (W' : World) (r0q : K.Rd W' 5 A0q l0.length (l0.flatMap M.pupilCells)) => PupilT.s_names A0q c0q l0 W' hl0 hnm0 r0q
  have hi := fun (A0q : Option Addr) (c0q : Nat) (W' : World) (hc : l0.length ≤ c0q) (hc2 : c0q ≤ 9223372036854775807) (r0q : K.Rd W' 5 A0q l0.length (l0.flatMap M.pupilCells)) => PupilT.i_names A0q c0q l0 W' hl0 hnm0 hc hc2 r0q
  obtain ⟨hbd1, hbd2⟩ := M.sameNames_bd l0
  generalize M.sameNames l0 = R at hs hi hbd1 hbd2
  obtain ⟨L, b⟩ := R
  dsimp only at hs hi hbd1 hbd2
  have hbb_b : (b != b) = false := by simp
  have HS := Lib.hid hs
  have HI := Lib.hid hi
  have HBD := Lib.hid (fun (ts : Tab.TS) (hm : ts.map (fun t => t.2.2) = L) => (⟨by have := congrArg List.length hm; simp at this; omega, fun t ht => hbd2 _ (by rw [← hm]; exact List.mem_map.2 ⟨t, ht, rfl⟩)⟩ : ts.length ≤ 12 ∧ ∀ t ∈ ts, t.2.2.length ≤ 12))
  clear hs hi hbd1 hbd2
  try clear m0 s0 h0
  go_wp2_with fail
  refine (Pupils.copy A0 c0 l0 _ hl0 (r0.below bb)).mono ?_
  rintro e w2 ⟨X2, n2, rfl, q2, b2⟩
  have hX2 := q2.lt
  have hsz2 := b2.size
  have hc2 := q2.max.2
  have hd2 := q2.cap
  replace q2 := q2.more bb.size
  replace bb := bb.trans (b2.mono bb.size)
  go_wp2_with fail
  refine (HS.out X2 n2 _ q2.rd).mono ?_
  rintro e w3 ⟨A3, d3, t3, rfl, M3, T3, b3⟩
  have hA3 := T3.row.lt
  have hI3 := fun t ht => (T3.inn t ht).lt
  have hsz3 := b3.size
  replace q2 := q2.below b3
  replace bb := bb.trans (b3.mono bb.size)
  clear q2 hX2 hc2 hd2
  go_wp2_with fail
  refine (Pupils.copy A0 c0 l0 _ hl0 (r0.below bb)).mono ?_
  rintro e w4 ⟨X4, n4, rfl, q4, b4⟩
  have hX4 := q4.lt
  have hsz4 := b4.size
  have hc4 := q4.max.2
  have hd4 := q4.cap
  replace q4 := q4.more bb.size
  replace T3 := T3.below b4
  replace bb := bb.trans (b4.mono bb.size)
  go_wp2_with fail
  refine (HI.out X4 n4 _ hc4 hd4 q4.rd).mono ?_
  have hW4 : W.heap.size ≤ w4.heap.size := bb.size
  rintro e w5 ⟨A5, d5, t5, rfl, M5, T5, b5⟩
  have hA5 := T5.row.lt
  have hI5 := fun t ht => (T5.inn t ht).lt
  have hsz5 := b5.size
  replace q4 := q4.below b5
  replace T3 := T3.below b5
  replace bb := bb.trans (b5.mono bb.size)
  go_wp2_with fail
  refine (Tab.eqss A5 A3 d5 d3 t5 t3 _ (M5.out.trans M3.out.symm) (HBD.out _ M5.out) T5.rd T3.rd).mono ?_
  rintro e w6 ⟨rfl, b6⟩
  have hsz6 := b6.size
  replace q4 := q4.below b6
  replace T3 := T3.below b6
  replace T5 := T5.below b6
  replace bb := bb.trans (b6.mono bb.size)
  go_wp2_with fail
  refine (Pupils.copy A0 c0 l0 _ hl0 (r0.below bb)).mono ?_
  rintro e w7 ⟨X7, n7, rfl, q7, b7⟩
  have hX7 := q7.lt
  have hsz7 := b7.size
  have hc7 := q7.max.2
  have hd7 := q7.cap
  replace q7 := q7.more bb.size
  replace q4 := q4.below b7
  replace T3 := T3.below b7
  replace T5 := T5.below b7
  replace bb := bb.trans (b7.mono bb.size)
  go_wp2_with fail
  refine (Pupils.eq_yes X4 X7 n4 n7 l0 _ hl0 q4.rd q7.rd).mono ?_
  rintro e w8 ⟨rfl, b8⟩
  have hsz8 := b8.size
  replace q4 := q4.below b8
  replace q7 := q7.below b8
  replace T3 := T3.below b8
  replace T5 := T5.below b8
  replace bb := bb.trans (b8.mono bb.size)
  clear q7 hX7 hc7 hd7
  go_wp2_with fail
  refine (Pupils.mark X4 _ n4 _ 1 _ _ hl0 (by omega) (by omega) q4).mono ?_
  rintro e w9 ⟨he, z9, g9⟩
  replace T3 := T3.kept g9 (fun q hq h => by have := hA3 q hq; have := hX4 q h; omega) (fun t ht q hq h => by have := hI3 t ht q hq; have := hX4 q h; omega)
  replace T5 := T5.kept g9 (fun q hq h => by have := hA5 q hq; have := hX4 q h; omega) (fun t ht q hq h => by have := hI5 t ht q hq; have := hX4 q h; omega)
  replace bb := bb.trans (K.below_of_grown g9 bb.size (fun g hg => (q4.lt g hg).1))
  have hsz9 := (K.below_of_grown (B := 0) g9 (Nat.zero_le _) (fun _ _ => Nat.zero_le _)).size
  clear z9 g9 q4
  obtain ⟨k9z, hkk9z, hlk9z, hjk9z⟩ : ∃ k : Nat, k ≤ 1 + 5 * l0.length ∧ 1 + 5 * l0.length ≤ k ∧ e = .returned (.int .i64 (k : Int)) := ⟨_, Nat.le_refl _, Nat.le_refl _, by rw [he]; exact congrArg (fun x => Ending.returned (.int .i64 x)) (by omega)⟩
  subst hjk9z
  clear he
  go_wp2_with fail
  refine (Tab.eqss A5 A3 d5 d3 t5 t3 _ (M5.out.trans M3.out.symm) (HBD.out _ M5.out) T5.rd T3.rd).mono ?_
  rintro e w10 ⟨rfl, b10⟩
  have hsz10 := b10.size
  replace T3 := T3.below b10
  replace T5 := T5.below b10
  replace bb := bb.trans (b10.mono bb.size)
  go_wp2_with fail
  refine (Tab.markss A5 A3 d5 d3 _ _ 1 t5 t3 _ (HBD.out _ M5.out) ⟨by omega, by omega⟩ ?hlo T5 T3 ?hap).mono ?_
  case hlo => omega
  case hap => exact fun t ht q hq => ⟨fun h => by have := hI5 t ht q hq; have := hA3 q h; omega, fun u hu h => by have := hI5 t ht q hq; have := hI3 u hu q h; omega⟩
  rintro e w11 ⟨⟨k11, hk11, hu11, rfl⟩, ⟨S, HMk, TS⟩, T3n, b11⟩
  replace T3 := T3n
  clear T3n
  have hMk := Lib.hid HMk
  clear HMk
  have hW11 : W.heap.size ≤ w4.heap.size := hW4
  replace bb := bb.trans (b11.mono hW11)
  clear T5 hA5 hI5
  replace TS := TS
  go_wp2_with fail
  refine (Tab.heldss A5 d5 1 t5 S _ (HBD.out _ M5.out) ⟨by omega, by omega⟩ hMk.out TS.rd).mono ?_
  rintro e w12 ⟨⟨k12, hk12, hu12, rfl⟩, b12⟩
  obtain rfl : k11 = k12 := by omega
  replace TS := TS.below b12
  replace T3 := T3.below b12
  replace bb := bb.trans (b12.mono bb.size)
  go_wp2_with fail
  refine (Pupils.copy A0 c0 l0 _ hl0 (r0.below bb)).mono ?_
  rintro e w13 ⟨X13, n13, rfl, q13, b13⟩
  have hc13 := q13.max.2
  have hd13 := q13.cap
  replace q13 := q13.more bb.size
  replace TS := TS.below b13
  replace T3 := T3.below b13
  replace bb := bb.trans (b13.mono bb.size)
  go_wp2_with fail
  refine (HI.out X13 n13 _ hc13 hd13 q13.rd).mono ?_
  rintro e w14 ⟨A14, d14, t14, rfl, M14, T14, b14⟩
  replace TS := TS.below b14
  replace q13 := q13.below b14
  replace T3 := T3.below b14
  replace bb := bb.trans (b14.mono bb.size)
  clear q13
  go_wp2_with fail
  refine (Tab.eqss A14 A3 d14 d3 t14 t3 _ (M14.out.trans M3.out.symm) (HBD.out _ M14.out) T14.rd T3.rd).mono ?_
  rintro e w15 ⟨rfl, b15⟩
  replace TS := TS.below b15
  replace T3 := T3.below b15
  replace T14 := T14.below b15
  replace bb := bb.trans (b15.mono bb.size)
  go_wp2_with fail
  refine (Tab.heldss A5 d5 1 t5 S _ (HBD.out _ M5.out) ⟨by omega, by omega⟩ hMk.out TS.rd).mono ?_
  rintro e w16 ⟨⟨k16, hk16, hu16, rfl⟩, b16⟩
  obtain rfl : k11 = k16 := by omega
  replace TS := TS.below b16
  replace T3 := T3.below b16
  replace T14 := T14.below b16
  replace bb := bb.trans (b16.mono bb.size)
  go_wp2_with fail
  go_ret
  exact ⟨rfl, b0.trans (bb.mono b0.size)⟩
end Go.Proofs.Ytebbihckndjbeaa.fnExactSameNames
