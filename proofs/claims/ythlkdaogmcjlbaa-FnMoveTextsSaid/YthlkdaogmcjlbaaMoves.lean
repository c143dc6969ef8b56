/-
  Walks: the law file's helpers on records BeadMove and on slices of them.
-/
import Derived.Test.YthlkdaogmcjlbaaProg
import Derived.Test.YthlkdaogmcjlbaaMath
import Derived.Test.YthlkdaogmcjlbaaKit

import Derived.BigQuiet
import Derived.WalkSpells
import Derived.WalkLawsBesides
import Derived.Deep.RegionHeld3
set_option linter.unusedVariables false
namespace Go.Proofs.Ythlkdaogmcjlbaa.Moves
open Go.RowKit
set_option maxHeartbeats 400000 in
theorem copy1 (p : M.Move) (w : World) :
    Calls Try.prog 19 #[.agg #[.int .i64 p.rod, .int .i64 p.part, .int .i64 p.by_]] w fun e w' => e = .returned (.agg #[.int .i64 p.rod, .int .i64 p.part, .int .i64 p.by_]) ∧ Below w.heap.size w w' := by
  go_enter Try.func19, Try.ntmps19
  go_wp2
  exact bodyPost_ret (v := .agg #[.int .i64 p.rod, .int .i64 p.part, .int .i64 p.by_]) (by simp [results, Try.results19, go_sem]) rfl ⟨rfl, by (repeat (first | exact Below.refl _ _ | assumption | (refine K.below_drewN ?_ _) | (refine Below.drew ?_) | (refine Below.alloc ?_ (by first | (simp; done) | (simp; omega) | omega) _) | (refine Below.setCell ?_ (by first | (simp; done) | (simp; omega) | omega) _)))⟩
set_option maxHeartbeats 400000 in
theorem eq1 (p : M.Move) (w : World) :
    Calls Try.prog 77 #[.agg #[.int .i64 p.rod, .int .i64 p.part, .int .i64 p.by_], .agg #[.int .i64 p.rod, .int .i64 p.part, .int .i64 p.by_]] w fun e w' => e = .returned (.bool true) ∧ Below w.heap.size w w' := by
  go_enter Try.func77, Try.ntmps77
  go_wp2
  go_ret
  exact ⟨rfl, by (repeat (first | exact Below.refl _ _ | assumption | (refine K.below_drewN ?_ _) | (refine Below.drew ?_) | (refine Below.alloc ?_ (by first | (simp; done) | (simp; omega) | omega) _) | (refine Below.setCell ?_ (by first | (simp; done) | (simp; omega) | omega) _)))⟩
theorem info : (Try.prog.info? 25).map (fun i => (i.zero, i.size, i.bytes)) = some (some (.agg #[.int .i64 0, .int .i64 0, .int .i64 0]), 3, 24) := by kernel_rfl
set_option maxHeartbeats 1000000 in
theorem copy (A : Option Addr) (c : Nat) (l : List M.Move) (w : World) (hl : l.length ≤ 1048576) (ha : K.Rd w 3 A l.length (l.flatMap M.moveCells)) :
    Calls Try.prog 30 #[.slice A l.length c] w (K.RetRow w 25 3 l.length (l.flatMap M.moveCells)) := by
  obtain ⟨i0, hi0, hz0, hz1, hz2⟩ := info_parts info
  go_enter Try.func30, Try.ntmps30
  go_wp2_with (at_make; refine K.make1 rfl (.tmp 6) (.tmp 6) _ rfl w.heap.size _ i0 _ 3 24 Try.underlying43 hi0 hz0 hz1 hz2 l.length rfl rfl (by omega) (by simp only [maxLen]; omega) (Nat.le_refl _) ?_; intro w1 hrow hb hsz)
  generalize hM : (madeCells (Value.agg #[.int .i64 0, .int .i64 0, .int .i64 0]).cells (l.length * 3)).toList = M0 at hrow
  have hML : M0.length = l.length * 3 := by rw [← hM]; simp [size_madeCells]
  clear hM
  go_loopw [4] (fun i wr => ∃ j : Nat, j ≤ l.length ∧ i = .int .i64 j ∧ K.Row wr w.heap.size 25 3 (some ⟨w.heap.size, 0, none⟩) l.length l.length ((l.take j).flatMap M.moveCells ++ M0.drop (j * 3)) ∧ Below w.heap.size w wr) (fun i _ => l.length - (intOf i).toNat)
  case atStart => exact ⟨0, Nat.zero_le _, rfl, by simpa using hrow, hb⟩
  case round =>
    obtain ⟨j, hj, rfl, hrow, hb⟩ := hrel
    by_cases hlt : j < l.length
    · obtain ⟨g', o', rfl, hg', c0, c1, c2⟩ := (ha.below hb).move hlt
      obtain ⟨g, u0, u1, u2, hA, hlo, hgs, d0, d1, d2, f0, f1, f2⟩ := hrow.open3 hlt
      injection hA with hA
      injection hA with hA
      subst hA
      have h1 : (j : Int) < (l.length : Int) := by omega
      have h2 : (0 : Int) ≤ (j : Int) := by omega
      go_wp2_with fail
      refine (copy1 _ _).mono ?_
      rintro e w2 ⟨rfl, b2⟩
      have hrow2 := hrow.below b2
      have d0' := (b2.cell (p := ⟨w.heap.size, j * 3, none⟩) hgs).trans d0
      have f0' := (b2.frozen (p := ⟨w.heap.size, j * 3, none⟩) hgs).trans f0
      have d1' := (b2.cell (p := ⟨w.heap.size, j * 3 + 1, none⟩) hgs).trans d1
      have f1' := (b2.frozen (p := ⟨w.heap.size, j * 3 + 1, none⟩) hgs).trans f1
      have d2' := (b2.cell (p := ⟨w.heap.size, j * 3 + 2, none⟩) hgs).trans d2
      have f2' := (b2.frozen (p := ⟨w.heap.size, j * 3 + 2, none⟩) hgs).trans f2
      clear d0 f0 c0 d1 f1 c1 d2 f2 c2
      go_wp2_with fail
      go_roundw
      case rel =>
        refine ⟨j + 1, by omega, by go_num, ?_, ((((hb.trans (b2.mono hb.size)).setCell (p := ⟨w.heap.size, j * 3, none⟩) (Nat.le_refl _) _).setCell (p := ⟨w.heap.size, j * 3 + 1, none⟩) (Nat.le_refl _) _).setCell (p := ⟨w.heap.size, j * 3 + 2, none⟩) (Nat.le_refl _) _)⟩
        have h := (hrow2.set3 (j * 3) (.int .i64 l[j].rod) (.int .i64 l[j].part) (.int .i64 l[j].by_)).1
        rw [K.set_mid3 _ _ _ _ _ (by rw [K.flat_len _ _ M.moveCells_len, List.length_take, Nat.min_eq_left (by omega)]) (by rw [List.length_drop]; omega), List.drop_drop] at h
        rw [List.take_succ_eq_append_getElem hlt, List.flatMap_append, Nat.succ_mul j]
        exact h
      case measure => simp [intOf]; omega
    · obtain rfl : j = l.length := by omega
      go_wp2
      go_ret
      refine ⟨_, _, rfl, ?_, hb⟩
      rw [List.drop_eq_nil_of_le (by omega), List.append_nil, List.take_length] at hrow
      exact hrow
theorem sz (A : Option Addr) (c n : Nat) (left : Int) (w : World) (hl : n ≤ 9223372036854775807) (h0 : 0 ≤ left) (h1 : left ≤ 1048576) :
    Calls Try.prog 28 #[.slice A n c, .int .i64 left] w fun e w' => (∃ r, e = .returned (.int .i64 r) ∧ ((r < 0 ∧ left < n) ∨ (0 ≤ r ∧ r = left - n))) ∧ w = w' := by
  by_cases hneg : left - n < 0
  · go_enter Try.func28, Try.ntmps28
    go_wp2
    go_ret
    exact ⟨⟨_, rfl, .inl ⟨by omega, by omega⟩⟩, rfl⟩
  · go_enter Try.func28, Try.ntmps28
    go_wp2
    go_ret
    exact ⟨⟨_, rfl, .inr ⟨by omega, rfl⟩⟩, rfl⟩
set_option maxHeartbeats 1000000 in
theorem eq_yes (A B : Option Addr) (c d : Nat) (l : List M.Move) (w : World) (hl : l.length ≤ 1048576) (ha : K.Rd w 3 A l.length (l.flatMap M.moveCells)) (hb : K.Rd w 3 B l.length (l.flatMap M.moveCells)) :
    Calls Try.prog 32 #[.slice A l.length c, .slice B l.length d] w fun e w' => e = .returned (.bool true) ∧ Below w.heap.size w w' := by
  have hne : ((l.length : Int) != (l.length : Int)) = false := by simp
  go_enter Try.func32, Try.ntmps32
  go_wp2_with fail
  go_loopw [5] (fun i wr => ∃ k : Nat, k ≤ l.length ∧ i = .int .i64 k ∧ Below w.heap.size w wr) (fun i _ => l.length - (intOf i).toNat)
  case atStart => exact ⟨0, Nat.zero_le _, rfl, Below.refl _ _⟩
  case round =>
    obtain ⟨k, hk, rfl, hbw⟩ := hrel
    have hbs := hbw.size
    by_cases hlt : k < l.length
    · obtain ⟨g, o, rfl, hg, c0, c1, c2⟩ := (ha.below hbw).move hlt
      obtain ⟨g', o', rfl, hg', d0, d1, d2⟩ := (hb.below hbw).move hlt
      have h1 : (k : Int) < (l.length : Int) := by omega
      have h2 : (0 : Int) ≤ (k : Int) := by omega
      have HC := Lib.hid (fun W => eq1 l[k] W)
      generalize l[k].rod = x0 at *
      generalize l[k].part = x1 at *
      generalize l[k].by_ = x2 at *
      go_wp2_with fail
      go_region_held3 (fun w' => w'.cell? ⟨g, o + k * 3, none⟩ = some (.int .i64 x0) ∧ w'.cell? ⟨g, o + k * 3 + 1, none⟩ = some (.int .i64 x1) ∧ w'.cell? ⟨g, o + k * 3 + 2, none⟩ = some (.int .i64 x2) ∧ w'.cell? ⟨g', o' + k * 3, none⟩ = some (.int .i64 x0) ∧ w'.cell? ⟨g', o' + k * 3 + 1, none⟩ = some (.int .i64 x1) ∧ w'.cell? ⟨g', o' + k * 3 + 2, none⟩ = some (.int .i64 x2))
        (first | go_keep | exact ⟨(hb1.cell (p := ⟨g, o + k * 3, none⟩) hg).trans c0, (hb1.cell (p := ⟨g, o + k * 3 + 1, none⟩) hg).trans c1, (hb1.cell (p := ⟨g, o + k * 3 + 2, none⟩) hg).trans c2, (hb1.cell (p := ⟨g', o' + k * 3, none⟩) hg').trans d0, (hb1.cell (p := ⟨g', o' + k * 3 + 1, none⟩) hg').trans d1, (hb1.cell (p := ⟨g', o' + k * 3 + 2, none⟩) hg').trans d2⟩)
        ((go_at_call 77; refine (HC.out _).mono ?_; rintro e w1 ⟨rfl, hb1⟩))
      all_goals go_wp2
      all_goals exact ⟨⟨k + 1, by omega, by go_num, hbw.drew.trans (hb1.mono hbs)⟩, by simp [intOf]; omega⟩
    · go_wp2
      go_ret
      exact ⟨rfl, hbw⟩
set_option maxHeartbeats 2000000 in
theorem mark (A : Option Addr) (n c lo k0 : Nat) (xs : List Value) (w : World) (hn : n ≤ 1048576) (hk0 : 1 ≤ k0) (hk1 : k0 ≤ 1099511627776) (ha : K.Row w lo 25 3 A n c xs) :
    Calls Try.prog 54 #[.slice A n c, .int .i64 k0] w fun e w' => e = .returned (.int .i64 ((k0 : Int) + 3 * n)) ∧ K.Row w' lo 25 3 A n c ((M.markMoves k0 n).flatMap M.moveCells) ∧ w.grownBy w' (K.blk A) := by
  go_enter Try.func54, Try.ntmps54
  go_wp2_with fail
  go_loopw [1, 5] (fun q i wr => ∃ j : Nat, j ≤ n ∧ i = .int .i64 j ∧ q = .int .i64 ((k0 : Int) + 3 * j) ∧ K.Row wr lo 25 3 A n c ((M.markMoves k0 j).flatMap M.moveCells ++ xs.drop (j * 3)) ∧ w.grownBy wr (K.blk A)) (fun _ i _ => n - (intOf i).toNat)
  case atStart => exact ⟨0, Nat.zero_le _, rfl, by simp, by simpa [M.markMoves] using ha, World.grownBy.refl _ _⟩
  case round =>
    obtain ⟨j, hj, rfl, rfl, hrow, hg⟩ := hrel
    by_cases hlt : j < n
    · obtain ⟨g, u0, u1, u2, rfl, hlo, hgs, c0, c1, c2, f0, f1, f2⟩ := hrow.open3 hlt
      have h1 : (j : Int) < (n : Int) := by omega
      have h2 : (0 : Int) ≤ (j : Int) := by omega
      have hr_0 := hrow
      go_wp2
      have s_0 := hrow.set_ (j * 3) (.int .i64 ((k0 : Int) + 3 * j))
      have hr_1' := s_0.1
      have s_1 := hr_1'.set_ (j * 3 + 1) (.int .i64 ((k0 : Int) + 3 * j + 1))
      have hr_2' := s_1.1
      have s_2 := hr_2'.set_ (j * 3 + 2) (.int .i64 ((k0 : Int) + 3 * j + 2))
      have hr_3' := s_2.1
      go_roundw
      case rel =>
        refine ⟨j + 1, by omega, by go_num, by go_num, ?_, (K.grown_trans (K.grown_trans (K.grown_trans hg s_0.2) s_1.2) s_2.2)⟩
        have h := hr_3'
        rw [K.set_mid3 _ _ _ _ _ (by rw [K.flat_len _ _ M.moveCells_len, M.markMoves_len]) (by have := ha.len; rw [List.length_drop]; omega), List.drop_drop] at h
        rw [M.markMoves_succ, List.flatMap_append, Nat.succ_mul j]
        first | exact h | (simp only [Int.add_assoc] at h ⊢; exact h)
      case measure => simp [intOf]; omega
    · obtain rfl : j = n := by omega
      go_wp2
      go_ret
      refine ⟨rfl, ?_, hg⟩
      rw [List.drop_eq_nil_of_le (by have := ha.len; omega), List.append_nil] at hrow
      exact hrow
set_option maxHeartbeats 2000000 in
theorem held (A : Option Addr) (n c k0 : Nat) (w : World) (hn : n ≤ 1048576) (hk0 : 1 ≤ k0) (hk1 : k0 ≤ 1099511627776) (ha : K.Rd w 3 A n ((M.markMoves k0 n).flatMap M.moveCells)) :
    Calls Try.prog 55 #[.slice A n c, .int .i64 k0] w fun e w' => e = .returned (.int .i64 ((k0 : Int) + 3 * n)) ∧ Below w.heap.size w w' := by
  have hml := M.markMoves_len k0 n
  have HML := Lib.hid hml
  have ha' : K.Rd w 3 A (M.markMoves k0 n).length ((M.markMoves k0 n).flatMap M.moveCells) := by rw [hml]; exact ha
  clear hml ha
  go_enter Try.func55, Try.ntmps55
  go_wp2_with fail
  go_loopw [1, 5] (fun q i wr => ∃ j : Nat, j ≤ n ∧ i = .int .i64 j ∧ q = .int .i64 ((k0 : Int) + 3 * j) ∧ Below w.heap.size w wr) (fun _ i _ => n - (intOf i).toNat)
  case atStart => exact ⟨0, Nat.zero_le _, rfl, by simp, Below.refl _ _⟩
  case round =>
    obtain ⟨j, hj, rfl, rfl, hbw⟩ := hrel
    have hbs := hbw.size
    by_cases hlt : j < n
    · obtain ⟨g, o, rfl, hg, c0, c1, c2⟩ := (ha'.below hbw).move (by rw [HML.out]; exact hlt)
      rw [M.markMoves_at] at c0 c1 c2
      have h1 : (j : Int) < (n : Int) := by omega
      have h2 : (0 : Int) ≤ (j : Int) := by omega
      go_wp2
      go_roundw
      case rel => exact ⟨j + 1, by omega, by go_num, by go_num, hbw⟩
      case measure => simp [intOf]; omega
    · obtain rfl : j = n := by omega
      go_wp2
      go_ret
      exact ⟨rfl, hbw⟩
end Go.Proofs.Ythlkdaogmcjlbaa.Moves
