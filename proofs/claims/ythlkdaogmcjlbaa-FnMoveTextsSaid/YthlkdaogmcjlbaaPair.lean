/-
  Walks: the law file's helpers on arrays of two numbers, and on slices of such arrays.
-/
import Derived.Test.YthlkdaogmcjlbaaProg
import Derived.Test.YthlkdaogmcjlbaaMath
import Derived.Test.YthlkdaogmcjlbaaKit
import Derived.BigQuiet
import Derived.WalkSpells
import Derived.WalkLawsBesides
import Derived.Handy
import Derived.Deep.RegionHeld3
set_option linter.unusedVariables false
namespace Go.Proofs.Ythlkdaogmcjlbaa.Pair
open Go.RowKit

set_option maxHeartbeats 400000 in
theorem copy1 (x y : Int) (w : World) :
    Calls Try.prog 104 #[.agg #[.int .i64 x, .int .i64 y]] w fun e w' => e = .returned (.agg #[.int .i64 x, .int .i64 y]) ∧ Below w.heap.size w w' := by
  go_enter Try.func104, Try.ntmps104
  go_wp2
  refine wp_loop_rounds 3 ?_
  rw [rounds_succ]
  go_wp2
  rw [rounds_succ]
  go_wp2
  rw [rounds_succ]
  go_wp2
  exact bodyPost_ret (v := .agg #[.int .i64 x, .int .i64 y]) (by simp [results, Try.results104, go_sem]) rfl ⟨rfl, by (repeat (first | exact Below.refl _ _ | assumption | (refine K.below_drewN ?_ _) | (refine Below.drew ?_) | (refine Below.alloc ?_ (by first | (simp; done) | (simp; omega) | omega) _) | (refine Below.setCell ?_ (by first | (simp; done) | (simp; omega) | omega) _)))⟩
set_option maxHeartbeats 400000 in
theorem eq1 (x y : Int) (w : World) :
    Calls Try.prog 105 #[.agg #[.int .i64 x, .int .i64 y], .agg #[.int .i64 x, .int .i64 y]] w fun e w' => e = .returned (.bool true) ∧ Below w.heap.size w w' := by
  go_enter Try.func105, Try.ntmps105
  go_wp2_with fail
  refine wp_loop_rounds 3 ?_
  rw [rounds_succ]
  go_wp2_with fail
  go_quiet (fail)
  go_wp2
  rw [rounds_succ]
  go_wp2_with fail
  go_quiet (fail)
  go_wp2
  rw [rounds_succ]
  go_wp2
  go_ret
  exact ⟨rfl, by (repeat (first | exact Below.refl _ _ | assumption | (refine K.below_drewN ?_ _) | (refine Below.drew ?_) | (refine Below.alloc ?_ (by first | (simp; done) | (simp; omega) | omega) _) | (refine Below.setCell ?_ (by first | (simp; done) | (simp; omega) | omega) _)))⟩
theorem info2 : (Try.prog.info? 74).map (fun i => (i.zero, i.size, i.bytes)) = some (some (.agg #[.int .i64 0, .int .i64 0]), 2, 16) := by kernel_rfl
set_option maxHeartbeats 400000 in
theorem copy (A : Option Addr) (c : Nat) (l : List (Int × Int)) (w : World) (hl : l.length ≤ 1048576) (ha : K.Rd w 2 A l.length (l.flatMap M.rodCells)) :
    Calls Try.prog 68 #[.slice A l.length c] w (K.RetRow w 74 2 l.length (l.flatMap M.rodCells)) := by
  obtain ⟨i0, hi0, hz0, hz1, hz2⟩ := info_parts info2
  go_enter Try.func68, Try.ntmps68
  go_wp2_with (at_make; refine K.make1 rfl (.tmp 6) (.tmp 6) _ rfl w.heap.size _ i0 _ 2 16 Try.underlying28 hi0 hz0 hz1 hz2 l.length rfl rfl (by omega) (by simp only [maxLen]; omega) (Nat.le_refl _) ?_; intro w1 hrow hb hsz)
  generalize hM : (madeCells (Value.agg #[.int .i64 0, .int .i64 0]).cells (l.length * 2)).toList = M0 at hrow
  have hML : M0.length = l.length * 2 := by rw [← hM]; simp [size_madeCells]
  clear hM
  go_loopw [4] (fun i wr => ∃ j : Nat, j ≤ l.length ∧ i = .int .i64 j ∧ K.Row wr w.heap.size 74 2 (some ⟨w.heap.size, 0, none⟩) l.length l.length ((l.take j).flatMap M.rodCells ++ M0.drop (j * 2)) ∧ Below w.heap.size w wr) (fun i _ => l.length - (intOf i).toNat)
  case atStart => exact ⟨0, Nat.zero_le _, rfl, by simpa using hrow, hb⟩
  case round =>
    obtain ⟨j, hj, rfl, hrow, hb⟩ := hrel
    by_cases hlt : j < l.length
    · obtain ⟨g', o', rfl, hg', c0, c1⟩ := (ha.below hb).rod hlt
      obtain ⟨g, u0, u1, hA, hlo, hgs, d0, d1, f0, f1⟩ := hrow.open2 hlt
      injection hA with hA
      injection hA with hA
      subst hA
      have h1 : (j : Int) < (l.length : Int) := by omega
      have h2 : (0 : Int) ≤ (j : Int) := by omega
      go_wp2_with fail
      refine (copy1 _ _ _).mono ?_
      rintro e w2 ⟨rfl, b2⟩
      have hrow2 := hrow.below b2
      have d0' := (b2.cell (p := ⟨w.heap.size, j * 2, none⟩) hgs).trans d0
      have d1' := (b2.cell (p := ⟨w.heap.size, j * 2 + 1, none⟩) hgs).trans d1
      have f0' := (b2.frozen (p := ⟨w.heap.size, j * 2, none⟩) hgs).trans f0
      have f1' := (b2.frozen (p := ⟨w.heap.size, j * 2 + 1, none⟩) hgs).trans f1
      clear d0 d1 f0 f1 c0 c1
      go_wp2_with fail
      go_roundw
      case rel =>
        refine ⟨j + 1, by omega, by go_num, ?_, ((hb.trans (b2.mono hb.size)).setCell (p := ⟨w.heap.size, j * 2, none⟩) (Nat.le_refl _) _).setCell (p := ⟨w.heap.size, j * 2 + 1, none⟩) (Nat.le_refl _) _⟩
        have h := (hrow2.set2 (j * 2) (.int .i64 l[j].1) (.int .i64 l[j].2)).1
        rw [K.set_mid2 _ _ _ _ (by rw [K.flat_len _ _ M.rodCells_len, List.length_take, Nat.min_eq_left (by omega)]) (by rw [List.length_drop]; omega), List.drop_drop] at h
        rw [List.take_succ_eq_append_getElem hlt, List.flatMap_append, Nat.succ_mul]
        exact h
      case measure => simp [intOf]; omega
    · obtain rfl : j = l.length := by omega
      go_wp2
      go_ret
      refine ⟨_, _, rfl, ?_, hb⟩
      rw [List.drop_eq_nil_of_le (by omega), List.append_nil, List.take_length] at hrow
      exact hrow
theorem sz (A : Option Addr) (c n : Nat) (left : Int) (w : World) (hl : n ≤ 9223372036854775807) (h0 : 0 ≤ left) (h1 : left ≤ 1048576) :
    Calls Try.prog 66 #[.slice A n c, .int .i64 left] w fun e w' => (∃ r, e = .returned (.int .i64 r) ∧ ((r < 0 ∧ left < n) ∨ (0 ≤ r ∧ r = left - n))) ∧ w = w' := by
  by_cases hneg : left - n < 0
  · go_enter Try.func66, Try.ntmps66
    go_wp2
    go_ret
    exact ⟨⟨_, rfl, .inl ⟨by omega, by omega⟩⟩, rfl⟩
  · go_enter Try.func66, Try.ntmps66
    go_wp2
    go_ret
    exact ⟨⟨_, rfl, .inr ⟨by omega, rfl⟩⟩, rfl⟩
set_option maxHeartbeats 1000000 in
theorem eq_yes (A B : Option Addr) (c d : Nat) (l : List (Int × Int)) (w : World) (hl : l.length ≤ 1048576) (ha : K.Rd w 2 A l.length (l.flatMap M.rodCells)) (hb : K.Rd w 2 B l.length (l.flatMap M.rodCells)) :
    Calls Try.prog 69 #[.slice A l.length c, .slice B l.length d] w fun e w' => e = .returned (.bool true) ∧ Below w.heap.size w w' := by
  have hne : ((l.length : Int) != (l.length : Int)) = false := by simp
  go_enter Try.func69, Try.ntmps69
  go_wp2_with fail
  go_loopw [5] (fun i wr => ∃ k : Nat, k ≤ l.length ∧ i = .int .i64 k ∧ Below w.heap.size w wr) (fun i _ => l.length - (intOf i).toNat)
  case atStart => exact ⟨0, Nat.zero_le _, rfl, Below.refl _ _⟩
  case round =>
    obtain ⟨k, hk, rfl, hbw⟩ := hrel
    have hbs := hbw.size
    by_cases hlt : k < l.length
    · obtain ⟨g, o, rfl, hg, c0, c1⟩ := (ha.below hbw).rod hlt
      obtain ⟨g', o', rfl, hg', d0, d1⟩ := (hb.below hbw).rod hlt
      have h1 : (k : Int) < (l.length : Int) := by omega
      have h2 : (0 : Int) ≤ (k : Int) := by omega
      generalize l[k].1 = x at *
      generalize l[k].2 = y at *
      go_wp2_with fail
      go_region_held3 (fun w' => w'.cell? ⟨g, o + k * 2, none⟩ = some (.int .i64 x) ∧ w'.cell? ⟨g, o + k * 2 + 1, none⟩ = some (.int .i64 y) ∧ w'.cell? ⟨g', o' + k * 2, none⟩ = some (.int .i64 x) ∧ w'.cell? ⟨g', o' + k * 2 + 1, none⟩ = some (.int .i64 y))
        (first | go_keep | exact ⟨(hb1.cell (p := ⟨g, o + k * 2, none⟩) hg).trans c0, (hb1.cell (p := ⟨g, o + k * 2 + 1, none⟩) hg).trans c1, (hb1.cell (p := ⟨g', o' + k * 2, none⟩) hg').trans d0, (hb1.cell (p := ⟨g', o' + k * 2 + 1, none⟩) hg').trans d1⟩)
        ((go_at_call 105; refine (eq1 _ _ _).mono ?_; rintro e w1 ⟨rfl, hb1⟩))
      all_goals go_wp2
      all_goals exact ⟨⟨k + 1, by omega, by go_num, hbw.drew.trans (hb1.mono hbs)⟩, by simp [intOf]; omega⟩
    · go_wp2
      go_ret
      exact ⟨rfl, hbw⟩
set_option maxHeartbeats 1000000 in
theorem mark (A : Option Addr) (n c lo k0 : Nat) (xs : List Value) (w : World) (hn : n ≤ 1048576) (hk0 : 1 ≤ k0) (hk1 : k0 ≤ 1099511627776) (ha : K.Row w lo 74 2 A n c xs) :
    Calls Try.prog 98 #[.slice A n c, .int .i64 k0] w fun e w' => e = .returned (.int .i64 ((k0 : Int) + 2 * n)) ∧ K.Row w' lo 74 2 A n c ((M.markRods k0 n).flatMap M.rodCells) ∧ w.grownBy w' (K.blk A) := by
  go_enter Try.func98, Try.ntmps98
  go_wp2_with fail
  go_loopw [1, 5] (fun q i wr => ∃ j : Nat, j ≤ n ∧ i = .int .i64 j ∧ q = .int .i64 ((k0 : Int) + 2 * j) ∧ K.Row wr lo 74 2 A n c ((M.markRods k0 j).flatMap M.rodCells ++ xs.drop (j * 2)) ∧ w.grownBy wr (K.blk A)) (fun _ i _ => n - (intOf i).toNat)
  case atStart => exact ⟨0, Nat.zero_le _, rfl, by simp, by simpa [M.markRods] using ha, World.grownBy.refl _ _⟩
  case round =>
    obtain ⟨j, hj, rfl, rfl, hrow, hg⟩ := hrel
    by_cases hlt : j < n
    · obtain ⟨g, u0, u1, rfl, hlo, hgs, c0, c1, f0, f1⟩ := hrow.open2 hlt
      have h1 : (j : Int) < (n : Int) := by omega
      have h2 : (0 : Int) ≤ (j : Int) := by omega
      go_wp2_with fail
      refine wp_loop_rounds 3 ?_
      rw [rounds_succ]
      go_wp2
      rw [rounds_succ]
      go_wp2
      rw [rounds_succ]
      go_wp2
      go_roundw
      case rel =>
        refine ⟨j + 1, by omega, by go_num, by go_num, ?_, ?_⟩
        · have h := (hrow.set2 (j * 2) (.int .i64 ((k0 : Int) + 2 * j)) (.int .i64 ((k0 : Int) + 2 * j + 1))).1
          rw [K.set_mid2 _ _ _ _ (by rw [K.flat_len _ _ M.rodCells_len, M.markRods_len]) (by have := ha.len; rw [List.length_drop]; omega), List.drop_drop] at h
          rw [M.markRods_succ, List.flatMap_append, Nat.succ_mul]
          exact h
        · exact K.grown_trans hg (hrow.set2 (j * 2) (.int .i64 ((k0 : Int) + 2 * j)) (.int .i64 ((k0 : Int) + 2 * j + 1))).2
      case measure => simp [intOf]; omega
    · obtain rfl : j = n := by omega
      go_wp2
      go_ret
      refine ⟨rfl, ?_, hg⟩
      rw [List.drop_eq_nil_of_le (by have := ha.len; omega), List.append_nil] at hrow
      exact hrow
set_option maxHeartbeats 1000000 in
theorem held (A : Option Addr) (n c k0 : Nat) (w : World) (hn : n ≤ 1048576) (hk0 : 1 ≤ k0) (hk1 : k0 ≤ 1099511627776) (ha : K.Rd w 2 A n ((M.markRods k0 n).flatMap M.rodCells)) :
    Calls Try.prog 99 #[.slice A n c, .int .i64 k0] w fun e w' => e = .returned (.int .i64 ((k0 : Int) + 2 * n)) ∧ w = w' := by
  have hml := M.markRods_len k0 n
  go_enter Try.func99, Try.ntmps99
  go_wp2_with fail
  go_loop [1, 5] (fun q i => ∃ j : Nat, j ≤ n ∧ i = .int .i64 j ∧ q = .int .i64 ((k0 : Int) + 2 * j)) (fun _ i => n - (intOf i).toNat)
  case atStart => exact ⟨0, Nat.zero_le _, rfl, by simp⟩
  case round =>
    obtain ⟨j, hj, rfl, rfl⟩ := hrel
    by_cases hlt : j < n
    · have ha' : K.Rd w 2 A (M.markRods k0 n).length ((M.markRods k0 n).flatMap M.rodCells) := by rw [hml]; exact ha
      obtain ⟨g, o, rfl, hg, c0, c1⟩ := ha'.rod (by rw [hml]; exact hlt)
      rw [M.markRods_at] at c0 c1
      have h1 : (j : Int) < (n : Int) := by omega
      have h2 : (0 : Int) ≤ (j : Int) := by omega
      have HML := Lib.hid hml
      clear ha' hml
      go_wp2_with fail
      refine wp_loop_rounds 3 ?_
      rw [rounds_succ]
      go_wp2
      rw [rounds_succ]
      go_wp2
      rw [rounds_succ]
      go_wp2
      go_round
      case rel => exact ⟨j + 1, by omega, by go_num, by go_num⟩
      case measure => simp [intOf]; omega
    · obtain rfl : j = n := by omega
      go_wp2
      go_ret
      exact ⟨rfl, rfl⟩
end Go.Proofs.Ythlkdaogmcjlbaa.Pair
