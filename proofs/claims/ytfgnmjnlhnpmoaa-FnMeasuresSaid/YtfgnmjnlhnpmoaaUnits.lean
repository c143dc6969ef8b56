/-
  Walks: the law file's helpers on records Unit and on slices of them.
-/
import Derived.Test.YtfgnmjnlhnpmoaaProg
import Derived.Test.YtfgnmjnlhnpmoaaMath
import Derived.Test.YtfgnmjnlhnpmoaaKit
import Derived.Test.YtfgnmjnlhnpmoaaNum
import Derived.BigQuiet
import Derived.WalkSpells
import Derived.WalkLawsBesides
import Derived.Deep.RegionHeld3
set_option linter.unusedVariables false
namespace Go.Proofs.Ytfgnmjnlhnpmoaa.Units
open Go.RowKit
set_option maxHeartbeats 400000 in
theorem copy1 (p : M.Unit) (w : World) :
    Calls Try.prog 61 #[.agg #[.string p.name, .int .i64 p.size]] w fun e w' => e = .returned (.agg #[.string p.name, .int .i64 p.size]) ∧ Below w.heap.size w w' := by
  go_enter Try.func61, Try.ntmps61
  go_wp2
  exact bodyPost_ret (v := .agg #[.string p.name, .int .i64 p.size]) (by simp [results, Try.results61, go_sem]) rfl ⟨rfl, by (repeat (first | exact Below.refl _ _ | assumption | (refine K.below_drewN ?_ _) | (refine Below.drew ?_) | (refine Below.alloc ?_ (by first | (simp; done) | (simp; omega) | omega) _) | (refine Below.setCell ?_ (by first | (simp; done) | (simp; omega) | omega) _)))⟩
set_option maxHeartbeats 400000 in
theorem eq1 (p : M.Unit) (w : World) :
    Calls Try.prog 63 #[.agg #[.string p.name, .int .i64 p.size], .agg #[.string p.name, .int .i64 p.size]] w fun e w' => e = .returned (.bool true) ∧ Below w.heap.size w w' := by
  go_enter Try.func63, Try.ntmps63
  go_wp2
  go_ret
  exact ⟨rfl, by (repeat (first | exact Below.refl _ _ | assumption | (refine K.below_drewN ?_ _) | (refine Below.drew ?_) | (refine Below.alloc ?_ (by first | (simp; done) | (simp; omega) | omega) _) | (refine Below.setCell ?_ (by first | (simp; done) | (simp; omega) | omega) _)))⟩
theorem info : (Try.prog.info? 74).map (fun i => (i.zero, i.size, i.bytes)) = some (some (.agg #[.string ByteArray.empty, .int .i64 0]), 2, 24) := by kernel_rfl
set_option maxHeartbeats 1000000 in
theorem copy (A : Option Addr) (c : Nat) (l : List M.Unit) (w : World) (hl : l.length ≤ 1048576) (ha : K.Rd w 2 A l.length (l.flatMap M.unitCells)) :
    Calls Try.prog 19 #[.slice A l.length c] w (K.RetRow w 74 2 l.length (l.flatMap M.unitCells)) := by
  obtain ⟨i0, hi0, hz0, hz1, hz2⟩ := info_parts info
  go_enter Try.func19, Try.ntmps19
  go_wp2_with (at_make; refine K.make1 rfl (.tmp 6) (.tmp 6) _ rfl w.heap.size _ i0 _ 2 24 Try.underlying28 hi0 hz0 hz1 hz2 l.length rfl rfl (by omega) (by simp only [maxLen]; omega) (Nat.le_refl _) ?_; intro w1 hrow hb hsz)
  generalize hM : (madeCells (Value.agg #[.string ByteArray.empty, .int .i64 0]).cells (l.length * 2)).toList = M0 at hrow
  have hML : M0.length = l.length * 2 := by rw [← hM]; simp [size_madeCells]
  clear hM
  go_loopw [4] (fun i wr => ∃ j : Nat, j ≤ l.length ∧ i = .int .i64 j ∧ K.Row wr w.heap.size 74 2 (some ⟨w.heap.size, 0, none⟩) l.length l.length ((l.take j).flatMap M.unitCells ++ M0.drop (j * 2)) ∧ Below w.heap.size w wr) (fun i _ => l.length - (intOf i).toNat)
  case atStart => exact ⟨0, Nat.zero_le _, rfl, by simpa using hrow, hb⟩
  case round =>
    obtain ⟨j, hj, rfl, hrow, hb⟩ := hrel
    by_cases hlt : j < l.length
    · obtain ⟨g', o', rfl, hg', c0, c1⟩ := (ha.below hb).unit hlt
      obtain ⟨g, u0, u1, hA, hlo, hgs, d0, d1, f0, f1⟩ := hrow.open2 hlt
      injection hA with hA
      injection hA with hA
      subst hA
      have h1 : (j : Int) < (l.length : Int) := by omega
      have h2 : (0 : Int) ≤ (j : Int) := by omega
      go_wp2_with fail
      refine (copy1 _ _).mono ?_
      rintro e w2 ⟨rfl, b2⟩
      have hrow2 := hrow.below b2
      have d0' := (b2.cell (p := ⟨w.heap.size, j * 2, none⟩) hgs).trans d0
      have f0' := (b2.frozen (p := ⟨w.heap.size, j * 2, none⟩) hgs).trans f0
      have d1' := (b2.cell (p := ⟨w.heap.size, j * 2 + 1, none⟩) hgs).trans d1
      have f1' := (b2.frozen (p := ⟨w.heap.size, j * 2 + 1, none⟩) hgs).trans f1
      clear d0 f0 c0 d1 f1 c1
      go_wp2_with fail
      go_roundw
      case rel =>
        refine ⟨j + 1, by omega, by go_num, ?_, (((hb.trans (b2.mono hb.size)).setCell (p := ⟨w.heap.size, j * 2, none⟩) (Nat.le_refl _) _).setCell (p := ⟨w.heap.size, j * 2 + 1, none⟩) (Nat.le_refl _) _)⟩
        have h := (hrow2.set2 (j * 2) (.string l[j].name) (.int .i64 l[j].size)).1
        rw [K.set_mid2 _ _ _ _ (by rw [K.flat_len _ _ M.unitCells_len, List.length_take, Nat.min_eq_left (by omega)]) (by rw [List.length_drop]; omega), List.drop_drop] at h
        rw [List.take_succ_eq_append_getElem hlt, List.flatMap_append, Nat.succ_mul j]
        exact h
      case measure => simp [intOf]; omega
    · obtain rfl : j = l.length := by omega
      go_wp2
      go_ret
      refine ⟨_, _, rfl, ?_, hb⟩
      rw [List.drop_eq_nil_of_le (by omega), List.append_nil, List.take_length] at hrow
      exact hrow
theorem sz1 (p : M.Unit) (left : Int) (w : World) (hp : p.name.size ≤ 9223372036854775807) (h0 : 0 ≤ left) (h1 : left ≤ 1048576) :
    Calls Try.prog 59 #[.agg #[.string p.name, .int .i64 p.size], .int .i64 left] w fun e w' => e = .returned (.int .i64 (if left - p.name.size < 0 then -1 else left - p.name.size)) ∧ Below w.heap.size w w' := by
  by_cases hneg : left - p.name.size < 0
  · rw [if_pos hneg]
    go_enter Try.func59, Try.ntmps59
    go_wp2
    go_ret
    exact ⟨rfl, by (repeat (first | exact Below.refl _ _ | assumption | (refine K.below_drewN ?_ _) | (refine Below.drew ?_) | (refine Below.alloc ?_ (by first | (simp; done) | (simp; omega) | omega) _) | (refine Below.setCell ?_ (by first | (simp; done) | (simp; omega) | omega) _)))⟩
  · rw [if_neg hneg]
    go_enter Try.func59, Try.ntmps59
    go_wp2
    go_ret
    exact ⟨rfl, by (repeat (first | exact Below.refl _ _ | assumption | (refine K.below_drewN ?_ _) | (refine Below.drew ?_) | (refine Below.alloc ?_ (by first | (simp; done) | (simp; omega) | omega) _) | (refine Below.setCell ?_ (by first | (simp; done) | (simp; omega) | omega) _)))⟩
set_option maxHeartbeats 1000000 in
theorem sz (A : Option Addr) (c : Nat) (l : List M.Unit) (left : Int) (w : World) (hl : l.length ≤ 9223372036854775807) (hss : ∀ s ∈ l, s.name.size ≤ 9223372036854775807) (h0 : 0 ≤ left) (h1 : left ≤ 1048576) (ha : K.Rd w 2 A l.length (l.flatMap M.unitCells)) :
    Calls Try.prog 17 #[.slice A l.length c, .int .i64 left] w fun e w' => (∃ r, e = .returned (.int .i64 r) ∧ ((r < 0 ∧ M.szf (l.map (·.name)) left < 0) ∨ (0 ≤ r ∧ r = M.szf (l.map (·.name)) left))) ∧ Below w.heap.size w w' := by
  by_cases hneg : left - l.length < 0
  · have hz : M.szf (l.map (·.name)) left < 0 := by have := M.foldl_le (l.map (·.name)) (left - l.length); unfold M.szf; rw [List.length_map]; omega
    have HZ := Lib.hid hz
    clear hz hss
    go_enter Try.func17, Try.ntmps17
    go_wp2
    go_ret
    exact ⟨⟨_, rfl, .inl ⟨by omega, HZ.out⟩⟩, Below.refl _ _⟩
  · have HSS := Lib.hid hss
    clear hss
    go_enter Try.func17, Try.ntmps17
    go_wp2_with fail
    go_loopw [1, 5] (fun q i wr => ∃ k : Nat, k ≤ l.length ∧ i = .int .i64 k ∧ ∃ r : Int, 0 ≤ r ∧ r ≤ left ∧ q = .int .i64 r ∧ Hid (r = ((l.map (·.name)).take k).foldl (fun r s => r - (s.size : Int)) (left - l.length)) ∧ Below w.heap.size w wr) (fun _ i _ => l.length - (intOf i).toNat)
    case atStart => exact ⟨0, Nat.zero_le _, rfl, left - l.length, by omega, by omega, rfl, Lib.hid (by simp), Below.refl _ _⟩
    case round =>
      obtain ⟨k, hk, rfl, r, hr0, hr1, rfl, hr, hbw⟩ := hrel
      by_cases hlt : k < l.length
      · obtain ⟨g, o, rfl, hg, c0, c1⟩ := (ha.below hbw).unit hlt
        have hsz : l[k].name.size ≤ 9223372036854775807 := HSS.out _ (List.getElem_mem hlt)
        have HR := Lib.hid (show r - l[k].name.size = ((l.map (·.name)).take (k + 1)).foldl (fun r s => r - (s.size : Int)) (left - l.length) by
          rw [List.take_succ_eq_append_getElem (by simpa using hlt), M.szf_snoc, ← hr.out, List.getElem_map])
        have HZ := Lib.hid (show M.szf (l.map (·.name)) left ≤ r - l[k].name.size by
          rw [HR.out]; unfold M.szf; rw [List.length_map]; exact M.foldl_take _ _ _)
        have h1 : (k : Int) < (l.length : Int) := by omega
        have h2 : (0 : Int) ≤ (k : Int) := by omega
        have HC := Lib.hid (fun W => sz1 l[k] r W hsz hr0 (by omega))
        by_cases hb : r - l[k].name.size < 0
        · rw [if_pos hb] at HC
          go_wp2_with fail
          refine (HC.out _).mono ?_
          rintro e w1 ⟨rfl, b1⟩
          go_wp2
          go_ret
          exact ⟨⟨_, rfl, .inl ⟨by omega, by have := HZ.out; omega⟩⟩, hbw.trans (b1.mono hbw.size)⟩
        · rw [if_neg hb] at HC
          go_wp2_with fail
          refine (HC.out _).mono ?_
          rintro e w1 ⟨rfl, b1⟩
          go_wp2
          go_roundw
          case rel => exact ⟨k + 1, by omega, by go_num, _, by omega, by omega, rfl, HR, hbw.trans (b1.mono hbw.size)⟩
          case measure => simp [intOf]; omega
      · go_wp2
        go_ret
        refine ⟨⟨_, rfl, .inr ⟨hr0, ?_⟩⟩, hbw⟩
        rw [hr.out, List.take_of_length_le (by simp; omega)]; unfold M.szf; rw [List.length_map]
set_option maxHeartbeats 1000000 in
theorem eq_yes (A B : Option Addr) (c d : Nat) (l : List M.Unit) (w : World) (hl : l.length ≤ 1048576) (ha : K.Rd w 2 A l.length (l.flatMap M.unitCells)) (hb : K.Rd w 2 B l.length (l.flatMap M.unitCells)) :
    Calls Try.prog 21 #[.slice A l.length c, .slice B l.length d] w fun e w' => e = .returned (.bool true) ∧ Below w.heap.size w w' := by
  have hne : ((l.length : Int) != (l.length : Int)) = false := by simp
  go_enter Try.func21, Try.ntmps21
  go_wp2_with fail
  go_loopw [5] (fun i wr => ∃ k : Nat, k ≤ l.length ∧ i = .int .i64 k ∧ Below w.heap.size w wr) (fun i _ => l.length - (intOf i).toNat)
  case atStart => exact ⟨0, Nat.zero_le _, rfl, Below.refl _ _⟩
  case round =>
    obtain ⟨k, hk, rfl, hbw⟩ := hrel
    have hbs := hbw.size
    by_cases hlt : k < l.length
    · obtain ⟨g, o, rfl, hg, c0, c1⟩ := (ha.below hbw).unit hlt
      obtain ⟨g', o', rfl, hg', d0, d1⟩ := (hb.below hbw).unit hlt
      have h1 : (k : Int) < (l.length : Int) := by omega
      have h2 : (0 : Int) ≤ (k : Int) := by omega
      have HC := Lib.hid (fun W => eq1 l[k] W)
      generalize l[k].name = x0 at *
      generalize l[k].size = x1 at *
      go_wp2_with fail
      go_region_held3 (fun w' => w'.cell? ⟨g, o + k * 2, none⟩ = some (.string x0) ∧ w'.cell? ⟨g, o + k * 2 + 1, none⟩ = some (.int .i64 x1) ∧ w'.cell? ⟨g', o' + k * 2, none⟩ = some (.string x0) ∧ w'.cell? ⟨g', o' + k * 2 + 1, none⟩ = some (.int .i64 x1))
        (first | go_keep | exact ⟨(hb1.cell (p := ⟨g, o + k * 2, none⟩) hg).trans c0, (hb1.cell (p := ⟨g, o + k * 2 + 1, none⟩) hg).trans c1, (hb1.cell (p := ⟨g', o' + k * 2, none⟩) hg').trans d0, (hb1.cell (p := ⟨g', o' + k * 2 + 1, none⟩) hg').trans d1⟩)
        ((go_at_call 63; refine (HC.out _).mono ?_; rintro e w1 ⟨rfl, hb1⟩))
      all_goals go_wp2
      all_goals exact ⟨⟨k + 1, by omega, by go_num, hbw.drew.trans (hb1.mono hbs)⟩, by simp [intOf]; omega⟩
    · go_wp2
      go_ret
      exact ⟨rfl, hbw⟩
set_option maxHeartbeats 2000000 in
theorem mark (A : Option Addr) (n c lo k0 : Nat) (xs : List Value) (w : World) (hn : n ≤ 1048576) (hk0 : 1 ≤ k0) (hk1 : k0 ≤ 1099511627776) (ha : K.Row w lo 74 2 A n c xs) :
    Calls Try.prog 33 #[.slice A n c, .int .i64 k0] w fun e w' => e = .returned (.int .i64 ((k0 : Int) + 2 * n)) ∧ K.Row w' lo 74 2 A n c ((M.markUnits k0 n).flatMap M.unitCells) ∧ w.grownBy w' (K.blk A) := by
  go_enter Try.func33, Try.ntmps33
  go_wp2_with fail
  go_loopw [1, 5] (fun q i wr => ∃ j : Nat, j ≤ n ∧ i = .int .i64 j ∧ q = .int .i64 ((k0 : Int) + 2 * j) ∧ K.Row wr lo 74 2 A n c ((M.markUnits k0 j).flatMap M.unitCells ++ xs.drop (j * 2)) ∧ w.grownBy wr (K.blk A)) (fun _ i _ => n - (intOf i).toNat)
  case atStart => exact ⟨0, Nat.zero_le _, rfl, by simp, by simpa [M.markUnits] using ha, World.grownBy.refl _ _⟩
  case round =>
    obtain ⟨j, hj, rfl, rfl, hrow, hg⟩ := hrel
    by_cases hlt : j < n
    · obtain ⟨g, u0, u1, rfl, hlo, hgs, c0, c1, f0, f1⟩ := hrow.open2 hlt
      have h1 : (j : Int) < (n : Int) := by omega
      have h2 : (0 : Int) ≤ (j : Int) := by omega
      have hr_0 := hrow
      go_wp2_with fail
      have hmk := Num.markText (k0 + 2 * j) wr (by omega) (by omega)
      rw [show ((k0 + 2 * j : Nat) : Int) = (k0 : Int) + 2 * j by omega] at hmk
      refine hmk.mono ?_
      clear hmk
      rintro e w1 ⟨rfl, b1⟩
      have hr_b := hr_0.below b1
      clear c0 f0 c1 f1
      obtain ⟨g', u0, u1, hA, _, _, c0, c1, f0, f1⟩ := hr_b.open2 hlt
      injection hA with hA
      injection hA with hA
      subst hA
      go_wp2
      have s_0 := hr_b.set_ (j * 2) (.string (M.mk (k0 + 2 * j)))
      have hr_1' := s_0.1
      have s_1 := hr_1'.set_ (j * 2 + 1) (.int .i64 ((k0 : Int) + 2 * j + 1))
      have hr_2' := s_1.1
      go_roundw
      case rel =>
        refine ⟨j + 1, by omega, by go_num, by go_num, ?_, (K.grown_trans (K.grown_trans (K.grown_trans hg (K.grown_below b1 _)) s_0.2) s_1.2)⟩
        have h := hr_2'
        rw [K.set_mid2 _ _ _ _ (by rw [K.flat_len _ _ M.unitCells_len, M.markUnits_len]) (by have := ha.len; rw [List.length_drop]; omega), List.drop_drop] at h
        rw [M.markUnits_succ, List.flatMap_append, Nat.succ_mul j]
        first | exact h | (simp only [Int.add_assoc] at h ⊢; exact h)
      case measure => simp [intOf]; omega
    · obtain rfl : j = n := by omega
      go_wp2
      go_ret
      refine ⟨rfl, ?_, hg⟩
      rw [List.drop_eq_nil_of_le (by have := ha.len; omega), List.append_nil] at hrow
      exact hrow
end Go.Proofs.Ytfgnmjnlhnpmoaa.Units
