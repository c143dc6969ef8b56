/-
  Walks: the law file's helpers on records Pupil and on slices of them.
-/
import Derived.Test.YtebbihckndjbeaaProg
import Derived.Test.YtebbihckndjbeaaMath
import Derived.Test.YtebbihckndjbeaaKit
import Derived.Test.YtebbihckndjbeaaNum
import Derived.BigQuiet
import Derived.WalkSpells
import Derived.WalkLawsBesides
import Derived.Deep.RegionHeld3
set_option linter.unusedVariables false
namespace Go.Proofs.Ytebbihckndjbeaa.Pupils
open Go.RowKit
set_option maxHeartbeats 400000 in
theorem copy1 (p : M.Pupil) (w : World) :
    Calls Try.prog 18 #[.agg #[.int .i64 p.id, .string p.name, .int .i64 p.born, .int .i64 p.cls, .int .i64 p.level]] w fun e w' => e = .returned (.agg #[.int .i64 p.id, .string p.name, .int .i64 p.born, .int .i64 p.cls, .int .i64 p.level]) ∧ Below w.heap.size w w' := by
  go_enter Try.func18, Try.ntmps18
  go_wp2
  exact bodyPost_ret (v := .agg #[.int .i64 p.id, .string p.name, .int .i64 p.born, .int .i64 p.cls, .int .i64 p.level]) (by simp [results, Try.results18, go_sem]) rfl ⟨rfl, by (repeat (first | exact Below.refl _ _ | assumption | (refine K.below_drewN ?_ _) | (refine Below.drew ?_) | (refine Below.alloc ?_ (by first | (simp; done) | (simp; omega) | omega) _) | (refine Below.setCell ?_ (by first | (simp; done) | (simp; omega) | omega) _)))⟩
set_option maxHeartbeats 400000 in
theorem eq1 (p : M.Pupil) (w : World) :
    Calls Try.prog 82 #[.agg #[.int .i64 p.id, .string p.name, .int .i64 p.born, .int .i64 p.cls, .int .i64 p.level], .agg #[.int .i64 p.id, .string p.name, .int .i64 p.born, .int .i64 p.cls, .int .i64 p.level]] w fun e w' => e = .returned (.bool true) ∧ Below w.heap.size w w' := by
  go_enter Try.func82, Try.ntmps82
  go_wp2
  go_ret
  exact ⟨rfl, by (repeat (first | exact Below.refl _ _ | assumption | (refine K.below_drewN ?_ _) | (refine Below.drew ?_) | (refine Below.alloc ?_ (by first | (simp; done) | (simp; omega) | omega) _) | (refine Below.setCell ?_ (by first | (simp; done) | (simp; omega) | omega) _)))⟩
theorem info : (Try.prog.info? 26).map (fun i => (i.zero, i.size, i.bytes)) = some (some (.agg #[.int .i64 0, .string ByteArray.empty, .int .i64 0, .int .i64 0, .int .i64 0]), 5, 48) := by kernel_rfl
set_option maxHeartbeats 1000000 in
theorem copy (A : Option Addr) (c : Nat) (l : List M.Pupil) (w : World) (hl : l.length ≤ 1048576) (ha : K.Rd w 5 A l.length (l.flatMap M.pupilCells)) :
    Calls Try.prog 54 #[.slice A l.length c] w (K.RetRow w 26 5 l.length (l.flatMap M.pupilCells)) := by
  obtain ⟨i0, hi0, hz0, hz1, hz2⟩ := info_parts info
  go_enter Try.func54, Try.ntmps54
  go_wp2_with (at_make; refine K.make1 rfl (.tmp 6) (.tmp 6) _ rfl w.heap.size _ i0 _ 5 48 Try.underlying31 hi0 hz0 hz1 hz2 l.length rfl rfl (by omega) (by simp only [maxLen]; omega) (Nat.le_refl _) ?_; intro w1 hrow hb hsz)
  generalize hM : (madeCells (Value.agg #[.int .i64 0, .string ByteArray.empty, .int .i64 0, .int .i64 0, .int .i64 0]).cells (l.length * 5)).toList = M0 at hrow
  have hML : M0.length = l.length * 5 := by rw [← hM]; simp [size_madeCells]
  clear hM
  go_loopw [4] (fun i wr => ∃ j : Nat, j ≤ l.length ∧ i = .int .i64 j ∧ K.Row wr w.heap.size 26 5 (some ⟨w.heap.size, 0, none⟩) l.length l.length ((l.take j).flatMap M.pupilCells ++ M0.drop (j * 5)) ∧ Below w.heap.size w wr) (fun i _ => l.length - (intOf i).toNat)
  case atStart => exact ⟨0, Nat.zero_le _, rfl, by simpa using hrow, hb⟩
  case round =>
    obtain ⟨j, hj, rfl, hrow, hb⟩ := hrel
    by_cases hlt : j < l.length
    · obtain ⟨g', o', rfl, hg', c0, c1, c2, c3, c4⟩ := (ha.below hb).pupil hlt
      obtain ⟨g, u0, u1, u2, u3, u4, hA, hlo, hgs, d0, d1, d2, d3, d4, f0, f1, f2, f3, f4⟩ := hrow.open5 hlt
      injection hA with hA
      injection hA with hA
      subst hA
      have h1 : (j : Int) < (l.length : Int) := by omega
      have h2 : (0 : Int) ≤ (j : Int) := by omega
      go_wp2_with fail
      refine (copy1 _ _).mono ?_
      rintro e w2 ⟨rfl, b2⟩
      have hrow2 := hrow.below b2
      have d0' := (b2.cell (p := ⟨w.heap.size, j * 5, none⟩) hgs).trans d0
      have f0' := (b2.frozen (p := ⟨w.heap.size, j * 5, none⟩) hgs).trans f0
      have d1' := (b2.cell (p := ⟨w.heap.size, j * 5 + 1, none⟩) hgs).trans d1
      have f1' := (b2.frozen (p := ⟨w.heap.size, j * 5 + 1, none⟩) hgs).trans f1
      have d2' := (b2.cell (p := ⟨w.heap.size, j * 5 + 2, none⟩) hgs).trans d2
      have f2' := (b2.frozen (p := ⟨w.heap.size, j * 5 + 2, none⟩) hgs).trans f2
      have d3' := (b2.cell (p := ⟨w.heap.size, j * 5 + 3, none⟩) hgs).trans d3
      have f3' := (b2.frozen (p := ⟨w.heap.size, j * 5 + 3, none⟩) hgs).trans f3
      have d4' := (b2.cell (p := ⟨w.heap.size, j * 5 + 4, none⟩) hgs).trans d4
      have f4' := (b2.frozen (p := ⟨w.heap.size, j * 5 + 4, none⟩) hgs).trans f4
      clear d0 f0 c0 d1 f1 c1 d2 f2 c2 d3 f3 c3 d4 f4 c4
      go_wp2_with fail
      go_roundw
      case rel =>
        refine ⟨j + 1, by omega, by go_num, ?_, ((((((hb.trans (b2.mono hb.size)).setCell (p := ⟨w.heap.size, j * 5, none⟩) (Nat.le_refl _) _).setCell (p := ⟨w.heap.size, j * 5 + 1, none⟩) (Nat.le_refl _) _).setCell (p := ⟨w.heap.size, j * 5 + 2, none⟩) (Nat.le_refl _) _).setCell (p := ⟨w.heap.size, j * 5 + 3, none⟩) (Nat.le_refl _) _).setCell (p := ⟨w.heap.size, j * 5 + 4, none⟩) (Nat.le_refl _) _)⟩
        have h := (hrow2.set5 (j * 5) (.int .i64 l[j].id) (.string l[j].name) (.int .i64 l[j].born) (.int .i64 l[j].cls) (.int .i64 l[j].level)).1
        rw [K.set_mid5 _ _ _ _ _ _ _ (by rw [K.flat_len _ _ M.pupilCells_len, List.length_take, Nat.min_eq_left (by omega)]) (by rw [List.length_drop]; omega), List.drop_drop] at h
        rw [List.take_succ_eq_append_getElem hlt, List.flatMap_append, Nat.succ_mul j]
        exact h
      case measure => simp [intOf]; omega
    · obtain rfl : j = l.length := by omega
      go_wp2
      go_ret
      refine ⟨_, _, rfl, ?_, hb⟩
      rw [List.drop_eq_nil_of_le (by omega), List.append_nil, List.take_length] at hrow
      exact hrow
theorem sz1 (p : M.Pupil) (left : Int) (w : World) (hp : p.name.size ≤ 9223372036854775807) (h0 : 0 ≤ left) (h1 : left ≤ 1048576) :
    Calls Try.prog 16 #[.agg #[.int .i64 p.id, .string p.name, .int .i64 p.born, .int .i64 p.cls, .int .i64 p.level], .int .i64 left] w fun e w' => e = .returned (.int .i64 (if left - p.name.size < 0 then -1 else left - p.name.size)) ∧ Below w.heap.size w w' := by
  by_cases hneg : left - p.name.size < 0
  · rw [if_pos hneg]
    go_enter Try.func16, Try.ntmps16
    go_wp2
    go_ret
    exact ⟨rfl, by (repeat (first | exact Below.refl _ _ | assumption | (refine K.below_drewN ?_ _) | (refine Below.drew ?_) | (refine Below.alloc ?_ (by first | (simp; done) | (simp; omega) | omega) _) | (refine Below.setCell ?_ (by first | (simp; done) | (simp; omega) | omega) _)))⟩
  · rw [if_neg hneg]
    go_enter Try.func16, Try.ntmps16
    go_wp2
    go_ret
    exact ⟨rfl, by (repeat (first | exact Below.refl _ _ | assumption | (refine K.below_drewN ?_ _) | (refine Below.drew ?_) | (refine Below.alloc ?_ (by first | (simp; done) | (simp; omega) | omega) _) | (refine Below.setCell ?_ (by first | (simp; done) | (simp; omega) | omega) _)))⟩
set_option maxHeartbeats 1000000 in
theorem sz (A : Option Addr) (c : Nat) (l : List M.Pupil) (left : Int) (w : World) (hl : l.length ≤ 9223372036854775807) (hss : ∀ s ∈ l, s.name.size ≤ 9223372036854775807) (h0 : 0 ≤ left) (h1 : left ≤ 1048576) (ha : K.Rd w 5 A l.length (l.flatMap M.pupilCells)) :
    Calls Try.prog 52 #[.slice A l.length c, .int .i64 left] w fun e w' => (∃ r, e = .returned (.int .i64 r) ∧ ((r < 0 ∧ M.szf (l.map (·.name)) left < 0) ∨ (0 ≤ r ∧ r = M.szf (l.map (·.name)) left))) ∧ Below w.heap.size w w' := by
  by_cases hneg : left - l.length < 0
  · have hz : M.szf (l.map (·.name)) left < 0 := by have := M.foldl_le (l.map (·.name)) (left - l.length); unfold M.szf; rw [List.length_map]; omega
    have HZ := Lib.hid hz
    clear hz hss
    go_enter Try.func52, Try.ntmps52
    go_wp2
    go_ret
    exact ⟨⟨_, rfl, .inl ⟨by omega, HZ.out⟩⟩, Below.refl _ _⟩
  · have HSS := Lib.hid hss
    clear hss
    go_enter Try.func52, Try.ntmps52
    go_wp2_with fail
    go_loopw [1, 5] (fun q i wr => ∃ k : Nat, k ≤ l.length ∧ i = .int .i64 k ∧ ∃ r : Int, 0 ≤ r ∧ r ≤ left ∧ q = .int .i64 r ∧ Hid (r = ((l.map (·.name)).take k).foldl (fun r s => r - (s.size : Int)) (left - l.length)) ∧ Below w.heap.size w wr) (fun _ i _ => l.length - (intOf i).toNat)
    case atStart => exact ⟨0, Nat.zero_le _, rfl, left - l.length, by omega, by omega, rfl, Lib.hid (by simp), Below.refl _ _⟩
    case round =>
      obtain ⟨k, hk, rfl, r, hr0, hr1, rfl, hr, hbw⟩ := hrel
      by_cases hlt : k < l.length
      · obtain ⟨g, o, rfl, hg, c0, c1, c2, c3, c4⟩ := (ha.below hbw).pupil hlt
        have hsz : l[k].name.size ≤ 9223372036854775807 := HSS.out _ (List.getElem_mem hlt)
        have HR := Lib.hid (show r - l[k].name.size = ((l.map (·.name)).take (k + 1)).foldl (fun r s => r - (s.size : Int)) (left - l.length) by
          rw [List.take_succ_eq_append_getElem (by simpa using hlt), M.szf_snoc, ← hr.out, List.getElem_map])
        have HZ := Lib.hid (show M.szf (l.map (·.name)) left ≤ r - l[k].name.size by
          rw [HR.out]; unfold M.szf; rw [List.length_map]; exact M.foldl_take _ _ _)
        have h1 : (k : Int) < (l.length : Int) := by omega
        have h2 : (0 : Int) ≤ (k : Int) := by omega
        have HC := Lib.hid (fun W => sz1 l[k] r W hsz hr0 (by omega))
        by_cases hb : r - l[k].name.size < 0
        · rw [if_pos hb] at HC
          go_wp2_with fail
          refine (HC.out _).mono ?_
          rintro e w1 ⟨rfl, b1⟩
          go_wp2
          go_ret
          exact ⟨⟨_, rfl, .inl ⟨by omega, by have := HZ.out; omega⟩⟩, hbw.trans (b1.mono hbw.size)⟩
        · rw [if_neg hb] at HC
          go_wp2_with fail
          refine (HC.out _).mono ?_
          rintro e w1 ⟨rfl, b1⟩
          go_wp2
          go_roundw
          case rel => exact ⟨k + 1, by omega, by go_num, _, by omega, by omega, rfl, HR, hbw.trans (b1.mono hbw.size)⟩
          case measure => simp [intOf]; omega
      · go_wp2
        go_ret
        refine ⟨⟨_, rfl, .inr ⟨hr0, ?_⟩⟩, hbw⟩
        rw [hr.out, List.take_of_length_le (by simp; omega)]; unfold M.szf; rw [List.length_map]
set_option maxHeartbeats 1000000 in
theorem eq_yes (A B : Option Addr) (c d : Nat) (l : List M.Pupil) (w : World) (hl : l.length ≤ 1048576) (ha : K.Rd w 5 A l.length (l.flatMap M.pupilCells)) (hb : K.Rd w 5 B l.length (l.flatMap M.pupilCells)) :
    Calls Try.prog 55 #[.slice A l.length c, .slice B l.length d] w fun e w' => e = .returned (.bool true) ∧ Below w.heap.size w w' := by
  have hne : ((l.length : Int) != (l.length : Int)) = false := by simp
  go_enter Try.func55, Try.ntmps55
  go_wp2_with fail
  go_loopw [5] (fun i wr => ∃ k : Nat, k ≤ l.length ∧ i = .int .i64 k ∧ Below w.heap.size w wr) (fun i _ => l.length - (intOf i).toNat)
  case atStart => exact ⟨0, Nat.zero_le _, rfl, Below.refl _ _⟩
  case round =>
    obtain ⟨k, hk, rfl, hbw⟩ := hrel
    have hbs := hbw.size
    by_cases hlt : k < l.length
    · obtain ⟨g, o, rfl, hg, c0, c1, c2, c3, c4⟩ := (ha.below hbw).pupil hlt
      obtain ⟨g', o', rfl, hg', d0, d1, d2, d3, d4⟩ := (hb.below hbw).pupil hlt
      have h1 : (k : Int) < (l.length : Int) := by omega
      have h2 : (0 : Int) ≤ (k : Int) := by omega
      have HC := Lib.hid (fun W => eq1 l[k] W)
      generalize l[k].id = x0 at *
      generalize l[k].name = x1 at *
      generalize l[k].born = x2 at *
      generalize l[k].cls = x3 at *
      generalize l[k].level = x4 at *
      go_wp2_with fail
      go_region_held3 (fun w' => w'.cell? ⟨g, o + k * 5, none⟩ = some (.int .i64 x0) ∧ w'.cell? ⟨g, o + k * 5 + 1, none⟩ = some (.string x1) ∧ w'.cell? ⟨g, o + k * 5 + 2, none⟩ = some (.int .i64 x2) ∧ w'.cell? ⟨g, o + k * 5 + 3, none⟩ = some (.int .i64 x3) ∧ w'.cell? ⟨g, o + k * 5 + 4, none⟩ = some (.int .i64 x4) ∧ w'.cell? ⟨g', o' + k * 5, none⟩ = some (.int .i64 x0) ∧ w'.cell? ⟨g', o' + k * 5 + 1, none⟩ = some (.string x1) ∧ w'.cell? ⟨g', o' + k * 5 + 2, none⟩ = some (.int .i64 x2) ∧ w'.cell? ⟨g', o' + k * 5 + 3, none⟩ = some (.int .i64 x3) ∧ w'.cell? ⟨g', o' + k * 5 + 4, none⟩ = some (.int .i64 x4))
        (first | go_keep | exact ⟨(hb1.cell (p := ⟨g, o + k * 5, none⟩) hg).trans c0, (hb1.cell (p := ⟨g, o + k * 5 + 1, none⟩) hg).trans c1, (hb1.cell (p := ⟨g, o + k * 5 + 2, none⟩) hg).trans c2, (hb1.cell (p := ⟨g, o + k * 5 + 3, none⟩) hg).trans c3, (hb1.cell (p := ⟨g, o + k * 5 + 4, none⟩) hg).trans c4, (hb1.cell (p := ⟨g', o' + k * 5, none⟩) hg').trans d0, (hb1.cell (p := ⟨g', o' + k * 5 + 1, none⟩) hg').trans d1, (hb1.cell (p := ⟨g', o' + k * 5 + 2, none⟩) hg').trans d2, (hb1.cell (p := ⟨g', o' + k * 5 + 3, none⟩) hg').trans d3, (hb1.cell (p := ⟨g', o' + k * 5 + 4, none⟩) hg').trans d4⟩)
        ((go_at_call 82; refine (HC.out _).mono ?_; rintro e w1 ⟨rfl, hb1⟩))
      all_goals go_wp2
      all_goals exact ⟨⟨k + 1, by omega, by go_num, hbw.drew.trans (hb1.mono hbs)⟩, by simp [intOf]; omega⟩
    · go_wp2
      go_ret
      exact ⟨rfl, hbw⟩
set_option maxHeartbeats 2000000 in
theorem mark (A : Option Addr) (n c lo k0 : Nat) (xs : List Value) (w : World) (hn : n ≤ 1048576) (hk0 : 1 ≤ k0) (hk1 : k0 ≤ 1099511627776) (ha : K.Row w lo 26 5 A n c xs) :
    Calls Try.prog 57 #[.slice A n c, .int .i64 k0] w fun e w' => e = .returned (.int .i64 ((k0 : Int) + 5 * n)) ∧ K.Row w' lo 26 5 A n c ((M.markPupils k0 n).flatMap M.pupilCells) ∧ w.grownBy w' (K.blk A) := by
  go_enter Try.func57, Try.ntmps57
  go_wp2_with fail
  go_loopw [1, 5] (fun q i wr => ∃ j : Nat, j ≤ n ∧ i = .int .i64 j ∧ q = .int .i64 ((k0 : Int) + 5 * j) ∧ K.Row wr lo 26 5 A n c ((M.markPupils k0 j).flatMap M.pupilCells ++ xs.drop (j * 5)) ∧ w.grownBy wr (K.blk A)) (fun _ i _ => n - (intOf i).toNat)
  case atStart => exact ⟨0, Nat.zero_le _, rfl, by simp, by simpa [M.markPupils] using ha, World.grownBy.refl _ _⟩
  case round =>
    obtain ⟨j, hj, rfl, rfl, hrow, hg⟩ := hrel
    by_cases hlt : j < n
    · obtain ⟨g, u0, u1, u2, u3, u4, rfl, hlo, hgs, c0, c1, c2, c3, c4, f0, f1, f2, f3, f4⟩ := hrow.open5 hlt
      have h1 : (j : Int) < (n : Int) := by omega
      have h2 : (0 : Int) ≤ (j : Int) := by omega
      have hr_0 := hrow
      go_wp2_with fail
      have hmk := Num.markText (k0 + 5 * j + 1) (wr.setCell ⟨g, j * 5, none⟩ (.int .i64 ((k0 : Int) + 5 * j))) (by omega) (by omega)
      rw [show ((k0 + 5 * j + 1 : Nat) : Int) = (k0 : Int) + 5 * j + 1 by omega] at hmk
      refine hmk.mono ?_
      clear hmk
      rintro e w1 ⟨rfl, b1⟩
      have s_0 := hr_0.set_ (j * 5) (.int .i64 ((k0 : Int) + 5 * j))
      have hr_1 := s_0.1
      have hr_b := hr_1.below b1
      clear c0 f0 c1 f1 c2 f2 c3 f3 c4 f4
      obtain ⟨g', u0, u1, u2, u3, u4, hA, _, _, c0, c1, c2, c3, c4, f0, f1, f2, f3, f4⟩ := hr_b.open5 hlt
      injection hA with hA
      injection hA with hA
      subst hA
      go_wp2
      have s_1 := hr_b.set_ (j * 5 + 1) (.string (M.mk (k0 + 5 * j + 1)))
      have hr_2' := s_1.1
      have s_2 := hr_2'.set_ (j * 5 + 2) (.int .i64 ((k0 : Int) + 5 * j + 2))
      have hr_3' := s_2.1
      have s_3 := hr_3'.set_ (j * 5 + 3) (.int .i64 ((k0 : Int) + 5 * j + 3))
      have hr_4' := s_3.1
      have s_4 := hr_4'.set_ (j * 5 + 4) (.int .i64 ((k0 : Int) + 5 * j + 4))
      have hr_5' := s_4.1
      go_roundw
      case rel =>
        refine ⟨j + 1, by omega, by go_num, by go_num, ?_, (K.grown_trans (K.grown_trans (K.grown_trans (K.grown_trans (K.grown_trans (K.grown_trans hg s_0.2) (K.grown_below b1 _)) s_1.2) s_2.2) s_3.2) s_4.2)⟩
        have h := hr_5'
        rw [K.set_mid5 _ _ _ _ _ _ _ (by rw [K.flat_len _ _ M.pupilCells_len, M.markPupils_len]) (by have := ha.len; rw [List.length_drop]; omega), List.drop_drop] at h
        rw [M.markPupils_succ, List.flatMap_append, Nat.succ_mul j]
        first | exact h | (simp only [Int.add_assoc] at h ⊢; exact h)
      case measure => simp [intOf]; omega
    · obtain rfl : j = n := by omega
      go_wp2
      go_ret
      refine ⟨rfl, ?_, hg⟩
      rw [List.drop_eq_nil_of_le (by have := ha.len; omega), List.append_nil] at hrow
      exact hrow
set_option maxHeartbeats 2000000 in
theorem held (A : Option Addr) (n c k0 : Nat) (w : World) (hn : n ≤ 1048576) (hk0 : 1 ≤ k0) (hk1 : k0 ≤ 1099511627776) (ha : K.Rd w 5 A n ((M.markPupils k0 n).flatMap M.pupilCells)) :
    Calls Try.prog 60 #[.slice A n c, .int .i64 k0] w fun e w' => e = .returned (.int .i64 ((k0 : Int) + 5 * n)) ∧ Below w.heap.size w w' := by
  have hml := M.markPupils_len k0 n
  have HML := Lib.hid hml
  have ha' : K.Rd w 5 A (M.markPupils k0 n).length ((M.markPupils k0 n).flatMap M.pupilCells) := by rw [hml]; exact ha
  clear hml ha
  go_enter Try.func60, Try.ntmps60
  go_wp2_with fail
  go_loopw [1, 5] (fun q i wr => ∃ j : Nat, j ≤ n ∧ i = .int .i64 j ∧ q = .int .i64 ((k0 : Int) + 5 * j) ∧ Below w.heap.size w wr) (fun _ i _ => n - (intOf i).toNat)
  case atStart => exact ⟨0, Nat.zero_le _, rfl, by simp, Below.refl _ _⟩
  case round =>
    obtain ⟨j, hj, rfl, rfl, hbw⟩ := hrel
    have hbs := hbw.size
    by_cases hlt : j < n
    · obtain ⟨g, o, rfl, hg, c0, c1, c2, c3, c4⟩ := (ha'.below hbw).pupil (by rw [HML.out]; exact hlt)
      rw [M.markPupils_at] at c0 c1 c2 c3 c4
      have h1 : (j : Int) < (n : Int) := by omega
      have h2 : (0 : Int) ≤ (j : Int) := by omega
      have hmk := fun W => Num.markText (k0 + 5 * j + 1) W (by omega) (by omega)
      rw [show ((k0 + 5 * j + 1 : Nat) : Int) = (k0 : Int) + 5 * j + 1 by omega] at hmk
      have HMK := Lib.hid hmk
      clear hmk
      dsimp only at c0 c1 c2 c3 c4
      go_wp2_with fail
      go_region_held3 (fun w' => w'.cell? ⟨g, o + j * 5, none⟩ = some (.int .i64 ((k0 : Int) + 5 * j)) ∧ w'.cell? ⟨g, o + j * 5 + 1, none⟩ = some (.string (M.mk (k0 + 5 * j + 1))) ∧ w'.cell? ⟨g, o + j * 5 + 2, none⟩ = some (.int .i64 ((k0 : Int) + 5 * j + 2)) ∧ w'.cell? ⟨g, o + j * 5 + 3, none⟩ = some (.int .i64 ((k0 : Int) + 5 * j + 3)) ∧ w'.cell? ⟨g, o + j * 5 + 4, none⟩ = some (.int .i64 ((k0 : Int) + 5 * j + 4)))
        (first | go_keep | exact ⟨(hb1.cell (p := ⟨g, o + j * 5, none⟩) hg).trans c0, (hb1.cell (p := ⟨g, o + j * 5 + 1, none⟩) hg).trans c1, (hb1.cell (p := ⟨g, o + j * 5 + 2, none⟩) hg).trans c2, (hb1.cell (p := ⟨g, o + j * 5 + 3, none⟩) hg).trans c3, (hb1.cell (p := ⟨g, o + j * 5 + 4, none⟩) hg).trans c4⟩)
        ((go_at_call 83; refine (HMK.out _).mono ?_; rintro e w1 ⟨rfl, hb1⟩))
      have hcs : w1.cell? ⟨g, o + j * 5, none⟩ = some (.int .i64 ((k0 : Int) + 5 * j)) ∧ w1.cell? ⟨g, o + j * 5 + 1, none⟩ = some (.string (M.mk (k0 + 5 * j + 1))) ∧ w1.cell? ⟨g, o + j * 5 + 2, none⟩ = some (.int .i64 ((k0 : Int) + 5 * j + 2)) ∧ w1.cell? ⟨g, o + j * 5 + 3, none⟩ = some (.int .i64 ((k0 : Int) + 5 * j + 3)) ∧ w1.cell? ⟨g, o + j * 5 + 4, none⟩ = some (.int .i64 ((k0 : Int) + 5 * j + 4)) := ⟨(hb1.cell (p := ⟨g, o + j * 5, none⟩) hg).trans c0, (hb1.cell (p := ⟨g, o + j * 5 + 1, none⟩) hg).trans c1, (hb1.cell (p := ⟨g, o + j * 5 + 2, none⟩) hg).trans c2, (hb1.cell (p := ⟨g, o + j * 5 + 3, none⟩) hg).trans c3, (hb1.cell (p := ⟨g, o + j * 5 + 4, none⟩) hg).trans c4⟩
      obtain ⟨e0, e1, e2, e3, e4⟩ := hcs
      go_wp2
      exact ⟨⟨j + 1, by omega, by go_num, by go_num, hbw.drew.trans (hb1.mono hbs)⟩, by simp [intOf]; omega⟩
    · obtain rfl : j = n := by omega
      go_wp2
      go_ret
      exact ⟨rfl, hbw⟩
end Go.Proofs.Ytebbihckndjbeaa.Pupils
