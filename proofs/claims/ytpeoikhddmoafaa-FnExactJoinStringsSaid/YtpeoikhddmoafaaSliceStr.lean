/-
  Walks: the law file's helpers on slices of strings: their size, a copy, equality, marking and asking for the marks.
-/
import Derived.Test.YtpeoikhddmoafaaNum
import Derived.Deep.RegionHeld3
namespace Go.Proofs.Ytpeoikhddmoafaa.SlStr
open Go.RowKit

set_option maxHeartbeats 400000 in
theorem eq_yes (A B : Option Addr) (c d : Nat) (l : List ByteArray) (w : World) (hl : l.length ≤ 1048576) (ha : K.Rd w 1 A l.length (l.map Value.string)) (hb : K.Rd w 1 B l.length (l.map Value.string)) :
    Calls Try.prog 24 #[.slice A l.length c, .slice B l.length d] w fun e w' => e = .returned (.bool true) ∧ ∃ m, w' = w.drewN m := by
  have hne : ((l.length : Int) != (l.length : Int)) = false := by simp
  go_enter Try.func24, Try.ntmps24
  go_wp2_with fail
  go_loopw [5] (fun i wr => ∃ k m : Nat, k ≤ l.length ∧ i = .int .i64 k ∧ wr = w.drewN m) (fun i _ => l.length - (intOf i).toNat)
  case atStart => exact ⟨0, 0, Nat.zero_le _, rfl, rfl⟩
  case round =>
    obtain ⟨k, m, hk, rfl, rfl⟩ := hrel
    by_cases hlt : k < l.length
    · obtain ⟨g, o, rfl, hc⟩ := ha.str hlt
      obtain ⟨g', o', rfl, hc'⟩ := hb.str hlt
      have h1 : (k : Int) < (l.length : Int) := by omega
      have h2 : (0 : Int) ≤ (k : Int) := by omega
      go_wp2_with fail
      go_quiet (fail)
      go_wp2
      go_roundw
      case rel => exact ⟨k + 1, _, by omega, by go_num, rfl⟩
      case measure => simp [intOf]; omega
    · go_wp2
      go_ret
      exact ⟨rfl, m, rfl⟩

/-- the marks of n places from k on. -/
def marks (k n : Nat) : List Value := (List.range n).map fun i => .string (M.mk (k + i))
theorem marks_succ (k n : Nat) : marks k (n + 1) = marks k n ++ [.string (M.mk (k + n))] := by simp [marks, List.range_succ]
theorem marks_len (k n : Nat) : (marks k n).length = n := by simp [marks]
theorem marks_at (k n i : Nat) (h : i < n) : (marks k n)[i]? = some (.string (M.mk (k + i))) := by simp [marks, h]
set_option maxHeartbeats 400000 in
theorem mark (A : Option Addr) (n c lo k0 : Nat) (xs : List Value) (w : World) (hn : n ≤ 1048576) (hk0 : 1 ≤ k0) (hk1 : k0 ≤ 1099511627776) (ha : K.Row w lo 9 1 A n c xs) :
    Calls Try.prog 25 #[.slice A n c, .int .i64 k0] w fun e w' => e = .returned (.int .i64 ((k0 : Int) + n)) ∧ K.Row w' lo 9 1 A n c (marks k0 n) ∧ w.grownBy w' (K.blk A) := by
  go_enter Try.func25, Try.ntmps25
  go_wp2_with fail
  go_loopw [1, 5] (fun q i wr => ∃ j : Nat, j ≤ n ∧ i = .int .i64 j ∧ q = .int .i64 ((k0 : Int) + j) ∧ K.Row wr lo 9 1 A n c (marks k0 j ++ xs.drop j) ∧ w.grownBy wr (K.blk A)) (fun _ i _ => n - (intOf i).toNat)
  case atStart => exact ⟨0, Nat.zero_le _, rfl, by simp, by simpa [marks] using ha, World.grownBy.refl _ _⟩
  case round =>
    obtain ⟨j, hj, rfl, rfl, hrow, hg⟩ := hrel
    by_cases hlt : j < n
    · obtain ⟨g, u, rfl, hlo, hgs, hu, hc, hf⟩ := hrow.at_ (j := j) (by omega)
      go_wp2_with fail
      have hmk := Num.markText (k0 + j) wr (by omega) (by omega)
      rw [show ((k0 + j : Nat) : Int) = (k0 : Int) + j by omega] at hmk
      refine hmk.mono ?_
      clear hmk
      rintro e w1 ⟨rfl, hb⟩
      have hrow1 := hrow.below hb
      have hc1 := (hb.cell (p := ⟨g, j, none⟩) hgs).trans hc
      have hf1 := (hb.frozen (p := ⟨g, j, none⟩) hgs).trans hf
      clear hc hf hu
      go_wp2
      go_roundw
      case rel =>
        refine ⟨j + 1, by omega, by go_num, by go_num, ?_, ?_⟩
        · have h := (hrow1.set_ j (.string (M.mk (k0 + j)))).1
          rw [K.set_mid _ _ _ (marks_len _ _) (by have := ha.len; simp; omega), List.drop_drop, ← marks_succ] at h
          exact h
        · exact K.grown_trans (K.grown_trans hg (K.grown_below hb _)) (hrow1.set_ j (.string (M.mk (k0 + j)))).2
      case measure => simp [intOf]; omega
    · obtain rfl : j = n := by omega
      go_wp2
      go_ret
      refine ⟨rfl, ?_, hg⟩
      rw [List.drop_eq_nil_of_le (by have := ha.len; omega), List.append_nil] at hrow
      exact hrow

set_option maxHeartbeats 400000 in
theorem held (A : Option Addr) (n c k0 : Nat) (w : World) (hn : n ≤ 1048576) (hk0 : 1 ≤ k0) (hk1 : k0 ≤ 1099511627776) (ha : K.Rd w 1 A n (marks k0 n)) :
    Calls Try.prog 26 #[.slice A n c, .int .i64 k0] w fun e w' => e = .returned (.int .i64 ((k0 : Int) + n)) ∧ Below w.heap.size w w' := by
  go_enter Try.func26, Try.ntmps26
  go_wp2_with fail
  go_loopw [1, 5] (fun q i wr => ∃ j : Nat, j ≤ n ∧ i = .int .i64 j ∧ q = .int .i64 ((k0 : Int) + j) ∧ Below w.heap.size w wr) (fun _ i _ => n - (intOf i).toNat)
  case atStart => exact ⟨0, Nat.zero_le _, rfl, by simp, Below.refl _ _⟩
  case round =>
    obtain ⟨j, hj, rfl, rfl, hb⟩ := hrel
    have hbs := hb.size
    by_cases hlt : j < n
    · obtain ⟨g, o, u, rfl, hu, hc⟩ := (ha.below hb).at1 hlt
      rw [marks_at _ _ _ hlt] at hu
      obtain rfl := Option.some.inj hu
      have hgs := World.block_lt_of_cell? wr _ hc
      have h1 : (j : Int) < (n : Int) := by omega
      have h2 : (0 : Int) ≤ (j : Int) := by omega
      clear hu
      go_wp2_with fail
      have hmk := fun W => Num.markText (k0 + j) W (by omega) (by omega)
      rw [show ((k0 + j : Nat) : Int) = (k0 : Int) + j by omega] at hmk
      have HMK := Lib.hid hmk
      clear hmk
      go_region_held3 (fun w' => w'.cell? ⟨g, o + j, none⟩ = some (.string (M.mk (k0 + j)))) (first | go_keep | exact (hb1.cell (p := ⟨g, o + j, none⟩) hgs).trans hc) ((go_at_call 52; refine (HMK.out _).mono ?_; rintro e w1 ⟨rfl, hb1⟩))
      all_goals go_wp2
      all_goals exact ⟨⟨j + 1, by omega, by go_num, by go_num, hb.drew.trans (hb1.mono hbs)⟩, by simp [intOf]; omega⟩
    · obtain rfl : j = n := by omega
      go_wp2
      go_ret
      exact ⟨rfl, hb⟩

/-- what is left of a bound behind a list of texts; less than 0: nothing. -/
def szf (l : List ByteArray) (left : Int) : Int := l.foldl (fun r s => r - s.size) (left - l.length)
theorem szf_snoc (l : List ByteArray) (s : ByteArray) (r : Int) : (l ++ [s]).foldl (fun r s => r - (s.size : Int)) r = l.foldl (fun r s => r - (s.size : Int)) r - s.size := by simp
theorem foldl_le (l : List ByteArray) (r : Int) : l.foldl (fun r s => r - (s.size : Int)) r ≤ r := by
  induction l generalizing r with
  | nil => simp
  | cons s l ih => have := ih (r - s.size); simp; omega
theorem foldl_take (l : List ByteArray) (r : Int) (k : Nat) : l.foldl (fun r s => r - (s.size : Int)) r ≤ (l.take k).foldl (fun r s => r - (s.size : Int)) r := by
  conv => lhs; rw [← List.take_append_drop k l, List.foldl_append]
  exact foldl_le _ _
theorem foldl_mem (l : List ByteArray) (r : Int) (s : ByteArray) (hs : s ∈ l) : l.foldl (fun r s => r - (s.size : Int)) r ≤ r - s.size := by
  induction l generalizing r with
  | nil => simp at hs
  | cons t l ih =>
    simp only [List.foldl_cons]
    rcases List.mem_cons.1 hs with rfl | h
    · exact foldl_le _ _
    · have := ih (r - t.size) h; omega
/-- where the size is within the bound, so is each part. -/
theorem szf_len {l : List ByteArray} {left : Int} (h : 0 ≤ szf l left) : (l.length : Int) ≤ left ∧ ∀ s ∈ l, (s.size : Int) ≤ left := by
  unfold szf at h
  refine ⟨?_, fun s hs => ?_⟩
  · have := foldl_le l (left - l.length); omega
  · have := foldl_mem l (left - l.length) s hs; omega
set_option maxHeartbeats 400000 in
theorem sz (A : Option Addr) (c : Nat) (l : List ByteArray) (left : Int) (w : World) (hl : l.length ≤ 9223372036854775807) (hss : ∀ s ∈ l, s.size ≤ 9223372036854775807) (h0 : 0 ≤ left) (h1 : left ≤ 1048576) (ha : K.Rd w 1 A l.length (l.map Value.string)) :
    Calls Try.prog 31 #[.slice A l.length c, .int .i64 left] w fun e w' => (∃ r, e = .returned (.int .i64 r) ∧ ((r < 0 ∧ szf l left < 0) ∨ (0 ≤ r ∧ r = szf l left))) ∧ w = w' := by
  by_cases hneg : left - l.length < 0
  · have hz : szf l left < 0 := by have := foldl_le l (left - l.length); unfold szf; omega
    have HZ := Lib.hid hz
    clear hz
    go_enter Try.func31, Try.ntmps31
    go_wp2
    go_ret
    exact ⟨⟨_, rfl, .inl ⟨by omega, HZ.out⟩⟩, rfl⟩
  · go_enter Try.func31, Try.ntmps31
    go_wp2_with fail
    go_loop [1, 5] (fun q i => ∃ k : Nat, k ≤ l.length ∧ i = .int .i64 k ∧ ∃ r : Int, 0 ≤ r ∧ r ≤ left ∧ q = .int .i64 r ∧ Hid (r = (l.take k).foldl (fun r s => r - (s.size : Int)) (left - l.length))) (fun _ i => l.length - (intOf i).toNat)
    case atStart => exact ⟨0, Nat.zero_le _, rfl, left - l.length, by omega, by omega, rfl, Lib.hid (by simp)⟩
    case round =>
      obtain ⟨k, hk, rfl, r, hr0, hr1, rfl, hr⟩ := hrel
      by_cases hlt : k < l.length
      · obtain ⟨g, o, rfl, hc⟩ := ha.str hlt
        have hsz : l[k].size ≤ 9223372036854775807 := hss _ (List.getElem_mem hlt)
        have HR := Lib.hid (show r - l[k].size = (l.take (k + 1)).foldl (fun r s => r - (s.size : Int)) (left - l.length) by
          rw [List.take_succ_eq_append_getElem hlt, szf_snoc, ← hr.out])
        have HZ := Lib.hid (show szf l left ≤ r - l[k].size by rw [HR.out]; exact foldl_take _ _ _)
        clear hss
        have h1 : (k : Int) < (l.length : Int) := by omega
        have h2 : (0 : Int) ≤ (k : Int) := by omega
        by_cases hb : r - l[k].size < 0
        · go_wp2
          go_ret
          exact ⟨⟨_, rfl, .inl ⟨by omega, by have := HZ.out; omega⟩⟩, rfl⟩
        · go_wp2
          go_round
          case rel => exact ⟨k + 1, by omega, by go_num, _, by omega, by omega, rfl, HR⟩
          case measure => simp [intOf]; omega
      · go_wp2
        go_ret
        refine ⟨⟨_, rfl, .inr ⟨hr0, ?_⟩⟩, rfl⟩
        rw [hr.out, List.take_of_length_le (by omega)]; rfl

theorem infoStr : (Try.prog.info? 9).map (fun i => (i.zero, i.size, i.bytes)) = some (some (.string ByteArray.empty), 1, 16) := by kernel_rfl
set_option maxHeartbeats 400000 in
theorem copy (A : Option Addr) (c : Nat) (l : List ByteArray) (w : World) (hl : l.length ≤ 1048576) (ha : K.Rd w 1 A l.length (l.map Value.string)) :
    Calls Try.prog 33 #[.slice A l.length c] w (K.RetRow w 9 1 l.length (l.map Value.string)) := by
  obtain ⟨i0, hi0, hz0, hz1, hz2⟩ := info_parts infoStr
  go_enter Try.func33, Try.ntmps33
  go_wp2_with (at_make; refine K.make1 rfl (.tmp 6) (.tmp 6) _ rfl w.heap.size _ i0 _ 1 16 Try.underlying30 hi0 hz0 hz1 hz2 l.length rfl rfl (by omega) (by simp only [maxLen]; omega) (Nat.le_refl _) ?_; intro w1 hrow hb hsz)
  generalize hM : (madeCells (Value.string ByteArray.empty).cells (l.length * 1)).toList = M0 at hrow
  have hML : M0.length = l.length := by rw [← hM]; simp [size_madeCells]
  clear hM
  go_loopw [4] (fun i wr => ∃ j : Nat, j ≤ l.length ∧ i = .int .i64 j ∧ K.Row wr w.heap.size 9 1 (some ⟨w.heap.size, 0, none⟩) l.length l.length ((l.take j).map Value.string ++ M0.drop j) ∧ Below w.heap.size w wr) (fun i _ => l.length - (intOf i).toNat)
  case atStart => exact ⟨0, Nat.zero_le _, rfl, by simpa using hrow, hb⟩
  case round =>
    obtain ⟨j, hj, rfl, hrow, hb⟩ := hrel
    by_cases hlt : j < l.length
    · obtain ⟨g, u, hA, hlo, hgs, hu, hc, hf⟩ := hrow.at_ (j := j) (by omega)
      injection hA with hA
      injection hA with hA
      subst hA
      obtain ⟨g', o', rfl, hc'⟩ := (ha.below hb).str hlt
      have h1 : (j : Int) < (l.length : Int) := by omega
      have h2 : (0 : Int) ≤ (j : Int) := by omega
      clear hu
      go_wp2
      go_roundw
      case rel =>
        refine ⟨j + 1, by omega, by go_num, ?_, hb.setCell (p := ⟨w.heap.size, j, none⟩) (Nat.le_refl _) _⟩
        have h := (hrow.set_ j (.string l[j])).1
        rw [K.set_mid _ _ _ (by simp; omega) (by simp; omega), List.drop_drop] at h
        rw [List.take_succ_eq_append_getElem hlt, List.map_append]
        exact h
      case measure => simp [intOf]; omega
    · obtain rfl : j = l.length := by omega
      go_wp2
      go_ret
      refine ⟨_, _, rfl, ?_, hb⟩
      rw [List.drop_eq_nil_of_le (by omega), List.append_nil, List.take_length] at hrow
      exact hrow
end Go.Proofs.Ytpeoikhddmoafaa.SlStr
