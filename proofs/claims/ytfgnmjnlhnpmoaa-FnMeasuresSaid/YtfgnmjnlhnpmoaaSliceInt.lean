/-
  Walks: the law file's helpers on slices of ints: their size, a copy, equality, marking and asking for the marks.
-/
import Derived.Test.YtfgnmjnlhnpmoaaProg
import Derived.Test.YtfgnmjnlhnpmoaaKit2
import Derived.BigQuiet
import Derived.WalkSpells
import Derived.WalkLawsBesides
import Derived.Deep.RegionHeld3
set_option linter.unusedVariables false
namespace Go.Proofs.Ytfgnmjnlhnpmoaa.M
def markInts (k n : Nat) : List Int := (List.range n).map fun (i : Nat) => (k : Int) + i
theorem markInts_succ (k n : Nat) : markInts k (n + 1) = markInts k n ++ [(k : Int) + n] := by simp [markInts, List.range_succ]
theorem markInts_len (k n : Nat) : (markInts k n).length = n := by simp [markInts]
theorem markInts_at (k n i : Nat) (h : i < (markInts k n).length) : (markInts k n)[i] = (k : Int) + i := by simp [markInts]
end Go.Proofs.Ytfgnmjnlhnpmoaa.M
namespace Go.Proofs.Ytfgnmjnlhnpmoaa.SlInt
open Go.RowKit
set_option maxHeartbeats 400000 in
theorem eq_yes (A B : Option Addr) (c d : Nat) (l : List Int) (w : World) (hl : l.length ≤ 1048576) (ha : K.Rd w 1 A l.length (l.map (Value.int .i64))) (hb : K.Rd w 1 B l.length (l.map (Value.int .i64))) :
    Calls Try.prog 68 #[.slice A l.length c, .slice B l.length d] w fun e w' => e = .returned (.bool true) ∧ Below w.heap.size w w' := by
  have hne : ((l.length : Int) != (l.length : Int)) = false := by simp
  go_enter Try.func68, Try.ntmps68
  go_wp2_with fail
  go_loopw [5] (fun i wr => ∃ k : Nat, k ≤ l.length ∧ i = .int .i64 k ∧ K.Qt w wr) (fun i _ => l.length - (intOf i).toNat)
  case atStart => exact ⟨0, Nat.zero_le _, rfl, K.Qt.refl _⟩
  case round =>
    obtain ⟨k, hk, rfl, hq⟩ := hrel
    by_cases hlt : k < l.length
    · obtain ⟨g, o, rfl, hc⟩ := (hq.rd ha).int hlt
      obtain ⟨g', o', rfl, hc'⟩ := (hq.rd hb).int hlt
      have h1 : (k : Int) < (l.length : Int) := by omega
      have h2 : (0 : Int) ≤ (k : Int) := by omega
      have h3 : (l[k] != l[k]) = false := by simp
      go_wp2_with fail
      go_quiet (fail)
      go_wp2
      go_roundw
      case rel => exact ⟨k + 1, by omega, by go_num, hq.then_ _⟩
      case measure => simp [intOf]; omega
    · go_wp2
      go_ret
      exact ⟨rfl, hq.below _⟩
set_option maxHeartbeats 400000 in
theorem mark (A : Option Addr) (n c lo k0 : Nat) (xs : List Value) (w : World) (hn : n ≤ 1048576) (hk0 : 1 ≤ k0) (hk1 : k0 ≤ 1099511627776) (ha : K.Row w lo 3 1 A n c xs) :
    Calls Try.prog 74 #[.slice A n c, .int .i64 k0] w fun e w' => e = .returned (.int .i64 ((k0 : Int) + n)) ∧ K.Row w' lo 3 1 A n c ((M.markInts k0 n).map (Value.int .i64)) ∧ w.grownBy w' (K.blk A) := by
  go_enter Try.func74, Try.ntmps74
  go_wp2_with fail
  go_loopw [1, 5] (fun q i wr => ∃ j : Nat, j ≤ n ∧ i = .int .i64 j ∧ q = .int .i64 ((k0 : Int) + j) ∧ K.Row wr lo 3 1 A n c ((M.markInts k0 j).map (Value.int .i64) ++ xs.drop j) ∧ w.grownBy wr (K.blk A)) (fun _ i _ => n - (intOf i).toNat)
  case atStart => exact ⟨0, Nat.zero_le _, rfl, by simp, by simpa [M.markInts] using ha, World.grownBy.refl _ _⟩
  case round =>
    obtain ⟨j, hj, rfl, rfl, hrow, hg⟩ := hrel
    by_cases hlt : j < n
    · obtain ⟨g, u, rfl, hlo, hgs, hu, hc, hf⟩ := hrow.at_ (j := j) (by omega)
      clear hu
      go_wp2
      go_roundw
      case rel =>
        refine ⟨j + 1, by omega, by go_num, by go_num, ?_, ?_⟩
        · have h := (hrow.set_ j (.int .i64 ((k0 : Int) + j))).1
          rw [K.set_mid _ _ _ (by rw [List.length_map, M.markInts_len]) (by have := ha.len; simp; omega), List.drop_drop] at h
          rw [M.markInts_succ, List.map_append]
          exact h
        · exact K.grown_trans hg (hrow.set_ j (.int .i64 ((k0 : Int) + j))).2
      case measure => simp [intOf]; omega
    · obtain rfl : j = n := by omega
      go_wp2
      go_ret
      refine ⟨rfl, ?_, hg⟩
      rw [List.drop_eq_nil_of_le (by have := ha.len; omega), List.append_nil] at hrow
      exact hrow
set_option maxHeartbeats 400000 in
theorem held (A : Option Addr) (n c k0 : Nat) (w : World) (hn : n ≤ 1048576) (hk0 : 1 ≤ k0) (hk1 : k0 ≤ 1099511627776) (ha : K.Rd w 1 A n ((M.markInts k0 n).map (Value.int .i64))) :
    Calls Try.prog 75 #[.slice A n c, .int .i64 k0] w fun e w' => e = .returned (.int .i64 ((k0 : Int) + n)) ∧ Below w.heap.size w w' := by
  have hml := M.markInts_len k0 n
  have ha' : K.Rd w 1 A (M.markInts k0 n).length ((M.markInts k0 n).map (Value.int .i64)) := by rw [hml]; exact ha
  go_enter Try.func75, Try.ntmps75
  go_wp2_with fail
  go_loopw [1, 5] (fun q i wr => ∃ j : Nat, j ≤ n ∧ i = .int .i64 j ∧ q = .int .i64 ((k0 : Int) + j) ∧ w = wr) (fun _ i _ => n - (intOf i).toNat)
  case atStart => exact ⟨0, Nat.zero_le _, rfl, by simp, by simp⟩
  case round =>
    obtain ⟨j, hj, rfl, rfl, rfl⟩ := hrel
    by_cases hlt : j < n
    · obtain ⟨g, o, rfl, hc⟩ := ha'.int (k := j) (by omega)
      rw [M.markInts_at] at hc
      have h1 : (j : Int) < (n : Int) := by omega
      have h2 : (0 : Int) ≤ (j : Int) := by omega
      have h3 : (((k0 : Int) + j) != ((k0 : Int) + j)) = false := by simp
      clear hml
      go_wp2
      go_roundw
      case rel => exact ⟨j + 1, by omega, by go_num, by go_num, trivial⟩
      case measure => simp [intOf]; omega
    · obtain rfl : j = n := by omega
      go_wp2
      go_ret
      exact ⟨rfl, Below.refl _ _⟩
theorem sz (A : Option Addr) (c n : Nat) (left : Int) (w : World) (hl : n ≤ 9223372036854775807) (h0 : 0 ≤ left) (h1 : left ≤ 1048576) :
    Calls Try.prog 64 #[.slice A n c, .int .i64 left] w fun e w' => (∃ r, e = .returned (.int .i64 r) ∧ ((r < 0 ∧ left < n) ∨ (0 ≤ r ∧ r = left - n))) ∧ w = w' := by
  by_cases hneg : left - n < 0
  · go_enter Try.func64, Try.ntmps64
    go_wp2
    go_ret
    exact ⟨⟨_, rfl, .inl ⟨by omega, by omega⟩⟩, rfl⟩
  · go_enter Try.func64, Try.ntmps64
    go_wp2
    go_ret
    exact ⟨⟨_, rfl, .inr ⟨by omega, rfl⟩⟩, rfl⟩
theorem info : (Try.prog.info? 3).map (fun i => (i.zero, i.size, i.bytes)) = some (some (.int .i64 0), 1, 8) := by kernel_rfl
set_option maxHeartbeats 400000 in
theorem copy (A : Option Addr) (c : Nat) (l : List Int) (w : World) (hl : l.length ≤ 1048576) (ha : K.Rd w 1 A l.length (l.map (Value.int .i64))) :
    Calls Try.prog 66 #[.slice A l.length c] w (K.RetRow w 3 1 l.length (l.map (Value.int .i64))) := by
  obtain ⟨i0, hi0, hz0, hz1, hz2⟩ := info_parts info
  go_enter Try.func66, Try.ntmps66
  go_wp2_with (at_make; refine K.make1 rfl (.tmp 6) (.tmp 6) _ rfl w.heap.size _ i0 _ 1 8 Try.underlying35 hi0 hz0 hz1 hz2 l.length rfl rfl (by omega) (by simp only [maxLen]; omega) (Nat.le_refl _) ?_; intro w1 hrow hb hsz)
  generalize hM : (madeCells (Value.int .i64 0).cells (l.length * 1)).toList = M0 at hrow
  have hML : M0.length = l.length := by rw [← hM]; simp [size_madeCells]
  clear hM
  go_loopw [4] (fun i wr => ∃ j : Nat, j ≤ l.length ∧ i = .int .i64 j ∧ K.Row wr w.heap.size 3 1 (some ⟨w.heap.size, 0, none⟩) l.length l.length ((l.take j).map (Value.int .i64) ++ M0.drop j) ∧ Below w.heap.size w wr) (fun i _ => l.length - (intOf i).toNat)
  case atStart => exact ⟨0, Nat.zero_le _, rfl, by simpa using hrow, hb⟩
  case round =>
    obtain ⟨j, hj, rfl, hrow, hb⟩ := hrel
    by_cases hlt : j < l.length
    · obtain ⟨g, u, hA, hlo, hgs, hu, hc, hf⟩ := hrow.at_ (j := j) (by omega)
      injection hA with hA
      injection hA with hA
      subst hA
      obtain ⟨g', o', rfl, hc'⟩ := (ha.below hb).int hlt
      have h1 : (j : Int) < (l.length : Int) := by omega
      have h2 : (0 : Int) ≤ (j : Int) := by omega
      clear hu
      go_wp2
      go_roundw
      case rel =>
        refine ⟨j + 1, by omega, by go_num, ?_, hb.setCell (p := ⟨w.heap.size, j, none⟩) (Nat.le_refl _) _⟩
        have h := (hrow.set_ j (.int .i64 l[j])).1
        rw [K.set_mid _ _ _ (by simp; omega) (by simp; omega), List.drop_drop] at h
        rw [List.take_succ_eq_append_getElem hlt, List.map_append]
        exact h
      case measure => simp [intOf]; omega
    · obtain rfl : j = l.length := by omega
      go_wp2
      go_ret
      refine ⟨_, _, rfl, ?_, hb⟩
      rw [List.drop_eq_nil_of_le (by omega), List.append_nil, List.take_length] at hrow
      exact hrow
end Go.Proofs.Ytfgnmjnlhnpmoaa.SlInt
