/-
  Walks: the draw of a number of lines and a value.
-/
import Derived.Test.YtmgegacgjppdbaaBoardE
set_option linter.unusedVariables false
namespace Go.Proofs.Ytmgegacgjppdbaa.BoardE
open Go.RowKit
theorem rd_cut {w : World} {A : Option Addr} {n k : Nat} {xs : List Value} (h : K.Rd w 1 A n xs) (hk : k ≤ n) : K.Rd w 1 A k (xs.take k) :=
  ⟨by have := h.1; rw [List.length_take]; omega, fun h0 => by
    obtain ⟨g, off, e, hg, hc⟩ := h.2 (by omega)
    refine ⟨g, off, e, hg, fun j u hu => hc j u ?_⟩
    rw [List.getElem?_take] at hu
    split at hu
    · exact hu
    · cases hu⟩
def set6 : List Int := [1, 2, 3, 6, 0, 7]
def set11 : List Int := [0, 4, 5, 9, 10, 99, 100, 4738, 999999, 1000000, -1]
theorem set11_bd : ∀ x ∈ set11, x ≤ 9223372036854775807 := by decide
set_option maxHeartbeats 1000000 in
theorem setboard (A : Option Addr) (c : Nat) (l : List UInt8) (w : World) (hl : l.length ≤ 65536) (ha : K.Rd w 1 A l.length (l.map fun b => Value.int .u8 (b.toNat : Int))) :
    Calls Try.prog 47 #[.slice A l.length c] w fun e w' => ∃ a b : Int, e = .returned (.tuple #[.int .i64 a, .int .i64 b]) ∧ b ≤ 9223372036854775807 ∧ Below w.heap.size w w' := by
  have hc := K.Cur.new (c := c) ha hl 75
  have b0 : Below w.heap.size w ((w.alloc (.cells #[.slice A l.length c, .int .i64 0, .int .u64 0] 75)).alloc (.cells #[.int .i64 (1), .int .i64 (2), .int .i64 (3), .int .i64 (6), .int .i64 (0), .int .i64 (7)] 3)) := ((Below.refl _ _).alloc (Nat.le_refl _) _).alloc (by simp) _
  have HC := Lib.hid (hc.alloc (.cells #[.int .i64 (1), .int .i64 (2), .int .i64 (3), .int .i64 (6), .int .i64 (0), .int .i64 (7)] 3))
  have rl := K.Rd.new (w.alloc (.cells #[.slice A l.length c, .int .i64 0, .int .u64 0] 75)) #[.int .i64 (1), .int .i64 (2), .int .i64 (3), .int .i64 (6), .int .i64 (0), .int .i64 (7)] 3 6 1 rfl
  rw [World.size_alloc] at rl
  have RL := Lib.hid rl
  have B0 := Lib.hid b0
  have HZ := Lib.hid (show ((w.alloc (.cells #[.slice A l.length c, .int .i64 0, .int .u64 0] 75)).alloc (.cells #[.int .i64 (1), .int .i64 (2), .int .i64 (3), .int .i64 (6), .int .i64 (0), .int .i64 (7)] 3)).heap.size = w.heap.size + 1 + 1 by simp)
  clear hc b0 rl ha
  go_enter Try.func47, Try.ntmps47
  go_wp2_with fail
  refine (Cur.pick _ _ _ _ 24 HC.out (by omega)).mono ?_
  rintro e w1 ⟨x, rfl, ⟨x0, x1⟩, q1⟩
  have hq : x / 11 = 0 ∨ x / 11 = 1 ∨ x / 11 = 2 := by omega
  have hz1 : w.heap.size + 1 + 1 ≤ w1.heap.size := by have := q1.2.size; have := HZ.out; omega
  have B1 := Lib.hid (B0.out.trans (q1.below (b := w.heap.size) (by have := HZ.out; omega) (Nat.le_refl _)))
  have RL1 := Lib.hid (RL.out.kept q1.2 (fun q hq e => by simp [K.blk] at hq; injection e with e; omega))
  clear B0 RL HC HZ x1
  rcases hq with hq | hq | hq
  · skip
    go_wp2_with fail
    refine (Cur.among _ _ _ _ (some ⟨w.heap.size + 1, 0, none⟩) 6 (set6.take 4) q1.1 (by omega) (by decide) (rd_cut (k := 4) RL1.out (by omega)) (fun e => by simp [K.blk] at e)).mono ?_
    rintro e w2 ⟨a, rfl, _, q2⟩
    have hz2 : w.heap.size + 1 + 1 ≤ w2.heap.size := by have := q2.2.size; omega
    have B2 := Lib.hid (B1.out.trans (q2.below (b := w.heap.size) (by omega) (Nat.le_refl _)))
    have HC2 := Lib.hid (q2.1.alloc (.cells #[.int .i64 (0), .int .i64 (4), .int .i64 (5), .int .i64 (9), .int .i64 (10), .int .i64 (99), .int .i64 (100), .int .i64 (4738), .int .i64 (999999), .int .i64 (1000000), .int .i64 (-1)] 3))
    have r11 := K.Rd.new w2 #[.int .i64 (0), .int .i64 (4), .int .i64 (5), .int .i64 (9), .int .i64 (10), .int .i64 (99), .int .i64 (100), .int .i64 (4738), .int .i64 (999999), .int .i64 (1000000), .int .i64 (-1)] 3 11 1 rfl
    have R11 := Lib.hid r11
    have B3 := Lib.hid (B2.out.alloc (by omega) (.cells #[.int .i64 (0), .int .i64 (4), .int .i64 (5), .int .i64 (9), .int .i64 (10), .int .i64 (99), .int .i64 (100), .int .i64 (4738), .int .i64 (999999), .int .i64 (1000000), .int .i64 (-1)] 3))
    have hz3 : w2.heap.size + 1 ≤ (w2.alloc (.cells #[.int .i64 (0), .int .i64 (4), .int .i64 (5), .int .i64 (9), .int .i64 (10), .int .i64 (99), .int .i64 (100), .int .i64 (4738), .int .i64 (999999), .int .i64 (1000000), .int .i64 (-1)] 3)).heap.size := by simp
    clear r11 q2 B1
    go_wp2_with fail
    refine (Cur.among _ _ _ _ (some ⟨w2.heap.size, 0, none⟩) 11 set11 HC2.out (by omega) (by decide) R11.out (fun e => by simp [K.blk] at e; omega)).mono ?_
    rintro e w3 ⟨b, rfl, hb, q3⟩
    have B4 := B3.out.trans (q3.below (b := w.heap.size) (by omega) (Nat.le_refl _))
    go_wp2_with fail
    go_ret2
    exact ⟨a, b, rfl, set11_bd b hb, B4⟩
  · skip
    go_wp2_with fail
    refine (Cur.among _ _ _ _ (some ⟨w.heap.size + 1, 0, none⟩) 6 (set6.take 5) q1.1 (by omega) (by decide) (rd_cut (k := 5) RL1.out (by omega)) (fun e => by simp [K.blk] at e)).mono ?_
    rintro e w2 ⟨a, rfl, _, q2⟩
    have hz2 : w.heap.size + 1 + 1 ≤ w2.heap.size := by have := q2.2.size; omega
    have B2 := Lib.hid (B1.out.trans (q2.below (b := w.heap.size) (by omega) (Nat.le_refl _)))
    have HC2 := Lib.hid (q2.1.alloc (.cells #[.int .i64 (0), .int .i64 (4), .int .i64 (5), .int .i64 (9), .int .i64 (10), .int .i64 (99), .int .i64 (100), .int .i64 (4738), .int .i64 (999999), .int .i64 (1000000), .int .i64 (-1)] 3))
    have r11 := K.Rd.new w2 #[.int .i64 (0), .int .i64 (4), .int .i64 (5), .int .i64 (9), .int .i64 (10), .int .i64 (99), .int .i64 (100), .int .i64 (4738), .int .i64 (999999), .int .i64 (1000000), .int .i64 (-1)] 3 11 1 rfl
    have R11 := Lib.hid r11
    have B3 := Lib.hid (B2.out.alloc (by omega) (.cells #[.int .i64 (0), .int .i64 (4), .int .i64 (5), .int .i64 (9), .int .i64 (10), .int .i64 (99), .int .i64 (100), .int .i64 (4738), .int .i64 (999999), .int .i64 (1000000), .int .i64 (-1)] 3))
    have hz3 : w2.heap.size + 1 ≤ (w2.alloc (.cells #[.int .i64 (0), .int .i64 (4), .int .i64 (5), .int .i64 (9), .int .i64 (10), .int .i64 (99), .int .i64 (100), .int .i64 (4738), .int .i64 (999999), .int .i64 (1000000), .int .i64 (-1)] 3)).heap.size := by simp
    clear r11 q2 B1
    go_wp2_with fail
    refine (Cur.among _ _ _ _ (some ⟨w2.heap.size, 0, none⟩) 11 set11 HC2.out (by omega) (by decide) R11.out (fun e => by simp [K.blk] at e; omega)).mono ?_
    rintro e w3 ⟨b, rfl, hb, q3⟩
    have B4 := B3.out.trans (q3.below (b := w.heap.size) (by omega) (Nat.le_refl _))
    go_wp2_with fail
    go_ret2
    exact ⟨a, b, rfl, set11_bd b hb, B4⟩
  · skip
    go_wp2_with fail
    refine (Cur.among _ _ _ _ (some ⟨w.heap.size + 1, 0, none⟩) 6 (set6.take 6) q1.1 (by omega) (by decide) (rd_cut (k := 6) RL1.out (by omega)) (fun e => by simp [K.blk] at e)).mono ?_
    rintro e w2 ⟨a, rfl, _, q2⟩
    have hz2 : w.heap.size + 1 + 1 ≤ w2.heap.size := by have := q2.2.size; omega
    have B2 := Lib.hid (B1.out.trans (q2.below (b := w.heap.size) (by omega) (Nat.le_refl _)))
    have HC2 := Lib.hid (q2.1.alloc (.cells #[.int .i64 (0), .int .i64 (4), .int .i64 (5), .int .i64 (9), .int .i64 (10), .int .i64 (99), .int .i64 (100), .int .i64 (4738), .int .i64 (999999), .int .i64 (1000000), .int .i64 (-1)] 3))
    have r11 := K.Rd.new w2 #[.int .i64 (0), .int .i64 (4), .int .i64 (5), .int .i64 (9), .int .i64 (10), .int .i64 (99), .int .i64 (100), .int .i64 (4738), .int .i64 (999999), .int .i64 (1000000), .int .i64 (-1)] 3 11 1 rfl
    have R11 := Lib.hid r11
    have B3 := Lib.hid (B2.out.alloc (by omega) (.cells #[.int .i64 (0), .int .i64 (4), .int .i64 (5), .int .i64 (9), .int .i64 (10), .int .i64 (99), .int .i64 (100), .int .i64 (4738), .int .i64 (999999), .int .i64 (1000000), .int .i64 (-1)] 3))
    have hz3 : w2.heap.size + 1 ≤ (w2.alloc (.cells #[.int .i64 (0), .int .i64 (4), .int .i64 (5), .int .i64 (9), .int .i64 (10), .int .i64 (99), .int .i64 (100), .int .i64 (4738), .int .i64 (999999), .int .i64 (1000000), .int .i64 (-1)] 3)).heap.size := by simp
    clear r11 q2 B1
    go_wp2_with fail
    refine (Cur.among _ _ _ _ (some ⟨w2.heap.size, 0, none⟩) 11 set11 HC2.out (by omega) (by decide) R11.out (fun e => by simp [K.blk] at e; omega)).mono ?_
    rintro e w3 ⟨b, rfl, hb, q3⟩
    have B4 := B3.out.trans (q3.below (b := w.heap.size) (by omega) (Nat.le_refl _))
    go_wp2_with fail
    go_ret2
    exact ⟨a, b, rfl, set11_bd b hb, B4⟩
end Go.Proofs.Ytmgegacgjppdbaa.BoardE
