/-
  Walks: the draws of numbers and texts for the great law on texts.
-/
import Derived.Test.YtpeoikhddmoafaaDraw2
import Derived.Test.YtpeoikhddmoafaaNum
set_option linter.unusedVariables false
namespace Go.Proofs.Ytpeoikhddmoafaa.Draw1
open Go.RowKit
def parL : List ByteArray := [⟨#[]⟩, ⟨#[45]⟩, ⟨#[45, 48]⟩, ⟨#[48, 48]⟩, ⟨#[48, 49]⟩, ⟨#[45, 45, 49]⟩, ⟨#[49, 120]⟩, ⟨#[57, 57, 57, 57, 57, 57]⟩, ⟨#[49, 48, 48, 48, 48, 48, 48]⟩, ⟨#[45, 57, 57, 57, 57, 57, 57]⟩, ⟨#[49, 56, 52, 52, 54, 55, 52, 52, 48, 55, 51, 55, 48, 57, 53, 53, 49, 54, 49, 55]⟩]
theorem parL_size : ∀ x ∈ parL, x.size ≤ 20 := by decide
set_option maxHeartbeats 1000000 in
theorem fmt (A : Option Addr) (c : Nat) (l : List UInt8) (w : World) (hl : l.length ≤ 65536) (ha : K.Rd w 1 A l.length (l.map fun b => Value.int .u8 (b.toNat : Int))) :
    Calls Try.prog 39 #[.slice A l.length c] w fun e w' => ∃ n : Int, e = .returned (.int .i64 n) ∧ (-1000000 ≤ n ∧ n ≤ 1000000) ∧ Below w.heap.size w w' := by
  have hc := K.Cur.new (c := c) ha hl 58
  have b0 : Below w.heap.size w (w.alloc (.cells #[.slice A l.length c, .int .i64 0, .int .u64 0] 58)) := (Below.refl _ _).alloc (Nat.le_refl _) _
  have HC := Lib.hid hc
  have B0 := Lib.hid b0
  have HZ0 := Lib.hid (show (w.alloc (.cells #[.slice A l.length c, .int .i64 0, .int .u64 0] 58)).heap.size = w.heap.size + 1 from World.size_alloc _ _)
  clear hc b0
  go_enter Try.func39, Try.ntmps39
  go_wp2_with fail
  refine (Cur.pick _ _ _ _ 1000 HC.out (by omega)).mono ?_
  rintro e w1 ⟨x, rfl, ⟨x0, x1⟩, q1⟩
  have q1l := q1.1.lt
  go_wp2_with fail
  refine (Cur.among _ _ _ _ (some ⟨w1.heap.size, 0, none⟩) 9 [0, 1, -1, 10, 999999, -999999, 1000000, -1000000, x - 500] (q1.1.alloc _) (by omega) (by simp) (K.Rd.new w1 _ _ 9 1 rfl) (fun e => by simp [K.blk] at e; omega)).mono ?_
  rintro e w2 ⟨v, rfl, hv, q2⟩
  go_wp2_with fail
  go_ret
  have e1 := q1.below (b := w.heap.size) (by have := HZ0.out; omega) (Nat.le_refl _)
  have e2 := (K.Went.alloc _ q2).below (b := w.heap.size) (by omega) (Nat.le_refl _)
  refine ⟨v, rfl, ?_, (B0.out.trans e1).trans e2⟩
  simp at hv
  omega
set_option maxHeartbeats 1000000 in
theorem par (A : Option Addr) (c : Nat) (l : List UInt8) (w : World) (hl : l.length ≤ 65536) (ha : K.Rd w 1 A l.length (l.map fun b => Value.int .u8 (b.toNat : Int))) :
    Calls Try.prog 40 #[.slice A l.length c] w fun e w' => ∃ s : ByteArray, e = .returned (.string s) ∧ s.size ≤ 20 ∧ Below w.heap.size w w' := by
  have hc := K.Cur.new (c := c) ha hl 58
  have b0 : Below w.heap.size w (w.alloc (.cells #[.slice A l.length c, .int .i64 0, .int .u64 0] 58)) := (Below.refl _ _).alloc (Nat.le_refl _) _
  have HC := Lib.hid hc
  have B0 := Lib.hid b0
  have HZ0 := Lib.hid (show (w.alloc (.cells #[.slice A l.length c, .int .i64 0, .int .u64 0] 58)).heap.size = w.heap.size + 1 from World.size_alloc _ _)
  clear hc b0
  go_enter Try.func40, Try.ntmps40
  go_wp2_with fail
  refine (Cur.one _ _ _ _ 2 HC.out (by omega)).mono ?_
  rintro e w1 ⟨b, rfl, q1⟩
  have q1l := q1.1.lt
  have e1 := q1.below (b := w.heap.size) (by have := HZ0.out; omega) (Nat.le_refl _)
  cases b with
  | true =>
    go_wp2_with fail
    refine (Cur.of _ _ _ _ (some ⟨w1.heap.size, 0, none⟩) 11 parL (q1.1.alloc _) (by omega) (by decide) (K.Rd.new w1 _ _ 11 1 rfl) (fun e => by simp [K.blk] at e; omega)).mono ?_
    rintro e w2 ⟨v, rfl, hv, q2⟩
    go_wp2_with fail
    go_ret
    have e2 := (K.Went.alloc _ q2).below (b := w.heap.size) (by omega) (Nat.le_refl _)
    exact ⟨v, rfl, parL_size v hv, (B0.out.trans e1).trans e2⟩
  | false =>
    go_wp2_with fail
    refine (Cur.pick _ _ _ _ 2000 q1.1 (by omega)).mono ?_
    rintro e w2 ⟨x, rfl, ⟨x0, x1⟩, q2⟩
    have e2 := q2.below (b := w.heap.size) (by omega) (Nat.le_refl _)
    have hts := M.txt_size20 (n := x - 1000) (by omega) (by omega)
    go_wp2_with fail
    refine (Num.s_num (x - 1000) _ (by omega) (by omega)).mono ?_
    rintro e w3 ⟨rfl, m, rfl⟩
    go_wp2_with fail
    go_ret
    exact ⟨_, rfl, hts, K.below_drewN ((B0.out.trans e1).trans e2) _⟩
set_option maxHeartbeats 1000000 in
theorem app (A : Option Addr) (c : Nat) (l : List UInt8) (w : World) (hl : l.length ≤ 65536) (ha : K.Rd w 1 A l.length (l.map fun b => Value.int .u8 (b.toNat : Int))) :
    Calls Try.prog 41 #[.slice A l.length c] w fun e w' => ∃ s : ByteArray, e = .returned (.string s) ∧ s.size ≤ 4010 ∧ Below w.heap.size w w' := by
  obtain ⟨i1, hi1, hy0, hy1, hy2⟩ := info_parts infoU8
  have hc := K.Cur.new (c := c) ha hl 58
  have b0 : Below w.heap.size w (w.alloc (.cells #[.slice A l.length c, .int .i64 0, .int .u64 0] 58)) := (Below.refl _ _).alloc (Nat.le_refl _) _
  have HC := Lib.hid hc
  have B0 := Lib.hid b0
  have HZ0 := Lib.hid (show (w.alloc (.cells #[.slice A l.length c, .int .i64 0, .int .u64 0] 58)).heap.size = w.heap.size + 1 from World.size_alloc _ _)
  clear hc b0
  go_enter Try.func41, Try.ntmps41
  go_wp2_with fail
  refine (Cur.one _ _ _ _ 20 HC.out (by omega)).mono ?_
  rintro e w1 ⟨b, rfl, q1⟩
  have q1l := q1.1.lt
  have e1 := q1.below (b := w.heap.size) (by have := HZ0.out; omega) (Nat.le_refl _)
  cases b with
  | true =>
    go_wp2_with fail
    refine (Cur.pick _ _ _ _ 10 q1.1 (by omega)).mono ?_
    rintro e w2 ⟨x, rfl, ⟨x0, x1⟩, q2⟩
    obtain ⟨k, rfl⟩ := Int.eq_ofNat_of_zero_le x0
    have hk : k ≤ 9 := by omega
    have e2 := q2.below (b := w.heap.size) (by omega) (Nat.le_refl _)
    have HB2 := Lib.hid ((B0.out.trans e1).trans e2)
    clear x0 x1 q2 e2 q1 e1
    go_wp2_with (at_make; refine K.make1 rfl (.tmp 11) (.tmp 11) _ rfl w2.heap.size _ i1 _ 1 1 Try.underlying39 hi1 hy0 hy1 hy2 (3990 + k) (by first | rfl | (simp [go_sem]; done) | (simp [go_sem]; omega)) (by first | rfl | (simp [go_sem]; done) | (simp [go_sem]; omega)) (by omega) (by simp only [maxLen]; omega) (Nat.le_refl _) ?_; intro w9 hrow9 hb9 hs9; rw [zeros] at hrow9; obtain ⟨S, hS, hcv⟩ := convB (P := Try.prog) Try.underlying39 Try.underlying5 Try.underlying9 w9 w2.heap.size 0 (3990 + k) (3990 + k) (List.replicate (3990 + k) 0) (by simp) hrow9.rd (by omega); have HB9 := Lib.hid (HB2.out.trans (hb9.mono HB2.out.size)); clear hrow9 hb9)
    go_ret
    exact ⟨S, rfl, by omega, HB9.out⟩
  | false =>
    go_wp2_with fail
    refine (any1 _ _ _ _ q1.1 (by omega)).mono ?_
    rintro e w2 ⟨v, rfl, hv, q2⟩
    have e2 := q2.below (b := w.heap.size) (by omega) (Nat.le_refl _)
    go_wp2_with fail
    go_ret
    exact ⟨v, rfl, by omega, (B0.out.trans e1).trans e2⟩
end Go.Proofs.Ytpeoikhddmoafaa.Draw1
