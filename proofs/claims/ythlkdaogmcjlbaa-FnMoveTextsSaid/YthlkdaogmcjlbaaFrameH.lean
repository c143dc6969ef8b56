/-
  Walks: the law file's helpers on frames.
-/
import Derived.Test.YthlkdaogmcjlbaaPair
set_option linter.unusedVariables false
namespace Go.Proofs.Ythlkdaogmcjlbaa.FrameH
open Go.RowKit

/-- a call that returns a frame of its own. -/
def RetFrame (w : World) (f : M.Frame) (e : Ending) (w' : World) : Prop :=
  ∃ A c, e = .returned (.agg #[.int .i64 f.upper, .int .i64 f.lower, .slice A f.rods.length c]) ∧ K.Row w' w.heap.size 74 2 A f.rods.length c (f.rods.flatMap M.rodCells) ∧ Below w.heap.size w w'

set_option maxHeartbeats 400000 in
theorem copy (f : M.Frame) (A : Option Addr) (c : Nat) (w : World) (hl : f.rods.length ≤ 1048576) (ha : K.Rd w 2 A f.rods.length (f.rods.flatMap M.rodCells)) :
    Calls Try.prog 23 #[.agg #[.int .i64 f.upper, .int .i64 f.lower, .slice A f.rods.length c]] w (RetFrame w f) := by
  go_enter Try.func23, Try.ntmps23
  go_wp2_with fail
  have ha3 := fun o1 o2 o3 => ((ha.alloc o1).alloc o2).alloc o3
  refine (Pair.copy A c f.rods _ hl (ha3 _ _ _)).mono ?_
  rintro e w1 ⟨A1, c1, rfl, r1, b1⟩
  obtain ⟨hc, hf⟩ := K.bcell b1
  have hb0 : Below w.heap.size w w1 := by
    have h := b1.mono (B' := w.heap.size) (by simp; omega)
    exact (((((Below.refl w.heap.size w).alloc (Nat.le_refl _) _).alloc (by simp) _).alloc (by simp; omega) _)).trans h
  have r1' := r1.more (lo' := w.heap.size + 1 + 1 + 1) (by simp)
  clear b1 r1 ha3
  go_wp2
  refine bodyPost_ret (v := .agg #[.int .i64 f.upper, .int .i64 f.lower, .slice A1 f.rods.length c1]) (by simp [results, Try.results23, go_sem, hc]) rfl ⟨A1, c1, rfl, ?_, ?_⟩
  · exact ((((r1'.setOther (by simp) _).setOther (by simp) _).setOther (by simp) _).setOther (by simp) _).more (by omega)
  · (repeat (first | exact Below.refl _ _ | assumption | (refine K.below_drewN ?_ _) | (refine Below.drew ?_) | (refine Below.alloc ?_ (by first | (simp; done) | (simp; omega) | omega) _) | (refine Below.setCell ?_ (by first | (simp; done) | (simp; omega) | omega) _)))
theorem sz (f : M.Frame) (A : Option Addr) (c : Nat) (left : Int) (w : World) (hl : f.rods.length ≤ 9223372036854775807) (h0 : 0 ≤ left) (h1 : left ≤ 1048576) :
    Calls Try.prog 21 #[.agg #[.int .i64 f.upper, .int .i64 f.lower, .slice A f.rods.length c], .int .i64 left] w fun e w' => (∃ r, e = .returned (.int .i64 r) ∧ ((r < 0 ∧ left < f.rods.length) ∨ (0 ≤ r ∧ r = left - f.rods.length))) ∧ Below w.heap.size w w' := by
  go_enter Try.func21, Try.ntmps21
  go_wp2_with fail
  refine (Pair.sz A c f.rods.length left _ hl h0 h1).mono ?_
  rintro e w1 ⟨⟨r, rfl, hr⟩, rfl⟩
  by_cases hn : r < 0
  · go_wp2
    go_ret
    exact ⟨⟨_, rfl, .inl ⟨by omega, by omega⟩⟩, by (repeat (first | exact Below.refl _ _ | assumption | (refine K.below_drewN ?_ _) | (refine Below.drew ?_) | (refine Below.alloc ?_ (by first | (simp; done) | (simp; omega) | omega) _) | (refine Below.setCell ?_ (by first | (simp; done) | (simp; omega) | omega) _)))⟩
  · go_wp2
    go_ret
    exact ⟨⟨_, rfl, .inr ⟨by omega, by omega⟩⟩, by (repeat (first | exact Below.refl _ _ | assumption | (refine K.below_drewN ?_ _) | (refine Below.drew ?_) | (refine Below.alloc ?_ (by first | (simp; done) | (simp; omega) | omega) _) | (refine Below.setCell ?_ (by first | (simp; done) | (simp; omega) | omega) _)))⟩
set_option maxHeartbeats 400000 in
theorem eq_yes (f : M.Frame) (A B : Option Addr) (c d : Nat) (w : World) (hl : f.rods.length ≤ 1048576) (ha : K.Rd w 2 A f.rods.length (f.rods.flatMap M.rodCells)) (hb : K.Rd w 2 B f.rods.length (f.rods.flatMap M.rodCells)) :
    Calls Try.prog 25 #[.agg #[.int .i64 f.upper, .int .i64 f.lower, .slice A f.rods.length c], .agg #[.int .i64 f.upper, .int .i64 f.lower, .slice B f.rods.length d]] w fun e w' => e = .returned (.bool true) ∧ Below w.heap.size w w' := by
  go_enter Try.func25, Try.ntmps25
  go_wp2_with fail
  refine (Pair.eq_yes A B c d f.rods _ hl ((ha.alloc _).alloc _) ((hb.alloc _).alloc _)).mono ?_
  rintro e w1 ⟨rfl, b1⟩
  have hb0 : Below w.heap.size w w1 := by
    have h := b1.mono (B' := w.heap.size) (by simp; omega)
    exact ((((Below.refl w.heap.size w).alloc (Nat.le_refl _) _).alloc (by simp) _)).trans h
  clear b1
  go_wp2
  go_ret
  exact ⟨rfl, hb0⟩
set_option maxHeartbeats 400000 in
theorem mark (f : M.Frame) (A : Option Addr) (c lo k0 : Nat) (w : World) (hn : f.rods.length ≤ 1048576) (hk0 : 1 ≤ k0) (hk1 : k0 ≤ 1099511627776) (ha : K.Row w lo 74 2 A f.rods.length c (f.rods.flatMap M.rodCells)) :
    Calls Try.prog 60 #[.agg #[.int .i64 f.upper, .int .i64 f.lower, .slice A f.rods.length c], .int .i64 k0] w fun e w' => e = .returned (.int .i64 ((k0 : Int) + 2 * f.rods.length)) ∧ K.Row w' lo 74 2 A f.rods.length c ((M.markRods k0 f.rods.length).flatMap M.rodCells) ∧ w.grownBy w' (K.blk A) := by
  go_enter Try.func60, Try.ntmps60
  go_wp2_with fail
  refine (Pair.mark A f.rods.length c lo k0 _ _ hn hk0 hk1 (ha.alloc _)).mono ?_
  rintro e w1 ⟨rfl, r1, g1⟩
  have hg := K.grown_trans (K.grown_below ((Below.refl w.heap.size w).alloc (Nat.le_refl _) _) (K.blk A)) g1
  clear g1
  go_wp2
  go_ret
  exact ⟨rfl, r1, hg⟩
set_option maxHeartbeats 400000 in
theorem held (f : M.Frame) (A : Option Addr) (c k0 : Nat) (w : World) (hn : f.rods.length ≤ 1048576) (hk0 : 1 ≤ k0) (hk1 : k0 ≤ 1099511627776) (ha : K.Rd w 2 A f.rods.length ((M.markRods k0 f.rods.length).flatMap M.rodCells)) :
    Calls Try.prog 61 #[.agg #[.int .i64 f.upper, .int .i64 f.lower, .slice A f.rods.length c], .int .i64 k0] w fun e w' => e = .returned (.int .i64 ((k0 : Int) + 2 * f.rods.length)) ∧ Below w.heap.size w w' := by
  go_enter Try.func61, Try.ntmps61
  go_wp2_with fail
  refine (Pair.held A f.rods.length c k0 _ hn hk0 hk1 (ha.alloc _)).mono ?_
  rintro e w1 ⟨rfl, rfl⟩
  go_wp2
  go_ret
  exact ⟨rfl, by (repeat (first | exact Below.refl _ _ | assumption | (refine K.below_drewN ?_ _) | (refine Below.drew ?_) | (refine Below.alloc ?_ (by first | (simp; done) | (simp; omega) | omega) _) | (refine Below.setCell ?_ (by first | (simp; done) | (simp; omega) | omega) _)))⟩

end Go.Proofs.Ythlkdaogmcjlbaa.FrameH
