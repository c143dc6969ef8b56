/-
  Walks: the law file's helpers on amounts.
-/
import Derived.Test.YtfgnmjnlhnpmoaaSliceInt
set_option linter.unusedVariables false
namespace Go.Proofs.Ytfgnmjnlhnpmoaa.AmountH
open Go.RowKit
/-- a call that returns an amount of its own. -/
def RetAmount (w : World) (l : List Int) (e : Ending) (w' : World) : Prop :=
  ∃ A c, e = .returned (.agg #[.slice A l.length c]) ∧ K.Row w' w.heap.size 3 1 A l.length c (l.map (Value.int .i64)) ∧ Below w.heap.size w w'
set_option maxHeartbeats 400000 in
theorem copy (A : Option Addr) (c : Nat) (l : List Int) (w : World) (hl : l.length ≤ 1048576) (ha : K.Rd w 1 A l.length (l.map (Value.int .i64))) :
    Calls Try.prog 26 #[.agg #[.slice A l.length c]] w (RetAmount w l) := by
  have ha3 := fun o1 o2 o3 => ((ha.alloc o1).alloc o2).alloc o3
  go_enter Try.func26, Try.ntmps26
  go_wp2_with fail
  refine (SlInt.copy A c l _ hl (ha3 _ _ _)).mono ?_
  rintro e w1 ⟨A1, c1, rfl, r1, b1⟩
  obtain ⟨hc, hf⟩ := K.bcell b1
  have hb0 : Below w.heap.size w w1 := by
    have h := b1.mono (B' := w.heap.size) (by simp; omega)
    exact (((((Below.refl w.heap.size w).alloc (Nat.le_refl _) _).alloc (by simp) _).alloc (by simp; omega) _)).trans h
  have r1' := r1.more (lo' := w.heap.size + 1 + 1 + 1) (by simp)
  clear b1 r1 ha3
  go_wp2
  refine bodyPost_ret (v := .agg #[.slice A1 l.length c1]) (by simp [results, Try.results26, go_sem, hc]) rfl ⟨A1, c1, rfl, ?_, ?_⟩
  · exact ((r1'.setOther (by simp) _).setOther (by simp) _).more (by omega)
  · (repeat (first | exact Below.refl _ _ | assumption | (refine K.below_drewN ?_ _) | (refine Below.drew ?_) | (refine Below.alloc ?_ (by first | (simp; done) | (simp; omega) | omega) _) | (refine Below.setCell ?_ (by first | (simp; done) | (simp; omega) | omega) _)))
theorem sz (A : Option Addr) (c n : Nat) (left : Int) (w : World) (hn : n ≤ 9223372036854775807) (h0 : 0 ≤ left) (h1 : left ≤ 1048576) :
    Calls Try.prog 24 #[.agg #[.slice A n c], .int .i64 left] w fun e w' => (∃ r, e = .returned (.int .i64 r) ∧ ((r < 0 ∧ left < n) ∨ (0 ≤ r ∧ r = left - n))) ∧ Below w.heap.size w w' := by
  go_enter Try.func24, Try.ntmps24
  go_wp2_with fail
  refine (SlInt.sz A c n left _ hn h0 h1).mono ?_
  rintro e w1 ⟨⟨r, rfl, hr⟩, rfl⟩
  by_cases hneg : r < 0
  · go_wp2
    go_ret
    exact ⟨⟨_, rfl, .inl ⟨by omega, by omega⟩⟩, by (repeat (first | exact Below.refl _ _ | assumption | (refine K.below_drewN ?_ _) | (refine Below.drew ?_) | (refine Below.alloc ?_ (by first | (simp; done) | (simp; omega) | omega) _) | (refine Below.setCell ?_ (by first | (simp; done) | (simp; omega) | omega) _)))⟩
  · go_wp2
    go_ret
    exact ⟨⟨_, rfl, .inr ⟨by omega, by omega⟩⟩, by (repeat (first | exact Below.refl _ _ | assumption | (refine K.below_drewN ?_ _) | (refine Below.drew ?_) | (refine Below.alloc ?_ (by first | (simp; done) | (simp; omega) | omega) _) | (refine Below.setCell ?_ (by first | (simp; done) | (simp; omega) | omega) _)))⟩
set_option maxHeartbeats 400000 in
theorem eq_yes (A B : Option Addr) (c d : Nat) (l : List Int) (w : World) (hl : l.length ≤ 1048576) (ha : K.Rd w 1 A l.length (l.map (Value.int .i64))) (hb : K.Rd w 1 B l.length (l.map (Value.int .i64))) :
    Calls Try.prog 28 #[.agg #[.slice A l.length c], .agg #[.slice B l.length d]] w fun e w' => e = .returned (.bool true) ∧ Below w.heap.size w w' := by
  go_enter Try.func28, Try.ntmps28
  go_wp2_with fail
  refine (SlInt.eq_yes A B c d l _ hl ((ha.alloc _).alloc _) ((hb.alloc _).alloc _)).mono ?_
  rintro e w1 ⟨rfl, b1⟩
  have hb0 : Below w.heap.size w w1 := by
    have h := b1.mono (B' := w.heap.size) (by simp; omega)
    exact ((((Below.refl w.heap.size w).alloc (Nat.le_refl _) _).alloc (by simp) _)).trans h
  clear b1
  go_wp2
  go_ret
  exact ⟨rfl, hb0⟩
set_option maxHeartbeats 400000 in
theorem mark (A : Option Addr) (n c lo k0 : Nat) (xs : List Value) (w : World) (hn : n ≤ 1048576) (hk0 : 1 ≤ k0) (hk1 : k0 ≤ 1099511627776) (ha : K.Row w lo 3 1 A n c xs) :
    Calls Try.prog 34 #[.agg #[.slice A n c], .int .i64 k0] w fun e w' => e = .returned (.int .i64 ((k0 : Int) + n)) ∧ K.Row w' lo 3 1 A n c ((M.markInts k0 n).map (Value.int .i64)) ∧ w.grownBy w' (K.blk A) := by
  go_enter Try.func34, Try.ntmps34
  go_wp2_with fail
  refine (SlInt.mark A n c lo k0 _ _ hn hk0 hk1 (ha.alloc _)).mono ?_
  rintro e w1 ⟨rfl, r1, g1⟩
  have hg := K.grown_trans (K.grown_below ((Below.refl w.heap.size w).alloc (Nat.le_refl _) _) (K.blk A)) g1
  clear g1
  go_wp2
  go_ret
  exact ⟨rfl, r1, hg⟩
set_option maxHeartbeats 400000 in
theorem held (A : Option Addr) (n c k0 : Nat) (w : World) (hn : n ≤ 1048576) (hk0 : 1 ≤ k0) (hk1 : k0 ≤ 1099511627776) (ha : K.Rd w 1 A n ((M.markInts k0 n).map (Value.int .i64))) :
    Calls Try.prog 35 #[.agg #[.slice A n c], .int .i64 k0] w fun e w' => e = .returned (.int .i64 ((k0 : Int) + n)) ∧ Below w.heap.size w w' := by
  have b0 : Below w.heap.size w (w.alloc (.cells #[.slice A n c] 40)) := (Below.refl _ _).alloc (Nat.le_refl _) _
  go_enter Try.func35, Try.ntmps35
  go_wp2_with fail
  refine (SlInt.held A n c k0 _ hn hk0 hk1 (ha.alloc _)).mono ?_
  rintro e w1 ⟨rfl, b1⟩
  have hb := b0.trans (b1.mono b0.size)
  clear b1
  go_wp2
  go_ret
  exact ⟨rfl, hb⟩
end Go.Proofs.Ytfgnmjnlhnpmoaa.AmountH
