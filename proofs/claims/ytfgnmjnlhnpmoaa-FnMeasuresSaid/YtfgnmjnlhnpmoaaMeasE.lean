/-
  Walks: what the laws on measures draw (printed by gen_meas2.py).
-/
import Derived.Test.YtfgnmjnlhnpmoaaMeasD
import Derived.Test.YtfgnmjnlhnpmoaaBase
set_option linter.unusedVariables false
namespace Go.Proofs.Ytfgnmjnlhnpmoaa.MeasD
open Go.RowKit
theorem rd_cut {w : World} {A : Option Addr} {n k : Nat} {xs : List Value} (h : K.Rd w 1 A n xs) (hk : k ≤ n) : K.Rd w 1 A k (xs.take k) :=
  ⟨by have := h.1; rw [List.length_take]; omega, fun h0 => by
    obtain ⟨g, off, e, hg, hc⟩ := h.2 (by omega)
    refine ⟨g, off, e, hg, fun j u hu => hc j u ?_⟩
    rw [List.getElem?_take] at hu
    split at hu
    · exact hu
    · cases hu⟩
def li_c3 : List Int := [0, 1, 1, 2, 3, 9, -1, 10]
def RetSI (w : World) (e : Ending) (w' : World) : Prop := ∃ (X : Option Addr) (n : Nat) (l : List M.Unit) (v : Int), e = .returned (.tuple #[.slice X l.length n, .int .i64 v]) ∧ v ≤ 2000000000 ∧ l.length ≤ 8 ∧ (∀ u ∈ l, u.name.size ≤ 20) ∧ l.length ≤ n ∧ n ≤ 9223372036854775807 ∧ K.Rd w' 2 X l.length (l.flatMap M.unitCells) ∧ (∀ q, K.blk X = some q → w.heap.size ≤ q) ∧ Below w.heap.size w w'
def RetSAA (w : World) (e : Ending) (w' : World) : Prop := ∃ (X : Option Addr) (n : Nat) (l : List M.Unit) (Y0 : Option Addr) (d0 : Nat) (k0 : List Int) (Y1 : Option Addr) (d1 : Nat) (k1 : List Int), e = .returned (.tuple #[.slice X l.length n, .agg #[.slice Y0 k0.length d0], .agg #[.slice Y1 k1.length d1]]) ∧ (l.length ≤ 8 ∧ (∀ u ∈ l, u.name.size ≤ 20) ∧ l.length ≤ n ∧ n ≤ 9223372036854775807 ∧ K.Rd w' 2 X l.length (l.flatMap M.unitCells) ∧ (∀ q, K.blk X = some q → w.heap.size ≤ q)) ∧ (k0.length ≤ 9 ∧ K.Rd w' 1 Y0 k0.length (k0.map (Value.int .i64)) ∧ (∀ q, K.blk Y0 = some q → w.heap.size ≤ q)) ∧ (k1.length ≤ 9 ∧ K.Rd w' 1 Y1 k1.length (k1.map (Value.int .i64)) ∧ (∀ q, K.blk Y1 = some q → w.heap.size ≤ q)) ∧ Below w.heap.size w w'
def RetSAI (w : World) (e : Ending) (w' : World) : Prop := ∃ (X : Option Addr) (n : Nat) (l : List M.Unit) (Y0 : Option Addr) (d0 : Nat) (k0 : List Int) (v : Int), e = .returned (.tuple #[.slice X l.length n, .agg #[.slice Y0 k0.length d0], .int .i64 v]) ∧ (l.length ≤ 8 ∧ (∀ u ∈ l, u.name.size ≤ 20) ∧ l.length ≤ n ∧ n ≤ 9223372036854775807 ∧ K.Rd w' 2 X l.length (l.flatMap M.unitCells) ∧ (∀ q, K.blk X = some q → w.heap.size ≤ q)) ∧ (k0.length ≤ 9 ∧ K.Rd w' 1 Y0 k0.length (k0.map (Value.int .i64)) ∧ (∀ q, K.blk Y0 = some q → w.heap.size ≤ q)) ∧ Below w.heap.size w w'
set_option maxHeartbeats 2000000 in
theorem properof (A : Option Addr) (c : Nat) (l : List UInt8) (w : World) (hl : l.length ≤ 65536) (ha : K.Rd w 1 A l.length (l.map fun b => Value.int .u8 (b.toNat : Int))) :
    Calls Try.prog 47 #[.slice A l.length c] w (RetSI w) := by
  have C : Hid (K.Cur (w.alloc (.cells #[.slice A l.length c, .int .i64 0, .int .u64 0] 87)) (w.heap.size) (w.heap.size) 0) := Lib.hid (by have h := K.Cur.new (c := c) ha hl 87; simpa only [World.size_alloc] using h)
  have BB : Hid (Below w.heap.size w (w.alloc (.cells #[.slice A l.length c, .int .i64 0, .int .u64 0] 87))) := Lib.hid (by (repeat (first | exact Below.refl _ _ | assumption | (refine K.below_drewN ?_ _) | (refine Below.drew ?_) | (refine Below.alloc ?_ (by first | (simp; done) | (simp; omega) | omega) _) | (refine Below.setCell ?_ (by first | (simp; done) | (simp; omega) | omega) _))))
  have hz0 : w.heap.size + 1 ≤ (w.alloc (.cells #[.slice A l.length c, .int .i64 0, .int .u64 0] 87)).heap.size := by simp
  clear ha
  go_enter Try.func47, Try.ntmps47
  go_wp2_with fail
  refine (system7 _ _ _ _ C.out (by omega)).mono ?_
  rintro e w1 ⟨X, m, l2, rfl, hl2, hnm, hc1, hc2, hr, hf, q1⟩
  have hz1 : w.heap.size + 1 ≤ w1.heap.size := by have := q1.2.size; omega
  replace BB := Lib.hid (BB.out.trans (q1.below (b := w.heap.size) (by omega) (by omega)))
  replace C := Lib.hid q1.1
  clear q1
  have Rs := Lib.hid hr
  have FAs := Lib.hid (fun q hq => show w.heap.size + 1 ≤ q by have := hf q hq; omega)
  clear hr hf
  go_wp2_with fail
  refine (Cur.among _ _ _ _ (some ⟨w1.heap.size, 0, none⟩) 10 [0, 1, 11, 12, 199, 9999, 10000, 123456, 2000000000, -1] (C.out.alloc _) (by omega) (by decide) (K.Rd.new w1 #[.int .i64 0, .int .i64 1, .int .i64 11, .int .i64 12, .int .i64 199, .int .i64 9999, .int .i64 10000, .int .i64 123456, .int .i64 2000000000, .int .i64 (-1)] 3 10 1 rfl) (fun e => by simp [K.blk] at e; omega)).mono ?_
  rintro e w2 ⟨v, rfl, hv, q2⟩
  replace q2 := K.Went.alloc _ q2
  have hz2 : w.heap.size + 1 ≤ w2.heap.size := by have := q2.2.size; omega
  replace BB := Lib.hid (BB.out.trans (q2.below (b := w.heap.size) (by omega) (by omega)))
  replace Rs := Lib.hid (Rs.out.kept q2.2 (fun q hq e => by injection e with e; have := FAs.out q hq; omega))
  replace C := Lib.hid q2.1
  clear q2
  have hv2 : v ≤ 2000000000 := by simp at hv; omega
  go_wp2_with fail
  go_ret2
  exact ⟨X, m, l2, v, rfl, hv2, hl2, hnm, hc1, hc2, Rs.out, (fun q hq => by have := FAs.out q hq; omega), BB.out⟩
set_option maxHeartbeats 2000000 in
theorem sumof (A : Option Addr) (c : Nat) (l : List UInt8) (w : World) (hl : l.length ≤ 65536) (ha : K.Rd w 1 A l.length (l.map fun b => Value.int .u8 (b.toNat : Int))) :
    Calls Try.prog 49 #[.slice A l.length c] w (RetSAA w) := by
  have C : Hid (K.Cur (((w.alloc (.cells #[.slice none 0 0] 40)).alloc (.cells #[.slice none 0 0] 40)).alloc (.cells #[.slice A l.length c, .int .i64 0, .int .u64 0] 87)) (w.heap.size + 1 + 1) (w.heap.size + 1 + 1) 0) := Lib.hid (by have h := K.Cur.new (c := c) (((ha.alloc _).alloc _) : K.Rd ((w.alloc (.cells #[.slice none 0 0] 40)).alloc (.cells #[.slice none 0 0] 40)) 1 A l.length (l.map fun b => Value.int .u8 (b.toNat : Int))) hl 87; simpa only [World.size_alloc] using h)
  have BB : Hid (Below w.heap.size w (((w.alloc (.cells #[.slice none 0 0] 40)).alloc (.cells #[.slice none 0 0] 40)).alloc (.cells #[.slice A l.length c, .int .i64 0, .int .u64 0] 87))) := Lib.hid (by (repeat (first | exact Below.refl _ _ | assumption | (refine K.below_drewN ?_ _) | (refine Below.drew ?_) | (refine Below.alloc ?_ (by first | (simp; done) | (simp; omega) | omega) _) | (refine Below.setCell ?_ (by first | (simp; done) | (simp; omega) | omega) _))))
  have Z0 : Hid (K.Own (((w.alloc (.cells #[.slice none 0 0] 40)).alloc (.cells #[.slice none 0 0] 40)).alloc (.cells #[.slice A l.length c, .int .i64 0, .int .u64 0] 87)) (w.heap.size) [.slice none 0 0]) := Lib.hid (by have h := K.Own.new w #[.slice none 0 0] 40; exact ((h.alloc _).alloc _))
  have Z1 : Hid (K.Own (((w.alloc (.cells #[.slice none 0 0] 40)).alloc (.cells #[.slice none 0 0] 40)).alloc (.cells #[.slice A l.length c, .int .i64 0, .int .u64 0] 87)) (w.heap.size + 1) [.slice none 0 0]) := Lib.hid (by have h := K.Own.new (w.alloc (.cells #[.slice none 0 0] 40)) #[.slice none 0 0] 40; simp only [World.size_alloc] at h; exact (h.alloc _))
  have hz0 : w.heap.size + 1 + 1 + 1 ≤ (((w.alloc (.cells #[.slice none 0 0] 40)).alloc (.cells #[.slice none 0 0] 40)).alloc (.cells #[.slice A l.length c, .int .i64 0, .int .u64 0] 87)).heap.size := by simp
  clear ha
  go_enter Try.func49, Try.ntmps49
  go_wp2_with fail
  refine (system7 _ _ _ _ C.out (by omega)).mono ?_
  rintro e w1 ⟨X, m, l2, rfl, hl2, hnm, hc1, hc2, hr, hf, q1⟩
  have hz1 : w.heap.size + 1 + 1 + 1 ≤ w1.heap.size := by have := q1.2.size; omega
  replace BB := Lib.hid (BB.out.trans (q1.below (b := w.heap.size) (by omega) (by omega)))
  replace Z0 := Lib.hid (Z0.out.kept q1.2 (fun e => by injection e with e; omega))
  replace Z1 := Lib.hid (Z1.out.kept q1.2 (fun e => by injection e with e; omega))
  replace C := Lib.hid q1.1
  clear q1
  have Rs := Lib.hid hr
  have FAs := Lib.hid (fun q hq => show w.heap.size + 1 + 1 + 1 ≤ q by have := hf q hq; omega)
  clear hr hf
  go_wp2_with fail
  refine (amount7 _ _ _ _ l2.length m X C.out (by omega) (by omega)).mono ?_
  rintro e w2 ⟨Y0, d0, k0, rfl, hk0, hr, hf, q2⟩
  have hz2 : w.heap.size + 1 + 1 + 1 ≤ w2.heap.size := by have := q2.2.size; omega
  replace BB := Lib.hid (BB.out.trans (q2.below (b := w.heap.size) (by omega) (by omega)))
  replace Z0 := Lib.hid (Z0.out.kept q2.2 (fun e => by injection e with e; omega))
  replace Z1 := Lib.hid (Z1.out.kept q2.2 (fun e => by injection e with e; omega))
  replace Rs := Lib.hid (Rs.out.kept q2.2 (fun q hq e => by injection e with e; have := FAs.out q hq; omega))
  replace C := Lib.hid q2.1
  clear q2
  have Ra0 := Lib.hid hr
  have FAa0 := Lib.hid (fun q hq => show w.heap.size + 1 + 1 + 1 ≤ q by have := hf q hq; omega)
  clear hr hf
  go_wp2_with fail
  refine (amount7 _ _ _ _ l2.length m X C.out (by omega) (by omega)).mono ?_
  rintro e w3 ⟨Y1, d1, k1, rfl, hk1, hr, hf, q3⟩
  have hz3 : w.heap.size + 1 + 1 + 1 ≤ w3.heap.size := by have := q3.2.size; omega
  replace BB := Lib.hid (BB.out.trans (q3.below (b := w.heap.size) (by omega) (by omega)))
  replace Z0 := Lib.hid (Z0.out.kept q3.2 (fun e => by injection e with e; omega))
  replace Z1 := Lib.hid (Z1.out.kept q3.2 (fun e => by injection e with e; omega))
  replace Rs := Lib.hid (Rs.out.kept q3.2 (fun q hq e => by injection e with e; have := FAs.out q hq; omega))
  replace Ra0 := Lib.hid (Ra0.out.kept q3.2 (fun q hq e => by injection e with e; have := FAa0.out q hq; omega))
  replace C := Lib.hid q3.1
  clear q3
  have Ra1 := Lib.hid hr
  have FAa1 := Lib.hid (fun q hq => show w.heap.size + 1 + 1 + 1 ≤ q by have := hf q hq; omega)
  clear hr hf
  obtain ⟨z00, z01, z02⟩ := Z0.out.c1
  obtain ⟨z10, z11, z12⟩ := Z1.out.c1
  replace Rs := Lib.hid (Rs.out.setOther (p := ⟨w.heap.size, 0, none⟩) (fun q hq => by have := FAs.out q hq; simp only; omega) (.slice Y0 k0.length d0))
  replace Ra0 := Lib.hid (Ra0.out.setOther (p := ⟨w.heap.size, 0, none⟩) (fun q hq => by have := FAa0.out q hq; simp only; omega) (.slice Y0 k0.length d0))
  replace Ra1 := Lib.hid (Ra1.out.setOther (p := ⟨w.heap.size, 0, none⟩) (fun q hq => by have := FAa1.out q hq; simp only; omega) (.slice Y0 k0.length d0))
  replace BB := Lib.hid (BB.out.setCell (p := ⟨w.heap.size, 0, none⟩) (by simp only; omega) (.slice Y0 k0.length d0))
  replace Rs := Lib.hid (Rs.out.setOther (p := ⟨w.heap.size + 1, 0, none⟩) (fun q hq => by have := FAs.out q hq; simp only; omega) (.slice Y1 k1.length d1))
  replace Ra0 := Lib.hid (Ra0.out.setOther (p := ⟨w.heap.size + 1, 0, none⟩) (fun q hq => by have := FAa0.out q hq; simp only; omega) (.slice Y1 k1.length d1))
  replace Ra1 := Lib.hid (Ra1.out.setOther (p := ⟨w.heap.size + 1, 0, none⟩) (fun q hq => by have := FAa1.out q hq; simp only; omega) (.slice Y1 k1.length d1))
  replace BB := Lib.hid (BB.out.setCell (p := ⟨w.heap.size + 1, 0, none⟩) (by simp only; omega) (.slice Y1 k1.length d1))
  go_wp2_with fail
  exact bodyPost_ret (v := .tuple #[.slice X l2.length m, .agg #[.slice Y0 k0.length d0], .agg #[.slice Y1 k1.length d1]]) (by simp [results, Try.results49, go_sem, *]) rfl ⟨X, m, l2, Y0, d0, k0, Y1, d1, k1, rfl, ⟨hl2, hnm, hc1, hc2, Rs.out, (fun q hq => by have := FAs.out q hq; omega)⟩, ⟨hk0, Ra0.out, (fun q hq => by have := FAa0.out q hq; omega)⟩, ⟨hk1, Ra1.out, (fun q hq => by have := FAa1.out q hq; omega)⟩, BB.out⟩
set_option maxHeartbeats 2000000 in
theorem differenceof (A : Option Addr) (c : Nat) (l : List UInt8) (w : World) (hl : l.length ≤ 65536) (ha : K.Rd w 1 A l.length (l.map fun b => Value.int .u8 (b.toNat : Int))) :
    Calls Try.prog 53 #[.slice A l.length c] w (RetSAA w) := by
  have BB : Hid (Below w.heap.size w ((w.alloc (.cells #[.slice none 0 0] 40)).alloc (.cells #[.slice none 0 0] 40))) := Lib.hid (by (repeat (first | exact Below.refl _ _ | assumption | (refine K.below_drewN ?_ _) | (refine Below.drew ?_) | (refine Below.alloc ?_ (by first | (simp; done) | (simp; omega) | omega) _) | (refine Below.setCell ?_ (by first | (simp; done) | (simp; omega) | omega) _))))
  have Z0 : Hid (K.Own ((w.alloc (.cells #[.slice none 0 0] 40)).alloc (.cells #[.slice none 0 0] 40)) (w.heap.size) [.slice none 0 0]) := Lib.hid (by have h := K.Own.new w #[.slice none 0 0] 40; exact (h.alloc _))
  have Z1 : Hid (K.Own ((w.alloc (.cells #[.slice none 0 0] 40)).alloc (.cells #[.slice none 0 0] 40)) (w.heap.size + 1) [.slice none 0 0]) := Lib.hid (by have h := K.Own.new (w.alloc (.cells #[.slice none 0 0] 40)) #[.slice none 0 0] 40; simp only [World.size_alloc] at h; exact h)
  have hz0 : w.heap.size + 1 + 1 ≤ ((w.alloc (.cells #[.slice none 0 0] 40)).alloc (.cells #[.slice none 0 0] 40)).heap.size := by simp
  go_enter Try.func53, Try.ntmps53
  go_wp2_with fail
  refine (sumof A c l _ hl ((ha.alloc _).alloc _)).mono ?_
  rintro e w1 ⟨X, m, l2, Y0, d0, k0, Y1, d1, k1, rfl, ⟨hl2, hnm, hc1, hc2, hr, hf⟩, ⟨hk0, hr0, hf0⟩, ⟨hk1, hr1, hf1⟩, b1⟩
  replace BB := Lib.hid (BB.out.trans (b1.mono BB.out.size))
  replace Z0 := Lib.hid (Z0.out.below b1)
  replace Z1 := Lib.hid (Z1.out.below b1)
  have Rs := Lib.hid hr
  have FAs := Lib.hid (fun q hq => show w.heap.size + 1 + 1 ≤ q by have := hf q hq; omega)
  clear hr hf
  have Ra0 := Lib.hid hr0
  have FAa0 := Lib.hid (fun q hq => show w.heap.size + 1 + 1 ≤ q by have := hf0 q hq; omega)
  clear hr0 hf0
  have Ra1 := Lib.hid hr1
  have FAa1 := Lib.hid (fun q hq => show w.heap.size + 1 + 1 ≤ q by have := hf1 q hq; omega)
  clear hr1 hf1
  clear b1
  obtain ⟨z00, z01, z02⟩ := Z0.out.c1
  obtain ⟨z10, z11, z12⟩ := Z1.out.c1
  replace Rs := Lib.hid (Rs.out.setOther (p := ⟨w.heap.size, 0, none⟩) (fun q hq => by have := FAs.out q hq; simp only; omega) (.slice Y0 k0.length d0))
  replace Ra0 := Lib.hid (Ra0.out.setOther (p := ⟨w.heap.size, 0, none⟩) (fun q hq => by have := FAa0.out q hq; simp only; omega) (.slice Y0 k0.length d0))
  replace Ra1 := Lib.hid (Ra1.out.setOther (p := ⟨w.heap.size, 0, none⟩) (fun q hq => by have := FAa1.out q hq; simp only; omega) (.slice Y0 k0.length d0))
  replace BB := Lib.hid (BB.out.setCell (p := ⟨w.heap.size, 0, none⟩) (by simp only; omega) (.slice Y0 k0.length d0))
  replace Rs := Lib.hid (Rs.out.setOther (p := ⟨w.heap.size + 1, 0, none⟩) (fun q hq => by have := FAs.out q hq; simp only; omega) (.slice Y1 k1.length d1))
  replace Ra0 := Lib.hid (Ra0.out.setOther (p := ⟨w.heap.size + 1, 0, none⟩) (fun q hq => by have := FAa0.out q hq; simp only; omega) (.slice Y1 k1.length d1))
  replace Ra1 := Lib.hid (Ra1.out.setOther (p := ⟨w.heap.size + 1, 0, none⟩) (fun q hq => by have := FAa1.out q hq; simp only; omega) (.slice Y1 k1.length d1))
  replace BB := Lib.hid (BB.out.setCell (p := ⟨w.heap.size + 1, 0, none⟩) (by simp only; omega) (.slice Y1 k1.length d1))
  go_wp2_with fail
  exact bodyPost_ret (v := .tuple #[.slice X l2.length m, .agg #[.slice Y0 k0.length d0], .agg #[.slice Y1 k1.length d1]]) (by simp [results, Try.results53, go_sem, *]) rfl ⟨X, m, l2, Y0, d0, k0, Y1, d1, k1, rfl, ⟨hl2, hnm, hc1, hc2, Rs.out, (fun q hq => by have := FAs.out q hq; omega)⟩, ⟨hk0, Ra0.out, (fun q hq => by have := FAa0.out q hq; omega)⟩, ⟨hk1, Ra1.out, (fun q hq => by have := FAa1.out q hq; omega)⟩, BB.out⟩
set_option maxHeartbeats 2000000 in
theorem partof (A : Option Addr) (c : Nat) (l : List UInt8) (w : World) (hl : l.length ≤ 65536) (ha : K.Rd w 1 A l.length (l.map fun b => Value.int .u8 (b.toNat : Int))) :
    Calls Try.prog 50 #[.slice A l.length c] w (RetSAI w) := by
  have C : Hid (K.Cur ((w.alloc (.cells #[.slice none 0 0] 40)).alloc (.cells #[.slice A l.length c, .int .i64 0, .int .u64 0] 87)) (w.heap.size + 1) (w.heap.size + 1) 0) := Lib.hid (by have h := K.Cur.new (c := c) ((ha.alloc _) : K.Rd (w.alloc (.cells #[.slice none 0 0] 40)) 1 A l.length (l.map fun b => Value.int .u8 (b.toNat : Int))) hl 87; simpa only [World.size_alloc] using h)
  have BB : Hid (Below w.heap.size w ((w.alloc (.cells #[.slice none 0 0] 40)).alloc (.cells #[.slice A l.length c, .int .i64 0, .int .u64 0] 87))) := Lib.hid (by (repeat (first | exact Below.refl _ _ | assumption | (refine K.below_drewN ?_ _) | (refine Below.drew ?_) | (refine Below.alloc ?_ (by first | (simp; done) | (simp; omega) | omega) _) | (refine Below.setCell ?_ (by first | (simp; done) | (simp; omega) | omega) _))))
  have Z0 : Hid (K.Own ((w.alloc (.cells #[.slice none 0 0] 40)).alloc (.cells #[.slice A l.length c, .int .i64 0, .int .u64 0] 87)) (w.heap.size) [.slice none 0 0]) := Lib.hid (by have h := K.Own.new w #[.slice none 0 0] 40; exact (h.alloc _))
  have hz0 : w.heap.size + 1 + 1 ≤ ((w.alloc (.cells #[.slice none 0 0] 40)).alloc (.cells #[.slice A l.length c, .int .i64 0, .int .u64 0] 87)).heap.size := by simp
  clear ha
  go_enter Try.func50, Try.ntmps50
  go_wp2_with fail
  refine (system7 _ _ _ _ C.out (by omega)).mono ?_
  rintro e w1 ⟨X, m, l2, rfl, hl2, hnm, hc1, hc2, hr, hf, q1⟩
  have hz1 : w.heap.size + 1 + 1 ≤ w1.heap.size := by have := q1.2.size; omega
  replace BB := Lib.hid (BB.out.trans (q1.below (b := w.heap.size) (by omega) (by omega)))
  replace Z0 := Lib.hid (Z0.out.kept q1.2 (fun e => by injection e with e; omega))
  replace C := Lib.hid q1.1
  clear q1
  have Rs := Lib.hid hr
  have FAs := Lib.hid (fun q hq => show w.heap.size + 1 + 1 ≤ q by have := hf q hq; omega)
  clear hr hf
  go_wp2_with fail
  refine (amount7 _ _ _ _ l2.length m X C.out (by omega) (by omega)).mono ?_
  rintro e w2 ⟨Y0, d0, k0, rfl, hk0, hr, hf, q2⟩
  have hz2 : w.heap.size + 1 + 1 ≤ w2.heap.size := by have := q2.2.size; omega
  replace BB := Lib.hid (BB.out.trans (q2.below (b := w.heap.size) (by omega) (by omega)))
  replace Z0 := Lib.hid (Z0.out.kept q2.2 (fun e => by injection e with e; omega))
  replace Rs := Lib.hid (Rs.out.kept q2.2 (fun q hq e => by injection e with e; have := FAs.out q hq; omega))
  replace C := Lib.hid q2.1
  clear q2
  have Ra0 := Lib.hid hr
  have FAa0 := Lib.hid (fun q hq => show w.heap.size + 1 + 1 ≤ q by have := hf q hq; omega)
  clear hr hf
  have rl := Lib.hid (K.Rd.new w2 #[.int .i64 1, .int .i64 2, .int .i64 7, .int .i64 12, .int .i64 1000, .int .i64 0, .int .i64 1001] 3 7 1 rfl)
  go_wp2_with fail
  refine (Cur.pick _ _ _ _ 24 (C.out.alloc _) (by omega)).mono ?_
  rintro e w3 ⟨x, rfl, ⟨x0, x1⟩, q3⟩
  have rl1 := Lib.hid (rl.out.kept q3.2 (fun q hq e => by simp [K.blk] at hq; injection e with e; omega))
  replace q3 := K.Went.alloc _ q3
  clear rl
  have hz3 : w.heap.size + 1 + 1 ≤ w3.heap.size := by have := q3.2.size; omega
  replace BB := Lib.hid (BB.out.trans (q3.below (b := w.heap.size) (by omega) (by omega)))
  replace Z0 := Lib.hid (Z0.out.kept q3.2 (fun e => by injection e with e; omega))
  replace Rs := Lib.hid (Rs.out.kept q3.2 (fun q hq e => by injection e with e; have := FAs.out q hq; omega))
  replace Ra0 := Lib.hid (Ra0.out.kept q3.2 (fun q hq e => by injection e with e; have := FAa0.out q hq; omega))
  replace C := Lib.hid q3.1
  clear q3
  have hq : x / 11 = 0 ∨ x / 11 = 1 ∨ x / 11 = 2 := by omega
  have key : ∀ k : Nat, 1 ≤ k → k ≤ 7 → Calls Try.prog 80 #[.pointer (some ⟨w.heap.size + 1, 0, none⟩), .slice (some ⟨w2.heap.size, 0, none⟩) k 7] w3 fun e w' => ∃ v : Int, e = .returned (.int .i64 v) ∧ K.Went w3 (w.heap.size + 1) (w.heap.size + 1) (0 + 100 + 40 + 2) 2 w' := fun k h1 h7 => by
    have hlk : (([1, 2, 7, 12, 1000, 0, 1001] : List Int).take k).length = k := by simp; omega
    have h := Cur.among w3 _ _ _ (some ⟨w2.heap.size, 0, none⟩) 7 (([1, 2, 7, 12, 1000, 0, 1001] : List Int).take k) C.out (by omega) ⟨by omega, by omega⟩ (by rw [hlk, List.map_take]; exact rd_cut rl1.out h7) (fun e => by simp [K.blk] at e; omega)
    rw [hlk] at h
    refine h.mono ?_
    rintro e w' ⟨v, h1, _, h2⟩
    exact ⟨v, h1, h2⟩
  have KEY := Lib.hid key
  clear key
  rcases hq with hq | hq | hq
  · go_wp2_with fail
    refine (KEY.out 5 (by omega) (by omega)).mono ?_
    rintro e w4 ⟨v, rfl, q4⟩
    have hz4 : w.heap.size + 1 + 1 ≤ w4.heap.size := by have := q4.2.size; omega
    replace BB := Lib.hid (BB.out.trans (q4.below (b := w.heap.size) (by omega) (by omega)))
    replace Z0 := Lib.hid (Z0.out.kept q4.2 (fun e => by injection e with e; omega))
    replace Rs := Lib.hid (Rs.out.kept q4.2 (fun q hq e => by injection e with e; have := FAs.out q hq; omega))
    replace Ra0 := Lib.hid (Ra0.out.kept q4.2 (fun q hq e => by injection e with e; have := FAa0.out q hq; omega))
    replace C := Lib.hid q4.1
    clear q4
    obtain ⟨z00, z01, z02⟩ := Z0.out.c1
    replace Rs := Lib.hid (Rs.out.setOther (p := ⟨w.heap.size, 0, none⟩) (fun q hq => by have := FAs.out q hq; simp only; omega) (.slice Y0 k0.length d0))
    replace Ra0 := Lib.hid (Ra0.out.setOther (p := ⟨w.heap.size, 0, none⟩) (fun q hq => by have := FAa0.out q hq; simp only; omega) (.slice Y0 k0.length d0))
    replace BB := Lib.hid (BB.out.setCell (p := ⟨w.heap.size, 0, none⟩) (by simp only; omega) (.slice Y0 k0.length d0))
    go_wp2_with fail
    exact bodyPost_ret (v := .tuple #[.slice X l2.length m, .agg #[.slice Y0 k0.length d0], .int .i64 v]) (by simp [results, Try.results50, go_sem, *]) rfl ⟨X, m, l2, Y0, d0, k0, v, rfl, ⟨hl2, hnm, hc1, hc2, Rs.out, (fun q hq => by have := FAs.out q hq; omega)⟩, ⟨hk0, Ra0.out, (fun q hq => by have := FAa0.out q hq; omega)⟩, BB.out⟩
  · go_wp2_with fail
    refine (KEY.out 6 (by omega) (by omega)).mono ?_
    rintro e w4 ⟨v, rfl, q4⟩
    have hz4 : w.heap.size + 1 + 1 ≤ w4.heap.size := by have := q4.2.size; omega
    replace BB := Lib.hid (BB.out.trans (q4.below (b := w.heap.size) (by omega) (by omega)))
    replace Z0 := Lib.hid (Z0.out.kept q4.2 (fun e => by injection e with e; omega))
    replace Rs := Lib.hid (Rs.out.kept q4.2 (fun q hq e => by injection e with e; have := FAs.out q hq; omega))
    replace Ra0 := Lib.hid (Ra0.out.kept q4.2 (fun q hq e => by injection e with e; have := FAa0.out q hq; omega))
    replace C := Lib.hid q4.1
    clear q4
    obtain ⟨z00, z01, z02⟩ := Z0.out.c1
    replace Rs := Lib.hid (Rs.out.setOther (p := ⟨w.heap.size, 0, none⟩) (fun q hq => by have := FAs.out q hq; simp only; omega) (.slice Y0 k0.length d0))
    replace Ra0 := Lib.hid (Ra0.out.setOther (p := ⟨w.heap.size, 0, none⟩) (fun q hq => by have := FAa0.out q hq; simp only; omega) (.slice Y0 k0.length d0))
    replace BB := Lib.hid (BB.out.setCell (p := ⟨w.heap.size, 0, none⟩) (by simp only; omega) (.slice Y0 k0.length d0))
    go_wp2_with fail
    exact bodyPost_ret (v := .tuple #[.slice X l2.length m, .agg #[.slice Y0 k0.length d0], .int .i64 v]) (by simp [results, Try.results50, go_sem, *]) rfl ⟨X, m, l2, Y0, d0, k0, v, rfl, ⟨hl2, hnm, hc1, hc2, Rs.out, (fun q hq => by have := FAs.out q hq; omega)⟩, ⟨hk0, Ra0.out, (fun q hq => by have := FAa0.out q hq; omega)⟩, BB.out⟩
  · go_wp2_with fail
    refine (KEY.out 7 (by omega) (by omega)).mono ?_
    rintro e w4 ⟨v, rfl, q4⟩
    have hz4 : w.heap.size + 1 + 1 ≤ w4.heap.size := by have := q4.2.size; omega
    replace BB := Lib.hid (BB.out.trans (q4.below (b := w.heap.size) (by omega) (by omega)))
    replace Z0 := Lib.hid (Z0.out.kept q4.2 (fun e => by injection e with e; omega))
    replace Rs := Lib.hid (Rs.out.kept q4.2 (fun q hq e => by injection e with e; have := FAs.out q hq; omega))
    replace Ra0 := Lib.hid (Ra0.out.kept q4.2 (fun q hq e => by injection e with e; have := FAa0.out q hq; omega))
    replace C := Lib.hid q4.1
    clear q4
    obtain ⟨z00, z01, z02⟩ := Z0.out.c1
    replace Rs := Lib.hid (Rs.out.setOther (p := ⟨w.heap.size, 0, none⟩) (fun q hq => by have := FAs.out q hq; simp only; omega) (.slice Y0 k0.length d0))
    replace Ra0 := Lib.hid (Ra0.out.setOther (p := ⟨w.heap.size, 0, none⟩) (fun q hq => by have := FAa0.out q hq; simp only; omega) (.slice Y0 k0.length d0))
    replace BB := Lib.hid (BB.out.setCell (p := ⟨w.heap.size, 0, none⟩) (by simp only; omega) (.slice Y0 k0.length d0))
    go_wp2_with fail
    exact bodyPost_ret (v := .tuple #[.slice X l2.length m, .agg #[.slice Y0 k0.length d0], .int .i64 v]) (by simp [results, Try.results50, go_sem, *]) rfl ⟨X, m, l2, Y0, d0, k0, v, rfl, ⟨hl2, hnm, hc1, hc2, Rs.out, (fun q hq => by have := FAs.out q hq; omega)⟩, ⟨hk0, Ra0.out, (fun q hq => by have := FAa0.out q hq; omega)⟩, BB.out⟩
theorem rbig (A : Option Addr) (n c : Nat) (w : World) : Calls Try.prog 46 #[.slice A n c] w fun e w' => e = .returned (.bool (decide (65536 < n))) ∧ w = w' := by
  go_enter Try.func46, Try.ntmps46
  go_wp2
  go_ret
  exact ⟨K.ret_bool (by rw [decide_eq_decide]; omega), rfl⟩
set_option maxHeartbeats 400000 in
theorem rints (A B : Option Addr) (c d : Nat) (l : List Int) (w : World) (hl : l.length ≤ 1048576) (ha : K.Rd w 1 A l.length (l.map (Value.int .i64))) (hb : K.Rd w 1 B l.length (l.map (Value.int .i64))) :
    Calls Try.prog 81 #[.slice A l.length c, .slice B l.length d] w fun e w' => e = .returned (.bool true) ∧ Below w.heap.size w w' := by
  have hne : ((l.length : Int) != (l.length : Int)) = false := by simp
  go_enter Try.func81, Try.ntmps81
  go_wp2_with fail
  go_loopw [5] (fun i wr => ∃ k : Nat, k ≤ l.length ∧ i = .int .i64 k ∧ K.Qt w wr) (fun i _ => l.length - (intOf i).toNat)
  case atStart => exact ⟨0, Nat.zero_le _, rfl, K.Qt.refl _⟩
  case round =>
    obtain ⟨k, hk, rfl, hq⟩ := hrel
    by_cases hlt : k < l.length
    · obtain ⟨g, o, rfl, hc⟩ := (hq.rd ha).int hlt
      obtain ⟨g', o', rfl, hc'⟩ := (hq.rd hb).int hlt
      have h1 : (k : Int) < (l.length : Int) := by omega
      have h2 : (0 : Int) ≤ (k : Int) := by omega
      have h3 : (l[k] != l[k]) = false := by simp
      go_wp2_with fail
      go_quiet (fail)
      go_wp2
      go_roundw
      case rel => exact ⟨k + 1, by omega, by go_num, hq.then_ _⟩
      case measure => simp [intOf]; omega
    · go_wp2
      go_ret
      exact ⟨rfl, hq.below _⟩
set_option maxHeartbeats 2000000 in
theorem ramount (A B : Option Addr) (c d : Nat) (l : List Int) (w : World) (hl : l.length ≤ 1048576) (ha : K.Rd w 1 A l.length (l.map (Value.int .i64))) (hb : K.Rd w 1 B l.length (l.map (Value.int .i64))) :
    Calls Try.prog 48 #[.agg #[.slice A l.length c], .agg #[.slice B l.length d]] w fun e w' => e = .returned (.bool true) ∧ Below w.heap.size w w' := by
  obtain ⟨o0, ho0⟩ : ∃ o : Obj, o = .cells #[.slice A l.length c] 40 := ⟨_, rfl⟩
  obtain ⟨o1, ho1⟩ : ∃ o : Obj, o = .cells #[.slice B l.length d] 40 := ⟨_, rfl⟩
  have x : K.Box ((w.alloc o0).alloc o1) w.heap.size [.slice A l.length c] := by have h := K.Box.new w #[.slice A l.length c] 40; rw [ho0]; exact h.alloc _
  have y : K.Box ((w.alloc o0).alloc o1) (w.heap.size + 1) [.slice B l.length d] := by have h := K.Box.new (w.alloc o0) #[.slice B l.length d] 40; rw [World.size_alloc] at h; rw [ho1]; exact h
  have r1 := (ha.alloc o0).alloc o1
  have r2 := (hb.alloc o0).alloc o1
  have bb : Below w.heap.size w ((w.alloc o0).alloc o1) := by (repeat (first | exact Below.refl _ _ | assumption | (refine K.below_drewN ?_ _) | (refine Below.drew ?_) | (refine Below.alloc ?_ (by first | (simp; done) | (simp; omega) | omega) _) | (refine Below.setCell ?_ (by first | (simp; done) | (simp; omega) | omega) _)))
  subst ho0 ho1
  have x0 := x.c1
  have x1 := x.1
  have y0 := y.c1
  have y1 := y.1
  go_enter Try.func48, Try.ntmps48
  go_wp2_with fail
  refine (rints _ _ _ _ l _ hl r1 r2).mono ?_
  rintro e w1 ⟨rfl, b1⟩
  go_wp2_with fail
  go_ret
  exact ⟨rfl, bb.trans (b1.mono bb.size)⟩
end Go.Proofs.Ytfgnmjnlhnpmoaa.MeasD
