/-
  Walks: the draws of the great laws on boards, and the helpers of these laws.
-/
import Derived.Test.YtmgegacgjppdbaaBoardD
import Derived.Test.YtmgegacgjppdbaaBoardH
set_option linter.unusedVariables false
namespace Go.Proofs.Ytmgegacgjppdbaa.BoardE
open Go.RowKit
open BoardD
def RetD (w : World) (e : Ending) (w' : World) : Prop :=
  ∃ (A : Option Addr) (c : Nat) (l : List Int) (B : Option Addr) (d : Nat) (k : List Int), e = .returned (.agg #[.slice A l.length c, .slice B k.length d]) ∧ l.length ≤ 7 ∧ k.length ≤ 7 ∧ K.Rd w' 1 A l.length (l.map (Value.int .i64)) ∧ K.Rd w' 1 B k.length (k.map (Value.int .i64)) ∧ Below w.heap.size w w' ∧ (∀ q, K.blk A = some q → w.heap.size + 1 ≤ q) ∧ (∀ q, K.blk B = some q → w.heap.size + 1 ≤ q)
def RetDC (w : World) (e : Ending) (w' : World) : Prop :=
  ∃ (A : Option Addr) (c : Nat) (l : List Int) (B : Option Addr) (d : Nat) (k : List Int) (b : Bool) (a : Int), e = .returned (.tuple #[.agg #[.slice A l.length c, .slice B k.length d], .bool b, .int .i64 a]) ∧ l.length ≤ 7 ∧ k.length ≤ 7 ∧ K.Rd w' 1 A l.length (l.map (Value.int .i64)) ∧ K.Rd w' 1 B k.length (k.map (Value.int .i64)) ∧ Below w.heap.size w w' ∧ (∀ q, K.blk A = some q → w.heap.size + 1 ≤ q) ∧ (∀ q, K.blk B = some q → w.heap.size + 1 ≤ q)
def RetDD (w : World) (e : Ending) (w' : World) : Prop :=
  ∃ (A : Option Addr) (c : Nat) (l : List Int) (B : Option Addr) (d : Nat) (k : List Int) (A2 : Option Addr) (c2 : Nat) (l2 : List Int) (B2 : Option Addr) (d2 : Nat) (k2 : List Int), e = .returned (.tuple #[.agg #[.slice A l.length c, .slice B k.length d], .agg #[.slice A2 l2.length c2, .slice B2 k2.length d2]]) ∧ (l.length ≤ 7 ∧ k.length ≤ 7 ∧ K.Rd w' 1 A l.length (l.map (Value.int .i64)) ∧ K.Rd w' 1 B k.length (k.map (Value.int .i64))) ∧ (l2.length ≤ 7 ∧ k2.length ≤ 7 ∧ K.Rd w' 1 A2 l2.length (l2.map (Value.int .i64)) ∧ K.Rd w' 1 B2 k2.length (k2.map (Value.int .i64))) ∧ Below w.heap.size w w' ∧ ((∀ q, K.blk A = some q → w.heap.size + 1 ≤ q) ∧ (∀ q, K.blk B = some q → w.heap.size + 1 ≤ q)) ∧ ((∀ q, K.blk A2 = some q → w.heap.size + 1 ≤ q) ∧ (∀ q, K.blk B2 = some q → w.heap.size + 1 ≤ q))
theorem rbig (A : Option Addr) (n c : Nat) (w : World) : Calls Try.prog 43 #[.slice A n c] w fun e w' => e = .returned (.bool (decide (65536 < n))) ∧ w = w' := by
  go_enter Try.func43, Try.ntmps43
  go_wp2
  go_ret
  exact ⟨K.ret_bool (by rw [decide_eq_decide]; omega), rfl⟩
set_option maxHeartbeats 400000 in
theorem rints (A B : Option Addr) (c d : Nat) (l : List Int) (w : World) (hl : l.length ≤ 1048576) (ha : K.Rd w 1 A l.length (l.map (Value.int .i64))) (hb : K.Rd w 1 B l.length (l.map (Value.int .i64))) :
    Calls Try.prog 79 #[.slice A l.length c, .slice B l.length d] w fun e w' => e = .returned (.bool true) ∧ Below w.heap.size w w' := by
  have hne : ((l.length : Int) != (l.length : Int)) = false := by simp
  go_enter Try.func79, Try.ntmps79
  go_wp2_with fail
  go_loopw [5] (fun i wr => ∃ k : Nat, k ≤ l.length ∧ i = .int .i64 k ∧ K.Qt w wr) (fun i _ => l.length - (intOf i).toNat)
  case atStart => exact ⟨0, Nat.zero_le _, rfl, K.Qt.refl _⟩
  case round =>
    obtain ⟨k, hk, rfl, hq⟩ := hrel
    by_cases hlt : k < l.length
    · obtain ⟨g, o, rfl, hc⟩ := (hq.rd ha).int hlt
      obtain ⟨g', o', rfl, hc'⟩ := (hq.rd hb).int hlt
      have h1 : (k : Int) < (l.length : Int) := by omega
      have h2 : (0 : Int) ≤ (k : Int) := by omega
      have h3 : (l[k] != l[k]) = false := by simp
      go_wp2_with fail
      go_quiet (fail)
      go_wp2
      go_roundw
      case rel => exact ⟨k + 1, by omega, by go_num, hq.then_ _⟩
      case measure => simp [intOf]; omega
    · go_wp2
      go_ret
      exact ⟨rfl, hq.below _⟩
set_option maxHeartbeats 400000 in
theorem rboard (A B : Option Addr) (c d : Nat) (l : List Int) (A' B' : Option Addr) (c' d' : Nat) (k : List Int) (w : World) (hl : l.length ≤ 1048576) (hk : k.length ≤ 1048576)
    (ha : K.Rd w 1 A l.length (l.map (Value.int .i64))) (hb : K.Rd w 1 B l.length (l.map (Value.int .i64))) (ha' : K.Rd w 1 A' k.length (k.map (Value.int .i64))) (hb' : K.Rd w 1 B' k.length (k.map (Value.int .i64))) :
    Calls Try.prog 45 #[.agg #[.slice A l.length c, .slice A' k.length c'], .agg #[.slice B l.length d, .slice B' k.length d']] w fun e w' => e = .returned (.bool true) ∧ Below w.heap.size w w' := by
  go_enter Try.func45, Try.ntmps45
  go_wp2_with fail
  refine (rints A B c d l _ hl ((ha.alloc _).alloc _) ((hb.alloc _).alloc _)).mono ?_
  rintro e w1 ⟨rfl, b1⟩
  obtain ⟨hc, hf⟩ := K.bcell b1
  have x0 := hc w.heap.size 1 (by simp; omega)
  have x1 := hc (w.heap.size + 1) 1 (by simp)
  simp [go_sem] at x0 x1
  have hb0 : Below w.heap.size w w1 := by
    have h := b1.mono (B' := w.heap.size) (by simp; omega)
    exact ((((Below.refl w.heap.size w).alloc (Nat.le_refl _) _).alloc (by simp) _)).trans h
  have q1 := ((ha'.alloc _).alloc _).below b1
  have q2 := ((hb'.alloc _).alloc _).below b1
  clear b1 hc hf
  go_wp2_with fail
  refine (rints A' B' c' d' k _ hk q1 q2).mono ?_
  rintro e w2 ⟨rfl, b2⟩
  have hb2 := hb0.trans (b2.mono hb0.size)
  go_wp2
  go_ret
  exact ⟨rfl, hb2⟩
set_option maxHeartbeats 1000000 in
theorem isboard (A : Option Addr) (c : Nat) (l : List UInt8) (w : World) (hl : l.length ≤ 65536) (ha : K.Rd w 1 A l.length (l.map fun b => Value.int .u8 (b.toNat : Int))) :
    Calls Try.prog 78 #[.slice A l.length c] w (RetD w) := by
  have hc := K.Cur.new (c := c) (ha.alloc (.cells #[.slice none 0 0, .slice none 0 0] 27)) hl 75
  have res := (K.Own.new w #[.slice none 0 0, .slice none 0 0] 27).alloc (.cells #[.slice A l.length c, .int .i64 0, .int .u64 0] 75)
  have b0 : Below w.heap.size w ((w.alloc (.cells #[.slice none 0 0, .slice none 0 0] 27)).alloc (.cells #[.slice A l.length c, .int .i64 0, .int .u64 0] 75)) := ((Below.refl _ _).alloc (Nat.le_refl _) _).alloc (by simp) _
  rw [World.size_alloc] at hc
  have HC := Lib.hid hc
  have RES := Lib.hid res
  have B0 := Lib.hid b0
  have hz0 : ((w.alloc (.cells #[.slice none 0 0, .slice none 0 0] 27)).alloc (.cells #[.slice A l.length c, .int .i64 0, .int .u64 0] 75)).heap.size = w.heap.size + 1 + 1 := by simp
  have HZ0 := Lib.hid hz0
  clear hc res b0 hz0 ha
  go_enter Try.func78, Try.ntmps78
  go_wp2_with fail
  refine (lines5 _ _ _ _ HC.out (by omega)).mono ?_
  rintro e w1 ⟨x, rfl, ⟨x1, x2⟩, q1⟩
  obtain ⟨n, rfl⟩ := Int.eq_ofNat_of_zero_le (show 0 ≤ x by omega)
  have B1 := Lib.hid (B0.out.trans (q1.below (b := w.heap.size) (by have := HZ0.out; omega) (by omega)))
  have RES1 := Lib.hid (RES.out.kept q1.2 (fun e => by injection e with e; omega))
  have hz1 : w.heap.size + 1 + 1 ≤ w1.heap.size := by have := q1.2.size; have := HZ0.out; omega
  clear B0 RES HC HZ0
  go_wp2_with fail
  refine (board5 _ _ _ _ n q1.1 (by omega) ⟨by omega, by omega⟩).mono ?_
  rintro e w2 ⟨X, n1, xs, Y, m1, ys, rfl, h7, k7, ra, rb, fa, fb, q2⟩
  have B2 := B1.out.trans (q2.below (b := w.heap.size) (by omega) (by omega))
  obtain ⟨r0, r1, f0, f1, rg⟩ := (RES1.out.kept q2.2 (fun e => by injection e with e; omega)).c2
  have RA := Lib.hid ra
  have RB := Lib.hid rb
  have FA := Lib.hid fa
  have FB := Lib.hid fb
  clear ra rb fa fb q1 q2 B1 RES1
  go_wp2_with fail
  exact bodyPost_ret (v := .agg #[.slice X xs.length n1, .slice Y ys.length m1]) (by simp [results, Try.results78, go_sem, *]) rfl ⟨X, n1, xs, Y, m1, ys, rfl, h7, k7, (RA.out.setOther (fun q hq => by have := FA.out q hq; simp only; omega) _).setOther (fun q hq => by have := FA.out q hq; simp only; omega) _, (RB.out.setOther (fun q hq => by have := FB.out q hq; simp only; omega) _).setOther (fun q hq => by have := FB.out q hq; simp only; omega) _, by (repeat (first | exact Below.refl _ _ | assumption | (refine K.below_drewN ?_ _) | (refine Below.drew ?_) | (refine Below.alloc ?_ (by first | (simp; done) | (simp; omega) | omega) _) | (refine Below.setCell ?_ (by first | (simp; done) | (simp; omega) | omega) _))), (fun q hq => by have := FA.out q hq; omega), (fun q hq => by have := FB.out q hq; omega)⟩
set_option maxHeartbeats 1000000 in
theorem isplain (A : Option Addr) (c : Nat) (l : List UInt8) (w : World) (hl : l.length ≤ 65536) (ha : K.Rd w 1 A l.length (l.map fun b => Value.int .u8 (b.toNat : Int))) :
    Calls Try.prog 48 #[.slice A l.length c] w (RetD w) := by
  have res := K.Own.new w #[.slice none 0 0, .slice none 0 0] 27
  have b0 : Below w.heap.size w (w.alloc (.cells #[.slice none 0 0, .slice none 0 0] 27)) := (Below.refl _ _).alloc (Nat.le_refl _) _
  have RES := Lib.hid res
  have B0 := Lib.hid b0
  have HA := Lib.hid (ha.alloc (.cells #[.slice none 0 0, .slice none 0 0] 27))
  clear res b0 ha
  go_enter Try.func48, Try.ntmps48
  go_wp2_with fail
  refine (isboard A c l _ hl HA.out).mono ?_
  rintro e w2 ⟨X, n1, xs, Y, m1, ys, rfl, h7, k7, ra, rb, b2, fa, fb⟩
  have B2 := B0.out.trans (b2.mono B0.out.size)
  obtain ⟨r0, r1, f0, f1, rg⟩ := (RES.out.below b2).c2
  have RA := Lib.hid ra
  have RB := Lib.hid rb
  have FA := Lib.hid fa
  have FB := Lib.hid fb
  have hz : (w.alloc (.cells #[.slice none 0 0, .slice none 0 0] 27)).heap.size = w.heap.size + 1 := World.size_alloc _ _
  have HZ := Lib.hid hz
  clear ra rb fa fb b2 hz
  go_wp2_with fail
  exact bodyPost_ret (v := .agg #[.slice X xs.length n1, .slice Y ys.length m1]) (by simp [results, Try.results48, go_sem, *]) rfl ⟨X, n1, xs, Y, m1, ys, rfl, h7, k7, (RA.out.setOther (fun q hq => by have := FA.out q hq; have := HZ.out; simp only; omega) _).setOther (fun q hq => by have := FA.out q hq; have := HZ.out; simp only; omega) _, (RB.out.setOther (fun q hq => by have := FB.out q hq; have := HZ.out; simp only; omega) _).setOther (fun q hq => by have := FB.out q hq; have := HZ.out; simp only; omega) _, by (repeat (first | exact Below.refl _ _ | assumption | (refine K.below_drewN ?_ _) | (refine Below.drew ?_) | (refine Below.alloc ?_ (by first | (simp; done) | (simp; omega) | omega) _) | (refine Below.setCell ?_ (by first | (simp; done) | (simp; omega) | omega) _))), (fun q hq => by have := FA.out q hq; have := HZ.out; omega), (fun q hq => by have := FB.out q hq; have := HZ.out; omega)⟩
set_option maxHeartbeats 1000000 in
theorem bvalue (A : Option Addr) (c : Nat) (l : List UInt8) (w : World) (hl : l.length ≤ 65536) (ha : K.Rd w 1 A l.length (l.map fun b => Value.int .u8 (b.toNat : Int))) :
    Calls Try.prog 49 #[.slice A l.length c] w (RetD w) := by
  have res := K.Own.new w #[.slice none 0 0, .slice none 0 0] 27
  have b0 : Below w.heap.size w (w.alloc (.cells #[.slice none 0 0, .slice none 0 0] 27)) := (Below.refl _ _).alloc (Nat.le_refl _) _
  have RES := Lib.hid res
  have B0 := Lib.hid b0
  have HA := Lib.hid (ha.alloc (.cells #[.slice none 0 0, .slice none 0 0] 27))
  clear res b0 ha
  go_enter Try.func49, Try.ntmps49
  go_wp2_with fail
  refine (isboard A c l _ hl HA.out).mono ?_
  rintro e w2 ⟨X, n1, xs, Y, m1, ys, rfl, h7, k7, ra, rb, b2, fa, fb⟩
  have B2 := B0.out.trans (b2.mono B0.out.size)
  obtain ⟨r0, r1, f0, f1, rg⟩ := (RES.out.below b2).c2
  have RA := Lib.hid ra
  have RB := Lib.hid rb
  have FA := Lib.hid fa
  have FB := Lib.hid fb
  have hz : (w.alloc (.cells #[.slice none 0 0, .slice none 0 0] 27)).heap.size = w.heap.size + 1 := World.size_alloc _ _
  have HZ := Lib.hid hz
  clear ra rb fa fb b2 hz
  go_wp2_with fail
  exact bodyPost_ret (v := .agg #[.slice X xs.length n1, .slice Y ys.length m1]) (by simp [results, Try.results49, go_sem, *]) rfl ⟨X, n1, xs, Y, m1, ys, rfl, h7, k7, (RA.out.setOther (fun q hq => by have := FA.out q hq; have := HZ.out; simp only; omega) _).setOther (fun q hq => by have := FA.out q hq; have := HZ.out; simp only; omega) _, (RB.out.setOther (fun q hq => by have := FB.out q hq; have := HZ.out; simp only; omega) _).setOther (fun q hq => by have := FB.out q hq; have := HZ.out; simp only; omega) _, by (repeat (first | exact Below.refl _ _ | assumption | (refine K.below_drewN ?_ _) | (refine Below.drew ?_) | (refine Below.alloc ?_ (by first | (simp; done) | (simp; omega) | omega) _) | (refine Below.setCell ?_ (by first | (simp; done) | (simp; omega) | omega) _))), (fun q hq => by have := FA.out q hq; have := HZ.out; omega), (fun q hq => by have := FB.out q hq; have := HZ.out; omega)⟩
set_option maxHeartbeats 1000000 in
theorem counters (A : Option Addr) (c : Nat) (l : List UInt8) (w : World) (hl : l.length ≤ 65536) (ha : K.Rd w 1 A l.length (l.map fun b => Value.int .u8 (b.toNat : Int))) :
    Calls Try.prog 53 #[.slice A l.length c] w (RetD w) := by
  have res := K.Own.new w #[.slice none 0 0, .slice none 0 0] 27
  have b0 : Below w.heap.size w (w.alloc (.cells #[.slice none 0 0, .slice none 0 0] 27)) := (Below.refl _ _).alloc (Nat.le_refl _) _
  have RES := Lib.hid res
  have B0 := Lib.hid b0
  have HA := Lib.hid (ha.alloc (.cells #[.slice none 0 0, .slice none 0 0] 27))
  clear res b0 ha
  go_enter Try.func53, Try.ntmps53
  go_wp2_with fail
  refine (isboard A c l _ hl HA.out).mono ?_
  rintro e w2 ⟨X, n1, xs, Y, m1, ys, rfl, h7, k7, ra, rb, b2, fa, fb⟩
  have B2 := B0.out.trans (b2.mono B0.out.size)
  obtain ⟨r0, r1, f0, f1, rg⟩ := (RES.out.below b2).c2
  have RA := Lib.hid ra
  have RB := Lib.hid rb
  have FA := Lib.hid fa
  have FB := Lib.hid fb
  have hz : (w.alloc (.cells #[.slice none 0 0, .slice none 0 0] 27)).heap.size = w.heap.size + 1 := World.size_alloc _ _
  have HZ := Lib.hid hz
  clear ra rb fa fb b2 hz
  go_wp2_with fail
  exact bodyPost_ret (v := .agg #[.slice X xs.length n1, .slice Y ys.length m1]) (by simp [results, Try.results53, go_sem, *]) rfl ⟨X, n1, xs, Y, m1, ys, rfl, h7, k7, (RA.out.setOther (fun q hq => by have := FA.out q hq; have := HZ.out; simp only; omega) _).setOther (fun q hq => by have := FA.out q hq; have := HZ.out; simp only; omega) _, (RB.out.setOther (fun q hq => by have := FB.out q hq; have := HZ.out; simp only; omega) _).setOther (fun q hq => by have := FB.out q hq; have := HZ.out; simp only; omega) _, by (repeat (first | exact Below.refl _ _ | assumption | (refine K.below_drewN ?_ _) | (refine Below.drew ?_) | (refine Below.alloc ?_ (by first | (simp; done) | (simp; omega) | omega) _) | (refine Below.setCell ?_ (by first | (simp; done) | (simp; omega) | omega) _))), (fun q hq => by have := FA.out q hq; have := HZ.out; omega), (fun q hq => by have := FB.out q hq; have := HZ.out; omega)⟩
set_option maxHeartbeats 1000000 in
theorem plainb (A : Option Addr) (c : Nat) (l : List UInt8) (w : World) (hl : l.length ≤ 65536) (ha : K.Rd w 1 A l.length (l.map fun b => Value.int .u8 (b.toNat : Int))) :
    Calls Try.prog 44 #[.slice A l.length c] w (RetD w) := by
  have res := K.Own.new w #[.slice none 0 0, .slice none 0 0] 27
  have b0 : Below w.heap.size w (w.alloc (.cells #[.slice none 0 0, .slice none 0 0] 27)) := (Below.refl _ _).alloc (Nat.le_refl _) _
  have RES := Lib.hid res
  have B0 := Lib.hid b0
  have HA := Lib.hid (ha.alloc (.cells #[.slice none 0 0, .slice none 0 0] 27))
  clear res b0 ha
  go_enter Try.func44, Try.ntmps44
  go_wp2_with fail
  refine (isboard A c l _ hl HA.out).mono ?_
  rintro e w2 ⟨X, n1, xs, Y, m1, ys, rfl, h7, k7, ra, rb, b2, fa, fb⟩
  have B2 := B0.out.trans (b2.mono B0.out.size)
  obtain ⟨r0, r1, f0, f1, rg⟩ := (RES.out.below b2).c2
  have RA := Lib.hid ra
  have RB := Lib.hid rb
  have FA := Lib.hid fa
  have FB := Lib.hid fb
  have hz : (w.alloc (.cells #[.slice none 0 0, .slice none 0 0] 27)).heap.size = w.heap.size + 1 := World.size_alloc _ _
  have HZ := Lib.hid hz
  clear ra rb fa fb b2 hz
  go_wp2_with fail
  exact bodyPost_ret (v := .agg #[.slice X xs.length n1, .slice Y ys.length m1]) (by simp [results, Try.results44, go_sem, *]) rfl ⟨X, n1, xs, Y, m1, ys, rfl, h7, k7, (RA.out.setOther (fun q hq => by have := FA.out q hq; have := HZ.out; simp only; omega) _).setOther (fun q hq => by have := FA.out q hq; have := HZ.out; simp only; omega) _, (RB.out.setOther (fun q hq => by have := FB.out q hq; have := HZ.out; simp only; omega) _).setOther (fun q hq => by have := FB.out q hq; have := HZ.out; simp only; omega) _, by (repeat (first | exact Below.refl _ _ | assumption | (refine K.below_drewN ?_ _) | (refine Below.drew ?_) | (refine Below.alloc ?_ (by first | (simp; done) | (simp; omega) | omega) _) | (refine Below.setCell ?_ (by first | (simp; done) | (simp; omega) | omega) _))), (fun q hq => by have := FA.out q hq; have := HZ.out; omega), (fun q hq => by have := FB.out q hq; have := HZ.out; omega)⟩
set_option maxHeartbeats 2000000 in
theorem carryat (A : Option Addr) (c : Nat) (l : List UInt8) (w : World) (hl : l.length ≤ 65536) (ha : K.Rd w 1 A l.length (l.map fun b => Value.int .u8 (b.toNat : Int))) :
    Calls Try.prog 50 #[.slice A l.length c] w (RetDC w) := by
  have hc := K.Cur.new (c := c) (ha.alloc (.cells #[.slice none 0 0, .slice none 0 0] 27)) hl 75
  have res := (K.Own.new w #[.slice none 0 0, .slice none 0 0] 27).alloc (.cells #[.slice A l.length c, .int .i64 0, .int .u64 0] 75)
  have b0 : Below w.heap.size w ((w.alloc (.cells #[.slice none 0 0, .slice none 0 0] 27)).alloc (.cells #[.slice A l.length c, .int .i64 0, .int .u64 0] 75)) := ((Below.refl _ _).alloc (Nat.le_refl _) _).alloc (by simp) _
  rw [World.size_alloc] at hc
  have HC := Lib.hid hc
  have RES := Lib.hid res
  have B0 := Lib.hid b0
  have hz0 : ((w.alloc (.cells #[.slice none 0 0, .slice none 0 0] 27)).alloc (.cells #[.slice A l.length c, .int .i64 0, .int .u64 0] 75)).heap.size = w.heap.size + 1 + 1 := by simp
  have HZ0 := Lib.hid hz0
  clear hc res b0 hz0 ha
  go_enter Try.func50, Try.ntmps50
  go_wp2_with fail
  refine (lines5 _ _ _ _ HC.out (by omega)).mono ?_
  rintro e w1 ⟨x, rfl, ⟨x1, x2⟩, q1⟩
  obtain ⟨n, rfl⟩ := Int.eq_ofNat_of_zero_le (show 0 ≤ x by omega)
  have B1 := Lib.hid (B0.out.trans (q1.below (b := w.heap.size) (by have := HZ0.out; omega) (by omega)))
  have RES1 := Lib.hid (RES.out.kept q1.2 (fun e => by injection e with e; omega))
  have hz1 : w.heap.size + 1 + 1 ≤ w1.heap.size := by have := q1.2.size; have := HZ0.out; omega
  clear B0 RES HC HZ0
  go_wp2_with fail
  refine (board5 _ _ _ _ n q1.1 (by omega) ⟨by omega, by omega⟩).mono ?_
  rintro e w2 ⟨X, n1, xs, Y, m1, ys, rfl, h7, k7, ra, rb, fa, fb, q2⟩
  have B2 := Lib.hid (B1.out.trans (q2.below (b := w.heap.size) (by omega) (by omega)))
  have RES2 := Lib.hid (RES1.out.kept q2.2 (fun e => by injection e with e; omega))
  have hz2 : w.heap.size + 1 + 1 ≤ w2.heap.size := by have := q2.2.size; omega
  have FA := Lib.hid (fun q hq => show w.heap.size + 1 + 1 ≤ q by have := fa q hq; omega)
  have FB := Lib.hid (fun q hq => show w.heap.size + 1 + 1 ≤ q by have := fb q hq; omega)
  have RA := Lib.hid (ra.alloc (.cells #[.slice X xs.length n1, .slice Y ys.length m1] 27))
  have RB := Lib.hid (rb.alloc (.cells #[.slice X xs.length n1, .slice Y ys.length m1] 27))
  have RES3 := Lib.hid (RES2.out.alloc (.cells #[.slice X xs.length n1, .slice Y ys.length m1] 27))
  have BX := Lib.hid (K.Box.new w2 #[.slice X xs.length n1, .slice Y ys.length m1] 27)
  have B3 := Lib.hid (B2.out.alloc B2.out.size (.cells #[.slice X xs.length n1, .slice Y ys.length m1] 27))
  have HC3 := Lib.hid (q2.1.alloc (.cells #[.slice X xs.length n1, .slice Y ys.length m1] 27))
  clear ra rb fa fb q1 q2 B1 RES1 RES2 B2
  have hza : w2.heap.size + 1 ≤ (w2.alloc (.cells #[.slice X xs.length n1, .slice Y ys.length m1] 27)).heap.size := by simp
  go_wp2_with fail
  refine (Cur.one _ _ _ _ 2 HC3.out (by omega)).mono ?_
  rintro e w3 ⟨b, rfl, q3⟩
  have hz3 : w2.heap.size + 1 ≤ w3.heap.size := by have := q3.2.size; simpa using this
  have RS := RES3
  have BB := B3
  have RA4 := Lib.hid (RA.out.kept q3.2 (fun q hq e => by injection e with e; have := FA.out q hq; omega))
  have RB4 := Lib.hid (RB.out.kept q3.2 (fun q hq e => by injection e with e; have := FB.out q hq; omega))
  have BX4 := Lib.hid (BX.out.kept q3.2 (fun e => by injection e with e; omega))
  have RS4 := Lib.hid (RS.out.kept q3.2 (fun e => by injection e with e; omega))
  have BB4 := Lib.hid (BB.out.trans (q3.below (b := w.heap.size) (by omega) (by omega)))
  clear RA RB RES3 RS BB B3 BX HC3
  go_upto_region 5 with fail
  obtain ⟨W, hW⟩ : ∃ X, X = w3.drew := ⟨_, rfl⟩
  have C5 := Lib.hid (show K.Cur W (w.heap.size + 1) (w.heap.size + 1) _ by rw [hW]; exact q3.1.drew)
  have RA5 := Lib.hid (show K.Rd W 1 X xs.length (xs.map (Value.int .i64)) by rw [hW]; exact RA4.out.drew)
  have RB5 := Lib.hid (show K.Rd W 1 Y ys.length (ys.map (Value.int .i64)) by rw [hW]; exact RB4.out.drew)
  have BX5 := Lib.hid (show K.Box W w2.heap.size [.slice X xs.length n1, .slice Y ys.length m1] by rw [hW]; exact BX4.out.drew)
  have RS5 := Lib.hid (show K.Own W w.heap.size [.slice none 0 0, .slice none 0 0] by rw [hW]; exact RS4.out.drew)
  have BB5 := Lib.hid (show Below w.heap.size w W by rw [hW]; exact BB4.out.drew)
  have hz5 : w2.heap.size + 1 ≤ W.heap.size := by rw [hW]; exact hz3
  clear RA4 RB4 BX4 RS4 BB4
  refine wp_region_held_drew (S := fun w' => w'.cell? ⟨w2.heap.size, 0, none⟩ = some (.slice X xs.length n1) ∧ w'.cell? ⟨w2.heap.size, 1, none⟩ = some (.slice Y ys.length m1)) (by kernel_rfl) (by rw [← hW]; exact ⟨BX5.out.c2.1, BX5.out.c2.2⟩) (fun hHeld => ?_)
  rw [← hW] at hHeld ⊢
  clear hW q3
  refine K.takeL 0 (v := ?_) rfl (by kernel_rfl) (by kernel_rfl) (by kernel_rfl) (fun _ _ _ h => h) (Or.inl ⟨rfl, ?_⟩) (by assumption) ?_
  rotate_left
  · intro w hSw; (try dsimp only at hSw); first | (go_simp; done) | (go_simp; with_reducible rfl)
  simp only [Act.put, List.setIfInBounds_toArray, List.set_cons_zero, List.set_cons_succ]
  refine K.takeL 1 (v := ?_) rfl (by kernel_rfl) (by kernel_rfl) (by kernel_rfl) (fun _ _ _ h => h) (Or.inl ⟨rfl, ?_⟩) (by assumption) ?_
  rotate_left
  · intro w hSw; (try dsimp only at hSw); first | (go_simp; done) | (go_simp; with_reducible rfl)
  simp only [Act.put, List.setIfInBounds_toArray, List.set_cons_zero, List.set_cons_succ]
  refine K.takeL 2 (v := ?_) rfl (by kernel_rfl) (by kernel_rfl) (by kernel_rfl) (fun _ _ _ h => h) (Or.inl ⟨rfl, ?_⟩) (by assumption) ?_
  rotate_left
  · intro w hSw; (try dsimp only at hSw); first | (go_simp; done) | (go_simp; with_reducible rfl)
  simp only [Act.put, List.setIfInBounds_toArray, List.set_cons_zero, List.set_cons_succ]
  refine K.takeL 3 (v := ?_) rfl (by kernel_rfl) (by kernel_rfl) (by kernel_rfl) (fun _ _ _ h => h) (Or.inl ⟨rfl, ?_⟩) (by assumption) ?_
  rotate_left
  · intro w hSw; (try dsimp only at hSw); first | (go_simp; done) | (go_simp; with_reducible rfl)
  simp only [Act.put, List.setIfInBounds_toArray, List.set_cons_zero, List.set_cons_succ]
  refine K.takeL 4 (v := ?_) rfl (by kernel_rfl) (by kernel_rfl) (by kernel_rfl) (fun _ _ _ h => h) (Or.inl ⟨rfl, ?_⟩) (by assumption) ?_
  rotate_left
  · intro w hSw; (try dsimp only at hSw); first | (go_simp; done) | (go_simp; with_reducible rfl)
  simp only [Act.put, List.setIfInBounds_toArray, List.set_cons_zero, List.set_cons_succ]
  refine K.takeL 6 (v := ?_) rfl (by kernel_rfl) (by kernel_rfl) (by kernel_rfl) (fun _ _ _ h => h) (Or.inl ⟨rfl, ?_⟩) (by assumption) ?_
  rotate_left
  · intro w hSw; (try dsimp only at hSw); first | (go_simp; done) | (go_simp; with_reducible rfl)
  simp only [Act.put, List.setIfInBounds_toArray, List.set_cons_zero, List.set_cons_succ]
  refine K.consL 5 rfl (by kernel_rfl) (fun KK hK => ?_)
  go_simp
  refine (Cur.pick _ _ _ _ _ C5.out (by omega)).mono ?_
  rintro e w6 ⟨y6, rfl, hy6, q6⟩
  go_wp2_with fail
  have C6 := Lib.hid q6.1
  have hz6 : w2.heap.size + 1 ≤ w6.heap.size := by have := q6.2.size; omega
  have RA6 := Lib.hid (RA5.out.kept q6.2 (fun q hq e => by injection e with e; have := FA.out q hq; omega))
  have RB6 := Lib.hid (RB5.out.kept q6.2 (fun q hq e => by injection e with e; have := FB.out q hq; omega))
  have BX6 := Lib.hid (BX5.out.kept q6.2 (fun e => by injection e with e; omega))
  have RS6 := Lib.hid (RS5.out.kept q6.2 (fun e => by injection e with e; omega))
  have BB6 := Lib.hid (BB5.out.trans (q6.below (b := w.heap.size) (by omega) (by omega)))
  refine hK.out _ _ ⟨BX6.out.c2.1, BX6.out.c2.2⟩ (fun hHeld => ?_)
  clear hK KK
  try simp only [Act.put, List.setIfInBounds_toArray, List.set_cons_zero, List.set_cons_succ]
  refine K.consL 7 rfl (by kernel_rfl) (fun KK hK => ?_)
  go_simp
  refine (Cur.pick _ _ _ _ 20 C6.out (by omega)).mono ?_
  rintro e w7 ⟨y7, rfl, hy7, q7⟩
  go_wp2_with fail
  have C7 := Lib.hid q7.1
  have hz7 : w2.heap.size + 1 ≤ w7.heap.size := by have := q7.2.size; omega
  have RA7 := Lib.hid (RA6.out.kept q7.2 (fun q hq e => by injection e with e; have := FA.out q hq; omega))
  have RB7 := Lib.hid (RB6.out.kept q7.2 (fun q hq e => by injection e with e; have := FB.out q hq; omega))
  have BX7 := Lib.hid (BX6.out.kept q7.2 (fun e => by injection e with e; omega))
  have RS7 := Lib.hid (RS6.out.kept q7.2 (fun e => by injection e with e; omega))
  have BB7 := Lib.hid (BB6.out.trans (q7.below (b := w.heap.size) (by omega) (by omega)))
  refine hK.out _ _ ⟨BX7.out.c2.1, BX7.out.c2.2⟩ (fun hHeld => ?_)
  clear hK KK
  try simp only [Act.put, List.setIfInBounds_toArray, List.set_cons_zero, List.set_cons_succ]
  refine K.takeL 8 (v := ?_) rfl (by kernel_rfl) (by kernel_rfl) (by kernel_rfl) (fun _ _ _ h => h) (Or.inl ⟨rfl, ?_⟩) (by assumption) ?_
  rotate_left
  · intro w hSw; (try dsimp only at hSw); first | (go_simp; done) | (go_simp; with_reducible rfl)
  simp only [Act.put, List.setIfInBounds_toArray, List.set_cons_zero, List.set_cons_succ]
  refine K.takeL 9 (v := ?_) rfl (by kernel_rfl) (by kernel_rfl) (by kernel_rfl) (fun _ _ _ h => h) (Or.inl ⟨rfl, ?_⟩) (by assumption) ?_
  rotate_left
  · intro w hSw; (try dsimp only at hSw); first | (go_simp; done) | (go_simp; with_reducible rfl)
  simp only [Act.put, List.setIfInBounds_toArray, List.set_cons_zero, List.set_cons_succ]
  refine K.consL 10 rfl (by kernel_rfl) (fun KK hK => ?_)
  obtain ⟨r0, r1, f0, f1, rg⟩ := RS7.out.c2
  go_simp
  clear r0 r1 f0 f1 rg
  refine hK.out _ _ ⟨((BX7.out.setOther (p := ⟨w.heap.size, 0, none⟩) (by simp only; omega) (.slice X xs.length n1)).setOther (p := ⟨w.heap.size, 1, none⟩) (by simp only; omega) (.slice Y ys.length m1)).c2.1, ((BX7.out.setOther (p := ⟨w.heap.size, 0, none⟩) (by simp only; omega) (.slice X xs.length n1)).setOther (p := ⟨w.heap.size, 1, none⟩) (by simp only; omega) (.slice Y ys.length m1)).c2.2⟩ (fun hHeld => ?_)
  clear hK KK
  try simp only [Act.put, List.setIfInBounds_toArray, List.set_cons_zero, List.set_cons_succ]
  refine K.takeL 11 (v := ?_) rfl (by kernel_rfl) (by kernel_rfl) (by kernel_rfl) (fun _ _ _ h => h) (Or.inl ⟨rfl, ?_⟩) (by assumption) ?_
  rotate_left
  · intro w hSw; (try dsimp only at hSw); first | (go_simp; done) | (go_simp; with_reducible rfl)
  simp only [Act.put, List.setIfInBounds_toArray, List.set_cons_zero, List.set_cons_succ]
  refine K.takeL 12 (v := ?_) rfl (by kernel_rfl) (by kernel_rfl) (by kernel_rfl) (fun _ _ _ h => h) (Or.inl ⟨rfl, ?_⟩) (by assumption) ?_
  rotate_left
  · intro w hSw; (try dsimp only at hSw); first | (go_simp; done) | (go_simp; with_reducible rfl)
  simp only [Act.put, List.setIfInBounds_toArray, List.set_cons_zero, List.set_cons_succ]
  refine wpAnyH_done (by kernel_rfl) ?_ _
  obtain ⟨r0, r1, f0, f1, rg⟩ := RS7.out.c2
  have hbz := BB7.out
  go_wp2_with fail
  exact bodyPost_ret (v := .tuple #[.agg #[.slice X xs.length n1, .slice Y ys.length m1], .bool b, .int .i64 _]) (by simp [results, Try.results50, go_sem, *]; rfl) rfl ⟨X, n1, xs, Y, m1, ys, b, _, rfl, h7, k7, (RA7.out.setOther (fun q hq => by have := FA.out q hq; simp only; omega) _).setOther (fun q hq => by have := FA.out q hq; simp only; omega) _, (RB7.out.setOther (fun q hq => by have := FB.out q hq; simp only; omega) _).setOther (fun q hq => by have := FB.out q hq; simp only; omega) _, by (repeat (first | exact Below.refl _ _ | assumption | (refine K.below_drewN ?_ _) | (refine Below.drew ?_) | (refine Below.alloc ?_ (by first | (simp; done) | (simp; omega) | omega) _) | (refine Below.setCell ?_ (by first | (simp; done) | (simp; omega) | omega) _))), (fun q hq => by have := FA.out q hq; omega), (fun q hq => by have := FB.out q hq; omega)⟩
set_option maxHeartbeats 1000000 in
theorem borrowat (A : Option Addr) (c : Nat) (l : List UInt8) (w : World) (hl : l.length ≤ 65536) (ha : K.Rd w 1 A l.length (l.map fun b => Value.int .u8 (b.toNat : Int))) :
    Calls Try.prog 51 #[.slice A l.length c] w (RetDC w) := by
  have res := K.Own.new w #[.slice none 0 0, .slice none 0 0] 27
  have b0 : Below w.heap.size w (w.alloc (.cells #[.slice none 0 0, .slice none 0 0] 27)) := (Below.refl _ _).alloc (Nat.le_refl _) _
  have RES := Lib.hid res
  have B0 := Lib.hid b0
  have HA := Lib.hid (ha.alloc (.cells #[.slice none 0 0, .slice none 0 0] 27))
  have HZ := Lib.hid (World.size_alloc w (.cells #[.slice none 0 0, .slice none 0 0] 27))
  clear res b0 ha
  go_enter Try.func51, Try.ntmps51
  go_wp2_with fail
  refine (carryat A c l _ hl HA.out).mono ?_
  rintro e w2 ⟨X, n1, xs, Y, m1, ys, b, v, rfl, h7, k7, ra, rb, b2, fa, fb⟩
  have B2 := B0.out.trans (b2.mono B0.out.size)
  have B3 := Lib.hid (B2.alloc B2.size (.cells #[.slice X xs.length n1, .slice Y ys.length m1] 27))
  have RES2 := Lib.hid ((RES.out.below b2).alloc (.cells #[.slice X xs.length n1, .slice Y ys.length m1] 27))
  have RA := Lib.hid (ra.alloc (.cells #[.slice X xs.length n1, .slice Y ys.length m1] 27))
  have RB := Lib.hid (rb.alloc (.cells #[.slice X xs.length n1, .slice Y ys.length m1] 27))
  have BX := Lib.hid (K.Box.new w2 #[.slice X xs.length n1, .slice Y ys.length m1] 27)
  have FA := Lib.hid (fun q hq => show w.heap.size + 1 + 1 ≤ q by have := fa q hq; have := HZ.out; omega)
  have FB := Lib.hid (fun q hq => show w.heap.size + 1 + 1 ≤ q by have := fb q hq; have := HZ.out; omega)
  have hz2 : w.heap.size + 1 ≤ w2.heap.size := by have := b2.size; have := HZ.out; omega
  clear ra rb fa fb b2 B2
  obtain ⟨r0, r1, f0, f1, rg⟩ := RES2.out.c2
  obtain ⟨x0, x1⟩ := BX.out.c2
  have hbz := B3.out
  go_wp2_with fail
  exact bodyPost_ret (v := .tuple #[.agg #[.slice X xs.length n1, .slice Y ys.length m1], .bool b, .int .i64 v]) (by simp [results, Try.results51, go_sem, *]) rfl ⟨X, n1, xs, Y, m1, ys, b, v, rfl, h7, k7, (RA.out.setOther (fun q hq => by have := FA.out q hq; simp only; omega) _).setOther (fun q hq => by have := FA.out q hq; simp only; omega) _, (RB.out.setOther (fun q hq => by have := FB.out q hq; simp only; omega) _).setOther (fun q hq => by have := FB.out q hq; simp only; omega) _, by (repeat (first | exact Below.refl _ _ | assumption | (refine K.below_drewN ?_ _) | (refine Below.drew ?_) | (refine Below.alloc ?_ (by first | (simp; done) | (simp; omega) | omega) _) | (refine Below.setCell ?_ (by first | (simp; done) | (simp; omega) | omega) _))), (fun q hq => by have := FA.out q hq; omega), (fun q hq => by have := FB.out q hq; omega)⟩
set_option maxHeartbeats 2000000 in
theorem joinb (A : Option Addr) (c : Nat) (l : List UInt8) (w : World) (hl : l.length ≤ 65536) (ha : K.Rd w 1 A l.length (l.map fun b => Value.int .u8 (b.toNat : Int))) :
    Calls Try.prog 52 #[.slice A l.length c] w (RetDD w) := by
  have hc := K.Cur.new (c := c) ((ha.alloc (.cells #[.slice none 0 0, .slice none 0 0] 27)).alloc (.cells #[.slice none 0 0, .slice none 0 0] 27)) hl 75
  have res := ((K.Own.new w #[.slice none 0 0, .slice none 0 0] 27).alloc (.cells #[.slice none 0 0, .slice none 0 0] 27)).alloc (.cells #[.slice A l.length c, .int .i64 0, .int .u64 0] 75)
  have res2 := (K.Own.new (w.alloc (.cells #[.slice none 0 0, .slice none 0 0] 27)) #[.slice none 0 0, .slice none 0 0] 27).alloc (.cells #[.slice A l.length c, .int .i64 0, .int .u64 0] 75)
  have b0 : Below w.heap.size w (((w.alloc (.cells #[.slice none 0 0, .slice none 0 0] 27)).alloc (.cells #[.slice none 0 0, .slice none 0 0] 27)).alloc (.cells #[.slice A l.length c, .int .i64 0, .int .u64 0] 75)) := (((Below.refl _ _).alloc (Nat.le_refl _) _).alloc (by simp) _).alloc (by simp; omega) _
  rw [World.size_alloc, World.size_alloc] at hc
  rw [World.size_alloc] at res2
  have HC := Lib.hid hc
  have RS := Lib.hid res
  have RT := Lib.hid res2
  have BB := Lib.hid b0
  have hz0 : (((w.alloc (.cells #[.slice none 0 0, .slice none 0 0] 27)).alloc (.cells #[.slice none 0 0, .slice none 0 0] 27)).alloc (.cells #[.slice A l.length c, .int .i64 0, .int .u64 0] 75)).heap.size = w.heap.size + 1 + 1 + 1 := by simp
  have HZ0 := Lib.hid hz0
  clear hc res res2 b0 hz0 ha
  go_enter Try.func52, Try.ntmps52
  go_wp2_with fail
  refine (lines5 _ _ _ _ HC.out (by omega)).mono ?_
  rintro e w1 ⟨x, rfl, ⟨x1, x2⟩, q1⟩
  obtain ⟨n, rfl⟩ := Int.eq_ofNat_of_zero_le (show 0 ≤ x by omega)
  have RS1 := Lib.hid (RS.out.kept q1.2 (fun e => by injection e with e; omega))
  have RT1 := Lib.hid (RT.out.kept q1.2 (fun e => by injection e with e; omega))
  have BB1 := Lib.hid (BB.out.trans (q1.below (b := w.heap.size) (by have := HZ0.out; omega) (by omega)))
  have hz1 : w.heap.size + 1 + 1 + 1 ≤ w1.heap.size := by have := q1.2.size; have := HZ0.out; omega
  clear RS RT BB HC HZ0
  go_wp2_with fail
  refine (board5 _ _ _ _ n q1.1 (by omega) ⟨by omega, by omega⟩).mono ?_
  rintro e w2 ⟨X, n1, xs, Y, m1, ys, rfl, h7, k7, ra, rb, fa, fb, q2⟩
  have RS2 := Lib.hid (RS1.out.kept q2.2 (fun e => by injection e with e; omega))
  have RT2 := Lib.hid (RT1.out.kept q2.2 (fun e => by injection e with e; omega))
  have BB2 := Lib.hid (BB1.out.trans (q2.below (b := w.heap.size) (by omega) (by omega)))
  have hz2 : w.heap.size + 1 + 1 + 1 ≤ w2.heap.size := by have := q2.2.size; omega
  have FA := Lib.hid (fun q hq => show w.heap.size + 1 + 1 + 1 ≤ q by have := fa q hq; omega)
  have FB := Lib.hid (fun q hq => show w.heap.size + 1 + 1 + 1 ≤ q by have := fb q hq; omega)
  have RA := Lib.hid (ra.alloc (.cells #[.slice X xs.length n1, .slice Y ys.length m1] 27))
  have RB := Lib.hid (rb.alloc (.cells #[.slice X xs.length n1, .slice Y ys.length m1] 27))
  have RS := Lib.hid (RS2.out.alloc (.cells #[.slice X xs.length n1, .slice Y ys.length m1] 27))
  have RT := Lib.hid (RT2.out.alloc (.cells #[.slice X xs.length n1, .slice Y ys.length m1] 27))
  have BX := Lib.hid (K.Box.new w2 #[.slice X xs.length n1, .slice Y ys.length m1] 27)
  have BB := Lib.hid (BB2.out.alloc BB2.out.size (.cells #[.slice X xs.length n1, .slice Y ys.length m1] 27))
  have HC3 := Lib.hid (q2.1.alloc (.cells #[.slice X xs.length n1, .slice Y ys.length m1] 27))
  have hza : w2.heap.size + 1 ≤ (w2.alloc (.cells #[.slice X xs.length n1, .slice Y ys.length m1] 27)).heap.size := by simp
  clear ra rb fa fb q1 q2 RS1 RT1 BB1 RS2 RT2 BB2
  go_wp2_with fail
  refine (Cur.one _ _ _ _ 8 HC3.out (by omega)).mono ?_
  rintro e w3 ⟨b, rfl, q3⟩
  have hz3 : w2.heap.size + 1 ≤ w3.heap.size := by have := q3.2.size; simpa using this
  have RS3 := Lib.hid (RS.out.kept q3.2 (fun e => by injection e with e; omega))
  have RT3 := Lib.hid (RT.out.kept q3.2 (fun e => by injection e with e; omega))
  have BB3 := Lib.hid (BB.out.trans (q3.below (b := w.heap.size) (by omega) (by omega)))
  have RA3 := Lib.hid (RA.out.kept q3.2 (fun q hq e => by injection e with e; have := FA.out q hq; omega))
  have RB3 := Lib.hid (RB.out.kept q3.2 (fun q hq e => by injection e with e; have := FB.out q hq; omega))
  have BX3 := Lib.hid (BX.out.kept q3.2 (fun e => by injection e with e; omega))
  clear RA RB RS RT BB BX HC3
  cases b with
  | false =>
    go_upto_region 6 with fail
    obtain ⟨W, hW⟩ : ∃ X, X = World.drew w3 := ⟨_, rfl⟩
    have C5 := Lib.hid (show K.Cur W (w.heap.size + 1 + 1) (w.heap.size + 1 + 1) _ by rw [hW]; exact q3.1.drew)
    have RA5 := Lib.hid (show K.Rd W 1 X xs.length (xs.map (Value.int .i64)) by rw [hW]; exact RA3.out.drew)
    have RB5 := Lib.hid (show K.Rd W 1 Y ys.length (ys.map (Value.int .i64)) by rw [hW]; exact RB3.out.drew)
    have BX5 := Lib.hid (show K.Box W w2.heap.size [.slice X xs.length n1, .slice Y ys.length m1] by rw [hW]; exact BX3.out.drew)
    have RS5 := Lib.hid (show K.Own W w.heap.size [.slice none 0 0, .slice none 0 0] by rw [hW]; exact RS3.out.drew)
    have RT5 := Lib.hid (show K.Own W (w.heap.size + 1) [.slice none 0 0, .slice none 0 0] by rw [hW]; exact RT3.out.drew)
    have BB5 := Lib.hid (show Below w.heap.size w W by rw [hW]; exact BB3.out.drew)
    have hz5 : w2.heap.size + 1 ≤ W.heap.size := by rw [hW]; have := hz3; exact this
    clear RA3 RB3 BX3 RS3 RT3 BB3
    refine wp_region_held_drew (S := fun w' => w'.cell? ⟨w2.heap.size, 0, none⟩ = some (.slice X xs.length n1) ∧ w'.cell? ⟨w2.heap.size, 1, none⟩ = some (.slice Y ys.length m1)) (by kernel_rfl) (by rw [← hW]; exact ⟨BX5.out.c2.1, BX5.out.c2.2⟩) (fun hHeld => ?_)
    rw [← hW] at hHeld ⊢
    clear hW q3
    refine K.takeL 0 (v := ?_) rfl (by kernel_rfl) (by kernel_rfl) (by kernel_rfl) (fun _ _ _ h => h) (Or.inl ⟨rfl, ?_⟩) (by assumption) ?_
    rotate_left
    · intro w hSw; (try dsimp only at hSw); first | (go_simp; done) | (go_simp; with_reducible rfl)
    simp only [Act.put, List.setIfInBounds_toArray, List.set_cons_zero, List.set_cons_succ]
    refine K.takeL 1 (v := ?_) rfl (by kernel_rfl) (by kernel_rfl) (by kernel_rfl) (fun _ _ _ h => h) (Or.inl ⟨rfl, ?_⟩) (by assumption) ?_
    rotate_left
    · intro w hSw; (try dsimp only at hSw); first | (go_simp; done) | (go_simp; with_reducible rfl)
    simp only [Act.put, List.setIfInBounds_toArray, List.set_cons_zero, List.set_cons_succ]
    refine K.takeL 2 (v := ?_) rfl (by kernel_rfl) (by kernel_rfl) (by kernel_rfl) (fun _ _ _ h => h) (Or.inl ⟨rfl, ?_⟩) (by assumption) ?_
    rotate_left
    · intro w hSw; (try dsimp only at hSw); first | (go_simp; done) | (go_simp; with_reducible rfl)
    simp only [Act.put, List.setIfInBounds_toArray, List.set_cons_zero, List.set_cons_succ]
    refine K.consL 3 rfl (by kernel_rfl) (fun KK hK => ?_)
    go_simp
    refine (board5 _ _ _ _ n C5.out (by omega) ⟨by omega, by omega⟩).mono ?_
    rintro e w6 ⟨X2, n2, xs2, Y2, m2, ys2, rfl, h72, k72, ra, rb, fa, fb, q6⟩
    go_wp2_with fail
    have hz6 : w2.heap.size + 1 ≤ w6.heap.size := by have := q6.2.size; omega
    have RS6 := Lib.hid (RS5.out.kept q6.2 (fun e => by injection e with e; omega))
    have RT6 := Lib.hid (RT5.out.kept q6.2 (fun e => by injection e with e; omega))
    have BB6 := Lib.hid (BB5.out.trans (q6.below (b := w.heap.size) (by omega) (by omega)))
    have RA6 := Lib.hid (RA5.out.kept q6.2 (fun q hq e => by injection e with e; have := FA.out q hq; omega))
    have RB6 := Lib.hid (RB5.out.kept q6.2 (fun q hq e => by injection e with e; have := FB.out q hq; omega))
    have BX6 := Lib.hid (BX5.out.kept q6.2 (fun e => by injection e with e; omega))
    have RC := Lib.hid ra
    have RD := Lib.hid rb
    have FC := Lib.hid (fun q hq => show w.heap.size + 1 + 1 + 1 ≤ q by have := fa q hq; omega)
    have FD := Lib.hid (fun q hq => show w.heap.size + 1 + 1 + 1 ≤ q by have := fb q hq; omega)
    clear ra rb fa fb
    refine hK.out _ _ ⟨BX6.out.c2.1, BX6.out.c2.2⟩ (fun hHeld => ?_)
    clear hK KK
    try simp only [Act.put, List.setIfInBounds_toArray, List.set_cons_zero, List.set_cons_succ]
    refine K.consL 4 rfl (by kernel_rfl) (fun KK hK => ?_)
    obtain ⟨r0, r1, f0, f1, rg⟩ := RS6.out.c2
    go_simp
    clear r0 r1 f0 f1 rg
    refine hK.out _ _ ⟨((BX6.out.setOther (p := ⟨w.heap.size, 0, none⟩) (by simp only; omega) (.slice X xs.length n1)).setOther (p := ⟨w.heap.size, 1, none⟩) (by simp only; omega) (.slice Y ys.length m1)).c2.1, ((BX6.out.setOther (p := ⟨w.heap.size, 0, none⟩) (by simp only; omega) (.slice X xs.length n1)).setOther (p := ⟨w.heap.size, 1, none⟩) (by simp only; omega) (.slice Y ys.length m1)).c2.2⟩ (fun hHeld => ?_)
    clear hK KK
    try simp only [Act.put, List.setIfInBounds_toArray, List.set_cons_zero, List.set_cons_succ]
    refine K.consL 5 rfl (by kernel_rfl) (fun KK hK => ?_)
    obtain ⟨r0, r1, f0, f1, rg⟩ := ((RT6.out.setOther (p := ⟨w.heap.size, 0, none⟩) (by simp only; omega) (.slice X xs.length n1)).setOther (p := ⟨w.heap.size, 1, none⟩) (by simp only; omega) (.slice Y ys.length m1)).c2
    go_simp
    clear r0 r1 f0 f1 rg
    refine hK.out _ _ ⟨((((BX6.out.setOther (p := ⟨w.heap.size, 0, none⟩) (by simp only; omega) (.slice X xs.length n1)).setOther (p := ⟨w.heap.size, 1, none⟩) (by simp only; omega) (.slice Y ys.length m1)).setOther (p := ⟨w.heap.size + 1, 0, none⟩) (by simp only; omega) (.slice X2 xs2.length n2)).setOther (p := ⟨w.heap.size + 1, 1, none⟩) (by simp only; omega) (.slice Y2 ys2.length m2)).c2.1, ((((BX6.out.setOther (p := ⟨w.heap.size, 0, none⟩) (by simp only; omega) (.slice X xs.length n1)).setOther (p := ⟨w.heap.size, 1, none⟩) (by simp only; omega) (.slice Y ys.length m1)).setOther (p := ⟨w.heap.size + 1, 0, none⟩) (by simp only; omega) (.slice X2 xs2.length n2)).setOther (p := ⟨w.heap.size + 1, 1, none⟩) (by simp only; omega) (.slice Y2 ys2.length m2)).c2.2⟩ (fun hHeld => ?_)
    clear hK KK
    try simp only [Act.put, List.setIfInBounds_toArray, List.set_cons_zero, List.set_cons_succ]
    refine wpAnyH_done (by kernel_rfl) ?_ _
    obtain ⟨r0, r1, f0, f1, rg⟩ := RS6.out.c2
    obtain ⟨t0, t1, u0, u1, tg⟩ := RT6.out.c2
    have hbz := BB6.out
    have hbs := hbz.size
    go_wp2_with fail
    exact bodyPost_ret (v := .tuple #[.agg #[.slice X xs.length n1, .slice Y ys.length m1], .agg #[.slice X2 xs2.length n2, .slice Y2 ys2.length m2]]) (by simp [results, Try.results52, go_sem, *]) rfl ⟨X, n1, xs, Y, m1, ys, X2, n2, xs2, Y2, m2, ys2, rfl, ⟨h7, k7, (((RA6.out.setOther (fun q hq => by have := FA.out q hq; simp only; omega) _).setOther (fun q hq => by have := FA.out q hq; simp only; omega) _).setOther (fun q hq => by have := FA.out q hq; simp only; omega) _).setOther (fun q hq => by have := FA.out q hq; simp only; omega) _, (((RB6.out.setOther (fun q hq => by have := FB.out q hq; simp only; omega) _).setOther (fun q hq => by have := FB.out q hq; simp only; omega) _).setOther (fun q hq => by have := FB.out q hq; simp only; omega) _).setOther (fun q hq => by have := FB.out q hq; simp only; omega) _⟩, ⟨h72, k72, (((RC.out.setOther (fun q hq => by have := FC.out q hq; simp only; omega) _).setOther (fun q hq => by have := FC.out q hq; simp only; omega) _).setOther (fun q hq => by have := FC.out q hq; simp only; omega) _).setOther (fun q hq => by have := FC.out q hq; simp only; omega) _, (((RD.out.setOther (fun q hq => by have := FD.out q hq; simp only; omega) _).setOther (fun q hq => by have := FD.out q hq; simp only; omega) _).setOther (fun q hq => by have := FD.out q hq; simp only; omega) _).setOther (fun q hq => by have := FD.out q hq; simp only; omega) _⟩, by (repeat (first | exact Below.refl _ _ | assumption | (refine K.below_drewN ?_ _) | (refine Below.drew ?_) | (refine Below.alloc ?_ (by first | (simp; done) | (simp; omega) | omega) _) | (refine Below.setCell ?_ (by first | (simp; done) | (simp; omega) | omega) _))), ⟨(fun q hq => by have := FA.out q hq; omega), (fun q hq => by have := FB.out q hq; omega)⟩, ⟨(fun q hq => by have := FC.out q hq; omega), (fun q hq => by have := FD.out q hq; omega)⟩⟩
  | true =>
    go_wp2_with fail
    refine (lines5 _ _ _ _ q3.1 (by omega)).mono ?_
    rintro e w4 ⟨x, rfl, ⟨x1, x2⟩, q4⟩
    obtain ⟨n2, rfl⟩ := Int.eq_ofNat_of_zero_le (show 0 ≤ x by omega)
    have hz4 : w2.heap.size + 1 ≤ w4.heap.size := by have := q4.2.size; omega
    have RS4 := Lib.hid (RS3.out.kept q4.2 (fun e => by injection e with e; omega))
    have RT4 := Lib.hid (RT3.out.kept q4.2 (fun e => by injection e with e; omega))
    have BB4 := Lib.hid (BB3.out.trans (q4.below (b := w.heap.size) (by omega) (by omega)))
    have RA4 := Lib.hid (RA3.out.kept q4.2 (fun q hq e => by injection e with e; have := FA.out q hq; omega))
    have RB4 := Lib.hid (RB3.out.kept q4.2 (fun q hq e => by injection e with e; have := FB.out q hq; omega))
    have BX4 := Lib.hid (BX3.out.kept q4.2 (fun e => by injection e with e; omega))
    clear RA3 RB3 BX3 RS3 RT3 BB3 q3
    go_upto_region 6 with fail
    obtain ⟨W, hW⟩ : ∃ X, X = World.drew w4 := ⟨_, rfl⟩
    have C5 := Lib.hid (show K.Cur W (w.heap.size + 1 + 1) (w.heap.size + 1 + 1) _ by rw [hW]; exact q4.1.drew)
    have RA5 := Lib.hid (show K.Rd W 1 X xs.length (xs.map (Value.int .i64)) by rw [hW]; exact RA4.out.drew)
    have RB5 := Lib.hid (show K.Rd W 1 Y ys.length (ys.map (Value.int .i64)) by rw [hW]; exact RB4.out.drew)
    have BX5 := Lib.hid (show K.Box W w2.heap.size [.slice X xs.length n1, .slice Y ys.length m1] by rw [hW]; exact BX4.out.drew)
    have RS5 := Lib.hid (show K.Own W w.heap.size [.slice none 0 0, .slice none 0 0] by rw [hW]; exact RS4.out.drew)
    have RT5 := Lib.hid (show K.Own W (w.heap.size + 1) [.slice none 0 0, .slice none 0 0] by rw [hW]; exact RT4.out.drew)
    have BB5 := Lib.hid (show Below w.heap.size w W by rw [hW]; exact BB4.out.drew)
    have hz5 : w2.heap.size + 1 ≤ W.heap.size := by rw [hW]; have := hz4; exact this
    clear RA4 RB4 BX4 RS4 RT4 BB4
    refine wp_region_held_drew (S := fun w' => w'.cell? ⟨w2.heap.size, 0, none⟩ = some (.slice X xs.length n1) ∧ w'.cell? ⟨w2.heap.size, 1, none⟩ = some (.slice Y ys.length m1)) (by kernel_rfl) (by rw [← hW]; exact ⟨BX5.out.c2.1, BX5.out.c2.2⟩) (fun hHeld => ?_)
    rw [← hW] at hHeld ⊢
    clear hW q4
    refine K.takeL 0 (v := ?_) rfl (by kernel_rfl) (by kernel_rfl) (by kernel_rfl) (fun _ _ _ h => h) (Or.inl ⟨rfl, ?_⟩) (by assumption) ?_
    rotate_left
    · intro w hSw; (try dsimp only at hSw); first | (go_simp; done) | (go_simp; with_reducible rfl)
    simp only [Act.put, List.setIfInBounds_toArray, List.set_cons_zero, List.set_cons_succ]
    refine K.takeL 1 (v := ?_) rfl (by kernel_rfl) (by kernel_rfl) (by kernel_rfl) (fun _ _ _ h => h) (Or.inl ⟨rfl, ?_⟩) (by assumption) ?_
    rotate_left
    · intro w hSw; (try dsimp only at hSw); first | (go_simp; done) | (go_simp; with_reducible rfl)
    simp only [Act.put, List.setIfInBounds_toArray, List.set_cons_zero, List.set_cons_succ]
    refine K.takeL 2 (v := ?_) rfl (by kernel_rfl) (by kernel_rfl) (by kernel_rfl) (fun _ _ _ h => h) (Or.inl ⟨rfl, ?_⟩) (by assumption) ?_
    rotate_left
    · intro w hSw; (try dsimp only at hSw); first | (go_simp; done) | (go_simp; with_reducible rfl)
    simp only [Act.put, List.setIfInBounds_toArray, List.set_cons_zero, List.set_cons_succ]
    refine K.consL 3 rfl (by kernel_rfl) (fun KK hK => ?_)
    go_simp
    refine (board5 _ _ _ _ n2 C5.out (by omega) ⟨by omega, by omega⟩).mono ?_
    rintro e w6 ⟨X2, n2, xs2, Y2, m2, ys2, rfl, h72, k72, ra, rb, fa, fb, q6⟩
    go_wp2_with fail
    have hz6 : w2.heap.size + 1 ≤ w6.heap.size := by have := q6.2.size; omega
    have RS6 := Lib.hid (RS5.out.kept q6.2 (fun e => by injection e with e; omega))
    have RT6 := Lib.hid (RT5.out.kept q6.2 (fun e => by injection e with e; omega))
    have BB6 := Lib.hid (BB5.out.trans (q6.below (b := w.heap.size) (by omega) (by omega)))
    have RA6 := Lib.hid (RA5.out.kept q6.2 (fun q hq e => by injection e with e; have := FA.out q hq; omega))
    have RB6 := Lib.hid (RB5.out.kept q6.2 (fun q hq e => by injection e with e; have := FB.out q hq; omega))
    have BX6 := Lib.hid (BX5.out.kept q6.2 (fun e => by injection e with e; omega))
    have RC := Lib.hid ra
    have RD := Lib.hid rb
    have FC := Lib.hid (fun q hq => show w.heap.size + 1 + 1 + 1 ≤ q by have := fa q hq; omega)
    have FD := Lib.hid (fun q hq => show w.heap.size + 1 + 1 + 1 ≤ q by have := fb q hq; omega)
    clear ra rb fa fb
    refine hK.out _ _ ⟨BX6.out.c2.1, BX6.out.c2.2⟩ (fun hHeld => ?_)
    clear hK KK
    try simp only [Act.put, List.setIfInBounds_toArray, List.set_cons_zero, List.set_cons_succ]
    refine K.consL 4 rfl (by kernel_rfl) (fun KK hK => ?_)
    obtain ⟨r0, r1, f0, f1, rg⟩ := RS6.out.c2
    go_simp
    clear r0 r1 f0 f1 rg
    refine hK.out _ _ ⟨((BX6.out.setOther (p := ⟨w.heap.size, 0, none⟩) (by simp only; omega) (.slice X xs.length n1)).setOther (p := ⟨w.heap.size, 1, none⟩) (by simp only; omega) (.slice Y ys.length m1)).c2.1, ((BX6.out.setOther (p := ⟨w.heap.size, 0, none⟩) (by simp only; omega) (.slice X xs.length n1)).setOther (p := ⟨w.heap.size, 1, none⟩) (by simp only; omega) (.slice Y ys.length m1)).c2.2⟩ (fun hHeld => ?_)
    clear hK KK
    try simp only [Act.put, List.setIfInBounds_toArray, List.set_cons_zero, List.set_cons_succ]
    refine K.consL 5 rfl (by kernel_rfl) (fun KK hK => ?_)
    obtain ⟨r0, r1, f0, f1, rg⟩ := ((RT6.out.setOther (p := ⟨w.heap.size, 0, none⟩) (by simp only; omega) (.slice X xs.length n1)).setOther (p := ⟨w.heap.size, 1, none⟩) (by simp only; omega) (.slice Y ys.length m1)).c2
    go_simp
    clear r0 r1 f0 f1 rg
    refine hK.out _ _ ⟨((((BX6.out.setOther (p := ⟨w.heap.size, 0, none⟩) (by simp only; omega) (.slice X xs.length n1)).setOther (p := ⟨w.heap.size, 1, none⟩) (by simp only; omega) (.slice Y ys.length m1)).setOther (p := ⟨w.heap.size + 1, 0, none⟩) (by simp only; omega) (.slice X2 xs2.length n2)).setOther (p := ⟨w.heap.size + 1, 1, none⟩) (by simp only; omega) (.slice Y2 ys2.length m2)).c2.1, ((((BX6.out.setOther (p := ⟨w.heap.size, 0, none⟩) (by simp only; omega) (.slice X xs.length n1)).setOther (p := ⟨w.heap.size, 1, none⟩) (by simp only; omega) (.slice Y ys.length m1)).setOther (p := ⟨w.heap.size + 1, 0, none⟩) (by simp only; omega) (.slice X2 xs2.length n2)).setOther (p := ⟨w.heap.size + 1, 1, none⟩) (by simp only; omega) (.slice Y2 ys2.length m2)).c2.2⟩ (fun hHeld => ?_)
    clear hK KK
    try simp only [Act.put, List.setIfInBounds_toArray, List.set_cons_zero, List.set_cons_succ]
    refine wpAnyH_done (by kernel_rfl) ?_ _
    obtain ⟨r0, r1, f0, f1, rg⟩ := RS6.out.c2
    obtain ⟨t0, t1, u0, u1, tg⟩ := RT6.out.c2
    have hbz := BB6.out
    have hbs := hbz.size
    go_wp2_with fail
    exact bodyPost_ret (v := .tuple #[.agg #[.slice X xs.length n1, .slice Y ys.length m1], .agg #[.slice X2 xs2.length n2, .slice Y2 ys2.length m2]]) (by simp [results, Try.results52, go_sem, *]) rfl ⟨X, n1, xs, Y, m1, ys, X2, n2, xs2, Y2, m2, ys2, rfl, ⟨h7, k7, (((RA6.out.setOther (fun q hq => by have := FA.out q hq; simp only; omega) _).setOther (fun q hq => by have := FA.out q hq; simp only; omega) _).setOther (fun q hq => by have := FA.out q hq; simp only; omega) _).setOther (fun q hq => by have := FA.out q hq; simp only; omega) _, (((RB6.out.setOther (fun q hq => by have := FB.out q hq; simp only; omega) _).setOther (fun q hq => by have := FB.out q hq; simp only; omega) _).setOther (fun q hq => by have := FB.out q hq; simp only; omega) _).setOther (fun q hq => by have := FB.out q hq; simp only; omega) _⟩, ⟨h72, k72, (((RC.out.setOther (fun q hq => by have := FC.out q hq; simp only; omega) _).setOther (fun q hq => by have := FC.out q hq; simp only; omega) _).setOther (fun q hq => by have := FC.out q hq; simp only; omega) _).setOther (fun q hq => by have := FC.out q hq; simp only; omega) _, (((RD.out.setOther (fun q hq => by have := FD.out q hq; simp only; omega) _).setOther (fun q hq => by have := FD.out q hq; simp only; omega) _).setOther (fun q hq => by have := FD.out q hq; simp only; omega) _).setOther (fun q hq => by have := FD.out q hq; simp only; omega) _⟩, by (repeat (first | exact Below.refl _ _ | assumption | (refine K.below_drewN ?_ _) | (refine Below.drew ?_) | (refine Below.alloc ?_ (by first | (simp; done) | (simp; omega) | omega) _) | (refine Below.setCell ?_ (by first | (simp; done) | (simp; omega) | omega) _))), ⟨(fun q hq => by have := FA.out q hq; omega), (fun q hq => by have := FB.out q hq; omega)⟩, ⟨(fun q hq => by have := FC.out q hq; omega), (fun q hq => by have := FD.out q hq; omega)⟩⟩
set_option maxHeartbeats 1000000 in
theorem takeb (A : Option Addr) (c : Nat) (l : List UInt8) (w : World) (hl : l.length ≤ 65536) (ha : K.Rd w 1 A l.length (l.map fun b => Value.int .u8 (b.toNat : Int))) :
    Calls Try.prog 46 #[.slice A l.length c] w (RetDD w) := by
  have res := (K.Own.new w #[.slice none 0 0, .slice none 0 0] 27).alloc (.cells #[.slice none 0 0, .slice none 0 0] 27)
  have res2 := K.Own.new (w.alloc (.cells #[.slice none 0 0, .slice none 0 0] 27)) #[.slice none 0 0, .slice none 0 0] 27
  have b0 : Below w.heap.size w ((w.alloc (.cells #[.slice none 0 0, .slice none 0 0] 27)).alloc (.cells #[.slice none 0 0, .slice none 0 0] 27)) := ((Below.refl _ _).alloc (Nat.le_refl _) _).alloc (by simp) _
  rw [World.size_alloc] at res2
  have RS := Lib.hid res
  have RT := Lib.hid res2
  have B0 := Lib.hid b0
  have HA := Lib.hid ((ha.alloc (.cells #[.slice none 0 0, .slice none 0 0] 27)).alloc (.cells #[.slice none 0 0, .slice none 0 0] 27))
  have HZ := Lib.hid (show ((w.alloc (.cells #[.slice none 0 0, .slice none 0 0] 27)).alloc (.cells #[.slice none 0 0, .slice none 0 0] 27)).heap.size = w.heap.size + 1 + 1 by simp)
  clear res res2 b0 ha
  go_enter Try.func46, Try.ntmps46
  go_wp2_with fail
  refine (joinb A c l _ hl HA.out).mono ?_
  rintro e w2 ⟨X, n1, xs, Y, m1, ys, X2, n2, xs2, Y2, m2, ys2, rfl, ⟨h7, k7, ra, rb⟩, ⟨h72, k72, rc, rd⟩, b2, ⟨fa, fb⟩, fc, fd⟩
  have hbz := B0.out.trans (b2.mono B0.out.size)
  obtain ⟨r0, r1, f0, f1, rg⟩ := (RS.out.below b2).c2
  obtain ⟨t0, t1, u0, u1, tg⟩ := (RT.out.below b2).c2
  have hbs := hbz.size
  have RA := Lib.hid ra
  have RB := Lib.hid rb
  have RC := Lib.hid rc
  have RD := Lib.hid rd
  have FA := Lib.hid (fun q hq => show w.heap.size + 1 + 1 + 1 ≤ q by have := fa q hq; have := HZ.out; omega)
  have FB := Lib.hid (fun q hq => show w.heap.size + 1 + 1 + 1 ≤ q by have := fb q hq; have := HZ.out; omega)
  have FC := Lib.hid (fun q hq => show w.heap.size + 1 + 1 + 1 ≤ q by have := fc q hq; have := HZ.out; omega)
  have FD := Lib.hid (fun q hq => show w.heap.size + 1 + 1 + 1 ≤ q by have := fd q hq; have := HZ.out; omega)
  clear ra rb rc rd fa fb fc fd b2
  go_wp2_with fail
  exact bodyPost_ret (v := .tuple #[.agg #[.slice X xs.length n1, .slice Y ys.length m1], .agg #[.slice X2 xs2.length n2, .slice Y2 ys2.length m2]]) (by simp [results, Try.results46, go_sem, *]) rfl ⟨X, n1, xs, Y, m1, ys, X2, n2, xs2, Y2, m2, ys2, rfl, ⟨h7, k7, (((RA.out.setOther (fun q hq => by have := FA.out q hq; simp only; omega) _).setOther (fun q hq => by have := FA.out q hq; simp only; omega) _).setOther (fun q hq => by have := FA.out q hq; simp only; omega) _).setOther (fun q hq => by have := FA.out q hq; simp only; omega) _, (((RB.out.setOther (fun q hq => by have := FB.out q hq; simp only; omega) _).setOther (fun q hq => by have := FB.out q hq; simp only; omega) _).setOther (fun q hq => by have := FB.out q hq; simp only; omega) _).setOther (fun q hq => by have := FB.out q hq; simp only; omega) _⟩, ⟨h72, k72, (((RC.out.setOther (fun q hq => by have := FC.out q hq; simp only; omega) _).setOther (fun q hq => by have := FC.out q hq; simp only; omega) _).setOther (fun q hq => by have := FC.out q hq; simp only; omega) _).setOther (fun q hq => by have := FC.out q hq; simp only; omega) _, (((RD.out.setOther (fun q hq => by have := FD.out q hq; simp only; omega) _).setOther (fun q hq => by have := FD.out q hq; simp only; omega) _).setOther (fun q hq => by have := FD.out q hq; simp only; omega) _).setOther (fun q hq => by have := FD.out q hq; simp only; omega) _⟩, by (repeat (first | exact Below.refl _ _ | assumption | (refine K.below_drewN ?_ _) | (refine Below.drew ?_) | (refine Below.alloc ?_ (by first | (simp; done) | (simp; omega) | omega) _) | (refine Below.setCell ?_ (by first | (simp; done) | (simp; omega) | omega) _))), ⟨(fun q hq => by have := FA.out q hq; omega), (fun q hq => by have := FB.out q hq; omega)⟩, ⟨(fun q hq => by have := FC.out q hq; omega), (fun q hq => by have := FD.out q hq; omega)⟩⟩
end Go.Proofs.Ytmgegacgjppdbaa.BoardE
