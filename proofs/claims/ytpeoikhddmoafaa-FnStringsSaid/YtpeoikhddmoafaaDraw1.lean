/-
  Walks: the draws of texts: whatever the code, they return some texts of bounded size.
-/
import Derived.Test.YtpeoikhddmoafaaCur
import Derived.Test.YtpeoikhddmoafaaSplit
set_option linter.unusedVariables false
namespace Go.Proofs.Ytpeoikhddmoafaa.Draw1
open Go.RowKit
def anyL : List ByteArray := [⟨#[]⟩, ⟨#[97]⟩, ⟨#[97, 44, 98]⟩, ⟨#[115, 111, 109, 101, 32, 119, 111, 114, 100, 115]⟩, ⟨#[120, 35, 121]⟩, ⟨#[45, 49, 50]⟩, ⟨#[0, 255]⟩, ⟨#[44, 44]⟩, ⟨#[48]⟩]
theorem any_size : ∀ x ∈ anyL, x.size ≤ 20 := by decide
set_option maxHeartbeats 1000000 in
theorem any1 (w : World) (lo g B : Nat) (h : K.Cur w lo g B) (hB : B ≤ 1099511627776) :
    Calls Try.prog 56 #[.pointer (some ⟨g, 0, none⟩)] w fun e w' => ∃ x : ByteArray, e = .returned (.string x) ∧ x.size ≤ 20 ∧ K.Went w lo g B 2 w' := by
  have hg := h.lt
  go_enter Try.func56, Try.ntmps56
  go_wp2_with fail
  refine (Cur.of _ lo g B (some ⟨w.heap.size, 0, none⟩) 9 anyL (h.alloc _) hB (by decide) (K.Rd.new w _ _ 9 1 rfl) (fun e => by simp [K.blk] at e; omega)).mono ?_
  rintro e w1 ⟨x, rfl, hx, q1⟩
  go_wp2_with fail
  go_ret
  exact ⟨x, rfl, any_size x hx, K.Went.alloc _ q1⟩
def sepL : List ByteArray := [⟨#[44]⟩, ⟨#[44]⟩, ⟨#[32]⟩, ⟨#[]⟩, ⟨#[44, 44]⟩]
theorem sepL_size : ∀ x ∈ sepL, x.size ≤ 20 := by decide
def sepJ : List ByteArray := [⟨#[44]⟩, ⟨#[59]⟩, ⟨#[59]⟩, ⟨#[]⟩, ⟨#[97, 98]⟩]
theorem sepJ_size : ∀ x ∈ sepJ, x.size ≤ 20 := by decide
set_option maxHeartbeats 1000000 in
theorem split (A : Option Addr) (c : Nat) (l : List UInt8) (w : World) (hl : l.length ≤ 65536) (ha : K.Rd w 1 A l.length (l.map fun b => Value.int .u8 (b.toNat : Int))) :
    Calls Try.prog 36 #[.slice A l.length c] w fun e w' => ∃ s p : ByteArray, e = .returned (.tuple #[.string s, .string p]) ∧ s.size ≤ 20 ∧ p.size ≤ 20 ∧ Below w.heap.size w w' := by
  have hc := K.Cur.new (c := c) ha hl 58
  have b0 : Below w.heap.size w (w.alloc (.cells #[.slice A l.length c, .int .i64 0, .int .u64 0] 58)) := (Below.refl _ _).alloc (Nat.le_refl _) _
  have hz0 : (w.alloc (.cells #[.slice A l.length c, .int .i64 0, .int .u64 0] 58)).heap.size = w.heap.size + 1 := World.size_alloc _ _
  have HC := Lib.hid hc
  have HZ0 := Lib.hid hz0
  clear hc hz0
  go_enter Try.func36, Try.ntmps36
  go_wp2_with fail
  refine (any1 _ _ _ _ HC.out (by omega)).mono ?_
  rintro e w1 ⟨s, rfl, hs, q1⟩
  have q1l := q1.1.lt
  go_wp2_with fail
  refine (Cur.of _ _ _ _ (some ⟨w1.heap.size, 0, none⟩) 5 sepL (q1.1.alloc _) (by omega) (by decide) (K.Rd.new w1 _ _ 5 1 rfl) (fun e => by simp [K.blk] at e; omega)).mono ?_
  rintro e w2 ⟨p, rfl, hp, q2⟩
  go_wp2_with fail
  go_ret2
  have e1 := q1.below (b := w.heap.size) (by have := HZ0.out; omega) (Nat.le_refl _)
  have e2 := (K.Went.alloc _ q2).below (b := w.heap.size) (by omega) (Nat.le_refl _)
  exact ⟨s, p, rfl, hs, sepL_size p hp, (b0.trans e1).trans e2⟩
set_option maxHeartbeats 1000000 in
theorem less (A : Option Addr) (c : Nat) (l : List UInt8) (w : World) (hl : l.length ≤ 65536) (ha : K.Rd w 1 A l.length (l.map fun b => Value.int .u8 (b.toNat : Int))) :
    Calls Try.prog 38 #[.slice A l.length c] w fun e w' => ∃ s p : ByteArray, e = .returned (.tuple #[.string s, .string p]) ∧ s.size ≤ 20 ∧ p.size ≤ 20 ∧ Below w.heap.size w w' := by
  have hc := K.Cur.new (c := c) ha hl 58
  have b0 : Below w.heap.size w (w.alloc (.cells #[.slice A l.length c, .int .i64 0, .int .u64 0] 58)) := (Below.refl _ _).alloc (Nat.le_refl _) _
  have hz0 : (w.alloc (.cells #[.slice A l.length c, .int .i64 0, .int .u64 0] 58)).heap.size = w.heap.size + 1 := World.size_alloc _ _
  have HC := Lib.hid hc
  have HZ0 := Lib.hid hz0
  clear hc hz0
  go_enter Try.func38, Try.ntmps38
  go_wp2_with fail
  refine (any1 _ _ _ _ HC.out (by omega)).mono ?_
  rintro e w1 ⟨s, rfl, hs, q1⟩
  have q1l := q1.1.lt
  go_wp2_with fail
  refine (any1 _ _ _ _ q1.1 (by omega)).mono ?_
  rintro e w2 ⟨p, rfl, hp, q2⟩
  go_wp2_with fail
  go_ret2
  have e1 := q1.below (b := w.heap.size) (by have := HZ0.out; omega) (Nat.le_refl _)
  have e2 := q2.below (b := w.heap.size) (by omega) (Nat.le_refl _)
  exact ⟨s, p, rfl, hs, hp, (b0.trans e1).trans e2⟩
theorem push_size (bs : List Int) : ∀ r : ByteArray, (bs.foldl (fun r n => r.push (UInt8.ofNat n.toNat)) r).size = r.size + bs.length := by
  induction bs with
  | nil => intro r; simp
  | cons b bs ih => intro r; rw [List.foldl_cons, ih, ByteArray.size_push, List.length_cons]; omega
/-- a slice of bytes, as a string. -/
theorem convB {P : Program} {src dst e : TypeId} (hs : P.underlying src = some (.slice e)) (he : P.underlying e = some (.int .u8)) (hd : P.underlying dst = some .string) (w : World) (g off n c : Nat) (bs : List Int) (hn : bs.length = n) (h : K.Rd w 1 (some ⟨g, off, none⟩) n (bs.map (Value.int .u8))) (h0 : 0 < n) :
    ∃ S : ByteArray, S.size = n ∧ (convert src dst (.slice (some ⟨g, off, none⟩) n c)).run P w = .ok (.string S) w := by
  refine ⟨bs.foldl (fun r n => r.push (UInt8.ofNat n.toNat)) ByteArray.empty, by rw [push_size, hn]; simp, ?_⟩
  rw [run_convert_bytes_string _ src dst e _ _ _ hs he hd]
  refine run_bytesToString _ _ _ _ bs ?_
  obtain ⟨g', off', e1, _, hc⟩ := h.2 h0
  injection e1 with e1
  injection e1 with e1 e2
  subst e1 e2
  have := run_loadCells_list (P := P) (w := w) ⟨g, off, none⟩ (bs.map (Value.int .u8)) (fun j v hv => by rw [Addr.add_lit]; exact hc j v hv)
  simpa [hn] using this
end Go.Proofs.Ytpeoikhddmoafaa.Draw1
