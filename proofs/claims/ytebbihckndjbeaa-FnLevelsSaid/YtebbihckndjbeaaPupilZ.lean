/-
  Walks: the drawn list of pupils, with what is known of its cap; plain laws of the levels.
-/
import Derived.Test.YtebbihckndjbeaaPupilV
import Derived.Test.YtebbihckndjbeaaPupilN
import Derived.Test.YtebbihckndjbeaaPupilQ
import Derived.Test.YtebbihckndjbeaaPupilU
import Derived.Test.YtebbihckndjbeaaKit3
set_option linter.unusedVariables false
namespace Go.Proofs.Ytebbihckndjbeaa.M
theorem placeAll_two (l : List Pupil) : (placeAll l).2 = pupsOk l := by
  cases h : pupsOk l with
  | true => rw [placeAll_yes h]
  | false => rw [placeAll_no h]
theorem sameNames_two (l : List Pupil) : (sameNames l).2 = (placeAll l).2 := by
  rw [placeAll_two]
  cases h : pupsOk l with
  | true => rw [sameNames_yes h]
  | false => rw [sameNames_no h]
theorem placeAll_more {l : List Pupil} (h : (placeAll l).2 = true) : pupsOk (placeAll l).1.1 = true ∧ (inClass (placeAll l).1.1 0).2 = true ∧ ((inClass (placeAll l).1.1 0).1.length : Int) = (placeAll l).1.2 ∧ placeAll (placeAll l).1.1 = placeAll l := placeAll_again (by rw [← placeAll_two]; exact h)
theorem raise_more (l : List Pupil) (id : Int) (i : Nat) (hi : i < l.length) (hi' : i < (raise l id).1.length) (hid : l[i].id = id) : (raise l id).1[i].level = l[i].level + 1 ∧ 0 ≤ l[i].level ∧ l[i].level ≤ 10 := by
  by_cases hy : pupsOk l = true ∧ pIx l id < l.length ∧ lvlAt l (pIx l id) ≠ 10
  · have h2 : (raise l id).2 = true := by rw [raise_yes hy]
    have ho := (Pupil.ok_iff _).1 (pupsOk_at hy.1 hi)
    exact ⟨raise_level h2 hi hi' hid, ho.2.2.2.2⟩
  · have : (raise l id).1.length = 0 := by rw [raise_no hy]; rfl
    omega
end Go.Proofs.Ytebbihckndjbeaa.M
namespace Go.Proofs.Ytebbihckndjbeaa.PupilD
open Go.RowKit
theorem names_placeAll {l : List M.Pupil} (hs : ∀ p ∈ l, p.name.size ≤ 9223372036854775807) : ∀ p ∈ (M.placeAll l).1.1, p.name.size ≤ 9223372036854775807 := by
  cases h : M.pupsOk l with
  | true => rw [M.placeAll_yes h]; exact PupilQ.names_place hs l.length
  | false => rw [M.placeAll_no h]; intro p hp; cases hp
def RetPC (w : World) (e : Ending) (w' : World) : Prop := ∃ (X : Option Addr) (n : Nat) (p : List M.Pupil), e = .returned (.slice X p.length n) ∧ p.length ≤ 13 ∧ (∀ x ∈ p, x.name.size ≤ 20) ∧ p.length ≤ n ∧ n ≤ 9223372036854775807 ∧ K.Rd w' 5 X p.length (p.flatMap M.pupilCells) ∧ Below w.heap.size w w'
set_option maxHeartbeats 1000000 in
theorem arepupilsC (A : Option Addr) (c : Nat) (l : List UInt8) (w : World) (hl : l.length ≤ 65536) (ha : K.Rd w 1 A l.length (l.map fun b => Value.int .u8 (b.toNat : Int))) :
    Calls Try.prog 79 #[.slice A l.length c] w (RetPC w) := by
  have HC := Lib.hid (K.Cur.new (c := c) ha hl 74)
  have B0 := Lib.hid (show Below w.heap.size w (w.alloc (.cells #[.slice A l.length c, .int .i64 0, .int .u64 0] 74)) from (Below.refl _ _).alloc (Nat.le_refl _) _)
  have HZ : w.heap.size + 1 ≤ (w.alloc (.cells #[.slice A l.length c, .int .i64 0, .int .u64 0] 74)).heap.size := by simp
  clear ha
  go_enter Try.func79, Try.ntmps79
  go_wp2_with fail
  refine (pupils _ _ _ _ HC.out (by omega)).mono ?_
  rintro e w1 ⟨X, n, p, rfl, hp13, hnm, row, q1⟩
  have hz1 : w.heap.size + 1 ≤ w1.heap.size := by have := q1.2.size; omega
  have B1 := Lib.hid (B0.out.trans (q1.below (b := w.heap.size) (by omega) (Nat.le_refl _)))
  have FA := Lib.hid (fun q hq => show w.heap.size + 1 ≤ q by have := (row.lt q hq).1; omega)
  have hcap := row.max.2
  have hcap2 := row.cap
  have R1 := Lib.hid row.rd
  have C1 := Lib.hid q1.1
  clear row q1 B0 HC
  go_wp2_with fail
  go_ret
  exact ⟨X, n, p, rfl, hp13, hnm, hcap, hcap2, R1.out, B1.out⟩
set_option maxHeartbeats 1000000 in
theorem placeallC (A : Option Addr) (c : Nat) (l : List UInt8) (w : World) (hl : l.length ≤ 65536) (ha : K.Rd w 1 A l.length (l.map fun b => Value.int .u8 (b.toNat : Int))) :
    Calls Try.prog 37 #[.slice A l.length c] w (RetPC w) := by
  go_enter Try.func37, Try.ntmps37
  go_wp2_with fail
  refine (arepupilsC A c l _ hl ha).mono ?_
  rintro e w1 ⟨X, n, p, rfl, h13, hnm, hc1, hc2, hr, hb⟩
  go_wp2_with fail
  go_ret
  exact ⟨X, n, p, rfl, h13, hnm, hc1, hc2, hr, hb⟩
end Go.Proofs.Ytebbihckndjbeaa.PupilD
