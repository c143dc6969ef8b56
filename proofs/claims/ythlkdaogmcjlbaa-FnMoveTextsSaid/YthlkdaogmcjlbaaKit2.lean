/-
  More of the kit: draws, and small laws that the laws' walks use.
-/
import Derived.Test.YthlkdaogmcjlbaaKit
set_option linter.unusedVariables false
namespace Go.Proofs.Ythlkdaogmcjlbaa.K
open Go.RowKit

theorem Box.drew {w : World} {g : Nat} {vs : List Value} (h : Box w g vs) : Box w.drew g vs := h
theorem Box.drewN {w : World} {g : Nat} {vs : List Value} (h : Box w g vs) (k : Nat) : Box (w.drewN k) g vs := h
theorem Rd.drew {w : World} {size n : Nat} {A : Option Addr} {xs : List Value} (h : Rd w size A n xs) : Rd w.drew size A n xs := h
theorem qt_below {w w' : World} (h : ∃ m, w' = w.drewN m) : Below w.heap.size w w' := by
  obtain ⟨m, rfl⟩ := h; exact below_drewN (Below.refl _ _) m
theorem setCell_grown (w : World) (p : Addr) (u : Value) : w.grownBy (w.setCell p u) (some p.block) :=
  ⟨rfl, rfl, rfl, by simp, fun k _ hk => heap_setCell_other w p k u (fun e => hk (by simp [e]))⟩
theorem Row.setNe {w : World} {lo size n c : Nat} {e : TypeId} {A : Option Addr} {xs : List Value} (h : Row w lo e size A n c xs) {p : Addr} (hp : ∀ g, blk A = some g → p.block ≠ g) (u : Value) : Row (w.setCell p u) lo e size A n c xs :=
  h.kept (setCell_grown w p u) (fun g hg h' => hp g hg (by injection h'))
/-- the head of a row of one's own. -/
theorem Row.cut {w : World} {lo size n c : Nat} {e : TypeId} {A : Option Addr} {xs : List Value} (h : Row w lo e size A n c xs) (k : Nat) (hk : k ≤ n) : Row w lo e size A k c (xs.take (k * size)) := by
  have hle : k * size ≤ n * size := Nat.mul_le_mul_right _ hk
  refine ⟨by rw [List.length_take, h.len]; omega, ?_⟩
  rcases h.form with ⟨rfl, rfl, rfl⟩ | ⟨g, cur, rfl, h1, h2, hh, h3, h4, h5, h6⟩
  · obtain rfl : k = 0 := by omega
    exact (Row.nil w lo e size).2.imp (fun x => ⟨x.1, by simp⟩) (fun ⟨g, cap, cur, x, _⟩ => by simp at x)
  · exact .inr ⟨g, c, cur, rfl, h1, hh, by omega, h4, h5, by rw [← h6, List.take_take, Nat.min_eq_left hle]⟩
end Go.Proofs.Ythlkdaogmcjlbaa.K
namespace Go.Proofs.Ythlkdaogmcjlbaa.M
theorem szf_le (l : List ByteArray) (left : Int) : szf l left ≤ left := by
  unfold szf; have := foldl_le l (left - l.length); omega
end Go.Proofs.Ythlkdaogmcjlbaa.M
