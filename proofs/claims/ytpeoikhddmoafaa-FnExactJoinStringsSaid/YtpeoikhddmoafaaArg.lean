/-
  The arguments of the laws, opened: what the reading of an argument says of its cells.
-/
import Derived.Test.YtpeoikhddmoafaaRows
import Derived.Test.YtpeoikhddmoafaaKit
import Derived.WalkKit
import Derived.ProofKit
import Derived.OpenShut
import Derived.ShutString
import Derived.ChangeOld
import Derived.SliceStrings
import Derived.Deep.Slices
set_option linter.unusedVariables false
namespace Go.Proofs.Ytpeoikhddmoafaa.Arg
open Go.ChangeShapes Go.WideShapes Go.ChangeAt Go.RowKit Go.Deep

theorem own : ownKnob Try.prog.godebug = none := by kernel_rfl
theorem laidOut : laidOutB Try.prog = true := by kernel_rfl

/-- a cell of a run of cells: the run's head lies at a plain place. -/
theorem plain_head {w : World} {a : Addr} {v : Value} (h : w.cell? a = some v) : ∃ g off, a = ⟨g, off, none⟩ := by
  obtain ⟨g, off, spot⟩ := a
  have hs : spot = none := World.cell?_spot h
  subst hs
  exact ⟨g, off, rfl⟩
theorem rd_of {w : World} {size n : Nat} {a : Addr} {xs : List Value} (hl : xs.length = n * size) (hc : ∀ j u, xs[j]? = some u → w.cell? (a.add j) = some u) (hs : 0 < size) : K.Rd w size (some a) n xs := by
  refine ⟨hl, fun hn => ?_⟩
  have h0 : 0 < xs.length := by rw [hl]; exact Nat.mul_pos hn hs
  have hc0 := hc 0 _ (List.getElem?_eq_getElem h0)
  rw [show a.add 0 = a by simp [Addr.add]] at hc0
  obtain ⟨g, off, rfl⟩ := plain_head hc0
  refine ⟨g, off, rfl, World.block_lt_of_cell? w _ hc0, fun j u hu => ?_⟩
  have := hc j u hu
  rwa [Addr.add_lit] at this

section
variable {H : Type} {enc : TypeId × Value → H} {W : World} {base : Nat} {v : Value} {d : DataW H} {p : List MemPlace}
theorem strs (hv : Value.okWide Try.prog W .any base 30 v) (h : DataW.Trod enc Try.prog W 0 (fun _ => true) true 30 v d p) :
    ∃ (A : Option Addr) (c : Nat) (l : List ByteArray), v = .slice A l.length c ∧ K.Rd W 1 A l.length (l.map Value.string) ∧ l.length ≤ 9223372036854775807 ∧ ∀ s ∈ l, s.size ≤ 9223372036854775807 := by
  obtain ⟨A, len, cap, rfl⟩ := okWide_slice Try.underlying30 hv
  obtain ⟨fuel, hf⟩ := h
  rcases open_strings Try.underlying30 Try.underlying9 (by kernel_rfl) hf with ⟨hcs, _⟩ | ⟨x, l, c, ss, hcs, _, hl, hm, hz, _, hcell, hws⟩
  · simp [Value.cells] at hcs
    obtain ⟨rfl, rfl, rfl⟩ := hcs
    exact ⟨none, 0, [], rfl, K.Rd.nil _ _ _, by simp, by simp⟩
  · simp [Value.cells] at hcs
    obtain ⟨rfl, rfl, rfl⟩ := hcs
    have hss : ss.length = cap := by simpa using hz
    have hlen : (ss.take len).length = len := by simp; omega
    simp only [maxLen] at hm
    refine ⟨some x, cap, ss.take len, by rw [hlen], ?_, by omega, fun s hs => ?_⟩
    · refine rd_of (by simp) (fun j u hu => ?_) (by omega)
      rw [List.getElem?_map] at hu
      have hj : j < len := by
        rcases Nat.lt_or_ge j len with h | h
        · exact h
        · rw [List.getElem?_eq_none (by omega)] at hu; simp at hu
      rw [List.getElem?_take, if_pos hj, List.getElem?_eq_getElem (by omega)] at hu
      have := hcell j (by omega)
      rw [this, ← hu]
      simp [List.getD, show j < ss.length by omega]
    · have := hws s (List.mem_of_mem_take hs)
      simp only [maxLen] at this; omega
end
end Go.Proofs.Ytpeoikhddmoafaa.Arg
