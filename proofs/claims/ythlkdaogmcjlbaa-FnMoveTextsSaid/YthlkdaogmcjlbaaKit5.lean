/-
  More of the kit: one cell that is read.
-/
import Derived.Test.YthlkdaogmcjlbaaKit4
set_option linter.unusedVariables false
namespace Go.Proofs.Ythlkdaogmcjlbaa.K
open Go.RowKit
/-- the cell at p holds u, and lies in memory that is there. -/
def At (w : World) (p : Addr) (u : Value) : Prop := p.block < w.heap.size ∧ w.cell? p = some u
theorem At.cell {w : World} {p : Addr} {u : Value} (h : At w p u) : w.cell? p = some u := h.2
theorem At.below {w w' : World} {p : Addr} {u : Value} (h : At w p u) (hb : Below w.heap.size w w') : At w' p u := ⟨Nat.lt_of_lt_of_le h.1 hb.size, (hb.cell h.1).trans h.2⟩
theorem At.low {w w' : World} {p : Addr} {u : Value} {lo : Nat} (h : At w p u) (hb : Below lo w w') (hp : p.block < lo) : At w' p u := ⟨Nat.lt_of_lt_of_le h.1 hb.size, (hb.cell hp).trans h.2⟩
theorem At.alloc {w : World} {p : Addr} {u : Value} (h : At w p u) (o : Obj) : At (w.alloc o) p u := h.below ((Below.refl _ _).alloc (Nat.le_refl _) o)
theorem At.drew {w : World} {p : Addr} {u : Value} (h : At w p u) : At w.drew p u := h
theorem At.of {w : World} {p : Addr} {u : Value} (hp : p.block < w.heap.size) (h : w.cell? p = some u) : At w p u := ⟨hp, h⟩
theorem Rd.intB {w : World} {A : Option Addr} {l : List Int} (h : Rd w 1 A l.length (l.map (Value.int .i64))) {k : Nat} (hk : k < l.length) :
    ∃ g off, A = some ⟨g, off, none⟩ ∧ g < w.heap.size ∧ w.cell? ⟨g, off + k, none⟩ = some (.int .i64 l[k]) := by
  obtain ⟨g, off, e, hg, hc⟩ := h.2 (by omega)
  exact ⟨g, off, e, hg, hc k _ (by rw [List.getElem?_map, List.getElem?_eq_getElem hk]; rfl)⟩
theorem Box.low {w w' : World} {g lo : Nat} {vs : List Value} (h : Box w g vs) (hb : Below lo w w') (hg : g < lo) : Box w' g vs :=
  ⟨Nat.lt_of_lt_of_le h.1 hb.size, fun j u hu => (hb.cell (p := ⟨g, j, none⟩) hg).trans (h.2 j u hu)⟩
end Go.Proofs.Ythlkdaogmcjlbaa.K
