/-
  Walks: merging moves.
-/
import Derived.Test.YthlkdaogmcjlbaaMoveL
import Derived.Test.YthlkdaogmcjlbaaMoveM
import Derived.Tactics2
import Derived.Test.YthlkdaogmcjlbaaKit4
import Derived.Test.YthlkdaogmcjlbaaKit3
import Derived.BigRegion
import Derived.Deep.DeepMust
set_option linter.unusedVariables false
namespace Go.Proofs.Ythlkdaogmcjlbaa.MoveW
open Go.RowKit
theorem lastCells {w : World} {lo c p : Nat} {e : TypeId} {A : Option Addr} {L1 : List M.Move} {u v s : Int} (h : K.Row w lo e 3 A (p + 1) c ((L1 ++ [(⟨u, v, s⟩ : M.Move)]).flatMap M.moveCells)) (hp : p = L1.length) :
    ∃ g, A = some ⟨g, 0, none⟩ ∧ lo ≤ g ∧ g < w.heap.size ∧ (∀ j, w.frozen? ⟨g, j, none⟩ = false) ∧ w.cell? ⟨g, p * 3, none⟩ = some (.int .i64 u) ∧ w.cell? ⟨g, p * 3 + 1, none⟩ = some (.int .i64 v) ∧ w.cell? ⟨g, p * 3 + 2, none⟩ = some (.int .i64 s) := by
  subst hp
  have hl : (L1 ++ [(⟨u, v, s⟩ : M.Move)]).length = L1.length + 1 := by simp
  rw [← hl] at h
  have := h.move (k := L1.length) (by omega)
  simpa using this
theorem lastSet (L1 : List M.Move) (u v s t : Int) : ((L1 ++ [(⟨u, v, s⟩ : M.Move)]).flatMap M.moveCells).set (L1.length * 3 + 2) (.int .i64 t) = (L1 ++ [(⟨u, v, t⟩ : M.Move)]).flatMap M.moveCells := by
  have hl := K.flat_len M.moveCells 3 M.moveCells_len L1
  simp only [List.flatMap_append, List.flatMap_cons, List.flatMap_nil, List.append_nil]
  rw [List.set_append, hl, if_neg (show ¬ L1.length * 3 + 2 < L1.length * 3 by omega), show L1.length * 3 + 2 - L1.length * 3 = 2 by omega]
  rfl
theorem lastSet3 (L1 : List M.Move) (u v s t : Int) : (((((L1 ++ [(⟨u, v, s⟩ : M.Move)]).flatMap M.moveCells).set (L1.length * 3) (.int .i64 u)).set (L1.length * 3 + 1) (.int .i64 v)).set (L1.length * 3 + 2) (.int .i64 t)) = (L1 ++ [(⟨u, v, t⟩ : M.Move)]).flatMap M.moveCells := by
  have hl := K.flat_len M.moveCells 3 M.moveCells_len L1
  simp only [List.flatMap_append, List.flatMap_cons, List.flatMap_nil, List.append_nil]
  rw [List.set_append, hl, if_neg (show ¬ L1.length * 3 < L1.length * 3 by omega), show L1.length * 3 - L1.length * 3 = 0 by omega, List.set_append, hl, if_neg (show ¬ L1.length * 3 + 1 < L1.length * 3 by omega), show L1.length * 3 + 1 - L1.length * 3 = 1 by omega, List.set_append, hl, if_neg (show ¬ L1.length * 3 + 2 < L1.length * 3 by omega), show L1.length * 3 + 2 - L1.length * 3 = 2 by omega]
  rfl
theorem lastTake (L1 : List M.Move) (u v t : Int) : ((L1 ++ [(⟨u, v, t⟩ : M.Move)]).flatMap M.moveCells).take (L1.length * 3) = L1.flatMap M.moveCells := by
  have hl := K.flat_len M.moveCells 3 M.moveCells_len L1
  rw [List.flatMap_append, ← hl, List.take_left]
end Go.Proofs.Ythlkdaogmcjlbaa.MoveW
