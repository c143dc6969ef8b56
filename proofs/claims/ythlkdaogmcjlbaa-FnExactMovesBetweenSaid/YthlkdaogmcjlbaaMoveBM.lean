/-
  Plain laws on moves: those that make a frame of another one.
-/
import Derived.Test.YthlkdaogmcjlbaaMoveF
import Derived.Test.YthlkdaogmcjlbaaFrameN
set_option linter.unusedVariables false
namespace Go.Proofs.Ythlkdaogmcjlbaa.M
def btPart (rod part a b : Int) : List Move := if b - a = 0 then [] else [⟨rod, part, b - a⟩]
def btOne (rod : Int) (a b : Int × Int) : List Move := btPart rod 0 a.1 b.1 ++ btPart rod 1 a.2 b.2
def btTo (a b : List (Int × Int)) (n : Nat) : List Move := (List.range n).flatMap fun (i : Nat) => btOne i (a.getD i (0, 0)) (b.getD i (0, 0))
theorem btPart_len (rod part a b : Int) : (btPart rod part a b).length ≤ 1 := by unfold btPart; split <;> simp
theorem btOne_len (rod : Int) (a b : Int × Int) : (btOne rod a b).length ≤ 2 := by
  unfold btOne; rw [List.length_append]
  have := btPart_len rod 0 a.1 b.1
  have := btPart_len rod 1 a.2 b.2
  omega
theorem btTo_succ (a b : List (Int × Int)) (n : Nat) (h : n < a.length) (h' : n < b.length) : btTo a b (n + 1) = btTo a b n ++ btOne n a[n] b[n] := by
  unfold btTo; rw [List.range_succ, List.flatMap_append]
  simp [h, h']
theorem btTo_len (a b : List (Int × Int)) : ∀ n, (btTo a b n).length ≤ 2 * n
  | 0 => by simp [btTo]
  | n + 1 => by
      have ih := btTo_len a b n
      have := btOne_len n (a.getD n (0, 0)) (b.getD n (0, 0))
      unfold btTo at *
      rw [List.range_succ, List.flatMap_append, List.length_append]
      simp only [List.flatMap_cons, List.flatMap_nil, List.append_nil]
      omega
def between (f g : Frame) : List Move × Bool :=
  if f.ok = true ∧ g.ok = true ∧ f.upper = g.upper ∧ f.lower = g.lower ∧ f.rods.length = g.rods.length then (btTo f.rods g.rods f.rods.length, true) else ([], false)
theorem between_yes {f g : Frame} (h : f.ok = true ∧ g.ok = true ∧ f.upper = g.upper ∧ f.lower = g.lower ∧ f.rods.length = g.rods.length) : between f g = (btTo f.rods g.rods f.rods.length, true) := by unfold between; rw [if_pos h]
theorem between_no {f g : Frame} (h : ¬ (f.ok = true ∧ g.ok = true ∧ f.upper = g.upper ∧ f.lower = g.lower ∧ f.rods.length = g.rods.length)) : between f g = ([], false) := by unfold between; rw [if_neg h]
theorem between_le (f g : Frame) : (between f g).1.length ≤ 16 := by
  unfold between; split
  · rename_i h
    have := ((Frame.ok_iff f).1 h.1).2.2.1
    have := btTo_len f.rods g.rods f.rods.length
    simp only; omega
  · simp
end Go.Proofs.Ythlkdaogmcjlbaa.M
