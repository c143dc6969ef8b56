/-
  Plain laws on boards: setting a value, joining, carries and borrows.
-/
import Derived.Test.YtmgegacgjppdbaaBoardF
set_option linter.unusedVariables false
namespace Go.Proofs.Ytmgegacgjppdbaa.M
def bL : Nat → Int → List Int
  | 0, _ => []
  | k + 1, n => n % 5 :: bL k (n / 10)
def bS : Nat → Int → List Int
  | 0, _ => []
  | k + 1, n => n / 5 % 2 :: bS k (n / 10)
theorem bL_len : ∀ (k : Nat) (n : Int), (bL k n).length = k
  | 0, _ => rfl
  | k + 1, n => by rw [bL, List.length_cons, bL_len k]
theorem bS_len : ∀ (k : Nat) (n : Int), (bS k n).length = k
  | 0, _ => rfl
  | k + 1, n => by rw [bS, List.length_cons, bS_len k]
theorem bL_step (m j : Nat) (h : j < m) (n : Int) : bL (m - j) n = n % 5 :: bL (m - (j + 1)) (n / 10) := by
  rw [show m - j = m - (j + 1) + 1 by omega, bL]
theorem bS_step (m j : Nat) (h : j < m) (n : Int) : bS (m - j) n = n / 5 % 2 :: bS (m - (j + 1)) (n / 10) := by
  rw [show m - j = m - (j + 1) + 1 by omega, bS]
theorem div10 (n : Int) (j : Nat) : n / 10 ^ (j + 1) = n / 10 ^ j / 10 := by
  rw [Int.pow_succ, Int.ediv_ediv_of_nonneg (Int.pow_nonneg (by omega))]
theorem div10_pos (n : Int) (j : Nat) : 0 < n / 10 ^ j ↔ 10 ^ j ≤ n := by
  have hp : (0 : Int) < 10 ^ j := Int.pow_pos (by omega)
  constructor
  · intro h
    have := (Int.le_ediv_iff_mul_le hp).1 (show (1 : Int) ≤ n / 10 ^ j by omega)
    omega
  · intro h
    have := (Int.le_ediv_iff_mul_le (a := 1) hp).2 (by omega : (1 : Int) * 10 ^ j ≤ n)
    omega
def setB (lines n : Int) : (List Int × List Int) × Bool :=
  if inR lines 1 6 = true ∧ 0 ≤ n ∧ n < 10 ^ lines.toNat then ((bL lines.toNat n, bS lines.toNat n), true) else (([], []), false)
theorem setB_no {lines n : Int} (h : ¬ (inR lines 1 6 = true ∧ 0 ≤ n ∧ n < 10 ^ lines.toNat)) : setB lines n = (([], []), false) := by unfold setB; rw [if_neg h]
theorem setB_yes {m : Nat} {n : Int} (h1 : 1 ≤ m) (h6 : m ≤ 6) (h0 : 0 ≤ n) (h : n < 10 ^ m) : setB m n = ((bL m n, bS m n), true) := by
  unfold setB; rw [if_pos ⟨inR_yes (by omega) (by omega), h0, by simpa using h⟩]; simp
theorem setB_le (lines n : Int) : (setB lines n).1.1.length ≤ 6 ∧ (setB lines n).1.2.length ≤ 6 := by
  unfold setB; split
  · rename_i h; have := (inR_iff.1 h.1); rw [bL_len, bS_len]; omega
  · simp
/-! two boards -/
def addL (l k : List Int) : List Int := List.zipWith (· + ·) l k
theorem addL_len (l k : List Int) (h : l.length = k.length) : (addL l k).length = l.length := by simp [addL, h]
def joinB (l k l2 k2 : List Int) : (List Int × List Int) × Bool :=
  if bOk l k = true ∧ bOk l2 k2 = true ∧ l.length = l2.length ∧ bOk (addL l l2) (addL k k2) = true then ((addL l l2, addL k k2), true) else (([], []), false)
theorem joinB_no {l k l2 k2 : List Int} (h : ¬ (bOk l k = true ∧ bOk l2 k2 = true ∧ l.length = l2.length ∧ bOk (addL l l2) (addL k k2) = true)) : joinB l k l2 k2 = (([], []), false) := by unfold joinB; rw [if_neg h]
theorem joinB_yes {l k l2 k2 : List Int} (h : bOk l k = true ∧ bOk l2 k2 = true ∧ l.length = l2.length ∧ bOk (addL l l2) (addL k k2) = true) : joinB l k l2 k2 = ((addL l l2, addL k k2), true) := by unfold joinB; rw [if_pos h]
theorem joinB_le (l k l2 k2 : List Int) : (joinB l k l2 k2).1.1.length ≤ 6 ∧ (joinB l k l2 k2).1.2.length ≤ 6 := by
  unfold joinB; split
  · rename_i h; obtain ⟨_, _, _, h⟩ := h
    have := (bOk_iff _ _).1 h
    refine ⟨?_, ?_⟩ <;> simp only <;> omega
  · simp
/-- under way: the first j places are added. -/
def addTo (l k : List Int) (j : Nat) : List Int := (addL l k).take j ++ l.drop j
theorem addTo_zero (l k : List Int) : addTo l k 0 = l := by simp [addTo]
theorem addTo_all (l k : List Int) (h : l.length = k.length) : addTo l k l.length = addL l k := by
  simp [addTo, addL_len l k h, List.take_of_length_le]
theorem addTo_len (l k : List Int) (h : l.length = k.length) (j : Nat) (hj : j ≤ l.length) : (addTo l k j).length = l.length := by
  simp [addTo, addL_len l k h]; omega
theorem addTo_at (l k : List Int) (h : l.length = k.length) (j : Nat) (hj : j < l.length) (hj' : j < (addTo l k j).length) : (addTo l k j)[j] = l[j] := by
  have hl := addL_len l k h
  simp only [addTo]
  rw [List.getElem_append_right (by rw [List.length_take]; omega)]
  simp [List.length_take, hl, Nat.min_eq_left (show j ≤ l.length by omega)]
theorem addTo_succ (l k : List Int) (h : l.length = k.length) (j : Nat) (hj : j < l.length) (hj' : j < k.length) : addTo l k (j + 1) = (addTo l k j).set j (l[j] + k[j]) := by
  have hl := addL_len l k h
  have hd : l.drop j = l[j] :: l.drop (j + 1) := List.drop_eq_getElem_cons hj
  unfold addTo
  rw [List.take_succ_eq_append_getElem (by omega), List.set_append_right _ _ (by rw [List.length_take]; omega), show j - ((addL l k).take j).length = 0 by rw [List.length_take]; omega, hd, List.set_cons_zero]
  simp [addL]
/-! a carry or a borrow -/
def chgB (l k : List Int) (line : Bool) (a : Nat) (b u : Int) : List Int × List Int :=
  if line = true then (l.set a (l.getD a 0 + b), k.set a (k.getD a 0 + u)) else (l.set (a + 1) (l.getD (a + 1) 0 + u), k.set a (k.getD a 0 + b))
theorem chgB_len (l k : List Int) (line : Bool) (a : Nat) (b u : Int) : (chgB l k line a b u).1.length = l.length ∧ (chgB l k line a b u).2.length = k.length := by
  unfold chgB; split <;> simp
def changedB (l k : List Int) (line : Bool) (a b u : Int) : (List Int × List Int) × Bool :=
  if 0 ≤ a ∧ a < l.length ∧ (line = true ∨ a + 1 < l.length) ∧ bOk (chgB l k line a.toNat b u).1 (chgB l k line a.toNat b u).2 = true then (chgB l k line a.toNat b u, true) else (([], []), false)
theorem changedB_le (l k : List Int) (line : Bool) (a b u : Int) : (changedB l k line a b u).1.1.length ≤ 6 ∧ (changedB l k line a b u).1.2.length ≤ 6 := by
  unfold changedB; split
  · rename_i h; obtain ⟨_, _, _, h⟩ := h
    have := (bOk_iff _ _).1 h
    refine ⟨?_, ?_⟩ <;> simp only <;> omega
  · simp
def takenB (line : Bool) : Int := if line = true then 5 else 2
def carryB (l k : List Int) (line : Bool) (a : Int) : (List Int × List Int) × Bool := if bOk l k = true then changedB l k line a (-takenB line) 1 else (([], []), false)
def borrowB (l k : List Int) (line : Bool) (a : Int) : (List Int × List Int) × Bool := if bOk l k = true then changedB l k line a (takenB line) (-1) else (([], []), false)
theorem carryB_le (l k : List Int) (line : Bool) (a : Int) : (carryB l k line a).1.1.length ≤ 6 ∧ (carryB l k line a).1.2.length ≤ 6 := by
  unfold carryB; split
  · exact changedB_le _ _ _ _ _ _
  · simp
theorem borrowB_le (l k : List Int) (line : Bool) (a : Int) : (borrowB l k line a).1.1.length ≤ 6 ∧ (borrowB l k line a).1.2.length ≤ 6 := by
  unfold borrowB; split
  · exact changedB_le _ _ _ _ _ _
  · simp
end Go.Proofs.Ytmgegacgjppdbaa.M
