/-
  Plain laws on boards: making a board plain.
-/
import Derived.Test.YtmgegacgjppdbaaBoardM
set_option linter.unusedVariables false
namespace Go.Proofs.Ytmgegacgjppdbaa.M
theorem getD_set_same (l : List Int) (k : Nat) (h : k < l.length) (v : Int) : (l.set k v).getD k 0 = v := by simp [List.getD, h]
theorem getD_set_ne (l : List Int) (k j : Nat) (h : j ≠ k) (v : Int) : (l.set k v).getD j 0 = l.getD j 0 := by
  simp [List.getD, List.getElem?_set_ne (Ne.symm h)]
theorem getD_set (l : List Int) (k j : Nat) (h : k < l.length) (v : Int) : (l.set k v).getD j 0 = if j = k then v else l.getD j 0 := by
  by_cases e : j = k
  · subst e; rw [if_pos rfl, getD_set_same _ _ h]
  · rw [if_neg e, getD_set_ne _ _ _ e]
theorem set_getD (l : List Int) (k : Nat) (h : k < l.length) : l.set k (l.getD k 0) = l := by
  simp [List.getD, h]
theorem getD_at (l : List Int) (k : Nat) (h : k < l.length) : l.getD k 0 = l[k] := by simp [List.getD, h]
theorem all_ix (l : List Int) (a b : Int) : (∀ x ∈ l, a ≤ x ∧ x ≤ b) ↔ ∀ j, j < l.length → a ≤ l.getD j 0 ∧ l.getD j 0 ≤ b := by
  constructor
  · intro h j hj; rw [getD_at l j hj]; exact h _ (List.getElem_mem _)
  · intro h x hx
    obtain ⟨j, hj, rfl⟩ := List.getElem_of_mem hx
    have := h j hj
    rwa [getD_at l j hj] at this
theorem bOk_ix (l k : List Int) : bOk l k = true ↔ (1 ≤ l.length ∧ l.length ≤ 6) ∧ k.length = l.length ∧ (∀ j, j < l.length → 0 ≤ l.getD j 0 ∧ l.getD j 0 ≤ 30) ∧ ∀ j, j < k.length → 0 ≤ k.getD j 0 ∧ k.getD j 0 ≤ 30 := by
  rw [bOk_iff, all_ix, all_ix]
theorem bPlain_ix (l k : List Int) : bPlain l k = true ↔ (∀ j, j < l.length → 0 ≤ l.getD j 0 ∧ l.getD j 0 ≤ 4) ∧ ∀ j, j < k.length → 0 ≤ k.getD j 0 ∧ k.getD j 0 ≤ 1 := by
  rw [← all_ix, ← all_ix]; simp [bPlain, inR_iff]
/-- a place's state: the lines, the spaces, the number of carries. -/
abbrev PS := List Int × List Int × Int
def pl1 (s : PS) (k : Nat) : PS := (s.1.set k (s.1.getD k 0 % 5), s.2.1.set k (s.2.1.getD k 0 + s.1.getD k 0 / 5), s.2.2 + s.1.getD k 0 / 5)
def pl2 (s : PS) (k : Nat) : PS := (s.1.set (k + 1) (s.1.getD (k + 1) 0 + s.2.1.getD k 0 / 2), s.2.1.set k (s.2.1.getD k 0 % 2), s.2.2 + s.2.1.getD k 0 / 2)
def plOk (s : PS) : Bool := bOk s.1 s.2.1
def pl2o (m : Nat) (s : PS) (k : Nat) : Option PS := if k + 1 = m then some s else if plOk (pl2 s k) = true then some (pl2 s k) else none
def plOne (m : Nat) (s : PS) (k : Nat) : Option PS := if plOk (pl1 s k) = true then pl2o m (pl1 s k) k else none
def plStep (m : Nat) (o : Option PS) (k : Nat) : Option PS := match o with | none => none | some s => plOne m s k
/-- from place k on. -/
def plFrom (m : Nat) (o : Option PS) : Nat → Nat → Option PS
  | 0, _ => o
  | d + 1, k => plFrom m (plStep m o k) d (k + 1)
theorem plFrom_none (m : Nat) : ∀ d k, plFrom m none d k = none
  | 0, _ => rfl
  | d + 1, k => plFrom_none m d (k + 1)
def plEnd (o : Option PS) : (List Int × List Int) × Int × Bool := match o with
  | none => (([], []), 0, false)
  | some s => if bPlain s.1 s.2.1 = true then ((s.1, s.2.1), s.2.2, true) else (([], []), 0, false)
def plainB (l k : List Int) : (List Int × List Int) × Int × Bool := if bOk l k = true then plEnd (plFrom l.length (some (l, k, 0)) l.length 0) else (([], []), 0, false)
theorem plainB_no {l k : List Int} (h : bOk l k = false) : plainB l k = (([], []), 0, false) := by simp [plainB, h]
theorem plainB_yes {l k : List Int} (h : bOk l k = true) : plainB l k = plEnd (plFrom l.length (some (l, k, 0)) l.length 0) := by simp [plainB, h]
/-! one carry at a time -/
def c1 (s : PS) (k : Nat) : PS := (s.1.set k (s.1.getD k 0 + -5), s.2.1.set k (s.2.1.getD k 0 + 1), s.2.2 + 1)
def c2 (s : PS) (k : Nat) : PS := (s.1.set (k + 1) (s.1.getD (k + 1) 0 + 1), s.2.1.set k (s.2.1.getD k 0 + -2), s.2.2 + 1)
theorem pl1_c1 (s : PS) (k : Nat) (h1 : k < s.1.length) (h2 : k < s.2.1.length) (h : 5 ≤ s.1.getD k 0) : pl1 (c1 s k) k = pl1 s k := by
  obtain ⟨L, K, n⟩ := s
  simp only [pl1, c1] at *
  rw [getD_set_same _ _ h1, getD_set_same _ _ h2]
  simp only [List.set_set]
  rw [show (L.getD k 0 + -5) % 5 = L.getD k 0 % 5 by omega, show K.getD k 0 + 1 + (L.getD k 0 + -5) / 5 = K.getD k 0 + L.getD k 0 / 5 by omega, show n + 1 + (L.getD k 0 + -5) / 5 = n + L.getD k 0 / 5 by omega]
theorem plOne_c1 (m : Nat) (s : PS) (k : Nat) (h1 : k < s.1.length) (h2 : k < s.2.1.length) (h : 5 ≤ s.1.getD k 0) : plOne m (c1 s k) k = plOne m s k := by
  unfold plOne; rw [pl1_c1 s k h1 h2 h]
theorem plOk_ix (s : PS) : plOk s = true ↔ (1 ≤ s.1.length ∧ s.1.length ≤ 6) ∧ s.2.1.length = s.1.length ∧ (∀ j, j < s.1.length → 0 ≤ s.1.getD j 0 ∧ s.1.getD j 0 ≤ 30) ∧ ∀ j, j < s.2.1.length → 0 ≤ s.2.1.getD j 0 ∧ s.2.1.getD j 0 ≤ 30 := bOk_ix _ _
/-- a carry that goes too far is one of a batch that does. -/
theorem plOne_bad1 (m : Nat) (s : PS) (k : Nat) (h0 : plOk s = true) (h1 : k < s.1.length) (h : 5 ≤ s.1.getD k 0) (hb : plOk (c1 s k) = false) : plOne m s k = none := by
  obtain ⟨a, b, c, d⟩ := (plOk_ix s).1 h0
  have hk : k < s.2.1.length := by omega
  unfold plOne
  rw [if_neg]
  intro hp
  obtain ⟨_, _, _, d'⟩ := (plOk_ix _).1 hp
  have d1 := d' k (by simp [pl1]; omega)
  simp only [pl1, getD_set_same _ _ hk] at d1
  have : plOk (c1 s k) = true := by
    refine (plOk_ix _).2 ⟨by simp [c1]; exact a, by simp [c1]; exact b, fun j hj => ?_, fun j hj => ?_⟩
    · simp only [c1, List.length_set] at hj ⊢
      rw [getD_set _ _ _ h1]
      have := c k h1
      split
      · omega
      · exact c j hj
    · simp only [c1, List.length_set] at hj ⊢
      rw [getD_set _ _ _ hk]
      have := d k hk
      split
      · omega
      · exact d j hj
  rw [this] at hb; cases hb
theorem pl1_id (s : PS) (k : Nat) (h1 : k < s.1.length) (h2 : k < s.2.1.length) (h0 : 0 ≤ s.1.getD k 0) (h : s.1.getD k 0 < 5) : pl1 s k = s := by
  obtain ⟨L, K, n⟩ := s
  simp only [pl1] at *
  rw [show L.getD k 0 % 5 = L.getD k 0 by omega, show K.getD k 0 + L.getD k 0 / 5 = K.getD k 0 by omega, show n + L.getD k 0 / 5 = n by omega, set_getD _ _ h1, set_getD _ _ h2]
theorem plOne_low (m : Nat) (s : PS) (k : Nat) (hok : plOk s = true) (h1 : k < s.1.length) (h2 : k < s.2.1.length) (h0 : 0 ≤ s.1.getD k 0) (h : s.1.getD k 0 < 5) : plOne m s k = pl2o m s k := by
  unfold plOne; rw [pl1_id s k h1 h2 h0 h, if_pos hok]
theorem pl2_c2 (s : PS) (k : Nat) (h1 : k + 1 < s.1.length) (h2 : k < s.2.1.length) (h : 2 ≤ s.2.1.getD k 0) : pl2 (c2 s k) k = pl2 s k := by
  obtain ⟨L, K, n⟩ := s
  simp only [pl2, c2] at *
  rw [getD_set_same _ _ h1, getD_set_same _ _ h2]
  simp only [List.set_set]
  rw [show (K.getD k 0 + -2) % 2 = K.getD k 0 % 2 by omega, show L.getD (k + 1) 0 + 1 + (K.getD k 0 + -2) / 2 = L.getD (k + 1) 0 + K.getD k 0 / 2 by omega, show n + 1 + (K.getD k 0 + -2) / 2 = n + K.getD k 0 / 2 by omega]
theorem pl2o_c2 (m : Nat) (s : PS) (k : Nat) (hm : k + 1 ≠ m) (h1 : k + 1 < s.1.length) (h2 : k < s.2.1.length) (h : 2 ≤ s.2.1.getD k 0) : pl2o m (c2 s k) k = pl2o m s k := by
  unfold pl2o; rw [if_neg hm, if_neg hm, pl2_c2 s k h1 h2 h]
theorem pl2o_bad (m : Nat) (s : PS) (k : Nat) (hm : k + 1 ≠ m) (h0 : plOk s = true) (h1 : k + 1 < s.1.length) (h : 2 ≤ s.2.1.getD k 0) (hb : plOk (c2 s k) = false) : pl2o m s k = none := by
  obtain ⟨a, b, c, d⟩ := (plOk_ix s).1 h0
  have hk : k < s.2.1.length := by omega
  unfold pl2o
  rw [if_neg hm, if_neg]
  intro hp
  obtain ⟨_, _, c', _⟩ := (plOk_ix _).1 hp
  have d1 := c' (k + 1) (by simp [pl2]; omega)
  simp only [pl2, getD_set_same _ _ h1] at d1
  have : plOk (c2 s k) = true := by
    refine (plOk_ix _).2 ⟨by simp [c2]; exact a, by simp [c2]; exact b, fun j hj => ?_, fun j hj => ?_⟩
    · simp only [c2, List.length_set] at hj ⊢
      rw [getD_set _ _ _ h1]
      have := c (k + 1) h1
      split
      · omega
      · exact c j hj
    · simp only [c2, List.length_set] at hj ⊢
      rw [getD_set _ _ _ hk]
      have := d k hk
      split
      · omega
      · exact d j hj
  rw [this] at hb; cases hb
theorem pl2o_id (m : Nat) (s : PS) (k : Nat) (hok : plOk s = true) (hm : k + 1 ≠ m → k + 1 < s.1.length) (h2 : k < s.2.1.length) (h0 : 0 ≤ s.2.1.getD k 0) (h : s.2.1.getD k 0 < 2) : pl2o m s k = some s := by
  unfold pl2o
  by_cases e : k + 1 = m
  · rw [if_pos e]
  · rw [if_neg e]
    have e1 : pl2 s k = s := by
      have h1 := hm e
      obtain ⟨L, K, n⟩ := s
      simp only [pl2] at *
      rw [show K.getD k 0 % 2 = K.getD k 0 by omega, show L.getD (k + 1) 0 + K.getD k 0 / 2 = L.getD (k + 1) 0 by omega, show n + K.getD k 0 / 2 = n by omega, set_getD _ _ h1, set_getD _ _ h2]
    rw [e1, if_pos hok]
/-- the last space of a board that is not plain. -/
theorem plEnd_last (m : Nat) (s : PS) (k : Nat) (hm : k + 1 = m) (h2 : k < s.2.1.length) (h : 2 ≤ s.2.1.getD k 0) : plEnd (pl2o m s k) = (([], []), 0, false) := by
  unfold pl2o; rw [if_pos hm]
  simp only [plEnd]
  rw [if_neg]
  intro hp
  have := ((bPlain_ix _ _).1 hp).2 k h2
  omega
end Go.Proofs.Ytmgegacgjppdbaa.M
