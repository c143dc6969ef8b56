/-
  Plain laws on boards, for the great laws: carries keep the value and are undone by borrows, joined boards have the sum, a plain board is the one with its value.
-/
import Derived.Test.YtmgegacgjppdbaaPlainM
set_option linter.unusedVariables false
namespace Go.Proofs.Ytmgegacgjppdbaa.M
theorem getD_succ (x : Int) (l : List Int) (k : Nat) : (x :: l).getD (k + 1) 0 = l.getD k 0 := by simp [List.getD]
theorem getD_zero (x : Int) (l : List Int) : (x :: l).getD 0 0 = x := by simp [List.getD]
theorem bVal_c1 : ∀ (l s : List Int) (k : Nat) (t : Int), k < l.length → k < s.length → bVal (l.set k (l.getD k 0 + -5 * t)) (s.set k (s.getD k 0 + t)) = bVal l s
  | [], _, _, _, h, _ => by simp at h
  | _ :: _, [], _, _, _, h => by simp at h
  | x :: l, y :: s, 0, t, _, _ => by rw [getD_zero, getD_zero, List.set_cons_zero, List.set_cons_zero, bVal, bVal]; omega
  | x :: l, y :: s, k + 1, t, h, h' => by
      rw [getD_succ, getD_succ, List.set_cons_succ, List.set_cons_succ, bVal, bVal, bVal_c1 l s k t (by simpa using h) (by simpa using h')]
theorem bVal_c2 : ∀ (l s : List Int) (k : Nat) (t : Int), k + 1 < l.length → k + 1 < s.length → bVal (l.set (k + 1) (l.getD (k + 1) 0 + t)) (s.set k (s.getD k 0 + -2 * t)) = bVal l s
  | [], _, _, _, h, _ => by simp at h
  | [_], _, _, _, h, _ => by simp at h
  | _ :: _ :: _, [], _, _, _, h => by simp at h
  | _ :: _ :: _, [_], _, _, _, h => by simp at h
  | x :: x' :: l, y :: y' :: s, 0, t, _, _ => by
      rw [getD_succ, getD_zero, getD_zero, List.set_cons_succ, List.set_cons_zero, List.set_cons_zero, bVal, bVal, bVal, bVal]; omega
  | x :: x' :: l, y :: y' :: s, k + 1, t, h, h' => by
      have ih := bVal_c2 (x' :: l) (y' :: s) k t (by simpa using h) (by simpa using h')
      rw [getD_succ x (x' :: l) (k + 1), getD_succ y (y' :: s) k]
      show 10 * bVal ((x' :: l).set (k + 1) ((x' :: l).getD (k + 1) 0 + t)) ((y' :: s).set k ((y' :: s).getD k 0 + -2 * t)) + x + 5 * y = 10 * bVal (x' :: l) (y' :: s) + x + 5 * y
      rw [ih]
theorem chg_val {l k : List Int} {line : Bool} {a : Nat} (hl : l.length = k.length) (ha : a < l.length) (hb : line = true ∨ a + 1 < l.length) : bVal (chgB l k line a (-takenB line) 1).1 (chgB l k line a (-takenB line) 1).2 = bVal l k := by
  cases line with
  | true =>
    have := bVal_c1 l k a 1 ha (by omega)
    simpa [chgB, takenB] using this
  | false =>
    have hb' : a + 1 < l.length := by rcases hb with h | h; cases h; exact h
    have := bVal_c2 l k a 1 hb' (by omega)
    simpa [chgB, takenB] using this
theorem chg_back {l k : List Int} {line : Bool} {a : Nat} (hl : l.length = k.length) (ha : a < l.length) (hb : line = true ∨ a + 1 < l.length) (b u : Int) : chgB (chgB l k line a b u).1 (chgB l k line a b u).2 line a (-b) (-u) = (l, k) := by
  cases line with
  | true =>
    simp only [chgB, if_pos]
    rw [getD_set_same _ _ ha, getD_set_same _ _ (by omega), List.set_set, List.set_set, show l.getD a 0 + b + -b = l.getD a 0 by omega, show k.getD a 0 + u + -u = k.getD a 0 by omega, set_getD _ _ ha, set_getD _ _ (by omega)]
  | false =>
    have hb' : a + 1 < l.length := by rcases hb with h | h; cases h; exact h
    simp only [chgB, if_neg (show ¬ (false = true) by simp)]
    rw [getD_set_same _ _ hb', getD_set_same _ _ (by omega), List.set_set, List.set_set, show l.getD (a + 1) 0 + u + -u = l.getD (a + 1) 0 by omega, show k.getD a 0 + b + -b = k.getD a 0 by omega, set_getD _ _ hb', set_getD _ _ (by omega)]
/-- a carry keeps the value, and the borrow undoes it. -/
theorem carry_great {l k : List Int} {line : Bool} {a : Int} (ok : (carryB l k line a).2 = true) :
    (bValue l k).2 = true ∧ (bValue (carryB l k line a).1.1 (carryB l k line a).1.2).2 = true ∧ (bValue l k).1 = (bValue (carryB l k line a).1.1 (carryB l k line a).1.2).1 ∧ borrowB (carryB l k line a).1.1 (carryB l k line a).1.2 line a = ((l, k), true) := by
  cases hok : bOk l k with
  | false => simp [carryB, hok] at ok
  | true =>
    have e : carryB l k line a = changedB l k line a (-takenB line) 1 := by simp [carryB, hok]
    rw [e] at ok ⊢
    by_cases hy : 0 ≤ a ∧ a < l.length ∧ (line = true ∨ a + 1 < l.length) ∧ bOk (chgB l k line a.toNat (-takenB line) 1).1 (chgB l k line a.toNat (-takenB line) 1).2 = true
    · have e2 : changedB l k line a (-takenB line) 1 = (chgB l k line a.toNat (-takenB line) 1, true) := by unfold changedB; rw [if_pos hy]
      rw [e2]
      obtain ⟨h1, h2, h3, h4⟩ := hy
      have hl := ((bOk_iff l k).1 hok).2.1
      have h3' : line = true ∨ a.toNat + 1 < l.length := by rcases h3 with h | h; exact .inl h; exact .inr (by omega)
      have hv := chg_val (line := line) hl.symm (show a.toNat < l.length by omega) h3'
      have hb := chg_back (line := line) hl.symm (show a.toNat < l.length by omega) h3' (-takenB line) 1
      have hn := (chgB_len l k line a.toNat (-takenB line) 1).1
      generalize chgB l k line a.toNat (-takenB line) 1 = C at *
      obtain ⟨C1, C2⟩ := C
      simp only at *
      rw [Int.neg_neg] at hb
      rw [bValue_yes hok, bValue_yes h4, hv]
      refine ⟨rfl, rfl, rfl, ?_⟩
      have e3 : borrowB C1 C2 line a = changedB C1 C2 line a (takenB line) (-1) := by simp [borrowB, h4]
      rw [e3]
      unfold changedB
      rw [hb, if_pos ⟨h1, by rw [hn]; exact h2, by rw [hn]; exact h3, hok⟩]
    · unfold changedB at ok; rw [if_neg hy] at ok; cases ok
theorem bVal_add : ∀ (l k l2 k2 : List Int), l.length = l2.length → k.length = l.length → k2.length = l2.length → bVal (addL l l2) (addL k k2) = bVal l k + bVal l2 k2
  | [], k, [], k2, _, _, _ => by simp [addL, bVal]
  | x :: l, y :: k, x2 :: l2, y2 :: k2, h1, h2, h3 => by
      have ih := bVal_add l k l2 k2 (by simpa using h1) (by simpa using h2) (by simpa using h3)
      unfold addL at ih ⊢
      rw [List.zipWith_cons_cons, List.zipWith_cons_cons, bVal, bVal, bVal, ih]
      omega
  | [], _, _ :: _, _, h, _, _ => by simp at h
  | _ :: _, _, [], _, h, _, _ => by simp at h
  | _ :: _, [], _ :: _, _, _, h, _ => by simp at h
  | _ :: _, _ :: _, _ :: _, [], _, _, h => by simp at h
/-- joined boards have the sum of both values. -/
theorem join_great {l k l2 k2 : List Int} (ok : (joinB l k l2 k2).2 = true) :
    (bValue l k).2 = true ∧ (bValue l2 k2).2 = true ∧ (bValue (joinB l k l2 k2).1.1 (joinB l k l2 k2).1.2).2 = true ∧ (bValue l k).1 + (bValue l2 k2).1 = (bValue (joinB l k l2 k2).1.1 (joinB l k l2 k2).1.2).1 := by
  by_cases hy : bOk l k = true ∧ bOk l2 k2 = true ∧ l.length = l2.length ∧ bOk (addL l l2) (addL k k2) = true
  · rw [joinB_yes hy]
    obtain ⟨h1, h2, h3, h4⟩ := hy
    rw [bValue_yes h1, bValue_yes h2, bValue_yes h4]
    exact ⟨rfl, rfl, rfl, (bVal_add l k l2 k2 h3 ((bOk_iff _ _).1 h1).2.1 ((bOk_iff _ _).1 h2).2.1).symm⟩
  · rw [joinB_no hy] at ok; cases ok
/-! a plain board is the one with its value -/
theorem plain_set : ∀ (l k : List Int), k.length = l.length → (∀ x ∈ l, 0 ≤ x ∧ x ≤ 4) → (∀ x ∈ k, 0 ≤ x ∧ x ≤ 1) → bL l.length (bVal l k) = l ∧ bS l.length (bVal l k) = k ∧ 0 ≤ bVal l k ∧ bVal l k < 10 ^ l.length
  | [], [], _, _, _ => by simp [bL, bS, bVal]
  | x :: l, y :: k, h, hx, hy => by
      obtain ⟨i1, i2, i3, i4⟩ := plain_set l k (by simpa using h) (fun z hz => hx z (by simp [hz])) (fun z hz => hy z (by simp [hz]))
      have x1 := hx x (by simp)
      have y1 := hy y (by simp)
      rw [List.length_cons, bL, bS, bVal, Int.pow_succ]
      rw [show (10 * bVal l k + x + 5 * y) / 10 = bVal l k by omega, show (10 * bVal l k + x + 5 * y) % 5 = x by omega, show (10 * bVal l k + x + 5 * y) / 5 % 2 = y by omega, i1, i2]
      exact ⟨rfl, rfl, by omega, by omega⟩
  | [], _ :: _, h, _, _ => by simp at h
  | _ :: _, [], h, _, _ => by simp at h
theorem set_val : ∀ (m : Nat) (n : Int), 0 ≤ n → n < 10 ^ m → bVal (bL m n) (bS m n) = n ∧ (∀ x ∈ bL m n, 0 ≤ x ∧ x ≤ 4) ∧ (∀ x ∈ bS m n, 0 ≤ x ∧ x ≤ 1)
  | 0, n, h0, h => by simp at h; simp [bL, bS, bVal]; omega
  | m + 1, n, h0, h => by
      rw [Int.pow_succ] at h
      obtain ⟨i1, i2, i3⟩ := set_val m (n / 10) (by omega) (by omega)
      rw [bL, bS, bVal, i1]
      refine ⟨by omega, fun x hx => ?_, fun x hx => ?_⟩
      · rcases List.mem_cons.1 hx with rfl | hx
        · omega
        · exact i2 x hx
      · rcases List.mem_cons.1 hx with rfl | hx
        · omega
        · exact i3 x hx
theorem set_bOk {m : Nat} {n : Int} (h1 : 1 ≤ m) (h6 : m ≤ 6) (h0 : 0 ≤ n) (h : n < 10 ^ m) : bOk (bL m n) (bS m n) = true := by
  obtain ⟨_, i2, i3⟩ := set_val m n h0 h
  refine (bOk_iff _ _).2 ⟨by rw [bL_len]; omega, by rw [bL_len, bS_len], fun x hx => ?_, fun x hx => ?_⟩
  · have := i2 x hx; omega
  · have := i3 x hx; omega
def awayB (l k l2 k2 : List Int) : (List Int × List Int) × Bool := if bOk l k = true ∧ bOk l2 k2 = true then setB l.length (bVal l k - bVal l2 k2) else (([], []), false)
theorem awayB_no {l k l2 k2 : List Int} (h : ¬ (bOk l k = true ∧ bOk l2 k2 = true)) : awayB l k l2 k2 = (([], []), false) := by unfold awayB; rw [if_neg h]
theorem awayB_yes {l k l2 k2 : List Int} (h : bOk l k = true) (h' : bOk l2 k2 = true) : awayB l k l2 k2 = setB l.length (bVal l k - bVal l2 k2) := by simp [awayB, h, h']
theorem awayB_le (l k l2 k2 : List Int) : (awayB l k l2 k2).1.1.length ≤ 6 ∧ (awayB l k l2 k2).1.2.length ≤ 6 := by
  unfold awayB; split
  · exact setB_le _ _
  · simp
/-- what is left and what is taken away make the whole. -/
theorem away_great {l k l2 k2 : List Int} (ok : (awayB l k l2 k2).2 = true) :
    (bValue l k).2 = true ∧ (bValue l2 k2).2 = true ∧ (bValue (awayB l k l2 k2).1.1 (awayB l k l2 k2).1.2).2 = true ∧ (bValue l2 k2).1 + (bValue (awayB l k l2 k2).1.1 (awayB l k l2 k2).1.2).1 = (bValue l k).1 := by
  by_cases hy : bOk l k = true ∧ bOk l2 k2 = true
  · rw [awayB_yes hy.1 hy.2] at ok ⊢
    have hl := ((bOk_iff l k).1 hy.1).1
    by_cases hz : inR (l.length : Int) 1 6 = true ∧ 0 ≤ bVal l k - bVal l2 k2 ∧ bVal l k - bVal l2 k2 < 10 ^ (l.length : Int).toNat
    · rw [Int.toNat_natCast] at hz
      rw [setB_yes hl.1 hl.2 hz.2.1 hz.2.2, bValue_yes hy.1, bValue_yes hy.2, bValue_yes (set_bOk hl.1 hl.2 hz.2.1 hz.2.2), (set_val _ _ hz.2.1 hz.2.2).1]
      exact ⟨rfl, rfl, rfl, by simp only; omega⟩
    · rw [setB_no hz] at ok; cases ok
  · rw [awayB_no hy] at ok; cases ok
/-! making a board plain keeps the value -/
theorem pl1_val (s : PS) (k : Nat) (h1 : k < s.1.length) (h2 : k < s.2.1.length) : bVal (pl1 s k).1 (pl1 s k).2.1 = bVal s.1 s.2.1 := by
  have := bVal_c1 s.1 s.2.1 k (s.1.getD k 0 / 5) h1 h2
  rw [show s.1.getD k 0 + -5 * (s.1.getD k 0 / 5) = s.1.getD k 0 % 5 by omega] at this
  exact this
theorem pl2_val (s : PS) (k : Nat) (h1 : k + 1 < s.1.length) (h2 : k + 1 < s.2.1.length) : bVal (pl2 s k).1 (pl2 s k).2.1 = bVal s.1 s.2.1 := by
  have := bVal_c2 s.1 s.2.1 k (s.2.1.getD k 0 / 2) h1 h2
  rw [show s.2.1.getD k 0 + -2 * (s.2.1.getD k 0 / 2) = s.2.1.getD k 0 % 2 by omega] at this
  exact this
theorem plOk_parts {s : PS} (h : plOk s = true) {k : Nat} (h1 : k < s.1.length) : 0 ≤ s.1.getD k 0 ∧ 0 ≤ s.2.1.getD k 0 ∧ s.2.1.length = s.1.length := by
  obtain ⟨_, b, c, d⟩ := (plOk_ix s).1 h
  exact ⟨(c k h1).1, (d k (by omega)).1, b⟩
theorem plOne_val {s t : PS} {k : Nat} (hok : plOk s = true) (h1 : k < s.1.length) (h : plOne s.1.length s k = some t) : plOk t = true ∧ t.1.length = s.1.length ∧ bVal t.1 t.2.1 = bVal s.1 s.2.1 ∧ s.2.2 ≤ t.2.2 := by
  obtain ⟨p1, p2, p3⟩ := plOk_parts hok h1
  have v1 := pl1_val s k h1 (by omega)
  have l1 : (pl1 s k).1.length = s.1.length := by simp [pl1]
  have l2 : (pl1 s k).2.1.length = s.2.1.length := by simp [pl1]
  have n1 : s.2.2 ≤ (pl1 s k).2.2 := by simp only [pl1]; omega
  unfold plOne at h
  split at h
  · rename_i ho
    generalize pl1 s k = r at *
    unfold pl2o at h
    split at h
    · injection h with h; subst h; exact ⟨ho, l1, v1, n1⟩
    · split at h
      · rename_i hm ho2
        injection h with h; subst h
        obtain ⟨q1, q2, q3⟩ := plOk_parts ho (show k < r.1.length by omega)
        have v2 := pl2_val r k (by omega) (by omega)
        refine ⟨ho2, by simp [pl2]; exact l1, by rw [v2, v1], ?_⟩
        simp only [pl2]; omega
      · cases h
  · cases h
theorem plFrom_val : ∀ (d k : Nat) (s t : PS), plOk s = true → k + d ≤ s.1.length → plFrom s.1.length (some s) d k = some t → plOk t = true ∧ t.1.length = s.1.length ∧ bVal t.1 t.2.1 = bVal s.1 s.2.1 ∧ s.2.2 ≤ t.2.2
  | 0, k, s, t, hok, _, h => by
      injection h with h; subst h; exact ⟨hok, rfl, rfl, Int.le_refl _⟩
  | d + 1, k, s, t, hok, hk, h => by
      rw [plFrom] at h
      simp only [plStep] at h
      cases e : plOne s.1.length s k with
      | none => rw [e, plFrom_none] at h; cases h
      | some r =>
        rw [e] at h
        obtain ⟨a1, a2, a3, a4⟩ := plOne_val hok (by omega) e
        rw [← a2] at h
        obtain ⟨b1, b2, b3, b4⟩ := plFrom_val d (k + 1) r t a1 (by omega) h
        exact ⟨b1, by omega, by rw [b3, a3], by omega⟩
/-- a plain board is plain, has the same value, and is the board that is set with it. -/
theorem plain_great {l k : List Int} (ok : (plainB l k).2.2 = true) :
    (bValue l k).2 = true ∧ (bValue (plainB l k).1.1 (plainB l k).1.2).2 = true ∧ (bValue l k).1 = (bValue (plainB l k).1.1 (plainB l k).1.2).1 ∧ isPlain (plainB l k).1.1 (plainB l k).1.2 = (true, true) ∧ setB l.length (bValue l k).1 = ((plainB l k).1, true) ∧ 0 ≤ (plainB l k).2.1 := by
  cases hok : bOk l k with
  | false => rw [plainB_no hok] at ok; cases ok
  | true =>
    rw [plainB_yes hok] at ok ⊢
    cases e : plFrom l.length (some (l, k, 0)) l.length 0 with
    | none => rw [e] at ok; cases ok
    | some t =>
      rw [e] at ok
      obtain ⟨a1, a2, a3, a4⟩ := plFrom_val l.length 0 (l, k, 0) t hok (by simp) e
      simp only at a2 a3 a4
      cases hp : bPlain t.1 t.2.1 with
      | false => simp [plEnd, hp] at ok
      | true =>
        have e2 : plEnd (some t) = ((t.1, t.2.1), t.2.2, true) := by simp [plEnd, hp]
        rw [e2]
        simp only
        have hb := (bOk_iff _ _).1 a1
        have hpp : (∀ x ∈ t.1, 0 ≤ x ∧ x ≤ 4) ∧ ∀ x ∈ t.2.1, 0 ≤ x ∧ x ≤ 1 := by simpa [bPlain, inR_iff] using hp
        obtain ⟨c1, c2, c3, c4⟩ := plain_set t.1 t.2.1 hb.2.1 hpp.1 hpp.2
        have hokt : bOk t.1 t.2.1 = true := a1
        rw [bValue_yes hok, bValue_yes hokt, isPlain_yes hokt, hp]
        refine ⟨rfl, rfl, a3.symm, rfl, ?_, a4⟩
        simp only
        rw [a3] at c1 c2 c3 c4
        rw [a2] at c1 c2 c4
        have hl := ((bOk_iff l k).1 hok).1
        rw [setB_yes hl.1 hl.2 c3 c4, c1, c2]
end Go.Proofs.Ytmgegacgjppdbaa.M
