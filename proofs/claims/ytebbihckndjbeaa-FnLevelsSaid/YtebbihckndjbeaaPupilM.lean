/-
  Plain laws on lists of pupils.
-/
import Derived.Test.YtebbihckndjbeaaPupilF
set_option linter.unusedVariables false
namespace Go.Proofs.Ytebbihckndjbeaa.M
/-! a class: how many, the least level, the greatest level -/
def clsStep (c : Int) (s : Int × Int × Int) (p : Pupil) : Int × Int × Int := if p.cls = c then (s.1 + 1, min s.2.1 p.level, max s.2.2 p.level) else s
def clsAcc (l : List Pupil) (c : Int) : Int × Int × Int := l.foldl (clsStep c) (0, 10, 0)
theorem clsAcc_take (l : List Pupil) (c : Int) (k : Nat) (h : k < l.length) : clsAcc (l.take (k + 1)) c = clsStep c (clsAcc (l.take k) c) l[k] := by
  unfold clsAcc; rw [List.take_succ_eq_append_getElem h, List.foldl_append]; rfl
theorem clsAcc_bd (l : List Pupil) (c : Int) (h : ∀ p ∈ l, 0 ≤ p.level ∧ p.level ≤ 10) : (0 ≤ (clsAcc l c).1 ∧ (clsAcc l c).1 ≤ l.length) ∧ (0 ≤ (clsAcc l c).2.1 ∧ (clsAcc l c).2.1 ≤ 10) ∧ 0 ≤ (clsAcc l c).2.2 ∧ (clsAcc l c).2.2 ≤ 10 := by
  have key : ∀ (l : List Pupil) (s : Int × Int × Int), (∀ p ∈ l, 0 ≤ p.level ∧ p.level ≤ 10) → 0 ≤ s.1 → (0 ≤ s.2.1 ∧ s.2.1 ≤ 10) → (0 ≤ s.2.2 ∧ s.2.2 ≤ 10) →
      (0 ≤ (l.foldl (clsStep c) s).1 ∧ (l.foldl (clsStep c) s).1 ≤ s.1 + l.length) ∧ (0 ≤ (l.foldl (clsStep c) s).2.1 ∧ (l.foldl (clsStep c) s).2.1 ≤ 10) ∧ 0 ≤ (l.foldl (clsStep c) s).2.2 ∧ (l.foldl (clsStep c) s).2.2 ≤ 10 := by
    intro l
    induction l with
    | nil => intro s _ h1 h2 h3; simp only [List.foldl_nil, List.length_nil]; omega
    | cons p l ih =>
      intro s hp h1 h2 h3
      obtain ⟨p1, p2⟩ := hp p (by simp)
      rw [List.foldl_cons, List.length_cons]
      by_cases hc : p.cls = c
      · have e : clsStep c s p = (s.1 + 1, min s.2.1 p.level, max s.2.2 p.level) := by simp [clsStep, hc]
        rw [e]
        have := ih (s.1 + 1, min s.2.1 p.level, max s.2.2 p.level) (fun q hq => hp q (by simp [hq])) (by simp; omega) (by simp; omega) (by simp; omega)
        simp only at this
        omega
      · have e : clsStep c s p = s := by simp [clsStep, hc]
        rw [e]
        have := ih s (fun q hq => hp q (by simp [hq])) h1 h2 h3
        omega
  have := key l (0, 10, 0) h (by simp) (by simp) (by simp)
  simp only at this
  unfold clsAcc
  omega
def clsOk (l : List Pupil) (c : Int) : Bool := decide ((clsAcc l c).1 ≤ 6 ∧ (clsAcc l c).2.2 - (clsAcc l c).2.1 ≤ 3)
/-! all pupils -/
def pupAt (l : List Pupil) (i : Nat) : Bool := match l[i]? with | none => true | some p => p.ok && (decide (i = 0) || (match l[i - 1]? with | none => true | some q => decide (q.id < p.id)))
theorem pupAt_zero (l : List Pupil) (h : 0 < l.length) : pupAt l 0 = l[0].ok := by simp [pupAt, h]
theorem pupAt_succ (l : List Pupil) (i : Nat) (h : i + 1 < l.length) : pupAt l (i + 1) = (l[i + 1].ok && decide (l[i].id < l[i + 1].id)) := by
  have h' : i < l.length := by omega
  simp [pupAt, h, h']
def pupsUpTo (l : List Pupil) (n : Nat) : Bool := (List.range n).all (pupAt l)
theorem pupsUpTo_succ (l : List Pupil) (n : Nat) : pupsUpTo l (n + 1) = (pupsUpTo l n && pupAt l n) := by simp [pupsUpTo, List.range_succ]
theorem pupsUpTo_false {l : List Pupil} {n : Nat} (h : pupsUpTo l n = false) {m : Nat} (hm : n ≤ m) : pupsUpTo l m = false := by
  induction m with
  | zero => obtain rfl : n = 0 := by omega
            exact h
  | succ m ih =>
    by_cases e : n = m + 1
    · subst e; exact h
    · rw [pupsUpTo_succ, ih (by omega)]; rfl
theorem pups_ok {l : List Pupil} : ∀ n, pupsUpTo l n = true → ∀ i (hi : i < l.length), i < n → l[i].ok = true
  | n + 1, h, i, hi, hn => by
      rw [pupsUpTo_succ, Bool.and_eq_true] at h
      by_cases e : i = n
      · subst e
        have h2 := h.2
        cases i with
        | zero => rwa [pupAt_zero l hi] at h2
        | succ i => rw [pupAt_succ l i hi, Bool.and_eq_true] at h2; exact h2.1
      · exact pups_ok n h.1 i hi (by omega)
theorem pups_asc {l : List Pupil} : ∀ n, pupsUpTo l n = true → ∀ i (hi : i + 1 < l.length), i + 1 < n → l[i].id < l[i + 1].id
  | n + 1, h, i, hi, hn => by
      rw [pupsUpTo_succ, Bool.and_eq_true] at h
      by_cases e : i + 1 = n
      · subst e
        have h2 := h.2
        rw [pupAt_succ l i hi, Bool.and_eq_true] at h2
        exact of_decide_eq_true h2.2
      · exact pups_asc n h.1 i hi (by omega)
def clsUpTo (l : List Pupil) (n : Nat) : Bool := (List.range n).all fun (c : Nat) => clsOk l ((c : Int) + 1)
theorem clsUpTo_succ (l : List Pupil) (n : Nat) : clsUpTo l (n + 1) = (clsUpTo l n && clsOk l ((n : Int) + 1)) := by simp [clsUpTo, List.range_succ]
theorem clsUpTo_false {l : List Pupil} {n : Nat} (h : clsUpTo l n = false) {m : Nat} (hm : n ≤ m) : clsUpTo l m = false := by
  induction m with
  | zero => obtain rfl : n = 0 := by omega
            exact h
  | succ m ih =>
    by_cases e : n = m + 1
    · subst e; exact h
    · rw [clsUpTo_succ, ih (by omega)]; rfl
def pupsOk (l : List Pupil) : Bool := decide (l.length ≤ 12) && pupsUpTo l l.length && clsUpTo l 9
theorem pupsOk_iff (l : List Pupil) : pupsOk l = true ↔ l.length ≤ 12 ∧ pupsUpTo l l.length = true ∧ clsUpTo l 9 = true := by
  simp [pupsOk, and_assoc]
theorem pupsOk_at {l : List Pupil} (h : pupsOk l = true) {i : Nat} (hi : i < l.length) : l[i].ok = true := pups_ok _ ((pupsOk_iff l).1 h).2.1 i hi hi
theorem pupsOk_mem {l : List Pupil} (h : pupsOk l = true) {p : Pupil} (hp : p ∈ l) : p.ok = true := by
  obtain ⟨i, hi, rfl⟩ := List.getElem_of_mem hp
  exact pupsOk_at h hi
theorem pupsOk_asc {l : List Pupil} (h : pupsOk l = true) : ∀ i (hi : i + 1 < l.length), l[i].id < l[i + 1].id := fun i hi => pups_asc _ ((pupsOk_iff l).1 h).2.1 i hi hi
theorem pupsOk_lt {l : List Pupil} (h : pupsOk l = true) (i : Nat) : ∀ (d : Nat) (hi : i + d + 1 < l.length), l[i].id < l[i + d + 1].id
  | 0, hi => pupsOk_asc h i hi
  | d + 1, hi => by
      have h1 := pupsOk_lt h i d (by omega)
      have h2 := pupsOk_asc h (i + d + 1) hi
      exact Int.lt_trans h1 h2
/-- the numbers of valid pupils differ. -/
theorem pupsOk_id {l : List Pupil} (h : pupsOk l = true) {i k : Nat} (hi : i < l.length) (hk : k < l.length) (e : l[i].id = l[k].id) : i = k := by
  rcases Nat.lt_trichotomy i k with h1 | h1 | h1
  · have := pupsOk_lt h i (k - i - 1) (by omega)
    simp only [show i + (k - i - 1) + 1 = k by omega] at this
    omega
  · exact h1
  · have := pupsOk_lt h k (i - k - 1) (by omega)
    simp only [show k + (i - k - 1) + 1 = i by omega] at this
    omega
/-! the place of a pupil; its length where there is none -/
def pIx (l : List Pupil) (id : Int) : Nat := l.findIdx fun p => decide (p.id = id)
theorem pIx_le (l : List Pupil) (id : Int) : pIx l id ≤ l.length := List.findIdx_le_length
theorem pIx_ge {l : List Pupil} {id : Int} {k : Nat} (hk : k ≤ l.length) (h : ∀ i (hi : i < l.length), i < k → l[i].id ≠ id) : k ≤ pIx l id := by
  rcases Nat.lt_or_ge (pIx l id) k with h1 | h1
  · exfalso
    have h2 : pIx l id < l.length := by omega
    have := List.findIdx_getElem (w := h2)
    exact h _ h2 h1 (of_decide_eq_true this)
  · exact h1
theorem pIx_eq {l : List Pupil} {id : Int} {k : Nat} (hk : k < l.length) (h : ∀ i (hi : i < l.length), i < k → l[i].id ≠ id) (he : l[k].id = id) : pIx l id = k := by
  have h1 := pIx_ge (by omega) h
  rcases Nat.lt_or_ge k (pIx l id) with h2 | h2
  · have := List.not_of_lt_findIdx h2
    simp [he] at this
  · omega
theorem pIx_none {l : List Pupil} {id : Int} (h : ∀ i (hi : i < l.length), l[i].id ≠ id) : pIx l id = l.length := by
  have := pIx_ge (l := l) (id := id) (Nat.le_refl _) (fun i hi _ => h i hi)
  have := pIx_le l id
  omega
theorem pIx_at {l : List Pupil} {id : Int} (h : pIx l id < l.length) : l[pIx l id].id = id := of_decide_eq_true (List.findIdx_getElem (w := h))
theorem pIx_self {l : List Pupil} (h : pupsOk l = true) {k : Nat} (hk : k < l.length) : pIx l l[k].id = k :=
  pIx_eq hk (fun i hi hik e => by have := pupsOk_id h hi hk e; omega) rfl
/-! what the functions of a list of pupils return -/
def Pupil.inCls (p : Pupil) (c : Int) : Pupil := ⟨p.id, p.name, p.born, c, p.level⟩
def withC (l : List Pupil) (i : Nat) (c : Int) : List Pupil := match l[i]? with | none => l | some p => l.set i (p.inCls c)
theorem withC_eq (l : List Pupil) (i : Nat) (h : i < l.length) (c : Int) : withC l i c = l.set i (l[i].inCls c) := by simp [withC, h]
theorem withC_len (l : List Pupil) (i : Nat) (c : Int) : (withC l i c).length = l.length := by unfold withC; split <;> simp
def idsIn (l : List Pupil) (c : Int) : List Int := (l.filter fun p => decide (p.cls = c)).map (·.id)
theorem idsIn_take (l : List Pupil) (c : Int) (k : Nat) (h : k < l.length) : idsIn (l.take (k + 1)) c = idsIn (l.take k) c ++ (if l[k].cls = c then [l[k].id] else []) := by
  unfold idsIn; rw [List.take_succ_eq_append_getElem h, List.filter_append, List.map_append]
  congr 1
  by_cases e : l[k].cls = c <;> simp [e]
theorem idsIn_le (l : List Pupil) (c : Int) (k : Nat) : (idsIn (l.take k) c).length ≤ k := by
  unfold idsIn; rw [List.length_map]
  exact Nat.le_trans (List.length_filter_le _ _) (List.length_take_le _ _)
def inClass (l : List Pupil) (c : Int) : List Int × Bool := if pupsOk l = true ∧ inR c 0 9 = true then (idsIn l c, true) else ([], false)
theorem inClass_yes {l : List Pupil} {c : Int} (h : pupsOk l = true) (h' : inR c 0 9 = true) : inClass l c = (idsIn l c, true) := by simp [inClass, h, h']
theorem inClass_no {l : List Pupil} {c : Int} (h : ¬ (pupsOk l = true ∧ inR c 0 9 = true)) : inClass l c = ([], false) := by unfold inClass; rw [if_neg h]
theorem inClass_le (l : List Pupil) (c : Int) : (inClass l c).1.length ≤ 12 := by
  unfold inClass; split
  · rename_i h
    have h1 := ((pupsOk_iff l).1 h.1).1
    have := idsIn_le l c l.length
    rw [List.take_length] at this
    simp only; omega
  · simp
def putIn (l : List Pupil) (id c : Int) : List Pupil × Bool :=
  if pupsOk l = true ∧ pIx l id < l.length ∧ pupsOk (withC l (pIx l id) c) = true then (withC l (pIx l id) c, true) else ([], false)
theorem putIn_yes {l : List Pupil} {id c : Int} (h : pupsOk l = true ∧ pIx l id < l.length ∧ pupsOk (withC l (pIx l id) c) = true) : putIn l id c = (withC l (pIx l id) c, true) := by unfold putIn; rw [if_pos h]
theorem putIn_no {l : List Pupil} {id c : Int} (h : ¬ (pupsOk l = true ∧ pIx l id < l.length ∧ pupsOk (withC l (pIx l id) c) = true)) : putIn l id c = ([], false) := by unfold putIn; rw [if_neg h]
theorem putIn_le (l : List Pupil) (id c : Int) : (putIn l id c).1.length ≤ 12 := by
  unfold putIn; split
  · rename_i h; have := ((pupsOk_iff l).1 h.1).1; simp only [withC_len]; exact this
  · simp
def Pupil.up (p : Pupil) : Pupil := ⟨p.id, p.name, p.born, p.cls, p.level + 1⟩
def upAt (l : List Pupil) (i : Nat) : List Pupil := match l[i]? with | none => l | some p => l.set i p.up
theorem upAt_eq (l : List Pupil) (i : Nat) (h : i < l.length) : upAt l i = l.set i l[i].up := by simp [upAt, h]
theorem upAt_len (l : List Pupil) (i : Nat) : (upAt l i).length = l.length := by unfold upAt; split <;> simp
def lvlAt (l : List Pupil) (i : Nat) : Int := match l[i]? with | none => 0 | some p => p.level
theorem lvlAt_eq (l : List Pupil) (i : Nat) (h : i < l.length) : lvlAt l i = l[i].level := by simp [lvlAt, h]
def raised (l : List Pupil) (i : Nat) : List Pupil := if pupsOk (upAt l i) = true then upAt l i else withC (upAt l i) i 0
def raise (l : List Pupil) (id : Int) : List Pupil × Bool :=
  if pupsOk l = true ∧ pIx l id < l.length ∧ lvlAt l (pIx l id) ≠ 10 then (raised l (pIx l id), true) else ([], false)
theorem raise_yes {l : List Pupil} {id : Int} (h : pupsOk l = true ∧ pIx l id < l.length ∧ lvlAt l (pIx l id) ≠ 10) : raise l id = (raised l (pIx l id), true) := by unfold raise; rw [if_pos h]
theorem raise_no {l : List Pupil} {id : Int} (h : ¬ (pupsOk l = true ∧ pIx l id < l.length ∧ lvlAt l (pIx l id) ≠ 10)) : raise l id = ([], false) := by unfold raise; rw [if_neg h]
theorem raised_len (l : List Pupil) (i : Nat) : (raised l i).length = l.length := by unfold raised; split <;> simp [withC_len, upAt_len]
theorem raise_le (l : List Pupil) (id : Int) : (raise l id).1.length ≤ 12 := by
  unfold raise; split
  · rename_i h; have := ((pupsOk_iff l).1 h.1).1; simp only [raised_len]; exact this
  · simp
/-- the classes 1 .. n to which a pupil could go. -/
def clsFor (l : List Pupil) (i n : Nat) : List Int := ((List.range n).filter fun (c : Nat) => pupsOk (withC l i ((c : Int) + 1))).map fun (c : Nat) => (c : Int) + 1
theorem clsFor_succ (l : List Pupil) (i n : Nat) : clsFor l i (n + 1) = clsFor l i n ++ (if pupsOk (withC l i ((n : Int) + 1)) = true then [(n : Int) + 1] else []) := by
  unfold clsFor; rw [List.range_succ, List.filter_append, List.map_append]
  congr 1
  by_cases e : pupsOk (withC l i ((n : Int) + 1)) = true <;> simp [e]
theorem clsFor_le (l : List Pupil) (i n : Nat) : (clsFor l i n).length ≤ n := by
  unfold clsFor; rw [List.length_map]
  exact Nat.le_trans (List.length_filter_le _ _) (by simp)
def classesFor (l : List Pupil) (id : Int) : List Int × Bool := if pupsOk l = true ∧ pIx l id < l.length then (clsFor l (pIx l id) 9, true) else ([], false)
theorem classesFor_yes {l : List Pupil} {id : Int} (h : pupsOk l = true) (h' : pIx l id < l.length) : classesFor l id = (clsFor l (pIx l id) 9, true) := by simp [classesFor, h, h']
theorem classesFor_no {l : List Pupil} {id : Int} (h : ¬ (pupsOk l = true ∧ pIx l id < l.length)) : classesFor l id = ([], false) := by unfold classesFor; rw [if_neg h]
theorem classesFor_le (l : List Pupil) (id : Int) : (classesFor l id).1.length ≤ 12 := by
  unfold classesFor; split
  · have := clsFor_le l (pIx l id) 9; simp only; omega
  · simp
/-- the sum of the levels and the number of pupils of a class. -/
def lvStep (c : Int) (s : Int × Int) (p : Pupil) : Int × Int := if p.cls = c then (s.1 + p.level, s.2 + 1) else s
def lvAcc (l : List Pupil) (c : Int) : Int × Int := l.foldl (lvStep c) (0, 0)
theorem lvAcc_take (l : List Pupil) (c : Int) (k : Nat) (h : k < l.length) : lvAcc (l.take (k + 1)) c = lvStep c (lvAcc (l.take k) c) l[k] := by
  unfold lvAcc; rw [List.take_succ_eq_append_getElem h, List.foldl_append]; rfl
theorem lvAcc_bd (l : List Pupil) (c : Int) (h : ∀ p ∈ l, 0 ≤ p.level ∧ p.level ≤ 10) : ∀ k, k ≤ l.length → (0 ≤ (lvAcc (l.take k) c).1 ∧ (lvAcc (l.take k) c).1 ≤ 10 * k) ∧ 0 ≤ (lvAcc (l.take k) c).2 ∧ (lvAcc (l.take k) c).2 ≤ k
  | 0, _ => by simp [lvAcc]
  | k + 1, hk => by
      have ih := lvAcc_bd l c h k (by omega)
      have hp := h l[k] (List.getElem_mem _)
      rw [lvAcc_take l c k (by omega)]
      unfold lvStep
      split
      · simp only; omega
      · omega
def meanLv (l : List Pupil) (c : Int) : (Int × Int) × Bool :=
  if pupsOk l = true ∧ inR c 0 9 = true ∧ (lvAcc l c).2 ≠ 0 then (((lvAcc l c).1 / Int.gcd (lvAcc l c).1 (lvAcc l c).2, (lvAcc l c).2 / Int.gcd (lvAcc l c).1 (lvAcc l c).2), true) else ((0, 0), false)
/-- the oldest pupil of a class: the place of the first one of least year, or -1. -/
def bornAt (l : List Pupil) (i : Int) : Int := match l[i.toNat]? with | none => 0 | some p => p.born
def oldStep (l : List Pupil) (c best : Int) (k : Nat) : Int := match l[k]? with | none => best | some p => if p.cls = c ∧ (best < 0 ∨ p.born < bornAt l best) then k else best
def oldBest (l : List Pupil) (c : Int) (n : Nat) : Int := (List.range n).foldl (oldStep l c) (-1)
theorem oldBest_succ (l : List Pupil) (c : Int) (k : Nat) (h : k < l.length) : oldBest l c (k + 1) = if l[k].cls = c ∧ (oldBest l c k < 0 ∨ l[k].born < bornAt l (oldBest l c k)) then (k : Int) else oldBest l c k := by
  unfold oldBest; rw [List.range_succ, List.foldl_append]; simp only [List.foldl_cons, List.foldl_nil]
  simp [oldStep, h]
theorem oldBest_bd (l : List Pupil) (c : Int) : ∀ k, k ≤ l.length → -1 ≤ oldBest l c k ∧ oldBest l c k < k
  | 0, _ => by simp [oldBest]
  | k + 1, hk => by
      have ih := oldBest_bd l c k (by omega)
      rw [oldBest_succ l c k (by omega)]
      split <;> omega
theorem bornAt_eq (l : List Pupil) (i : Nat) (h : i < l.length) : bornAt l (i : Int) = l[i].born := by simp [bornAt, h]
def idAt (l : List Pupil) (i : Int) : Int := match l[i.toNat]? with | none => 0 | some p => p.id
theorem idAt_eq (l : List Pupil) (i : Nat) (h : i < l.length) : idAt l (i : Int) = l[i].id := by simp [idAt, h]
def oldest (l : List Pupil) (c : Int) : Int × Bool := if pupsOk l = true ∧ inR c 0 9 = true ∧ 0 ≤ oldBest l c l.length then (idAt l (oldBest l c l.length), true) else (0, false)
theorem oldest_yes {l : List Pupil} {c : Int} (h : pupsOk l = true ∧ inR c 0 9 = true ∧ 0 ≤ oldBest l c l.length) : oldest l c = (idAt l (oldBest l c l.length), true) := by unfold oldest; rw [if_pos h]
theorem oldest_no {l : List Pupil} {c : Int} (h : ¬ (pupsOk l = true ∧ inR c 0 9 = true ∧ 0 ≤ oldBest l c l.length)) : oldest l c = (0, false) := by unfold oldest; rw [if_neg h]
/-- two pupils change their classes. -/
def clsAt (l : List Pupil) (i : Nat) : Int := match l[i]? with | none => 0 | some p => p.cls
theorem clsAt_eq (l : List Pupil) (i : Nat) (h : i < l.length) : clsAt l i = l[i].cls := by simp [clsAt, h]
def swapped (l : List Pupil) (i k : Nat) : List Pupil := withC (withC l i (clsAt l k)) k (clsAt l i)
theorem swapped_len (l : List Pupil) (i k : Nat) : (swapped l i k).length = l.length := by simp [swapped, withC_len]
def swapC (l : List Pupil) (a b : Int) : List Pupil × Bool :=
  if pupsOk l = true ∧ pIx l a < l.length ∧ pIx l b < l.length ∧ pIx l a ≠ pIx l b ∧ pupsOk (swapped l (pIx l a) (pIx l b)) = true then (swapped l (pIx l a) (pIx l b), true) else ([], false)
theorem swapC_no {l : List Pupil} {a b : Int} (h : ¬ (pupsOk l = true ∧ pIx l a < l.length ∧ pIx l b < l.length ∧ pIx l a ≠ pIx l b ∧ pupsOk (swapped l (pIx l a) (pIx l b)) = true)) : swapC l a b = ([], false) := by unfold swapC; rw [if_neg h]
theorem swapC_yes {l : List Pupil} {a b : Int} (h : pupsOk l = true ∧ pIx l a < l.length ∧ pIx l b < l.length ∧ pIx l a ≠ pIx l b ∧ pupsOk (swapped l (pIx l a) (pIx l b)) = true) : swapC l a b = (swapped l (pIx l a) (pIx l b), true) := by unfold swapC; rw [if_pos h]
theorem swapC_le (l : List Pupil) (a b : Int) : (swapC l a b).1.length ≤ 12 := by
  unfold swapC; split
  · rename_i h; have := ((pupsOk_iff l).1 h.1).1; simp only [swapped_len]; exact this
  · simp
/-- placing all: the places 0 .. n - 1. -/
def placeOne (l : List Pupil) (i : Nat) : List Pupil × Int := if clsAt l i ≠ 0 then (l, 0) else match clsFor l i 9 with | [] => (l, 1) | c :: _ => (withC l i c, 0)
def placeTo (l : List Pupil) : Nat → List Pupil × Int
  | 0 => (l, 0)
  | n + 1 => ((placeOne (placeTo l n).1 n).1, (placeTo l n).2 + (placeOne (placeTo l n).1 n).2)
theorem placeOne_len (l : List Pupil) (i : Nat) : (placeOne l i).1.length = l.length := by
  unfold placeOne; split
  · rfl
  · split <;> simp [withC_len]
theorem placeTo_len (l : List Pupil) : ∀ n, (placeTo l n).1.length = l.length
  | 0 => rfl
  | n + 1 => by rw [placeTo, placeOne_len, placeTo_len l n]
theorem clsFor_ok {l : List Pupil} {i n : Nat} {c : Int} (h : c ∈ clsFor l i n) : pupsOk (withC l i c) = true ∧ 1 ≤ c ∧ c ≤ n := by
  unfold clsFor at h
  obtain ⟨k, hk, rfl⟩ := List.mem_map.1 h
  obtain ⟨h1, h2⟩ := List.mem_filter.1 hk
  have := List.mem_range.1 h1
  exact ⟨h2, by omega, by omega⟩
theorem placeOne_ok {l : List Pupil} (h : pupsOk l = true) (i : Nat) : pupsOk (placeOne l i).1 = true := by
  unfold placeOne; split
  · exact h
  · split
    · exact h
    · rename_i c r e
      exact (clsFor_ok (l := l) (i := i) (n := 9) (c := c) (by rw [e]; simp)).1
theorem placeTo_ok {l : List Pupil} (h : pupsOk l = true) : ∀ n, pupsOk (placeTo l n).1 = true
  | 0 => h
  | n + 1 => placeOne_ok (placeTo_ok h n) n
theorem placeOne_bd (l : List Pupil) (i : Nat) : 0 ≤ (placeOne l i).2 ∧ (placeOne l i).2 ≤ 1 := by
  unfold placeOne; split
  · simp
  · split <;> simp
theorem placeTo_bd (l : List Pupil) : ∀ n, 0 ≤ (placeTo l n).2 ∧ (placeTo l n).2 ≤ n
  | 0 => by simp [placeTo]
  | n + 1 => by
      have := placeTo_bd l n
      have := placeOne_bd (placeTo l n).1 n
      rw [placeTo]; simp only; omega
def placeAll (l : List Pupil) : (List Pupil × Int) × Bool := if pupsOk l = true then (placeTo l l.length, true) else (([], 0), false)
theorem placeAll_le (l : List Pupil) : (placeAll l).1.1.length ≤ 12 := by
  unfold placeAll; split
  · rename_i h; have := ((pupsOk_iff l).1 h).1; simp only [placeTo_len]; exact this
  · simp
/-! the pupils with the same names -/
def idsNm (l : List Pupil) (s : ByteArray) : List Int := (l.filter fun p => decide (p.name = s)).map (·.id)
theorem idsNm_take (l : List Pupil) (s : ByteArray) (k : Nat) (h : k < l.length) : idsNm (l.take (k + 1)) s = idsNm (l.take k) s ++ (if l[k].name = s then [l[k].id] else []) := by
  unfold idsNm; rw [List.take_succ_eq_append_getElem h, List.filter_append, List.map_append]
  congr 1
  by_cases e : l[k].name = s <;> simp [e]
theorem idsNm_le (l : List Pupil) (s : ByteArray) (k : Nat) : (idsNm (l.take k) s).length ≤ k := by
  unfold idsNm; rw [List.length_map]
  exact Nat.le_trans (List.length_filter_le _ _) (List.length_take_le _ _)
def newNm (l : List Pupil) (i : Nat) (s : ByteArray) : Bool := (l.take i).all fun p => !decide (p.name = s)
theorem newNm_succ (l : List Pupil) (k : Nat) (h : k < l.length) (s : ByteArray) : newNm l (k + 1) s = (newNm l k s && !decide (l[k].name = s)) := by
  unfold newNm; rw [all_take_succ _ l k h]
def snOne (l : List Pupil) (i : Nat) : List (List Int) := match l[i]? with | none => [] | some p => if newNm l i p.name = true ∧ 1 < (idsNm l p.name).length then [idsNm l p.name] else []
theorem snOne_eq (l : List Pupil) (i : Nat) (h : i < l.length) : snOne l i = if newNm l i l[i].name = true ∧ 1 < (idsNm l l[i].name).length then [idsNm l l[i].name] else [] := by simp [snOne, h]
def snTo (l : List Pupil) (n : Nat) : List (List Int) := (List.range n).flatMap (snOne l)
theorem snTo_succ (l : List Pupil) (n : Nat) : snTo l (n + 1) = snTo l n ++ snOne l n := by simp [snTo, List.range_succ]
theorem snOne_len (l : List Pupil) (i : Nat) : (snOne l i).length ≤ 1 := by
  unfold snOne; split
  · simp
  · split <;> simp
theorem snTo_len (l : List Pupil) : ∀ n, (snTo l n).length ≤ n
  | 0 => by simp [snTo]
  | n + 1 => by
      have := snTo_len l n
      have := snOne_len l n
      rw [snTo_succ, List.length_append]; omega
/-- the first of the numbers of a name. -/
theorem idsNm_head {l : List Pupil} (hok : pupsOk l = true) {i : Nat} (hi : i < l.length) (h : 0 < (idsNm l l[i].name).length) : (idsNm l l[i].name)[0] = l[i].id ↔ newNm l i l[i].name = true := by
  have hsp : l = l.take i ++ l[i] :: l.drop (i + 1) := by
    rw [← List.drop_eq_getElem_cons hi, List.take_append_drop]
  have key : ∀ (a b : List Pupil) (p : Pupil) (h : 0 < (idsNm (a ++ p :: b) p.name).length), (idsNm (a ++ p :: b) p.name)[0] = if h' : 0 < (idsNm a p.name).length then (idsNm a p.name)[0] else p.id := by
    intro a b p h
    have e : idsNm (a ++ p :: b) p.name = idsNm a p.name ++ p.id :: idsNm b p.name := by simp [idsNm]
    simp only [e]
    split
    · rename_i h'; rw [List.getElem_append_left h']
    · rename_i h'; rw [List.getElem_append_right (by omega)]; simp
  constructor
  · intro e
    unfold newNm
    rw [List.all_eq_true]
    intro p hp
    by_cases ep : p.name = l[i].name
    · exfalso
      have hm : p.id ∈ idsNm (l.take i) l[i].name := List.mem_map.2 ⟨p, List.mem_filter.2 ⟨hp, by simp [ep]⟩, rfl⟩
      have h0 : 0 < (idsNm (l.take i) l[i].name).length := List.length_pos_of_mem hm
      have hm0 : (idsNm (l.take i) l[i].name)[0] ∈ idsNm (l.take i) l[i].name := List.getElem_mem _
      obtain ⟨q, hq, hqe⟩ := List.mem_map.1 hm0
      have hq' := (List.mem_filter.1 hq).1
      have k := key (l.take i) (l.drop (i + 1)) l[i] (by rw [← hsp]; exact h)
      rw [dif_pos h0] at k
      have e2 : (idsNm (l.take i) l[i].name)[0] = l[i].id := by
        rw [← k]
        have : ∀ (m : List Pupil) (hm : m = l) (hh : 0 < (idsNm m l[i].name).length), (idsNm m l[i].name)[0] = l[i].id := by
          intro m hm hh; subst hm; exact e
        exact this _ hsp.symm _
      rw [← hqe] at e2
      obtain ⟨j, hj, rfl⟩ := List.getElem_of_mem hq'
      rw [List.length_take] at hj
      rw [List.getElem_take] at e2
      have := pupsOk_id hok (by omega) hi e2
      omega
    · simp [ep]
  · intro e
    unfold newNm at e
    rw [List.all_eq_true] at e
    have h0 : ¬ 0 < (idsNm (l.take i) l[i].name).length := by
      intro h0
      obtain ⟨q, hq, _⟩ := List.mem_map.1 (List.getElem_mem h0)
      have h1 := List.mem_filter.1 hq
      have h2 := e q h1.1
      rw [h1.2] at h2
      cases h2
    have k := key (l.take i) (l.drop (i + 1)) l[i] (by rw [← hsp]; exact h)
    rw [dif_neg h0] at k
    have : ∀ (m : List Pupil) (hm : m = l) (hh : 0 < (idsNm m l[i].name).length) (k : (idsNm m l[i].name)[0] = l[i].id), (idsNm l l[i].name)[0] = l[i].id := by
      intro m hm hh k; subst hm; exact k
    exact this _ hsp.symm _ k
def sameNames (l : List Pupil) : List (List Int) × Bool := if pupsOk l = true then (snTo l l.length, true) else ([], false)
theorem sameNames_yes {l : List Pupil} (h : pupsOk l = true) : sameNames l = (snTo l l.length, true) := by simp [sameNames, h]
theorem sameNames_no {l : List Pupil} (h : pupsOk l = false) : sameNames l = ([], false) := by simp [sameNames, h]
end Go.Proofs.Ytebbihckndjbeaa.M
