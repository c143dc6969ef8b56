/-
  Plain laws on lists of pupils, for the great laws: to which classes a pupil can go, swapping twice, placing twice.
-/
import Derived.Test.YtebbihckndjbeaaPupilM
set_option linter.unusedVariables false
namespace Go.Proofs.Ytebbihckndjbeaa.M
theorem mem_clsFor {l : List Pupil} {i n : Nat} {c : Int} : c ∈ clsFor l i n ↔ 1 ≤ c ∧ c ≤ n ∧ pupsOk (withC l i c) = true := by
  constructor
  · intro h; obtain ⟨h1, h2, h3⟩ := clsFor_ok h; exact ⟨h2, h3, h1⟩
  · rintro ⟨h1, h2, h3⟩
    refine List.mem_map.2 ⟨(c - 1).toNat, List.mem_filter.2 ⟨List.mem_range.2 (by omega), ?_⟩, by omega⟩
    rw [show (((c - 1).toNat : Nat) : Int) + 1 = c by omega]; exact h3
theorem putIn_ok {l : List Pupil} {id c : Int} (h : pupsOk l = true) (hix : pIx l id < l.length) (h1 : 1 ≤ c) (h9 : c ≤ 9) : (putIn l id c).2 = decide (c ∈ (classesFor l id).1) := by
  rw [classesFor_yes h hix]
  cases hw : pupsOk (withC l (pIx l id) c) with
  | true => rw [putIn_yes ⟨h, hix, hw⟩]; exact (decide_eq_true (mem_clsFor.2 ⟨h1, by omega, hw⟩)).symm
  | false => rw [putIn_no (by simp [hw])]; exact (decide_eq_false (fun hm => by have := (mem_clsFor.1 hm).2.2; rw [hw] at this; cases this)).symm
theorem inClass_put {l : List Pupil} {id c : Int} (h1 : 1 ≤ c) (h9 : c ≤ 9) (h : (putIn l id c).2 = true) : (inClass (putIn l id c).1 c).2 = true ∧ id ∈ (inClass (putIn l id c).1 c).1 := by
  by_cases hy : pupsOk l = true ∧ pIx l id < l.length ∧ pupsOk (withC l (pIx l id) c) = true
  · rw [putIn_yes hy]
    simp only
    rw [inClass_yes hy.2.2 (inR_iff.2 ⟨by omega, h9⟩)]
    refine ⟨rfl, List.mem_map.2 ⟨l[pIx l id].inCls c, List.mem_filter.2 ⟨?_, by simp [Pupil.inCls]⟩, pIx_at hy.2.1⟩⟩
    rw [withC_eq l _ hy.2.1]
    exact List.mem_iff_getElem.2 ⟨pIx l id, by simpa using hy.2.1, by rw [List.getElem_set_self]⟩
  · rw [putIn_no hy] at h; cases h
theorem pIx_congr {l m : List Pupil} (h : l.map (·.id) = m.map (·.id)) (id : Int) : pIx l id = pIx m id := by
  have e : ∀ x : List Pupil, pIx x id = (x.map (·.id)).findIdx fun y => decide (y = id) := fun x => by rw [List.findIdx_map]; rfl
  rw [e, e, h]
theorem ids_withC (l : List Pupil) (i : Nat) (c : Int) : (withC l i c).map (·.id) = l.map (·.id) := by
  unfold withC
  split
  · rfl
  · rename_i p hp
    obtain ⟨hi, rfl⟩ := List.getElem?_eq_some_iff.1 hp
    rw [List.map_set]
    exact List.ext_getElem (by simp) (fun k h1 h2 => by
      rw [List.getElem_set]
      split
      · rename_i e; subst e; simp [Pupil.inCls]
      · rfl)
theorem ids_swapped (l : List Pupil) (i k : Nat) : (swapped l i k).map (·.id) = l.map (·.id) := by unfold swapped; rw [ids_withC, ids_withC]
theorem withC_at (l : List Pupil) (i k : Nat) (c : Int) (hk : k < (withC l i c).length) (hk' : k < l.length) : (withC l i c)[k] = if i = k then l[k].inCls c else l[k] := by
  by_cases hi : i < l.length
  · have e := withC_eq l i hi c
    simp only [e]
    rw [List.getElem_set]
    split
    · rename_i e; subst e; rfl
    · rfl
  · have e : withC l i c = l := by unfold withC; rw [List.getElem?_eq_none (by omega)]
    simp only [e]
    rw [if_neg (by omega)]
theorem swapped_at (l : List Pupil) {i k : Nat} (hi : i < l.length) (hk : k < l.length) (hne : i ≠ k) (j : Nat) (hj : j < (swapped l i k).length) (hj' : j < l.length) : (swapped l i k)[j] = if j = i then l[j].inCls l[k].cls else if j = k then l[j].inCls l[i].cls else l[j] := by
  unfold swapped at hj ⊢
  rw [withC_at _ _ _ _ hj (by rw [withC_len]; exact hj'), withC_at _ _ _ _ (by rw [withC_len]; exact hj') hj', clsAt_eq l k hk, clsAt_eq l i hi]
  by_cases e1 : j = i
  · subst e1; rw [if_neg (by omega), if_pos rfl, if_pos rfl]
  · by_cases e2 : j = k
    · subst e2; rw [if_pos rfl, if_neg (by omega), if_neg e1, if_pos rfl]
    · rw [if_neg (by omega), if_neg (by omega), if_neg e1, if_neg e2]
theorem swapped_back (l : List Pupil) {i k : Nat} (hi : i < l.length) (hk : k < l.length) (hne : i ≠ k) : swapped (swapped l i k) i k = l := by
  have hL := swapped_len l i k
  refine List.ext_getElem (by rw [swapped_len, swapped_len]) (fun j h1 h2 => ?_)
  rw [swapped_at _ (by rw [hL]; exact hi) (by rw [hL]; exact hk) hne j h1 (by rw [hL]; exact h2)]
  rw [swapped_at l hi hk hne j (by rw [hL]; exact h2) h2, swapped_at l hi hk hne i (by rw [hL]; exact hi) hi, swapped_at l hi hk hne k (by rw [hL]; exact hk) hk]
  have hne' : k ≠ i := fun e => hne e.symm
  by_cases e1 : j = i
  · subst e1; simp [Pupil.inCls, hne']
  · by_cases e2 : j = k
    · subst e2; simp [e1, Pupil.inCls]
    · simp [e1, e2]
theorem swapC_back {l : List Pupil} {a b : Int} (h : (swapC l a b).2 = true) : swapC (swapC l a b).1 a b = (l, true) := by
  by_cases hy : pupsOk l = true ∧ pIx l a < l.length ∧ pIx l b < l.length ∧ pIx l a ≠ pIx l b ∧ pupsOk (swapped l (pIx l a) (pIx l b)) = true
  · rw [swapC_yes hy]
    simp only
    obtain ⟨h1, h2, h3, h4, h5⟩ := hy
    have ea := pIx_congr (ids_swapped l (pIx l a) (pIx l b)) a
    have eb := pIx_congr (ids_swapped l (pIx l a) (pIx l b)) b
    have hL := swapped_len l (pIx l a) (pIx l b)
    have hB := swapped_back l h2 h3 h4
    rw [swapC_yes ⟨h5, by rw [ea, hL]; exact h2, by rw [eb, hL]; exact h3, by rw [ea, eb]; exact h4, by rw [ea, eb, hB]; exact h1⟩, ea, eb, hB]
  · rw [swapC_no hy] at h; cases h
/-! the fold over a class grows with the class -/
def cLe (s t : Int × Int × Int) : Prop := s.1 ≤ t.1 ∧ t.2.1 ≤ s.2.1 ∧ s.2.2 ≤ t.2.2
theorem cLe_refl (s : Int × Int × Int) : cLe s s := ⟨Int.le_refl _, Int.le_refl _, Int.le_refl _⟩
theorem cLe_step {s t : Int × Int × Int} (h : cLe s t) (c : Int) (p : Pupil) : cLe (clsStep c s p) (clsStep c t p) := by
  obtain ⟨h1, h2, h3⟩ := h
  unfold clsStep cLe
  split
  · simp only; omega
  · exact ⟨h1, h2, h3⟩
theorem cLe_more (s : Int × Int × Int) (c : Int) (p : Pupil) : cLe s (clsStep c s p) := by
  unfold clsStep cLe
  split
  · simp only; omega
  · exact ⟨Int.le_refl _, Int.le_refl _, Int.le_refl _⟩
theorem cLe_trans {a b c : Int × Int × Int} (h : cLe a b) (k : cLe b c) : cLe a c := by
  unfold cLe at h k ⊢; omega
theorem cLe_fold {s t : Int × Int × Int} (c : Int) (l : List Pupil) (h : cLe s t) : cLe (l.foldl (clsStep c) s) (l.foldl (clsStep c) t) := by
  induction l generalizing s t with
  | nil => exact h
  | cons p l ih => exact ih (cLe_step h c p)
theorem cLe_set (c : Int) (hc : c ≠ 0) (d : Int) : ∀ (l : List Pupil) (j : Nat) (s : Int × Int × Int), clsAt l j = 0 → cLe (l.foldl (clsStep c) s) ((withC l j d).foldl (clsStep c) s)
  | [], j, s, h => cLe_refl _
  | p :: l, 0, s, h => by
      have e : withC (p :: l) 0 d = p.inCls d :: l := rfl
      have hp : p.cls = 0 := h
      rw [e, List.foldl_cons, List.foldl_cons]
      refine cLe_fold c l ?_
      have e1 : clsStep c s p = s := by unfold clsStep; rw [if_neg (by omega)]
      rw [e1]
      exact cLe_more _ _ _
  | p :: l, j + 1, s, h => by
      have e : withC (p :: l) (j + 1) d = p :: withC l j d := by
        unfold withC
        rw [List.getElem?_cons_succ]
        split <;> rfl
      rw [e, List.foldl_cons, List.foldl_cons]
      exact cLe_set c hc d l j _ (by simpa [clsAt] using h)
/-- with a pupil less in a class, a valid list stays valid. -/
theorem pupsOk_less {l : List Pupil} {j : Nat} {d : Int} (h0 : clsAt l j = 0) (h : pupsOk (withC l j d) = true) : pupsOk l = true := by
  by_cases hj : j < l.length
  · obtain ⟨a1, a2, a3⟩ := (pupsOk_iff _).1 h
    rw [withC_len] at a1 a2
    have hat := fun k (hk : k < l.length) => withC_at l j k d (by rw [withC_len]; exact hk) hk
    refine (pupsOk_iff _).2 ⟨a1, ?_, ?_⟩
    · have key : ∀ n, n ≤ l.length → pupsUpTo (withC l j d) n = true → pupsUpTo l n = true := by
        intro n
        induction n with
        | zero => intro _ _; rfl
        | succ n ih =>
          intro hn hx
          rw [pupsUpTo_succ, Bool.and_eq_true] at hx ⊢
          refine ⟨ih (by omega) hx.1, ?_⟩
          have hid : ∀ k (hk : k < l.length), ((withC l j d)[k]'(by rw [withC_len]; exact hk)).id = l[k].id := fun k hk => by
            rw [hat k hk]; split <;> rfl
          have hok : ∀ k (hk : k < l.length), ((withC l j d)[k]'(by rw [withC_len]; exact hk)).ok = true → l[k].ok = true := fun k hk hx => by
            rw [hat k hk] at hx
            split at hx
            · rename_i e; subst e
              rw [Pupil.ok_iff] at hx ⊢
              rw [clsAt_eq l j hk] at h0
              simp only [Pupil.inCls] at hx
              exact ⟨hx.1, hx.2.1, hx.2.2.1, by omega, hx.2.2.2.2⟩
            · exact hx
          have h2 := hx.2
          cases n with
          | zero =>
            rw [pupAt_zero _ (by rw [withC_len]; omega)] at h2
            rw [pupAt_zero _ (by omega)]
            exact hok 0 (by omega) h2
          | succ m =>
            rw [pupAt_succ _ _ (by rw [withC_len]; omega), Bool.and_eq_true] at h2
            rw [pupAt_succ _ _ (by omega), Bool.and_eq_true]
            refine ⟨hok _ (by omega) h2.1, ?_⟩
            have h3 := of_decide_eq_true h2.2
            rw [hid m (by omega), hid (m + 1) (by omega)] at h3
            exact decide_eq_true h3
      exact key _ (Nat.le_refl _) a2
    · have key : ∀ n, n ≤ 9 → clsUpTo (withC l j d) n = true → clsUpTo l n = true := by
        intro n
        induction n with
        | zero => intro _ _; rfl
        | succ n ih =>
          intro hn hx
          rw [clsUpTo_succ, Bool.and_eq_true] at hx ⊢
          refine ⟨ih (by omega) hx.1, ?_⟩
          have h2 := of_decide_eq_true hx.2
          have hle := cLe_set ((n : Int) + 1) (by omega) d l j (0, 10, 0) h0
          unfold cLe at hle
          refine decide_eq_true ?_
          unfold clsAcc at h2 ⊢
          omega
      exact key 9 (by omega) a3
  · unfold withC at h; rw [List.getElem?_eq_none (by omega)] at h; exact h
theorem withC_comm (l : List Pupil) {i j : Nat} (h : i ≠ j) (c d : Int) : withC (withC l i c) j d = withC (withC l j d) i c := by
  refine List.ext_getElem (by simp [withC_len]) (fun k h1 h2 => ?_)
  have hk : k < l.length := by rw [withC_len, withC_len] at h1; exact h1
  rw [withC_at _ _ _ _ h1 (by rw [withC_len]; exact hk), withC_at _ _ _ _ (by rw [withC_len]; exact hk) hk, withC_at _ _ _ _ h2 (by rw [withC_len]; exact hk), withC_at _ _ _ _ (by rw [withC_len]; exact hk) hk]
  have h' : j ≠ i := fun e => h e.symm
  by_cases e1 : i = k
  · subst e1; simp [h']
  · by_cases e2 : j = k
    · subst e2; simp [e1]
    · simp [e1, e2]
theorem clsAt_withC (l : List Pupil) (i j : Nat) (c : Int) (hj : j < l.length) : clsAt (withC l i c) j = if i = j then c else clsAt l j := by
  rw [clsAt_eq _ _ (by rw [withC_len]; exact hj), withC_at _ _ _ _ (by rw [withC_len]; exact hj) hj, clsAt_eq _ _ hj]
  split
  · rfl
  · rfl
/-- a pupil for whom there was no class finds none when others were placed. -/
theorem stuck_more {l : List Pupil} {i j : Nat} {d : Int} (h : i ≠ j) (hj : j < l.length) (h0 : clsAt l j = 0) (hs : clsFor l i 9 = []) : clsFor (withC l j d) i 9 = [] := by
  rw [List.eq_nil_iff_forall_not_mem] at hs ⊢
  intro c hc
  obtain ⟨h1, h2, h3⟩ := mem_clsFor.1 hc
  refine hs c (mem_clsFor.2 ⟨h1, h2, ?_⟩)
  rw [withC_comm l (fun e => h e.symm) d c] at h3
  exact pupsOk_less (j := j) (d := d) (by rw [clsAt_withC _ _ _ _ hj, if_neg h]; exact h0) h3
theorem placeOne_cls {l : List Pupil} {n : Nat} (h : clsAt l n ≠ 0) : placeOne l n = (l, 0) := by unfold placeOne; rw [if_pos h]
theorem placeOne_nil {l : List Pupil} {n : Nat} (h : clsAt l n = 0) (h' : clsFor l n 9 = []) : placeOne l n = (l, 1) := by
  unfold placeOne; rw [if_neg (by omega)]; split
  · rfl
  · rename_i e; rw [h'] at e; cases e
theorem placeOne_cons {l : List Pupil} {n : Nat} {c : Int} {r : List Int} (h : clsAt l n = 0) (h' : clsFor l n 9 = c :: r) : placeOne l n = (withC l n c, 0) := by
  unfold placeOne; rw [if_neg (by omega)]; split
  · rename_i e; rw [h'] at e; cases e
  · rename_i e; rw [h'] at e; injection e with e1 e2; subst e1; rfl
/-- how many of the first n have no class. -/
def cz (l : List Pupil) : Nat → Int
  | 0 => 0
  | n + 1 => cz l n + if clsAt l n = 0 then 1 else 0
theorem cz_withC (l : List Pupil) (j : Nat) (d : Int) : ∀ n, n ≤ j → n ≤ l.length → cz (withC l j d) n = cz l n
  | 0, _, _ => rfl
  | n + 1, h, h' => by rw [cz, cz, cz_withC l j d n (by omega) (by omega), clsAt_withC l j n d (by omega), if_neg (show ¬ j = n by omega)]
theorem cz_idsIn (l : List Pupil) : ∀ n, n ≤ l.length → cz l n = (idsIn (l.take n) 0).length
  | 0, _ => by simp [cz, idsIn]
  | n + 1, h => by
      rw [cz, cz_idsIn l n (by omega), idsIn_take l 0 n (by omega), clsAt_eq l n (by omega), List.length_append]
      split <;> simp
/-- after n places: the count, and that nobody of these without a class can be placed. -/
theorem placeTo_inv {l : List Pupil} : ∀ n, n ≤ l.length → (placeTo l n).2 = cz (placeTo l n).1 n ∧ (∀ i, i < n → clsAt (placeTo l n).1 i = 0 → clsFor (placeTo l n).1 i 9 = [])
  | 0, _ => ⟨rfl, fun i hi => absurd hi (Nat.not_lt_zero _)⟩
  | n + 1, h => by
      obtain ⟨ih1, ih2⟩ := placeTo_inv (l := l) n (by omega)
      have hL := placeTo_len l n
      rw [placeTo]
      generalize placeTo l n = P at ih1 ih2 hL
      obtain ⟨m, q⟩ := P
      simp only at ih1 ih2 hL ⊢
      by_cases h0 : clsAt m n = 0
      · cases hc : clsFor m n 9 with
        | nil =>
          rw [placeOne_nil h0 hc]
          refine ⟨?_, fun i hi hi0 => ?_⟩
          · rw [cz, if_pos h0, ih1]
          · by_cases e : i = n
            · subst e; exact hc
            · exact ih2 i (by omega) hi0
        | cons c r =>
          rw [placeOne_cons h0 hc]
          have hcc := (mem_clsFor (l := m) (i := n) (n := 9) (c := c)).1 (by rw [hc]; simp)
          refine ⟨?_, fun i hi hi0 => ?_⟩
          · rw [cz, clsAt_withC m n n c (by omega), if_pos rfl, if_neg (by omega), cz_withC m n c n (Nat.le_refl _) (by omega), ih1]
          · rw [clsAt_withC m n i c (by omega)] at hi0
            by_cases e : n = i
            · rw [if_pos e] at hi0; omega
            · rw [if_neg e] at hi0
              exact stuck_more (fun e' => e e'.symm) (by omega) h0 (ih2 i (by omega) hi0)
      · rw [placeOne_cls h0]
        refine ⟨?_, fun i hi hi0 => ?_⟩
        · rw [cz, if_neg h0, ih1]
        · by_cases e : i = n
          · subst e; exact absurd hi0 h0
          · exact ih2 i (by omega) hi0
theorem placeTo_stay {m : List Pupil} (hs : ∀ i, i < m.length → clsAt m i = 0 → clsFor m i 9 = []) : ∀ n, n ≤ m.length → placeTo m n = (m, cz m n)
  | 0, _ => rfl
  | n + 1, h => by
      rw [placeTo, placeTo_stay hs n (by omega)]
      simp only
      by_cases h0 : clsAt m n = 0
      · rw [placeOne_nil h0 (hs n (by omega) h0), cz, if_pos h0]
      · rw [placeOne_cls h0, cz, if_neg h0]
theorem placeAll_yes {l : List Pupil} (h : pupsOk l = true) : placeAll l = (placeTo l l.length, true) := by simp [placeAll, h]
theorem placeAll_no {l : List Pupil} (h : pupsOk l = false) : placeAll l = (([], 0), false) := by simp [placeAll, h]
/-- placing all leaves as many without a class as told, and placing all again is no change. -/
theorem placeAll_again {l : List Pupil} (h : pupsOk l = true) : pupsOk (placeAll l).1.1 = true ∧ (inClass (placeAll l).1.1 0).2 = true ∧ ((inClass (placeAll l).1.1 0).1.length : Int) = (placeAll l).1.2 ∧ placeAll (placeAll l).1.1 = placeAll l := by
  rw [placeAll_yes h]
  have hk := placeTo_ok h l.length
  have hL := placeTo_len l l.length
  obtain ⟨h1, h2⟩ := placeTo_inv (l := l) l.length (Nat.le_refl _)
  generalize placeTo l l.length = P at *
  obtain ⟨m, q⟩ := P
  simp only at *
  have hc := cz_idsIn m l.length (by omega)
  rw [List.take_of_length_le (by omega)] at hc
  refine ⟨hk, ?_, ?_, ?_⟩
  · rw [inClass_yes hk (by decide)]
  · rw [inClass_yes hk (by decide)]; simp only; omega
  · rw [placeAll_yes hk, hL, placeTo_stay (by rw [hL]; exact h2) _ (by omega), h1]
/-- a raised pupil has one level more. -/
theorem raise_level {l : List Pupil} {id : Int} (h : (raise l id).2 = true) {i : Nat} (hi : i < l.length) (hi' : i < (raise l id).1.length) (hid : l[i].id = id) : (raise l id).1[i].level = l[i].level + 1 := by
  by_cases hy : pupsOk l = true ∧ pIx l id < l.length ∧ lvlAt l (pIx l id) ≠ 10
  · have e : pIx l id = i := by rw [← hid]; exact pIx_self hy.1 hi
    have er : (raise l id).1 = raised l i := by rw [raise_yes hy, e]
    have key : ∀ (m : List Pupil) (hm : m = raised l i) (hk : i < m.length), m[i].level = l[i].level + 1 := by
      intro m hm hk
      subst hm
      unfold raised at hk ⊢
      have hu : i < (upAt l i).length := by rw [upAt_len]; exact hi
      have eu : (upAt l i)[i] = l[i].up := by simp only [upAt_eq l i hi]; rw [List.getElem_set_self]
      split
      · rw [eu]; rfl
      · rw [withC_at _ _ _ _ (by rw [withC_len]; exact hu) hu, if_pos rfl, eu]; rfl
    exact key _ er hi'
  · rw [raise_no hy] at h; cases h
theorem oldBest_none (l : List Pupil) (c : Int) : ∀ n, n ≤ l.length → (0 ≤ oldBest l c n ↔ (lvAcc (l.take n) c).2 ≠ 0)
  | 0, _ => by simp [oldBest, lvAcc]
  | n + 1, h => by
      have ih := oldBest_none l c n (by omega)
      have hb : 0 ≤ (lvAcc (l.take n) c).2 := by
        have key : ∀ (x : List Pupil) (s : Int × Int), 0 ≤ s.2 → 0 ≤ (x.foldl (lvStep c) s).2 := by
          intro x
          induction x with
          | nil => intro s hs; exact hs
          | cons p x ihx =>
            intro s hs
            rw [List.foldl_cons]
            refine ihx _ ?_
            unfold lvStep; split
            · simp only; omega
            · exact hs
        exact key _ _ (by simp)
      rw [oldBest_succ l c n (by omega), lvAcc_take l c n (by omega)]
      unfold lvStep
      by_cases e : l[n].cls = c
      · rw [if_pos e]
        constructor
        · intro _; simp only; omega
        · intro _; split
          · omega
          · rename_i hx
            have : ¬ (oldBest l c n < 0) := fun hlt => hx ⟨e, .inl hlt⟩
            omega
      · rw [if_neg e, if_neg (fun hx => e hx.1)]; exact ih
theorem oldBest_cls (l : List Pupil) (c : Int) : ∀ n, n ≤ l.length → 0 ≤ oldBest l c n → ∃ k : Nat, ∃ hk : k < l.length, oldBest l c n = k ∧ l[k].cls = c
  | 0, _, h => by simp [oldBest] at h
  | n + 1, hn, h => by
      rw [oldBest_succ l c n (by omega)] at h ⊢
      split
      · rename_i hx; exact ⟨n, by omega, rfl, hx.1⟩
      · rename_i hx
        rw [if_neg hx] at h
        exact oldBest_cls l c n (by omega) h
theorem meanLv_ok (l : List Pupil) (c : Int) : (meanLv l c).2 = (oldest l c).2 := by
  have e := oldBest_none l c l.length (Nat.le_refl _)
  rw [List.take_length] at e
  unfold meanLv oldest
  by_cases h : pupsOk l = true ∧ inR c 0 9 = true ∧ (lvAcc l c).2 ≠ 0
  · rw [if_pos h, if_pos ⟨h.1, h.2.1, e.2 h.2.2⟩]
  · rw [if_neg h, if_neg (fun h' => h ⟨h'.1, h'.2.1, e.1 h'.2.2⟩)]
theorem oldest_in {l : List Pupil} {c : Int} (h : (oldest l c).2 = true) : (inClass l c).2 = true ∧ (oldest l c).1 ∈ (inClass l c).1 := by
  by_cases hy : pupsOk l = true ∧ inR c 0 9 = true ∧ 0 ≤ oldBest l c l.length
  · rw [oldest_yes hy, inClass_yes hy.1 hy.2.1]
    obtain ⟨k, hk, e, hc⟩ := oldBest_cls l c _ (Nat.le_refl _) hy.2.2
    refine ⟨rfl, ?_⟩
    simp only
    rw [e, idAt_eq l k hk]
    exact List.mem_map.2 ⟨l[k], List.mem_filter.2 ⟨List.getElem_mem _, by simp [hc]⟩, rfl⟩
  · rw [oldest_no hy] at h; cases h
end Go.Proofs.Ytebbihckndjbeaa.M
