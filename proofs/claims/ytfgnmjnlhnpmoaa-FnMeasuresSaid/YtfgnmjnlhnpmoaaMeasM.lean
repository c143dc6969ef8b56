/-
  Plain laws on measures, for the great law: a proper amount has its value, a sum less one part is the other part, parts and what is left make the whole.
-/
import Derived.Test.YtfgnmjnlhnpmoaaProperM
set_option linter.unusedVariables false
namespace Go.Proofs.Ytfgnmjnlhnpmoaa.M
theorem aV_pd : ∀ (l : List Unit) (u : Unit) (v : Int), aV (u :: l) (pd (u :: l) v) = v * u.size
  | [], u, v => by simp [pd, aV]
  | x :: l, u, v => by
      rw [pd, aV, aV_pd l x (v / x.size), Int.ediv_mul_add_emod]
theorem aV_pd_sys {l : List Unit} (h : sysOk l = true) (v : Int) : aV l (pd l v) = v := by
  have hl := ((sysOk_iff l).1 h).1
  have u := sys_at _ ((sysOk_iff l).1 h).2 0 (by omega) (by omega)
  simp only [uOk, Bool.and_eq_true, if_pos] at u
  have s1 := of_decide_eq_true u.2
  match l, hl, s1 with
  | x :: l, _, s1 => rw [aV_pd, show x.size = 1 from s1, Int.mul_one]
theorem proper_value {l : List Unit} {v : Int} (h : sysOk l = true) (ok : (proper l v).2 = true) : 0 ≤ v ∧ amtOk l (proper l v).1 = true ∧ aV l (proper l v).1 = v := by
  by_cases hy : 0 ≤ v ∧ amtOk l (pd l v) = true
  · rw [proper_yes hy.1 hy.2]; exact ⟨hy.1, hy.2, aV_pd_sys h v⟩
  · unfold proper at ok; rw [if_neg hy] at ok; cases ok
theorem pd_mono : ∀ (l : List Unit) (v v' : Int), (∀ u ∈ l.drop 1, 1 ≤ u.size ∧ u.size ≤ 100) → 0 ≤ v' → v' ≤ v → (∀ x ∈ pd l v, 0 ≤ x ∧ x ≤ 9999) → ∀ x ∈ pd l v', 0 ≤ x ∧ x ≤ 9999
  | [], v, v', _, _, _, _ => by simp [pd]
  | [_], v, v', _, h0, h1, h2 => by
      intro x hx
      rw [List.mem_singleton.1 hx]
      have := h2 v (by simp [pd])
      omega
  | _ :: u :: l, v, v', hs, h0, h1, h2 => by
      have hu := hs u (by simp)
      intro x hx
      rw [pd] at hx
      rcases List.mem_cons.1 hx with rfl | hx
      · have a := Int.emod_nonneg v' (show u.size ≠ 0 by omega)
        have b := Int.emod_lt_of_pos v' (show 0 < u.size by omega)
        omega
      · exact pd_mono (u :: l) (v / u.size) (v' / u.size) (fun y hy => hs y (by simp only [List.drop_succ_cons, List.drop_zero] at hy ⊢; exact List.mem_cons_of_mem _ hy)) (Int.ediv_nonneg h0 (by omega)) (Int.ediv_le_ediv (by omega) h1) (fun y hy => h2 y (by rw [pd]; exact List.mem_cons_of_mem _ hy)) x hx
theorem proper_mono {l : List Unit} {v v' : Int} (h : sysOk l = true) (h0 : 0 ≤ v') (h1 : v' ≤ v) (ok : (proper l v).2 = true) : proper l v' = (pd l v', true) := by
  by_cases hy : 0 ≤ v ∧ amtOk l (pd l v) = true
  · refine proper_yes h0 ((amtOk_iff _ _).2 ⟨h, pd_len _ _, ?_⟩)
    refine pd_mono l v v' (fun u hu => ?_) h0 h1 ((amtOk_iff _ _).1 hy.2).2.2
    obtain ⟨i, hi, rfl⟩ := List.getElem_of_mem (List.mem_of_mem_drop hu)
    exact sysOk_size h i hi
  · unfold proper at ok; rw [if_neg hy] at ok; cases ok
theorem sumOf_true {l : List Unit} {a b : List Int} (ok : (sumOf l a b).2 = true) : amtOk l a = true ∧ amtOk l b = true ∧ sumOf l a b = proper l (aV l a + aV l b) := by
  by_cases hy : amtOk l a = true ∧ amtOk l b = true
  · exact ⟨hy.1, hy.2, by simp [sumOf, hy.1, hy.2]⟩
  · unfold sumOf at ok; rw [if_neg hy] at ok; cases ok
/-- a sum less one part is the other part. -/
theorem sum_less {l : List Unit} {a b : List Int} (ok : (sumOf l a b).2 = true) :
    (diffOf l (sumOf l a b).1 b).2 = true ∧ (valueIn l a).2 = true ∧ (valueIn l (diffOf l (sumOf l a b).1 b).1).2 = true ∧ (valueIn l a).1 = (valueIn l (diffOf l (sumOf l a b).1 b).1).1 := by
  obtain ⟨h1, h2, h3⟩ := sumOf_true ok
  have hs := ((amtOk_iff l a).1 h1).1
  rw [h3] at ok ⊢
  obtain ⟨p1, p2, p3⟩ := proper_value hs ok
  have ta := aV_total h1
  have tb := aV_total h2
  have hd : diffOf l (proper l (aV l a + aV l b)).1 b = (pd l (aV l a), true) := by
    have e : diffOf l (proper l (aV l a + aV l b)).1 b = proper l (aV l (proper l (aV l a + aV l b)).1 - aV l b) := by simp [diffOf, h2, p2]
    rw [e, p3, show aV l a + aV l b - aV l b = aV l a by omega]
    exact proper_mono hs ta.1 (by omega) ok
  have ho : amtOk l (pd l (aV l a)) = true := by
    have := proper_mono hs ta.1 (show aV l a ≤ aV l a + aV l b by omega) ok
    by_cases hy : 0 ≤ aV l a ∧ amtOk l (pd l (aV l a)) = true
    · exact hy.2
    · unfold proper at this; rw [if_neg hy] at this; exact absurd (congrArg Prod.snd this) (by simp)
  rw [hd, valueIn_yes h1, valueIn_yes ho]
  exact ⟨rfl, rfl, rfl, (aV_pd_sys hs _).symm⟩
def partOf (l : List Unit) (a : List Int) (n : Int) : (List Int × List Int) × Bool :=
  if amtOk l a = true ∧ inR n 1 1000 = true ∧ (proper l (aV l a / n)).2 = true ∧ (proper l (aV l a % n)).2 = true then (((proper l (aV l a / n)).1, (proper l (aV l a % n)).1), true) else (([], []), false)
theorem partOf_yes {l : List Unit} {a : List Int} {n : Int} (h : amtOk l a = true ∧ inR n 1 1000 = true ∧ (proper l (aV l a / n)).2 = true ∧ (proper l (aV l a % n)).2 = true) : partOf l a n = (((proper l (aV l a / n)).1, (proper l (aV l a % n)).1), true) := by unfold partOf; rw [if_pos h]
theorem partOf_no {l : List Unit} {a : List Int} {n : Int} (h : ¬ (amtOk l a = true ∧ inR n 1 1000 = true ∧ (proper l (aV l a / n)).2 = true ∧ (proper l (aV l a % n)).2 = true)) : partOf l a n = (([], []), false) := by unfold partOf; rw [if_neg h]
theorem partOf_le (l : List Unit) (a : List Int) (n : Int) (h : l.length ≤ 1048576) : (partOf l a n).1.1.length ≤ 1048576 ∧ (partOf l a n).1.2.length ≤ 1048576 := by
  unfold partOf; split
  · exact ⟨proper_le _ _ h, proper_le _ _ h⟩
  · simp
/-- parts and what is left make the whole. -/
theorem part_whole {l : List Unit} {a : List Int} {n : Int} (ok : (partOf l a n).2 = true) :
    (valueIn l a).2 = true ∧ (valueIn l (partOf l a n).1.1).2 = true ∧ (valueIn l (partOf l a n).1.2).2 = true ∧ (valueIn l (partOf l a n).1.1).1 * n + (valueIn l (partOf l a n).1.2).1 = (valueIn l a).1 ∧ 0 ≤ (valueIn l (partOf l a n).1.2).1 ∧ (valueIn l (partOf l a n).1.2).1 < n ∧ (1 ≤ n ∧ n ≤ 1000) ∧ (0 ≤ (valueIn l (partOf l a n).1.1).1 ∧ (valueIn l (partOf l a n).1.1).1 ≤ 102000000000000) := by
  by_cases hy : amtOk l a = true ∧ inR n 1 1000 = true ∧ (proper l (aV l a / n)).2 = true ∧ (proper l (aV l a % n)).2 = true
  · rw [partOf_yes hy]
    obtain ⟨h1, h2, h3, h4⟩ := hy
    have hs := ((amtOk_iff l a).1 h1).1
    obtain ⟨p1, p2, p3⟩ := proper_value hs h3
    obtain ⟨q1, q2, q3⟩ := proper_value hs h4
    have hn := inR_iff.1 h2
    have tp := aV_total p2
    simp only
    rw [valueIn_yes h1, valueIn_yes p2, valueIn_yes q2]
    simp only
    rw [p3, q3]
    rw [p3] at tp
    exact ⟨trivial, trivial, trivial, Int.ediv_mul_add_emod _ _, q1, Int.emod_lt_of_pos _ (by omega), hn, tp⟩
  · rw [partOf_no hy] at ok; cases ok
/-- a proper amount has its value. -/
theorem properOf_value {l : List Unit} {v : Int} (ok : (properOf l v).2 = true) : (valueIn l (properOf l v).1) = (v, true) ∧ amtOk l (properOf l v).1 = true := by
  by_cases hs : sysOk l = true
  · have e : properOf l v = proper l v := by simp [properOf, hs]
    rw [e] at ok ⊢
    obtain ⟨p1, p2, p3⟩ := proper_value hs ok
    rw [valueIn_yes p2, p3]; exact ⟨rfl, p2⟩
  · unfold properOf at ok; rw [if_neg hs] at ok; cases ok
end Go.Proofs.Ytfgnmjnlhnpmoaa.M
