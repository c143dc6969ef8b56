/-
  Plain laws on amounts: an amount's text.
-/
import Derived.Test.YtfgnmjnlhnpmoaaAmountF
import Derived.Test.YtfgnmjnlhnpmoaaJoinM
set_option linter.unusedVariables false
namespace Go.Proofs.Ytfgnmjnlhnpmoaa.M
def amtOne (u : Unit) (x : Int) : ByteArray := txt x ++ (⟨#[32]⟩ ++ u.name)
/-- from the top down. -/
def amtParts : List Unit → List Int → List ByteArray
  | u :: l, x :: k => amtParts l k ++ (if x = 0 then [] else [amtOne u x])
  | _, _ => []
theorem amtParts_drop (l : List Unit) (k : List Int) (j : Nat) (h : j < l.length) (h' : j < k.length) : amtParts (l.drop j) (k.drop j) = amtParts (l.drop (j + 1)) (k.drop (j + 1)) ++ (if k[j] = 0 then [] else [amtOne l[j] k[j]]) := by
  rw [List.drop_eq_getElem_cons h, List.drop_eq_getElem_cons h']; rfl
theorem amtParts_end (l : List Unit) (k : List Int) : amtParts (l.drop l.length) (k.drop l.length) = [] := by rw [List.drop_length]; rfl
theorem sys_name {l : List Unit} (h : sysOk l = true) (i : Nat) (hi : i < l.length) : 1 ≤ l[i].name.size ∧ l[i].name.size ≤ 10 := by
  have := sys_at _ ((sysOk_iff l).1 h).2 i hi hi
  simp only [uOk, Bool.and_eq_true, word, inR_iff] at this
  omega
theorem txt4 {n : Int} (h0 : 0 ≤ n) (h1 : n ≤ 9999) : 1 ≤ (txt n).size ∧ (txt n).size ≤ 4 := by
  rw [txt_nn h0]
  exact ⟨tx_pos _, tx_size 3 _ (by omega)⟩
theorem amtOne_size {l : List Unit} {k : List Int} (h : amtOk l k = true) (j : Nat) (hj : j < l.length) (hj' : j < k.length) : 1 ≤ (amtOne l[j] k[j]).size ∧ (amtOne l[j] k[j]).size ≤ 15 := by
  have h0 : sysOk l = true ∧ k.length = l.length ∧ ∀ x ∈ k, 0 ≤ x ∧ x ≤ 9999 := by
    simpa [amtOk, inR_iff, and_assoc] using h
  have h1 := sys_name h0.1 j hj
  have hx := h0.2.2 k[j] (List.getElem_mem _)
  have h2 := txt4 hx.1 hx.2
  have h3 : (⟨#[32]⟩ : ByteArray).size = 1 := rfl
  simp only [amtOne, ByteArray.size_append]; omega
theorem amtParts_facts {l : List Unit} {k : List Int} (h : amtOk l k = true) : ∀ n j, n + j = l.length → (amtParts (l.drop j) (k.drop j)).length ≤ n ∧ ∀ x ∈ amtParts (l.drop j) (k.drop j), 1 ≤ x.size ∧ x.size ≤ 15
  | 0, j, hj => by
      obtain rfl : j = l.length := by omega
      rw [amtParts_end]; simp
  | n + 1, j, hj => by
      have h0 : sysOk l = true ∧ k.length = l.length ∧ ∀ x ∈ k, 0 ≤ x ∧ x ≤ 9999 := by
        simpa [amtOk, inR_iff, and_assoc] using h
      have ih := amtParts_facts h n (j + 1) (by omega)
      rw [amtParts_drop l k j (by omega) (by omega)]
      split
      · rw [List.append_nil]; exact ⟨by omega, ih.2⟩
      · refine ⟨by rw [List.length_append]; simp; omega, fun x hx => ?_⟩
        rcases List.mem_append.1 hx with hx | hx
        · exact ih.2 x hx
        · rw [List.mem_singleton.1 hx]; exact amtOne_size h j (by omega) (by omega)
theorem amt_size {l : List Unit} {k : List Int} (h : amtOk l k = true) (j : Nat) (hj : j ≤ l.length) : (jn ⟨#[44, 32]⟩ (amtParts (l.drop j) (k.drop j))).size ≤ 102 := by
  have h0 : sysOk l = true ∧ k.length = l.length ∧ ∀ x ∈ k, 0 ≤ x ∧ x ≤ 9999 := by
    simpa [amtOk, inR_iff, and_assoc] using h
  have hl := ((sysOk_iff l).1 h0.1).1
  have hf := amtParts_facts h (l.length - j) j (by omega)
  have hz := jn_bd ⟨#[44, 32]⟩ 15 _ _ rfl (fun x hx => (hf.2 x hx).2)
  have h3 : (⟨#[44, 32]⟩ : ByteArray).size = 2 := rfl
  rw [h3] at hz
  have : (amtParts (l.drop j) (k.drop j)).length * (15 + 2) ≤ 6 * (15 + 2) := Nat.mul_le_mul_right _ (by omega)
  omega
theorem jn_pos (sep : ByteArray) (l : List ByteArray) (h : l ≠ []) (hs : ∀ x ∈ l, 1 ≤ x.size) : 1 ≤ (jn sep l).size := by
  rcases nil_or_snoc l with rfl | ⟨l', x, rfl⟩
  · exact absurd rfl h
  · have hx := hs x (by simp)
    by_cases e : l' = []
    · subst e; rw [List.nil_append, jn_one, ByteArray.size_append]; omega
    · rw [jn_snoc _ _ _ e, ByteArray.size_append]; omega
def name0 (l : List Unit) : ByteArray := match l with | [] => ByteArray.empty | u :: _ => u.name
def amtTxt (l : List Unit) (k : List Int) : ByteArray := if (amtParts l k).length = 0 then ⟨#[48, 32]⟩ ++ name0 l else jn ⟨#[44, 32]⟩ (amtParts l k)
def amountText (l : List Unit) (k : List Int) : ByteArray × Bool := if amtOk l k = true then (amtTxt l k, true) else (ByteArray.empty, false)
theorem amountText_yes {l : List Unit} {k : List Int} (h : amtOk l k = true) : amountText l k = (amtTxt l k, true) := by simp [amountText, h]
theorem amountText_no {l : List Unit} {k : List Int} (h : amtOk l k = false) : amountText l k = (ByteArray.empty, false) := by simp [amountText, h]
end Go.Proofs.Ytfgnmjnlhnpmoaa.M
