/-
  Plain laws on boards: a board's text.
-/
import Derived.Test.YtmgegacgjppdbaaBoardF
import Derived.Test.YtmgegacgjppdbaaJoinM
set_option linter.unusedVariables false
namespace Go.Proofs.Ytmgegacgjppdbaa.M
def bdOne (x y : Int) : ByteArray := txt y ++ ⟨#[47]⟩ ++ txt x
/-- from the top down. -/
def bdParts : List Int → List Int → List ByteArray
  | x :: l, y :: k => bdParts l k ++ [bdOne x y]
  | _, _ => []
theorem bdParts_drop (l k : List Int) (j : Nat) (h : j < l.length) (h' : j < k.length) : bdParts (l.drop j) (k.drop j) = bdParts (l.drop (j + 1)) (k.drop (j + 1)) ++ [bdOne l[j] k[j]] := by
  rw [List.drop_eq_getElem_cons h, List.drop_eq_getElem_cons h']; rfl
theorem bdParts_end (l k : List Int) : bdParts (l.drop l.length) (k.drop l.length) = [] := by rw [List.drop_length]; rfl
theorem bdParts_len (l k : List Int) (h : k.length = l.length) : ∀ n j, n + j = l.length → (bdParts (l.drop j) (k.drop j)).length = n
  | 0, j, hj => by obtain rfl : j = l.length := by omega
                   rw [bdParts_end]; rfl
  | n + 1, j, hj => by
      rw [bdParts_drop l k j (by omega) (by omega), List.length_append, bdParts_len l k h n (j + 1) (by omega)]; rfl
theorem txt2 {n : Int} (h0 : 0 ≤ n) (h1 : n ≤ 99) : 1 ≤ (txt n).size ∧ (txt n).size ≤ 2 := by
  rw [txt_nn h0]
  exact ⟨tx_pos _, tx_size 1 _ (by omega)⟩
theorem bdOne_size {x y : Int} (h : (0 ≤ x ∧ x ≤ 30) ∧ 0 ≤ y ∧ y ≤ 30) : (bdOne x y).size ≤ 5 := by
  have h1 := txt2 (n := x) (by omega) (by omega)
  have h2 := txt2 (n := y) (by omega) (by omega)
  have h3 : (⟨#[47]⟩ : ByteArray).size = 1 := rfl
  simp only [bdOne, ByteArray.size_append]; omega
theorem bdParts_size {l k : List Int} (hok : bOk l k = true) : ∀ n j, n + j = l.length → ∀ x ∈ bdParts (l.drop j) (k.drop j), x.size ≤ 5
  | 0, j, hj, x, hx => by
      obtain rfl : j = l.length := by omega
      rw [bdParts_end] at hx; simp at hx
  | n + 1, j, hj, x, hx => by
      have hk := ((bOk_iff l k).1 hok).2.1
      rw [bdParts_drop l k j (by omega) (by omega)] at hx
      rcases List.mem_append.1 hx with h | h
      · exact bdParts_size hok n (j + 1) (by omega) x h
      · rw [List.mem_singleton.1 h]; exact bdOne_size (bOk_at hok (by omega) (by omega))
def bdTxt (l k : List Int) : ByteArray := jn ⟨#[32]⟩ (bdParts l k)
theorem bd_size {l k : List Int} (hok : bOk l k = true) (j : Nat) (hj : j ≤ l.length) : (jn ⟨#[32]⟩ (bdParts (l.drop j) (k.drop j))).size ≤ 36 := by
  have hb := (bOk_iff l k).1 hok
  have hz := jn_bd ⟨#[32]⟩ 5 (l.length - j) _ (bdParts_len l k hb.2.1 (l.length - j) j (by omega)) (bdParts_size hok (l.length - j) j (by omega))
  have h3 : (⟨#[32]⟩ : ByteArray).size = 1 := rfl
  rw [h3] at hz
  omega
def boardText (l k : List Int) : ByteArray × Bool := if bOk l k = true then (bdTxt l k, true) else (ByteArray.empty, false)
theorem boardText_yes {l k : List Int} (h : bOk l k = true) : boardText l k = (bdTxt l k, true) := by simp [boardText, h]
theorem boardText_no {l k : List Int} (h : bOk l k = false) : boardText l k = (ByteArray.empty, false) := by simp [boardText, h]
end Go.Proofs.Ytmgegacgjppdbaa.M
