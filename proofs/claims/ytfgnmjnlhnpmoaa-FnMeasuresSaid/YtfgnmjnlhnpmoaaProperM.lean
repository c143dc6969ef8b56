/-
  Walks: the proper amount with a value.
-/
import Derived.Test.YtfgnmjnlhnpmoaaValue
import Derived.Test.YtfgnmjnlhnpmoaaAmountH
set_option linter.unusedVariables false
namespace Go.Proofs.Ytfgnmjnlhnpmoaa.M
def pd : List Unit → Int → List Int
  | [], _ => []
  | [_], v => [v]
  | _ :: u :: l, v => v % u.size :: pd (u :: l) (v / u.size)
theorem pd_len : ∀ (l : List Unit) (v : Int), (pd l v).length = l.length
  | [], _ => rfl
  | [_], _ => rfl
  | _ :: u :: l, v => by rw [pd, List.length_cons, pd_len (u :: l)]; rfl
theorem pd_step (l : List Unit) (j : Nat) (h : j + 1 < l.length) (v : Int) : pd (l.drop j) v = v % l[j + 1].size :: pd (l.drop (j + 1)) (v / l[j + 1].size) := by
  rw [List.drop_eq_getElem_cons (by omega : j < l.length), List.drop_eq_getElem_cons h]; rfl
theorem pd_last (l : List Unit) (j : Nat) (h : j + 1 = l.length) (v : Int) : pd (l.drop j) v = [v] := by
  rw [List.drop_eq_getElem_cons (by omega : j < l.length), List.drop_of_length_le (by omega)]; rfl
def proper (l : List Unit) (v : Int) : List Int × Bool := if 0 ≤ v ∧ amtOk l (pd l v) = true then (pd l v, true) else ([], false)
theorem proper_yes {l : List Unit} {v : Int} (h0 : 0 ≤ v) (h : amtOk l (pd l v) = true) : proper l v = (pd l v, true) := by simp [proper, h, h0]
theorem proper_neg {l : List Unit} {v : Int} (h : v < 0) : proper l v = ([], false) := by
  unfold proper; rw [if_neg]; omega
theorem proper_no {l : List Unit} {v : Int} (h : amtOk l (pd l v) = false) : proper l v = ([], false) := by simp [proper, h]
theorem proper_le (l : List Unit) (v : Int) (h : l.length ≤ 1048576) : (proper l v).1.length ≤ 1048576 := by
  unfold proper; split
  · rw [pd_len]; exact h
  · simp
/-- the last digit alone decides. -/
theorem amt_snoc {l : List Unit} (hs : sysOk l = true) {xs : List Int} {v : Int} (hl : xs.length + 1 = l.length) (hx : ∀ x ∈ xs, 0 ≤ x ∧ x ≤ 9999) (hv : 0 ≤ v) : amtOk l (xs ++ [v]) = decide (v ≤ 9999) := by
  rw [Bool.eq_iff_iff, amtOk_iff, decide_eq_true_iff]
  constructor
  · rintro ⟨_, _, h⟩; exact (h v (by simp)).2
  · intro h
    refine ⟨hs, by simpa using hl, fun x hm => ?_⟩
    rcases List.mem_append.1 hm with hm | hm
    · exact hx x hm
    · rw [List.mem_singleton.1 hm]; exact ⟨hv, h⟩
theorem sys_size2 {l : List Unit} (h : sysOk l = true) (i : Nat) (hi : i + 1 < l.length) : 2 ≤ l[i + 1].size ∧ l[i + 1].size ≤ 100 := by
  have := sys_at _ ((sysOk_iff l).1 h).2 (i + 1) hi hi
  simp only [uOk, Bool.and_eq_true] at this
  rw [if_neg (by omega), inR_iff] at this; exact this.2
theorem proper_last {l : List Unit} (hs : sysOk l = true) {v : Int} (h0 : 0 ≤ v) {xs : List Int} {x : Int} (h1 : xs ++ [x] = pd l v) (h2 : ∀ y ∈ xs, 0 ≤ y ∧ y ≤ 9999) (h3 : 0 ≤ x) : proper l v = if x ≤ 9999 then (xs ++ [x], true) else ([], false) := by
  have hl : xs.length + 1 = l.length := by
    have := congrArg List.length h1
    rw [pd_len] at this; simpa using this
  have ha := amt_snoc hs hl h2 h3
  rw [h1] at ha
  split
  · rename_i h; rw [h1]; exact proper_yes h0 (by rw [ha]; simpa using h)
  · rename_i h; exact proper_no (by rw [ha]; simpa using h)
def properOf (l : List Unit) (v : Int) : List Int × Bool := if sysOk l = true then proper l v else ([], false)
def sumOf (l : List Unit) (a b : List Int) : List Int × Bool := if amtOk l a = true ∧ amtOk l b = true then proper l (aV l a + aV l b) else ([], false)
def diffOf (l : List Unit) (a b : List Int) : List Int × Bool := if amtOk l a = true ∧ amtOk l b = true then proper l (aV l a - aV l b) else ([], false)
def timesOf (l : List Unit) (a : List Int) (n : Int) : List Int × Bool := if amtOk l a = true ∧ inR n 0 1000 = true then proper l (n * aV l a) else ([], false)
def convTo (l : List Unit) (a : List Int) (l2 : List Unit) (num den : Int) : List Int × Bool :=
  if amtOk l a = true ∧ sysOk l2 = true ∧ inR num 1 10000 = true ∧ inR den 1 10000 = true then proper l2 (aV l a * num / den) else ([], false)
theorem conv_eq (v num den : Int) (h0 : 0 < den) : v / den * num + v % den * num / den = v * num / den := by
  have h1 : v * num = (v / den * num) * den + v % den * num := by
    have := Int.ediv_mul_add_emod v den
    calc v * num = (v / den * den + v % den) * num := by rw [this]
      _ = _ := by rw [Int.add_mul, Int.mul_right_comm]
  rw [h1, Int.add_comm (v / den * num * den), Int.add_mul_ediv_right _ _ (by omega), Int.add_comm]
end Go.Proofs.Ytfgnmjnlhnpmoaa.M
