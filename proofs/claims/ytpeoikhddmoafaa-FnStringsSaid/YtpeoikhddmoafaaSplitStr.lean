/-
  Walks: SplitString, in the program and in the reference.
-/
import Derived.Test.YtpeoikhddmoafaaSplit
set_option linter.unusedVariables false
namespace Go.Proofs.Ytpeoikhddmoafaa.SplStr
open Go.RowKit

theorem i_no (s sep : ByteArray) (w : World) (hs : s.size ≤ 1048576) (hsep : sep.size ≤ 1048576) (h : 4000 < s.size ∨ sep.size ≠ 1) :
    Calls Try.prog 23 #[.string s, .string sep] w (K.RetRowB w 9 1 0 [] false) := by
  rcases h with h | h
  · have hd : decide ((4000 : Int) < s.size) = true := by simp; omega
    go_enter Try.func23, Try.ntmps23
    go_wp2
    go_ret2
    exact ⟨none, 0, rfl, K.Row.nil _ _ _ _, Below.refl _ _⟩
  · by_cases h1 : s.size ≤ 4000
    · have hd : decide ((4000 : Int) < s.size) = false := by simp; omega
      have hn : ((sep.size : Int) != 1) = true := by rw [bne_iff_ne]; omega
      go_enter Try.func23, Try.ntmps23
      go_wp2
      go_ret2
      exact ⟨none, 0, rfl, K.Row.nil _ _ _ _, Below.refl _ _⟩
    · have hd : decide ((4000 : Int) < s.size) = true := by simp; omega
      go_enter Try.func23, Try.ntmps23
      go_wp2
      go_ret2
      exact ⟨none, 0, rfl, K.Row.nil _ _ _ _, Below.refl _ _⟩
theorem i_yes (s sep : ByteArray) (w : World) (h : s.size ≤ 4000) (h1 : 0 < sep.size) (h2 : sep.size = 1) :
    Calls Try.prog 23 #[.string s, .string sep] w (K.RetRowB w 9 1 (M.spl s (sep[0]'h1).toNat).length ((M.spl s (sep[0]'h1).toNat).map Value.string) true) := by
  have hd : decide ((4000 : Int) < s.size) = false := by simp; omega
  have hn : ((sep.size : Int) != 1) = false := by simp; omega
  go_enter Try.func23, Try.ntmps23
  go_wp2_with fail
  refine (Spl.i_split s _ _ (by omega)).mono ?_
  rintro e w1 ⟨A, c, rfl, hrow, hb⟩
  go_wp2
  go_ret2
  exact ⟨A, c, rfl, hrow, hb⟩
theorem i_any (s sep : ByteArray) (w : World) (hs : s.size ≤ 1048576) (hsep : sep.size ≤ 1048576) :
    Calls Try.prog 23 #[.string s, .string sep] w (K.RetRowB w 9 1 (M.splitStr s sep).1.length ((M.splitStr s sep).1.map Value.string) (M.splitStr s sep).2) := by
  by_cases h : s.size ≤ 4000 ∧ sep.size = 1
  · rw [M.splitStr_yes h.1 (by omega) h.2]; exact i_yes s sep w h.1 (by omega) h.2
  · rw [M.splitStr_no (by omega)]; exact i_no s sep w hs hsep (by omega)

theorem s_no (s sep : ByteArray) (w : World) (hs : s.size ≤ 1048576) (hsep : sep.size ≤ 1048576) (h : 4000 < s.size ∨ sep.size ≠ 1) :
    Calls Try.prog 22 #[.string s, .string sep] w (K.RetRowB w 9 1 0 [] false) := by
  rcases h with h | h
  · by_cases h2 : sep.size = 1
    · have hd : decide ((4000 : Int) < s.size) = true := by simp; omega
      have hn : ((sep.size : Int) != 1) = false := by simp; omega
      go_enter Try.func22, Try.ntmps22
      go_wp2
      go_ret2
      exact ⟨some ⟨w.heap.size, 0, none⟩, 0, rfl, World.ownsRow_made w #[] 0 (Nat.le_refl _) (Nat.zero_le _) rfl, (Below.refl _ _).alloc (Nat.le_refl _) _⟩
    · have hn : ((sep.size : Int) != 1) = true := by rw [bne_iff_ne]; omega
      go_enter Try.func22, Try.ntmps22
      go_wp2
      go_ret2
      exact ⟨some ⟨w.heap.size, 0, none⟩, 0, rfl, World.ownsRow_made w #[] 0 (Nat.le_refl _) (Nat.zero_le _) rfl, (Below.refl _ _).alloc (Nat.le_refl _) _⟩
  · have hn : ((sep.size : Int) != 1) = true := by rw [bne_iff_ne]; omega
    go_enter Try.func22, Try.ntmps22
    go_wp2
    go_ret2
    exact ⟨some ⟨w.heap.size, 0, none⟩, 0, rfl, World.ownsRow_made w #[] 0 (Nat.le_refl _) (Nat.zero_le _) rfl, (Below.refl _ _).alloc (Nat.le_refl _) _⟩
theorem s_yes (s sep : ByteArray) (w : World) (h : s.size ≤ 4000) (h1 : 0 < sep.size) (h2 : sep.size = 1) :
    Calls Try.prog 22 #[.string s, .string sep] w (K.RetRowB w 9 1 (M.spl s (sep[0]'h1).toNat).length ((M.spl s (sep[0]'h1).toNat).map Value.string) true) := by
  have hd : decide ((4000 : Int) < s.size) = false := by simp; omega
  have hn : ((sep.size : Int) != 1) = false := by simp; omega
  go_enter Try.func22, Try.ntmps22
  go_wp2_with fail
  refine (Spl.s_split s _ _ (by omega)).mono ?_
  rintro e w1 ⟨A, c, rfl, hrow, hb⟩
  go_wp2
  go_ret2
  exact ⟨A, c, rfl, hrow, hb⟩
theorem s_any (s sep : ByteArray) (w : World) (hs : s.size ≤ 1048576) (hsep : sep.size ≤ 1048576) :
    Calls Try.prog 22 #[.string s, .string sep] w (K.RetRowB w 9 1 (M.splitStr s sep).1.length ((M.splitStr s sep).1.map Value.string) (M.splitStr s sep).2) := by
  by_cases h : s.size ≤ 4000 ∧ sep.size = 1
  · rw [M.splitStr_yes h.1 (by omega) h.2]; exact s_yes s sep w h.1 (by omega) h.2
  · rw [M.splitStr_no (by omega)]; exact s_no s sep w hs hsep (by omega)
end Go.Proofs.Ytpeoikhddmoafaa.SplStr
