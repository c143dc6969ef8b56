/-
  Walks: words.
-/
import Derived.Test.YtfgnmjnlhnpmoaaBase
set_option linter.unusedVariables false
namespace Go.Proofs.Ytfgnmjnlhnpmoaa.M
def letter (c : UInt8) : Bool := decide (97 ≤ (c.toNat : Int) ∧ (c.toNat : Int) ≤ 122)
def word (s : ByteArray) : Bool := inR s.size 1 10 && s.data.toList.all letter
theorem letters_snoc (s : ByteArray) (k : Nat) (h : k < s.size) : (s.data.toList.take (k + 1)).all letter = ((s.data.toList.take k).all letter && letter s[k]) := by
  rw [take_snoc s k h, List.all_append]; simp
theorem letters_false {s : ByteArray} {k : Nat} (h : (s.data.toList.take k).all letter = false) : s.data.toList.all letter = false := all_take_false h
theorem letters_full (s : ByteArray) : s.data.toList.take s.size = s.data.toList := List.take_of_length_le (by simp)
end Go.Proofs.Ytfgnmjnlhnpmoaa.M
namespace Go.Proofs.Ytfgnmjnlhnpmoaa.Word
open Go.RowKit
set_option maxHeartbeats 1000000 in
theorem i_word (s : ByteArray) (w : World) (hs : s.size ≤ 9223372036854775807) :
    Calls Try.prog 62 #[.string s] w fun e w' => e = .returned (.bool (M.word s)) ∧ w = w' := by
  have hF : Hid (M.word s = (M.inR s.size 1 10 && s.data.toList.all M.letter)) := rfl
  generalize M.word s = R at hF ⊢
  by_cases hn : 1 ≤ (s.size : Int) ∧ (s.size : Int) ≤ 10
  · obtain ⟨hn1, hn2⟩ := hn
    have HR := Lib.hid (show R = s.data.toList.all M.letter by rw [hF.out, M.inR_yes hn1 hn2]; simp)
    clear hF
    go_enter Try.func62, Try.ntmps62
    go_wp2_with (go_at_call 57; refine (Base.i_within_yes _ _ _ _ (by omega) (by omega)).mono ?_; rintro e w1 ⟨rfl, rfl⟩)
    go_loop [3] (fun i => ∃ k : Nat, k ≤ s.size ∧ i = .int .i64 k ∧ Hid ((s.data.toList.take k).all M.letter = true)) (fun i => s.size - (intOf i).toNat)
    case atStart => exact ⟨0, Nat.zero_le _, rfl, Lib.hid (by simp)⟩
    case round =>
      obtain ⟨k, hk, rfl, hall⟩ := hrel
      by_cases hlt : k < s.size
      · have h1 : (k : Int) < (s.size : Int) := by omega
        have h2 : (0 : Int) ≤ (k : Int) := by omega
        have HA := Lib.hid (M.letters_snoc s k hlt)
        have HL : Hid (M.letter s[k] = decide (97 ≤ (s[k].toNat : Int) ∧ (s[k].toNat : Int) ≤ 122)) := rfl
        by_cases hx : (s[k].toNat : Int) < 97
        · have hd : decide ((s[k].toNat : Int) < 97) = true := decide_eq_true hx
          have HK := Lib.hid (show R = false by rw [HR.out, M.letters_false (k := k + 1) (by rw [HA.out, HL.out]; simp; omega)])
          clear HA HL hx
          go_wp2
          go_ret
          exact ⟨K.ret_bool HK.out.symm, rfl⟩
        · have hd : decide ((s[k].toNat : Int) < 97) = false := decide_eq_false hx
          by_cases hy : 122 < (s[k].toNat : Int)
          · have hd2 : decide (122 < (s[k].toNat : Int)) = true := decide_eq_true hy
            have HK := Lib.hid (show R = false by rw [HR.out, M.letters_false (k := k + 1) (by rw [HA.out, HL.out]; simp; omega)])
            clear HA HL hx hy
            go_wp2
            go_ret
            exact ⟨K.ret_bool HK.out.symm, rfl⟩
          · have hd2 : decide (122 < (s[k].toNat : Int)) = false := decide_eq_false hy
            have HK := Lib.hid (show (s.data.toList.take (k + 1)).all M.letter = true by rw [HA.out, HL.out, hall.out]; simp; omega)
            clear HA HL hx hy
            go_wp2
            go_round
            case rel => exact ⟨k + 1, by omega, by go_num, HK⟩
            case measure => simp [intOf]; omega
      · obtain rfl : k = s.size := by omega
        have ha := hall.out
        rw [M.letters_full] at ha
        have HK := Lib.hid (HR.out.trans ha)
        clear ha
        go_wp2
        go_ret
        exact ⟨K.ret_bool HK.out.symm, rfl⟩
  · have HK := Lib.hid (show R = false by rw [hF.out, M.inR_no (n := (s.size : Int)) (by omega)]; simp)
    clear hF
    go_enter Try.func62, Try.ntmps62
    go_wp2_with (go_at_call 57; refine (Base.i_within_no _ _ _ _ (by omega)).mono ?_; rintro e w1 ⟨rfl, rfl⟩)
    go_ret
    exact ⟨K.ret_bool HK.out.symm, rfl⟩
set_option maxHeartbeats 1000000 in
theorem s_word (s : ByteArray) (w : World) (hs : s.size ≤ 9223372036854775807) :
    Calls Try.prog 84 #[.string s] w fun e w' => e = .returned (.bool (M.word s)) ∧ w = w' := by
  have hF : Hid (M.word s = (M.inR s.size 1 10 && s.data.toList.all M.letter)) := rfl
  generalize M.word s = R at hF ⊢
  go_enter Try.func84, Try.ntmps84
  go_wp2_with fail
  go_loop [3] (fun i => ∃ k : Nat, k ≤ s.size ∧ i = .int .i64 k ∧ Hid ((s.data.toList.take k).all M.letter = true)) (fun i => s.size - (intOf i).toNat)
  case atStart => exact ⟨0, Nat.zero_le _, rfl, Lib.hid (by simp)⟩
  case round =>
    obtain ⟨k, hk, rfl, hall⟩ := hrel
    by_cases hlt : k < s.size
    · have h1 : (k : Int) < (s.size : Int) := by omega
      have h2 : (0 : Int) ≤ (k : Int) := by omega
      have HA := Lib.hid (M.letters_snoc s k hlt)
      have HL : Hid (M.letter s[k] = decide (97 ≤ (s[k].toNat : Int) ∧ (s[k].toNat : Int) ≤ 122)) := rfl
      by_cases hx : (s[k].toNat : Int) < 97
      · have hd : decide ((s[k].toNat : Int) < 97) = true := decide_eq_true hx
        have HK := Lib.hid (show R = false by rw [hF.out, M.letters_false (k := k + 1) (by rw [HA.out, HL.out]; simp; omega)]; simp)
        clear HA HL hx
        go_wp2
        go_ret
        exact ⟨K.ret_bool HK.out.symm, rfl⟩
      · have hd : decide ((s[k].toNat : Int) < 97) = false := decide_eq_false hx
        by_cases hy : 122 < (s[k].toNat : Int)
        · have hd2 : decide (122 < (s[k].toNat : Int)) = true := decide_eq_true hy
          have HK := Lib.hid (show R = false by rw [hF.out, M.letters_false (k := k + 1) (by rw [HA.out, HL.out]; simp; omega)]; simp)
          clear HA HL hx hy
          go_wp2
          go_ret
          exact ⟨K.ret_bool HK.out.symm, rfl⟩
        · have hd2 : decide (122 < (s[k].toNat : Int)) = false := decide_eq_false hy
          have HK := Lib.hid (show (s.data.toList.take (k + 1)).all M.letter = true by rw [HA.out, HL.out, hall.out]; simp; omega)
          clear HA HL hx hy
          go_wp2
          go_round
          case rel => exact ⟨k + 1, by omega, by go_num, HK⟩
          case measure => simp [intOf]; omega
    · obtain rfl : k = s.size := by omega
      have ha := hall.out
      rw [M.letters_full] at ha
      have HK := Lib.hid (show R = M.inR s.size 1 10 by rw [hF.out, ha]; simp)
      clear ha
      go_wp2_with (go_at_call 54; refine (Base.s_in _ _ _ _).mono ?_; rintro e w1 ⟨rfl, rfl⟩)
      go_ret
      exact ⟨K.ret_bool HK.out.symm, rfl⟩
end Go.Proofs.Ytfgnmjnlhnpmoaa.Word
