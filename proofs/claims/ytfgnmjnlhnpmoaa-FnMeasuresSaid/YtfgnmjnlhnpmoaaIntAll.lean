/-
  Walks: are all numbers of a slice in a range.
-/
import Derived.Test.YtfgnmjnlhnpmoaaBase
import Derived.Test.YtfgnmjnlhnpmoaaKit2
set_option linter.unusedVariables false
namespace Go.Proofs.Ytfgnmjnlhnpmoaa.IntAll
open Go.RowKit
theorem i_all (A : Option Addr) (c : Nat) (l : List Int) (lo hi : Int) (w : World) (hl : l.length ≤ 1048576) (ha : K.Rd w 1 A l.length (l.map (Value.int .i64))) :
    Calls Try.prog 67 #[.slice A l.length c, .int .i64 lo, .int .i64 hi] w fun e w' => e = .returned (.bool (l.all fun x => M.inR x lo hi)) ∧ w = w' := by
  obtain ⟨R, hR⟩ : ∃ R, R = l.all fun x => M.inR x lo hi := ⟨_, rfl⟩
  rw [← hR]
  have HR := Lib.hid hR
  clear hR
  go_enter Try.func67, Try.ntmps67
  go_wp2
  go_loopw [11] (fun i wr => ∃ j : Nat, j ≤ l.length ∧ i = .int .i64 j ∧ Hid (((l.take j).all fun x => M.inR x lo hi) = true) ∧ w = wr) (fun i _ => l.length - (intOf i).toNat)
  case atStart => exact ⟨0, Nat.zero_le _, rfl, Lib.hid (by simp), by simp⟩
  case round =>
    obtain ⟨j, hj, rfl, hall, rfl⟩ := hrel
    by_cases hlt : j < l.length
    · obtain ⟨g, o, rfl, hc⟩ := ha.int hlt
      have h1 : (j : Int) < (l.length : Int) := by omega
      have h2 : (0 : Int) ≤ (j : Int) := by omega
      have HA := Lib.hid (M.all_take_succ (fun x => M.inR x lo hi) l j hlt)
      generalize l[j] = x at *
      by_cases hx : lo ≤ x ∧ x ≤ hi
      · obtain ⟨hx1, hx2⟩ := hx
        have HK := Lib.hid (show ((l.take (j + 1)).all fun x => M.inR x lo hi) = true by rw [HA.out, hall.out, M.inR_yes hx1 hx2]; rfl)
        go_wp2_with (go_at_call 57; refine (Base.i_within_yes _ _ _ _ hx1 hx2).mono ?_; rintro e w1 ⟨rfl, rfl⟩)
        go_roundw
        case rel => exact ⟨j + 1, by omega, by go_num, HK, trivial⟩
        case measure => simp [intOf]; omega
      · have HK := Lib.hid (show R = false by rw [HR.out, M.all_take_false (k := j + 1) (by rw [HA.out, M.inR_no (n := x) (by omega)]; simp)])
        go_wp2_with (go_at_call 57; refine (Base.i_within_no _ _ _ _ (by omega)).mono ?_; rintro e w1 ⟨rfl, rfl⟩)
        go_ret
        exact ⟨K.ret_bool HK.out.symm, rfl⟩
    · obtain rfl : j = l.length := by omega
      have ha' := hall.out
      rw [List.take_length] at ha'
      have HK := Lib.hid (HR.out.trans ha')
      clear ha' hall
      go_wp2
      go_ret
      exact ⟨K.ret_bool HK.out.symm, rfl⟩
end Go.Proofs.Ytfgnmjnlhnpmoaa.IntAll
