/-
  Walks: are all pupils valid, in the program and in the reference.
-/
import Derived.Test.YtebbihckndjbeaaPupilM
import Derived.Test.YtebbihckndjbeaaKit4
import Derived.BigRegion
import Derived.Deep.RegionHeld3
set_option linter.unusedVariables false
namespace Go.Proofs.Ytebbihckndjbeaa.K
open Go.RowKit
theorem Box.pup {w : World} {g : Nat} {a b c d e : Value} (h : Box w g [a, b, c, d, e]) : w.cell? ⟨g, 0, none⟩ = some a ∧ w.cell? ⟨g, 1, none⟩ = some b ∧ w.cell? ⟨g, 2, none⟩ = some c ∧ w.cell? ⟨g, 3, none⟩ = some d ∧ w.cell? ⟨g, 4, none⟩ = some e := h.c5
end Go.Proofs.Ytebbihckndjbeaa.K
namespace Go.Proofs.Ytebbihckndjbeaa.PupilL
open Go.RowKit
theorem s_least (a b : Int) (w : World) : Calls Try.prog 92 #[.int .i64 a, .int .i64 b] w fun e w' => e = .returned (.int .i64 (min a b)) ∧ w = w' := by
  by_cases h : a < b
  · have e : min a b = a := by omega
    rw [e]
    go_enter Try.func92, Try.ntmps92
    go_wp2
    go_ret
    exact ⟨rfl, rfl⟩
  · have e : min a b = b := by omega
    rw [e]
    go_enter Try.func92, Try.ntmps92
    go_wp2
    go_ret
    exact ⟨rfl, rfl⟩
theorem s_most (a b : Int) (w : World) : Calls Try.prog 91 #[.int .i64 a, .int .i64 b] w fun e w' => e = .returned (.int .i64 (max a b)) ∧ w = w' := by
  by_cases h : b < a
  · have e : max a b = a := by omega
    rw [e]
    go_enter Try.func91, Try.ntmps91
    go_wp2
    go_ret
    exact ⟨rfl, rfl⟩
  · have e : max a b = b := by omega
    rw [e]
    go_enter Try.func91, Try.ntmps91
    go_wp2
    go_ret
    exact ⟨rfl, rfl⟩
set_option maxHeartbeats 1000000 in
theorem s_class (A : Option Addr) (c : Nat) (l : List M.Pupil) (q : Int) (w : World) (hl : l.length ≤ 1048576) (hlv : ∀ p ∈ l, 0 ≤ p.level ∧ p.level ≤ 10) (ha : K.Rd w 5 A l.length (l.flatMap M.pupilCells)) :
    Calls Try.prog 85 #[.slice A l.length c, .int .i64 q] w fun e w' => e = .returned (.bool (M.clsOk l q)) ∧ w = w' := by
  obtain ⟨R, hR⟩ : ∃ R, R = M.clsOk l q := ⟨_, rfl⟩
  rw [← hR]
  have HR := Lib.hid hR
  clear hR
  have HB := Lib.hid (fun k (h : k ≤ l.length) => M.clsAcc_bd (l.take k) q (fun p hp => hlv p (List.mem_of_mem_take hp)))
  clear hlv
  go_enter Try.func85, Try.ntmps85
  go_wp2_with fail
  go_loop [8, 5, 6, 7] (fun s n lo hi => ∃ (k : Nat) (n' lo' hi' : Int), k ≤ l.length ∧ s = .int .i64 k ∧ n = .int .i64 n' ∧ lo = .int .i64 lo' ∧ hi = .int .i64 hi' ∧ Hid ((n', lo', hi') = M.clsAcc (l.take k) q)) (fun s _ _ _ => l.length - (intOf s).toNat)
  case atStart => exact ⟨0, 0, 10, 0, Nat.zero_le _, rfl, rfl, rfl, rfl, Lib.hid (by simp [M.clsAcc])⟩
  case round =>
    obtain ⟨k, n', lo', hi', hk, rfl, rfl, rfl, rfl, hacc⟩ := hrel
    obtain ⟨⟨b1, b2⟩, ⟨b3, b4⟩, b5, b6⟩ := HB.out k hk
    rw [← hacc.out] at b1 b2 b3 b4 b5 b6
    dsimp only at b1 b2 b3 b4 b5 b6
    rw [List.length_take] at b2
    have b7 : n' ≤ (l.length : Int) := by omega
    clear b2
    by_cases hlt : k < l.length
    · obtain ⟨g, o, rfl, hg, c0, c1, c2, c3, c4⟩ := ha.pupil hlt
      have h1 : (k : Int) < (l.length : Int) := by omega
      have h2 : (0 : Int) ≤ (k : Int) := by omega
      have HT := Lib.hid (M.clsAcc_take l q k hlt)
      have HS : Hid (M.clsStep q (n', lo', hi') l[k] = if l[k].cls = q then (n' + 1, min lo' l[k].level, max hi' l[k].level) else (n', lo', hi')) := Lib.hid rfl
      rw [← hacc.out] at HT
      generalize hz : M.clsStep q (n', lo', hi') l[k] = st at HT HS
      clear hz
      generalize l[k].id = x0 at *
      generalize l[k].name = x1 at *
      generalize l[k].born = x2 at *
      generalize l[k].cls = x3 at *
      generalize l[k].level = x4 at *
      by_cases he : x3 = q
      · have hd : (x3 == q) = true := beq_iff_eq.2 he
        have HK := Lib.hid (show (n' + 1, min lo' x4, max hi' x4) = M.clsAcc (l.take (k + 1)) q by rw [HT.out, HS.out, if_pos he])
        clear he hacc
        go_wp2_with (first | (go_at_call 92; refine (s_least _ _ _).mono ?_; rintro e w1 ⟨rfl, rfl⟩) | (go_at_call 91; refine (s_most _ _ _).mono ?_; rintro e w1 ⟨rfl, rfl⟩))
        go_round
        case rel => exact ⟨k + 1, n' + 1, min lo' x4, max hi' x4, by omega, by go_num, rfl, rfl, rfl, HK⟩
        case measure => simp [intOf]; omega
      · have hd : (x3 == q) = false := beq_eq_false_iff_ne.2 he
        have HK := Lib.hid (show (n', lo', hi') = M.clsAcc (l.take (k + 1)) q by rw [HT.out, HS.out, if_neg he])
        clear he hacc
        go_wp2_with fail
        go_round
        case rel => exact ⟨k + 1, n', lo', hi', by omega, by go_num, rfl, rfl, rfl, HK⟩
        case measure => simp [intOf]; omega
    · obtain rfl : k = l.length := by omega
      have hK : R = decide (n' ≤ 6 ∧ hi' - lo' ≤ 3) := by
        have h := hacc.out
        rw [List.take_length] at h
        rw [HR.out, M.clsOk, ← h]
      have HK := Lib.hid hK
      clear hK hacc
      by_cases h6 : n' ≤ 6
      · by_cases h3 : hi' - lo' ≤ 3
        · have HQ := Lib.hid (show R = true by rw [HK.out]; simp [h6, h3])
          go_wp2_with fail
          go_ret
          exact ⟨K.ret_bool HQ.out.symm, rfl⟩
        · have HQ := Lib.hid (show R = false by rw [HK.out]; simp [h3])
          have hd : decide (hi' - lo' ≤ 3) = false := decide_eq_false h3
          go_wp2_with fail
          go_ret
          exact ⟨K.ret_bool HQ.out.symm, rfl⟩
      · have HQ := Lib.hid (show R = false by rw [HK.out]; simp [h6])
        have hd : decide (n' ≤ 6) = false := decide_eq_false h6
        go_wp2_with fail
        go_ret
        exact ⟨K.ret_bool HQ.out.symm, rfl⟩
end Go.Proofs.Ytebbihckndjbeaa.PupilL
