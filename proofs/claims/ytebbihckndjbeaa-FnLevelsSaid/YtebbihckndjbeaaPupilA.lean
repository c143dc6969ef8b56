/-
  Walks: the place of a pupil (printed by gen_find.py).
-/
import Derived.Test.YtebbihckndjbeaaPupilH
set_option linter.unusedVariables false
namespace Go.Proofs.Ytebbihckndjbeaa.PupilA
open Go.RowKit
set_option maxHeartbeats 1000000 in
theorem i_at (A : Option Addr) (c : Nat) (l : List M.Pupil) (q : Int) (w : World) (hl : l.length ≤ 1048576) (ha : K.Rd w 5 A l.length (l.flatMap M.pupilCells)) :
    Calls Try.prog 68 #[.slice A l.length c, .int .i64 q] w fun e w' => e = .returned (.int .i64 (if M.pIx l q < l.length then (M.pIx l q : Int) else -1)) ∧ Below w.heap.size w w' := by
  obtain ⟨R, hR⟩ : ∃ R : Int, R = if M.pIx l q < l.length then (M.pIx l q : Int) else -1 := ⟨_, rfl⟩
  rw [← hR]
  have HR := Lib.hid hR
  clear hR
  go_enter Try.func68, Try.ntmps68
  go_wp2_with fail
  go_loopw [9] (fun s wr => ∃ k : Nat, k ≤ l.length ∧ s = .int .i64 k ∧ Hid (∀ i (hi : i < l.length), i < k → l[i].id ≠ q) ∧ Hid (Below w.heap.size w wr)) (fun s _ => l.length - (intOf s).toNat)
  case atStart => exact ⟨0, Nat.zero_le _, rfl, Lib.hid (fun i hi h => absurd h (Nat.not_lt_zero _)), Lib.hid (Below.refl _ _)⟩
  case round =>
    obtain ⟨k, hk, rfl, HN, HB⟩ := hrel
    by_cases hlt : k < l.length
    · have hr := ha.below HB.out
      obtain ⟨g, o, hA, hg, c0, c1, c2, c3, c4⟩ := hr.pupil hlt
      subst hA
      have h1 : (k : Int) < (l.length : Int) := by omega
      have h2 : (0 : Int) ≤ (k : Int) := by omega
      have q1 := Lib.hid (HB.out.alloc HB.out.size (.cells #[.int .i64 l[k].id, .string l[k].name, .int .i64 l[k].born, .int .i64 l[k].cls, .int .i64 l[k].level] 26))
      have HE := Lib.hid (fun he : l[k].id = q => M.pIx_eq hlt HN.out he)
      have HM := Lib.hid (fun hne : l[k].id ≠ q => show ∀ i (hi : i < l.length), i < k + 1 → l[i].id ≠ q from fun i hi h => by
        rcases Nat.lt_or_ge i k with h2 | h2
        · exact HN.out i hi h2
        · obtain rfl : i = k := by omega
          exact hne)
      by_cases he : l[k].id = q
      · have hd : (l[k].id == q) = true := beq_iff_eq.2 he
        have hQ : R = (k : Int) := by rw [HR.out, HE.out he]; simp [hlt]
        clear HE HM HN HR he
        subst hQ
        generalize l[k].id = x0 at *
        generalize l[k].name = x1 at *
        generalize l[k].born = x2 at *
        generalize l[k].cls = x3 at *
        generalize l[k].level = x4 at *
        go_wp2_with fail
        go_ret
        exact ⟨rfl, q1.out⟩
      · have hd : (l[k].id == q) = false := beq_eq_false_iff_ne.2 he
        have HK := Lib.hid (HM.out he)
        clear HE HM HN he
        generalize hy0 : l[k].id = x0 at *
        generalize hy1 : l[k].name = x1 at *
        generalize hy2 : l[k].born = x2 at *
        generalize hy3 : l[k].cls = x3 at *
        generalize hy4 : l[k].level = x4 at *
        clear hy0 hy1 hy2 hy3 hy4
        go_wp2_with fail
        go_roundw
        case rel => exact ⟨k + 1, by omega, by first | rfl | go_num, HK, Lib.hid (q1.out)⟩
        case measure => simp [intOf]; omega
    · obtain rfl : k = l.length := by omega
      have hQ : R = -1 := by rw [HR.out, M.pIx_none (fun i hi => HN.out i hi hi)]; simp
      clear HR HN
      subst hQ
      go_wp2_with fail
      go_ret
      exact ⟨rfl, HB.out⟩
set_option maxHeartbeats 1000000 in
theorem s_find (A : Option Addr) (c : Nat) (l : List M.Pupil) (q : Int) (w : World) (hl : l.length ≤ 1048576) (hs : ∀ p ∈ l, p.name.size ≤ 9223372036854775807) (ha : K.Rd w 5 A l.length (l.flatMap M.pupilCells)) :
    Calls Try.prog 70 #[.slice A l.length c, .int .i64 q] w fun e w' => e = .returned (.int .i64 (if M.pupsOk l = true ∧ M.pIx l q < l.length then (M.pIx l q : Int) else -1)) ∧ Below w.heap.size w w' := by
  obtain ⟨R, hR⟩ : ∃ R : Int, R = if M.pupsOk l = true ∧ M.pIx l q < l.length then (M.pIx l q : Int) else -1 := ⟨_, rfl⟩
  rw [← hR]
  have HR := Lib.hid hR
  clear hR
  have HS := Lib.hid (fun w ha => PupilG.s_good A c l w hl hs ha)
  generalize hok : M.pupsOk l = ok at HR HS
  clear hok
  go_enter Try.func70, Try.ntmps70
  go_wp2_with fail
  go_loopw [5] (fun s wr => ∃ k : Nat, k ≤ l.length ∧ s = .int .i64 k ∧ Hid (∀ i (hi : i < l.length), i < k → l[i].id ≠ q) ∧ Hid (Below w.heap.size w wr)) (fun s _ => l.length - (intOf s).toNat)
  case atStart => exact ⟨0, Nat.zero_le _, rfl, Lib.hid (fun i hi h => absurd h (Nat.not_lt_zero _)), Lib.hid (Below.refl _ _)⟩
  case round =>
    obtain ⟨k, hk, rfl, HN, HB⟩ := hrel
    by_cases hlt : k < l.length
    · have hr := ha.below HB.out
      obtain ⟨g, o, hA, hg, c0, c1, c2, c3, c4⟩ := hr.pupil hlt
      subst hA
      have h1 : (k : Int) < (l.length : Int) := by omega
      have h2 : (0 : Int) ≤ (k : Int) := by omega
      cases ok with
      | false =>
        have hQ : R = -1 := by rw [HR.out]; simp
        clear HR HN c0 c1 c2 c3 c4
        subst hQ
        go_wp2_with fail
        refine (HS.out _ hr).mono ?_
        rintro e w1 ⟨rfl, b1⟩
        go_wp2_with fail
        go_ret
        exact ⟨rfl, HB.out.trans (b1.mono HB.out.size)⟩
      | true =>
        have HE := Lib.hid (fun he : l[k].id = q => M.pIx_eq hlt HN.out he)
        have HM := Lib.hid (fun hne : l[k].id ≠ q => show ∀ i (hi : i < l.length), i < k + 1 → l[i].id ≠ q from fun i hi h => by
          rcases Nat.lt_or_ge i k with h2 | h2
          · exact HN.out i hi h2
          · obtain rfl : i = k := by omega
            exact hne)
        by_cases he : l[k].id = q
        · have hd : (l[k].id == q) = true := beq_iff_eq.2 he
          have hQ : R = (k : Int) := by rw [HR.out, HE.out he]; simp [hlt]
          clear HE HM HN HR he
          subst hQ
          generalize l[k].id = x0 at *
          generalize l[k].name = x1 at *
          generalize l[k].born = x2 at *
          generalize l[k].cls = x3 at *
          generalize l[k].level = x4 at *
          go_wp2_with fail
          refine (HS.out _ hr).mono ?_
          rintro e w1 ⟨rfl, b1⟩
          have d0 := (b1.cell (p := ⟨g, o + k * 5, none⟩) hg).trans c0
          go_wp2_with fail
          go_ret
          exact ⟨rfl, HB.out.trans (b1.mono HB.out.size)⟩
        · have hd : (l[k].id == q) = false := beq_eq_false_iff_ne.2 he
          have HK := Lib.hid (HM.out he)
          clear HE HM HN he
          generalize hy0 : l[k].id = x0 at *
          generalize hy1 : l[k].name = x1 at *
          generalize hy2 : l[k].born = x2 at *
          generalize hy3 : l[k].cls = x3 at *
          generalize hy4 : l[k].level = x4 at *
          clear hy0 hy1 hy2 hy3 hy4
          go_wp2_with fail
          refine (HS.out _ hr).mono ?_
          rintro e w1 ⟨rfl, b1⟩
          have d0 := (b1.cell (p := ⟨g, o + k * 5, none⟩) hg).trans c0
          go_wp2_with fail
          go_roundw
          case rel => exact ⟨k + 1, by omega, by first | rfl | go_num, HK, Lib.hid (HB.out.trans (b1.mono HB.out.size))⟩
          case measure => simp [intOf]; omega
    · obtain rfl : k = l.length := by omega
      have hQ : R = -1 := by rw [HR.out, M.pIx_none (fun i hi => HN.out i hi hi)]; simp
      clear HR HN
      subst hQ
      go_wp2_with fail
      go_ret
      exact ⟨rfl, HB.out⟩
end Go.Proofs.Ytebbihckndjbeaa.PupilA
