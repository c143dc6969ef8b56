/-
  Walks: the mean level of a class (printed by gen_mean.py).
-/
import Derived.Test.YtebbihckndjbeaaPupilH
import Derived.Test.YtebbihckndjbeaaPupilR
set_option linter.unusedVariables false
namespace Go.Proofs.Ytebbihckndjbeaa.PupilE
open Go.RowKit
set_option maxRecDepth 100000 in
set_option maxHeartbeats 4000000 in
theorem i_mean (A : Option Addr) (c : Nat) (l : List M.Pupil) (q : Int) (w : World) (hl : l.length ≤ 1048576) (hs : ∀ p ∈ l, p.name.size ≤ 9223372036854775807) (ha : K.Rd w 5 A l.length (l.flatMap M.pupilCells)) :
    Calls Try.prog 48 #[.slice A l.length c, .int .i64 q] w fun e w' => e = .returned (.tuple #[.int .i64 (M.meanLv l q).1.1, .int .i64 (M.meanLv l q).1.2, .bool (M.meanLv l q).2]) ∧ Below w.heap.size w w' := by
  have HS := Lib.hid (PupilG.i_are A c l w hl hs ha)
  have HI := Lib.hid (fun w => Base.i_within q 0 9 w)
  cases hok : M.pupsOk l with
  | false =>
    rw [hok] at HS
    rw [show M.meanLv l q = ((0, 0), false) by unfold M.meanLv; rw [if_neg (by simp [hok])]]
    clear hok
    go_enter Try.func48, Try.ntmps48
    go_wp2_with fail
    refine HS.out.mono ?_
    rintro e w1 ⟨rfl, b1⟩
    go_wp2_with fail
    exact bodyPost_ret (v := .tuple #[.int .i64 0, .int .i64 0, .bool false]) (by simp [results, Try.results48, go_sem]) rfl ⟨rfl, b1⟩
  | true =>
    rw [hok] at HS
    cases hin : M.inR q 0 9 with
    | false =>
      rw [hin] at HI
      rw [show M.meanLv l q = ((0, 0), false) by unfold M.meanLv; rw [if_neg (by simp [hin])]]
      clear hok hin
      go_enter Try.func48, Try.ntmps48
      go_wp2_with fail
      refine HS.out.mono ?_
      rintro e w1 ⟨rfl, b1⟩
      go_wp2_with fail
      refine (HI.out _).mono ?_
      rintro e w2 ⟨rfl, rfl⟩
      go_wp2_with fail
      exact bodyPost_ret (v := .tuple #[.int .i64 0, .int .i64 0, .bool false]) (by simp [results, Try.results48, go_sem]) rfl ⟨rfl, b1⟩
    | true =>
      rw [hin] at HI
      obtain ⟨R, hR⟩ : ∃ R, R = M.meanLv l q := ⟨_, rfl⟩
      rw [← hR]
      have HY := Lib.hid (fun (a b : Nat) (h : ((a : Int), (b : Int)) = M.lvAcc l q) (hb : 0 < b) => show R = (((a : Int) / ((Nat.gcd a b : Nat) : Int), (b : Int) / ((Nat.gcd a b : Nat) : Int)), true) by
        rw [hR]; unfold M.meanLv; rw [← h, if_pos ⟨hok, hin, by simp; omega⟩]; rfl)
      have HN := Lib.hid (fun (a : Int) (h : (a, (0 : Int)) = M.lvAcc l q) => show R = ((0, 0), false) by
        rw [hR]; unfold M.meanLv; rw [← h, if_neg (fun h2 => h2.2.2 rfl)])
      have hlv : ∀ p ∈ l, 0 ≤ p.level ∧ p.level ≤ 10 := fun p hp => by
        obtain ⟨k, hk, rfl⟩ := List.getElem_of_mem hp
        have := (M.Pupil.ok_iff _).1 (M.pups_ok _ ((M.pupsOk_iff l).1 hok).2.1 k hk hk)
        omega
      have h12 : l.length ≤ 12 := ((M.pupsOk_iff l).1 hok).1
      have HBD := Lib.hid (M.lvAcc_bd l q hlv)
      clear hR hok hin hlv
      go_enter Try.func48, Try.ntmps48
      go_wp2_with fail
      refine HS.out.mono ?_
      rintro e w1 ⟨rfl, b1⟩
      go_wp2_with fail
      refine (HI.out _).mono ?_
      rintro e w2 ⟨rfl, rfl⟩
      have bb := Lib.hid b1
      clear b1
      go_wp2_with fail
      go_loopw [23, 7, 8] (fun s x y wr => ∃ (k : Nat) (a b : Int), k ≤ l.length ∧ s = .int .i64 k ∧ x = .int .i64 a ∧ y = .int .i64 b ∧ Hid ((a, b) = M.lvAcc (l.take k) q) ∧ Hid (Below w.heap.size w wr)) (fun s _ _ _ => l.length - (intOf s).toNat)
      case atStart => exact ⟨0, 0, 0, Nat.zero_le _, rfl, rfl, rfl, Lib.hid (by simp [M.lvAcc]), bb⟩
      case round =>
        obtain ⟨k, a, b, hk, rfl, rfl, rfl, hL, HB⟩ := hrel
        have hbd := HBD.out k hk
        rw [← hL.out] at hbd
        dsimp only at hbd
        obtain ⟨⟨v1, v2⟩, v3, v4⟩ := hbd
        by_cases hlt : k < l.length
        · obtain ⟨g, o, rfl, hg, c0, c1, c2, c3, c4⟩ := (ha.below HB.out).pupil hlt
          have h1 : (k : Int) < (l.length : Int) := by omega
          have h2 : (0 : Int) ≤ (k : Int) := by omega
          have HT := Lib.hid (M.lvAcc_take l q k hlt)
          have HQ : Hid (M.lvStep q (a, b) l[k] = if l[k].cls = q then (a + l[k].level, b + 1) else (a, b)) := Lib.hid rfl
          rw [← hL.out] at HT
          have HW := HBD.out (k + 1) hlt
          rw [HT.out, HQ.out] at HW
          generalize hz : M.lvStep q (a, b) l[k] = st at HT HQ
          clear hz
          generalize l[k].id = x0 at *
          generalize l[k].name = x1 at *
          generalize l[k].born = x2 at *
          generalize l[k].cls = x3 at *
          generalize l[k].level = x4 at *
          have q1 := Lib.hid (HB.out.alloc HB.out.size (.cells #[.int .i64 x0, .string x1, .int .i64 x2, .int .i64 x3, .int .i64 x4] 26))
          by_cases he : x3 = q
          · have hd : (x3 == q) = true := beq_iff_eq.2 he
            have HK := Lib.hid (show (a + x4, b + 1) = M.lvAcc (l.take (k + 1)) q by rw [HT.out, HQ.out, if_pos he])
            rw [if_pos he] at HW
            dsimp only at HW
            obtain ⟨⟨u1, u2⟩, u3, u4⟩ := HW
            clear he HT hL HQ
            go_wp2_with fail
            go_roundw
            case rel => exact ⟨k + 1, a + x4, b + 1, by omega, by first | rfl | go_num, by first | rfl | go_num, by first | rfl | go_num, HK, q1⟩
            case measure => simp [intOf]; omega
          · have hd : (x3 == q) = false := beq_eq_false_iff_ne.2 he
            have HK := Lib.hid (show (a, b) = M.lvAcc (l.take (k + 1)) q by rw [HT.out, HQ.out, if_neg he])
            clear he HT hL HQ HW
            go_wp2_with fail
            go_roundw
            case rel => exact ⟨k + 1, a, b, by omega, by first | rfl | go_num, rfl, rfl, HK, q1⟩
            case measure => simp [intOf]; omega
        · obtain rfl : k = l.length := by omega
          have hA := hL.out
          rw [List.take_length] at hA
          obtain ⟨m, rfl⟩ := Int.eq_ofNat_of_zero_le v1
          obtain ⟨n, rfl⟩ := Int.eq_ofNat_of_zero_le v3
          cases n with
          | zero =>
            have hRR := HN.out _ hA
            clear HN HY hL hA
            subst hRR
            go_wp2_with fail
            exact bodyPost_ret (v := .tuple #[.int .i64 0, .int .i64 0, .bool false]) (by simp [results, Try.results48, go_sem]) rfl ⟨rfl, HB.out⟩
          | succ j =>
            have hRR := HY.out m (j + 1) hA (by omega)
            have HF := Lib.hid (fun w => PupilR.i_fraction m (j + 1) w (by omega) (by omega) (by omega))
            generalize (m : Int) / ((Nat.gcd m (j + 1) : Nat) : Int) = u at *
            generalize ((j + 1 : Nat) : Int) / ((Nat.gcd m (j + 1) : Nat) : Int) = v at *
            have hd : (((j + 1 : Nat) : Int) == 0) = false := beq_eq_false_iff_ne.2 (by omega)
            clear HN HY hL hA
            subst hRR
            go_wp2_with fail
            refine (HF.out _).mono ?_
            rintro e w3 ⟨rfl, b3⟩
            go_wp2_with fail
            exact bodyPost_ret (v := .tuple #[.int .i64 u, .int .i64 v, .bool true]) (by simp [results, Try.results48, go_sem]) rfl ⟨rfl, HB.out.trans (b3.mono HB.out.size)⟩
set_option maxRecDepth 100000 in
set_option maxHeartbeats 4000000 in
theorem s_mean (A : Option Addr) (c : Nat) (l : List M.Pupil) (q : Int) (w : World) (hl : l.length ≤ 1048576) (hs : ∀ p ∈ l, p.name.size ≤ 9223372036854775807) (ha : K.Rd w 5 A l.length (l.flatMap M.pupilCells)) :
    Calls Try.prog 49 #[.slice A l.length c, .int .i64 q] w fun e w' => e = .returned (.tuple #[.int .i64 (M.meanLv l q).1.1, .int .i64 (M.meanLv l q).1.2, .bool (M.meanLv l q).2]) ∧ Below w.heap.size w w' := by
  have HS := Lib.hid (PupilG.s_good A c l w hl hs ha)
  have HI := Lib.hid (fun w => Base.s_in q 0 9 w)
  cases hok : M.pupsOk l with
  | false =>
    rw [hok] at HS
    rw [show M.meanLv l q = ((0, 0), false) by unfold M.meanLv; rw [if_neg (by simp [hok])]]
    clear hok
    go_enter Try.func49, Try.ntmps49
    go_wp2_with fail
    refine HS.out.mono ?_
    rintro e w1 ⟨rfl, b1⟩
    go_wp2_with fail
    exact bodyPost_ret (v := .tuple #[.int .i64 0, .int .i64 0, .bool false]) (by simp [results, Try.results49, go_sem]) rfl ⟨rfl, b1⟩
  | true =>
    rw [hok] at HS
    cases hin : M.inR q 0 9 with
    | false =>
      rw [hin] at HI
      rw [show M.meanLv l q = ((0, 0), false) by unfold M.meanLv; rw [if_neg (by simp [hin])]]
      clear hok hin
      go_enter Try.func49, Try.ntmps49
      go_wp2_with fail
      refine HS.out.mono ?_
      rintro e w1 ⟨rfl, b1⟩
      go_wp2_with fail
      refine (HI.out _).mono ?_
      rintro e w2 ⟨rfl, rfl⟩
      go_wp2_with fail
      exact bodyPost_ret (v := .tuple #[.int .i64 0, .int .i64 0, .bool false]) (by simp [results, Try.results49, go_sem]) rfl ⟨rfl, b1⟩
    | true =>
      rw [hin] at HI
      obtain ⟨R, hR⟩ : ∃ R, R = M.meanLv l q := ⟨_, rfl⟩
      rw [← hR]
      have HY := Lib.hid (fun (a b : Nat) (h : ((a : Int), (b : Int)) = M.lvAcc l q) (hb : 0 < b) => show R = (((a : Int) / ((Nat.gcd a b : Nat) : Int), (b : Int) / ((Nat.gcd a b : Nat) : Int)), true) by
        rw [hR]; unfold M.meanLv; rw [← h, if_pos ⟨hok, hin, by simp; omega⟩]; rfl)
      have HN := Lib.hid (fun (a : Int) (h : (a, (0 : Int)) = M.lvAcc l q) => show R = ((0, 0), false) by
        rw [hR]; unfold M.meanLv; rw [← h, if_neg (fun h2 => h2.2.2 rfl)])
      have hlv : ∀ p ∈ l, 0 ≤ p.level ∧ p.level ≤ 10 := fun p hp => by
        obtain ⟨k, hk, rfl⟩ := List.getElem_of_mem hp
        have := (M.Pupil.ok_iff _).1 (M.pups_ok _ ((M.pupsOk_iff l).1 hok).2.1 k hk hk)
        omega
      have h12 : l.length ≤ 12 := ((M.pupsOk_iff l).1 hok).1
      have HBD := Lib.hid (M.lvAcc_bd l q hlv)
      clear hR hok hin hlv
      go_enter Try.func49, Try.ntmps49
      go_wp2_with fail
      refine HS.out.mono ?_
      rintro e w1 ⟨rfl, b1⟩
      go_wp2_with fail
      refine (HI.out _).mono ?_
      rintro e w2 ⟨rfl, rfl⟩
      have bb := Lib.hid b1
      clear b1
      go_wp2_with fail
      go_loopw [9, 7, 8] (fun s x y wr => ∃ (k : Nat) (a b : Int), k ≤ l.length ∧ s = .int .i64 k ∧ x = .int .i64 a ∧ y = .int .i64 b ∧ Hid ((a, b) = M.lvAcc (l.take k) q) ∧ Hid (Below w.heap.size w wr)) (fun s _ _ _ => l.length - (intOf s).toNat)
      case atStart => exact ⟨0, 0, 0, Nat.zero_le _, rfl, rfl, rfl, Lib.hid (by simp [M.lvAcc]), bb⟩
      case round =>
        obtain ⟨k, a, b, hk, rfl, rfl, rfl, hL, HB⟩ := hrel
        have hbd := HBD.out k hk
        rw [← hL.out] at hbd
        dsimp only at hbd
        obtain ⟨⟨v1, v2⟩, v3, v4⟩ := hbd
        by_cases hlt : k < l.length
        · obtain ⟨g, o, rfl, hg, c0, c1, c2, c3, c4⟩ := (ha.below HB.out).pupil hlt
          have h1 : (k : Int) < (l.length : Int) := by omega
          have h2 : (0 : Int) ≤ (k : Int) := by omega
          have HT := Lib.hid (M.lvAcc_take l q k hlt)
          have HQ : Hid (M.lvStep q (a, b) l[k] = if l[k].cls = q then (a + l[k].level, b + 1) else (a, b)) := Lib.hid rfl
          rw [← hL.out] at HT
          have HW := HBD.out (k + 1) hlt
          rw [HT.out, HQ.out] at HW
          generalize hz : M.lvStep q (a, b) l[k] = st at HT HQ
          clear hz
          generalize l[k].id = x0 at *
          generalize l[k].name = x1 at *
          generalize l[k].born = x2 at *
          generalize l[k].cls = x3 at *
          generalize l[k].level = x4 at *
          have q1 := HB
          by_cases he : x3 = q
          · have hd : (x3 == q) = true := beq_iff_eq.2 he
            have HK := Lib.hid (show (a + x4, b + 1) = M.lvAcc (l.take (k + 1)) q by rw [HT.out, HQ.out, if_pos he])
            rw [if_pos he] at HW
            dsimp only at HW
            obtain ⟨⟨u1, u2⟩, u3, u4⟩ := HW
            clear he HT hL HQ
            go_wp2_with fail
            go_roundw
            case rel => exact ⟨k + 1, a + x4, b + 1, by omega, by first | rfl | go_num, by first | rfl | go_num, by first | rfl | go_num, HK, q1⟩
            case measure => simp [intOf]; omega
          · have hd : (x3 == q) = false := beq_eq_false_iff_ne.2 he
            have HK := Lib.hid (show (a, b) = M.lvAcc (l.take (k + 1)) q by rw [HT.out, HQ.out, if_neg he])
            clear he HT hL HQ HW
            go_wp2_with fail
            go_roundw
            case rel => exact ⟨k + 1, a, b, by omega, by first | rfl | go_num, rfl, rfl, HK, q1⟩
            case measure => simp [intOf]; omega
        · obtain rfl : k = l.length := by omega
          have hA := hL.out
          rw [List.take_length] at hA
          obtain ⟨m, rfl⟩ := Int.eq_ofNat_of_zero_le v1
          obtain ⟨n, rfl⟩ := Int.eq_ofNat_of_zero_le v3
          cases n with
          | zero =>
            have hRR := HN.out _ hA
            clear HN HY hL hA
            subst hRR
            go_wp2_with fail
            exact bodyPost_ret (v := .tuple #[.int .i64 0, .int .i64 0, .bool false]) (by simp [results, Try.results49, go_sem]) rfl ⟨rfl, HB.out⟩
          | succ j =>
            have hRR := HY.out m (j + 1) hA (by omega)
            have HF := Lib.hid (fun w => PupilR.s_reduce m (j + 1) w (by omega) (by omega) (by omega))
            generalize (m : Int) / ((Nat.gcd m (j + 1) : Nat) : Int) = u at *
            generalize ((j + 1 : Nat) : Int) / ((Nat.gcd m (j + 1) : Nat) : Int) = v at *
            have hd : (((j + 1 : Nat) : Int) == 0) = false := beq_eq_false_iff_ne.2 (by omega)
            clear HN HY hL hA
            subst hRR
            go_wp2_with fail
            refine (HF.out _).mono ?_
            rintro e w3 ⟨rfl, b3⟩
            go_wp2_with fail
            exact bodyPost_ret (v := .tuple #[.int .i64 u, .int .i64 v, .bool true]) (by simp [results, Try.results49, go_sem]) rfl ⟨rfl, HB.out.trans (b3.mono HB.out.size)⟩
end Go.Proofs.Ytebbihckndjbeaa.PupilE
