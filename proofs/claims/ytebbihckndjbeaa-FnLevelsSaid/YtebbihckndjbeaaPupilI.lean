/-
  Walks: the pupils of a class (printed by gen_incls.py).
-/
import Derived.Test.YtebbihckndjbeaaPupilH
set_option linter.unusedVariables false
namespace Go.Proofs.Ytebbihckndjbeaa.PupilI
open Go.RowKit
theorem infoInt : (Try.prog.info? 3).map (fun i => (i.zero, i.size, i.bytes)) = some (some (.int .i64 0), 1, 8) := by kernel_rfl
set_option maxRecDepth 100000 in
set_option maxHeartbeats 2000000 in
theorem i_inclass (A : Option Addr) (c : Nat) (l : List M.Pupil) (q : Int) (w : World) (hl : l.length ≤ 1048576) (hs : ∀ p ∈ l, p.name.size ≤ 9223372036854775807) (ha : K.Rd w 5 A l.length (l.flatMap M.pupilCells)) :
    Calls Try.prog 27 #[.slice A l.length c, .int .i64 q] w (K.RetRowB w 3 1 (M.inClass l q).1.length ((M.inClass l q).1.map (Value.int .i64)) (M.inClass l q).2) := by
  obtain ⟨i0, hi0, hz0, hz1, hz2⟩ := info_parts infoInt
  have HS := Lib.hid (PupilG.i_are A c l w hl hs ha)
  have HI := Lib.hid (fun w => Base.i_within q 0 9 w)
  cases hok : M.pupsOk l with
  | false =>
    rw [hok] at HS
    rw [M.inClass_no (by simp [hok])]
    clear hok
    go_enter Try.func27, Try.ntmps27
    go_wp2_with fail
    refine HS.out.mono ?_
    rintro e w1 ⟨rfl, b1⟩
    go_wp2_with fail
    go_ret2
    exact ⟨none, 0, rfl, K.Row.nil _ _ _ _, b1⟩
  | true =>
    rw [hok] at HS
    cases hin : M.inR q 0 9 with
    | false =>
      rw [hin] at HI
      rw [M.inClass_no (by simp [hin])]
      clear hok hin
      go_enter Try.func27, Try.ntmps27
      go_wp2_with fail
      refine HS.out.mono ?_
      rintro e w1 ⟨rfl, b1⟩
      go_wp2_with fail
      refine (HI.out _).mono ?_
      rintro e w2 ⟨rfl, rfl⟩
      go_wp2_with fail
      go_ret2
      exact ⟨none, 0, rfl, K.Row.nil _ _ _ _, b1⟩
    | true =>
      rw [hin] at HI
      rw [M.inClass_yes hok hin]
      have h12 : l.length ≤ 12 := ((M.pupsOk_iff l).1 hok).1
      clear hok hin
      go_enter Try.func27, Try.ntmps27
      go_wp2_with fail
      refine HS.out.mono ?_
      rintro e w1 ⟨rfl, b1⟩
      go_wp2_with fail
      refine (HI.out _).mono ?_
      rintro e w2 ⟨rfl, rfl⟩
      have bb := Lib.hid (show Below w.heap.size w w1 from b1)
      clear b1
      go_wp2_with fail
      go_loopw [19, 6] (fun s o wr => ∃ (k : Nat) (L : List Int) (B : Option Addr) (d : Nat), k ≤ l.length ∧ s = .int .i64 k ∧ o = .slice B L.length d ∧ Hid (L = M.idsIn (l.take k) q) ∧ Hid (K.Row wr w.heap.size 3 1 B L.length d (L.map (Value.int .i64))) ∧ Hid (Below w.heap.size w wr)) (fun s _ _ => l.length - (intOf s).toNat)
      case atStart => exact ⟨0, [], none, 0, Nat.zero_le _, rfl, rfl, Lib.hid (by simp [M.idsIn]), Lib.hid (K.Row.nil _ _ _ _), bb⟩
      case round =>
        obtain ⟨k, L, B, d, hk, rfl, rfl, hL, HROW, HB⟩ := hrel
        by_cases hlt : k < l.length
        · obtain ⟨g, o, rfl, hg, c0, c1, c2, c3, c4⟩ := (ha.below HB.out).pupil hlt
          have hLk : L.length ≤ k := by rw [hL.out]; exact M.idsIn_le l q k
          have h1 : (k : Int) < (l.length : Int) := by omega
          have h2 : (0 : Int) ≤ (k : Int) := by omega
          have HT := Lib.hid (M.idsIn_take l q k hlt)
          rw [← hL.out] at HT
          generalize l[k].id = x0 at *
          generalize l[k].name = x1 at *
          generalize l[k].born = x2 at *
          generalize l[k].cls = x3 at *
          generalize l[k].level = x4 at *
          have hj2 : L.length + 1 ≤ maxLen := by simp only [maxLen]; omega
          have r1 := Lib.hid (HROW.out.alloc (.cells #[.int .i64 x0, .string x1, .int .i64 x2, .int .i64 x3, .int .i64 x4] 26))
          have q1 := Lib.hid (HB.out.alloc HB.out.size (.cells #[.int .i64 x0, .string x1, .int .i64 x2, .int .i64 x3, .int .i64 x4] 26))
          by_cases he : x3 = q
          · have hd : (x3 == q) = true := beq_iff_eq.2 he
            have HK := Lib.hid (show L ++ [x0] = M.idsIn (l.take (k + 1)) q by rw [HT.out, if_pos he])
            clear he HT hL
            go_wp2_with (at_builtin; refine K.append1 rfl (.tmp 27) (.tmp 30) _ rfl w.heap.size _ i0 _ 1 8 Try.underlying34 hi0 hz0 hz1 hz2 rfl (by omega) B L.length d _ rfl r1.out #[.int .i64 x0] rfl (by simp [Value.oneCell']) (by simp [go_sem]) hj2 (by omega) q1.out.size ?_; intro g' c' w2 hrow1 hb1 _ _ _)
            go_roundw
            case rel => exact ⟨k + 1, L ++ [x0], some ⟨g', 0, none⟩, c', by omega, by first | rfl | go_num, by simp, HK, Lib.hid (by simpa using hrow1), Lib.hid (q1.out.trans hb1)⟩
            case measure => simp [intOf]; omega
          · have hd : (x3 == q) = false := beq_eq_false_iff_ne.2 he
            have HK := Lib.hid (show L = M.idsIn (l.take (k + 1)) q by rw [HT.out, if_neg he, List.append_nil])
            clear he HT hL
            go_wp2_with fail
            go_roundw
            case rel => exact ⟨k + 1, L, B, d, by omega, by first | rfl | go_num, rfl, HK, r1, q1⟩
            case measure => simp [intOf]; omega
        · obtain rfl : k = l.length := by omega
          have hQ : L = M.idsIn l q := by rw [hL.out, List.take_length]
          clear hL
          subst hQ
          go_wp2_with fail
          go_ret2
          exact ⟨B, d, rfl, HROW.out, HB.out⟩
set_option maxRecDepth 100000 in
set_option maxHeartbeats 2000000 in
theorem s_inclass (A : Option Addr) (c : Nat) (l : List M.Pupil) (q : Int) (w : World) (hl : l.length ≤ 1048576) (hs : ∀ p ∈ l, p.name.size ≤ 9223372036854775807) (ha : K.Rd w 5 A l.length (l.flatMap M.pupilCells)) :
    Calls Try.prog 35 #[.slice A l.length c, .int .i64 q] w (K.RetRowB w 3 1 (M.inClass l q).1.length ((M.inClass l q).1.map (Value.int .i64)) (M.inClass l q).2) := by
  obtain ⟨i0, hi0, hz0, hz1, hz2⟩ := info_parts infoInt
  have e0 : K.Row (w.alloc (.cells #[] 3)) w.heap.size 3 1 (some ⟨w.heap.size, 0, none⟩) 0 0 [] := World.ownsRow_made w #[] 0 (Nat.le_refl _) (Nat.zero_le _) rfl
  have b0 : Below w.heap.size w (w.alloc (.cells #[] 3)) := (Below.refl _ _).alloc (Nat.le_refl _) _
  have r0 := ha.below b0
  have HS := Lib.hid (PupilG.s_good A c l (w.alloc (.cells #[] 3)) hl hs r0)
  have HI := Lib.hid (fun w => Base.s_in q 0 9 w)
  cases hok : M.pupsOk l with
  | false =>
    rw [hok] at HS
    rw [M.inClass_no (by simp [hok])]
    clear hok
    go_enter Try.func35, Try.ntmps35
    go_wp2_with fail
    refine HS.out.mono ?_
    rintro e w1 ⟨rfl, b1⟩
    go_wp2_with fail
    go_ret2
    exact ⟨some ⟨w.heap.size, 0, none⟩, 0, rfl, e0.below b1, b0.trans (b1.mono b0.size)⟩
  | true =>
    rw [hok] at HS
    cases hin : M.inR q 0 9 with
    | false =>
      rw [hin] at HI
      rw [M.inClass_no (by simp [hin])]
      clear hok hin
      go_enter Try.func35, Try.ntmps35
      go_wp2_with fail
      refine HS.out.mono ?_
      rintro e w1 ⟨rfl, b1⟩
      go_wp2_with fail
      refine (HI.out _).mono ?_
      rintro e w2 ⟨rfl, rfl⟩
      go_wp2_with fail
      go_ret2
      exact ⟨some ⟨w.heap.size, 0, none⟩, 0, rfl, e0.below b1, b0.trans (b1.mono b0.size)⟩
    | true =>
      rw [hin] at HI
      rw [M.inClass_yes hok hin]
      have h12 : l.length ≤ 12 := ((M.pupsOk_iff l).1 hok).1
      clear hok hin
      go_enter Try.func35, Try.ntmps35
      go_wp2_with fail
      refine HS.out.mono ?_
      rintro e w1 ⟨rfl, b1⟩
      go_wp2_with fail
      refine (HI.out _).mono ?_
      rintro e w2 ⟨rfl, rfl⟩
      have bb := Lib.hid (show Below w.heap.size w w1 from (b0.trans (b1.mono b0.size)))
      have row0 := e0.below b1
      clear b1
      go_wp2_with fail
      go_loopw [7, 6] (fun s o wr => ∃ (k : Nat) (L : List Int) (B : Option Addr) (d : Nat), k ≤ l.length ∧ s = .int .i64 k ∧ o = .slice B L.length d ∧ Hid (L = M.idsIn (l.take k) q) ∧ Hid (K.Row wr w.heap.size 3 1 B L.length d (L.map (Value.int .i64))) ∧ Hid (Below w.heap.size w wr)) (fun s _ _ => l.length - (intOf s).toNat)
      case atStart => exact ⟨0, [], some ⟨w.heap.size, 0, none⟩, 0, Nat.zero_le _, rfl, rfl, Lib.hid (by simp [M.idsIn]), Lib.hid row0, bb⟩
      case round =>
        obtain ⟨k, L, B, d, hk, rfl, rfl, hL, HROW, HB⟩ := hrel
        by_cases hlt : k < l.length
        · obtain ⟨g, o, rfl, hg, c0, c1, c2, c3, c4⟩ := (ha.below HB.out).pupil hlt
          have hLk : L.length ≤ k := by rw [hL.out]; exact M.idsIn_le l q k
          have h1 : (k : Int) < (l.length : Int) := by omega
          have h2 : (0 : Int) ≤ (k : Int) := by omega
          have HT := Lib.hid (M.idsIn_take l q k hlt)
          rw [← hL.out] at HT
          generalize l[k].id = x0 at *
          generalize l[k].name = x1 at *
          generalize l[k].born = x2 at *
          generalize l[k].cls = x3 at *
          generalize l[k].level = x4 at *
          have hj2 : L.length + 1 ≤ maxLen := by simp only [maxLen]; omega
          have r1 := HROW
          have q1 := HB
          by_cases he : x3 = q
          · have hd : (x3 == q) = true := beq_iff_eq.2 he
            have HK := Lib.hid (show L ++ [x0] = M.idsIn (l.take (k + 1)) q by rw [HT.out, if_pos he])
            clear he HT hL
            go_wp2_with (at_builtin; refine K.append1 rfl (.tmp 31) (.tmp 37) _ rfl w.heap.size _ i0 _ 1 8 Try.underlying34 hi0 hz0 hz1 hz2 rfl (by omega) B L.length d _ rfl r1.out #[.int .i64 x0] rfl (by simp [Value.oneCell']) (by simp [go_sem]) hj2 (by omega) q1.out.size ?_; intro g' c' w2 hrow1 hb1 _ _ _)
            go_roundw
            case rel => exact ⟨k + 1, L ++ [x0], some ⟨g', 0, none⟩, c', by omega, by first | rfl | go_num, by simp, HK, Lib.hid (by simpa using hrow1), Lib.hid (q1.out.trans hb1)⟩
            case measure => simp [intOf]; omega
          · have hd : (x3 == q) = false := beq_eq_false_iff_ne.2 he
            have HK := Lib.hid (show L = M.idsIn (l.take (k + 1)) q by rw [HT.out, if_neg he, List.append_nil])
            clear he HT hL
            go_wp2_with fail
            go_roundw
            case rel => exact ⟨k + 1, L, B, d, by omega, by first | rfl | go_num, rfl, HK, r1, q1⟩
            case measure => simp [intOf]; omega
        · obtain rfl : k = l.length := by omega
          have hQ : L = M.idsIn l q := by rw [hL.out, List.take_length]
          clear hL
          subst hQ
          go_wp2_with fail
          go_ret2
          exact ⟨B, d, rfl, HROW.out, HB.out⟩
end Go.Proofs.Ytebbihckndjbeaa.PupilI
