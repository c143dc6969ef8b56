/-
  Walks: the classes to which a pupil could go (printed by gen_pops.py).
-/
import Derived.Test.YtebbihckndjbeaaPupilX
import Derived.Test.YtebbihckndjbeaaPupilI
set_option linter.unusedVariables false
namespace Go.Proofs.Ytebbihckndjbeaa.PupilC
open Go.RowKit
set_option maxRecDepth 100000 in
set_option maxHeartbeats 2000000 in
theorem i_classes (A : Option Addr) (c : Nat) (l : List M.Pupil) (id : Int) (w : World) (hl : l.length ≤ 1048576) (hs : ∀ p ∈ l, p.name.size ≤ 9223372036854775807) (ha : K.Rd w 5 A l.length (l.flatMap M.pupilCells)) :
    Calls Try.prog 22 #[.slice A l.length c, .int .i64 id] w (K.RetRowB w 3 1 (M.classesFor l id).1.length ((M.classesFor l id).1.map (Value.int .i64)) (M.classesFor l id).2) := by
  have q0 := Lib.hid (Below.refl w.heap.size w)
  have HA := Lib.hid (PupilA.i_at A c l id w hl ha)
  have HS := Lib.hid (fun w ha => PupilG.i_are A c l w hl hs ha)
  cases hok : M.pupsOk l with
  | false =>
    rw [hok] at HS
    rw [M.classesFor_no (by simp [hok])]
    generalize (if M.pIx l id < l.length then (M.pIx l id : Int) else -1) = r at HA
    clear hok
    go_enter Try.func22, Try.ntmps22
    go_wp2_with fail
    refine (HA.out).mono ?_
    rintro e w1 ⟨rfl, b1⟩
    have q1 := Lib.hid (q0.out.trans (b1.mono q0.out.size))
    have r1 := Lib.hid (ha.below q1.out)
    go_wp2_with fail
    refine (HS.out _ r1.out).mono ?_
    rintro e w2 ⟨rfl, b2⟩
    have q2 := Lib.hid (q1.out.trans (b2.mono q1.out.size))
    have r2 := Lib.hid (ha.below q2.out)
    go_wp2_with fail
    go_ret2
    exact ⟨none, 0, rfl, K.Row.nil _ _ _ _, q2.out⟩
  | true =>
    rw [hok] at HS
    by_cases hix : M.pIx l id < l.length
    · rw [if_pos hix] at HA
      rw [M.classesFor_yes hok hix]
      have HW := Lib.hid (fun q w ha => PupilW.i_with A c l (M.pIx l id) q w hl hs hix ha)
      generalize M.pIx l id = k at *
      clear hok
      have h1 : (k : Int) < (l.length : Int) := by omega
      have h2 : (0 : Int) ≤ (k : Int) := by omega
      obtain ⟨i0, hi0, hz0, hz1, hz2⟩ := info_parts PupilI.infoInt
      go_enter Try.func22, Try.ntmps22
      go_wp2_with fail
      refine (HA.out).mono ?_
      rintro e w1 ⟨rfl, b1⟩
      have q1 := Lib.hid (q0.out.trans (b1.mono q0.out.size))
      have r1 := Lib.hid (ha.below q1.out)
      go_wp2_with fail
      refine (HS.out _ r1.out).mono ?_
      rintro e w2 ⟨rfl, b2⟩
      have q2 := Lib.hid (q1.out.trans (b2.mono q1.out.size))
      have r2 := Lib.hid (ha.below q2.out)
      go_wp2_with fail
      go_loopw [8, 7] (fun s o wr => ∃ (j : Nat) (L : List Int) (B : Option Addr) (d : Nat), j ≤ 9 ∧ s = .int .i64 ((j : Int) + 1) ∧ o = .slice B L.length d ∧ Hid (L = M.clsFor l k j) ∧ Hid (K.Row wr w.heap.size 3 1 B L.length d (L.map (Value.int .i64))) ∧ Hid (Below w.heap.size w wr)) (fun s _ _ => (10 - intOf s).toNat)
      case atStart => exact ⟨0, [], none, 0, by omega, rfl, rfl, Lib.hid rfl, Lib.hid (K.Row.nil _ _ _ _), q2⟩
      case round =>
        obtain ⟨j, L, B, d, hj, rfl, rfl, HL, HROW, HB⟩ := hrel
        by_cases hlt : j < 9
        · have hLj : L.length ≤ j := by rw [HL.out]; exact M.clsFor_le l k j
          have hj2 : L.length + 1 ≤ maxLen := by simp only [maxLen]; omega
          cases hw : M.pupsOk (M.withC l k ((j : Int) + 1)) with
          | true =>
            have HT := Lib.hid (show M.clsFor l k (j + 1) = L ++ [(j : Int) + 1] by rw [M.clsFor_succ, hw, ← HL.out]; simp)
            have HWj := Lib.hid (HW.out ((j : Int) + 1))
            rw [hw] at HWj
            clear hw HL HW
            generalize M.withC l k ((j : Int) + 1) = P at *
            go_wp2_with fail
            refine (HWj.out _ (ha.below HB.out)).mono ?_
            rintro e w5 ⟨X, n, rfl, row5, b5⟩
            have HR5 := Lib.hid (HROW.out.below b5)
            have HB5 := Lib.hid (HB.out.trans (b5.mono HB.out.size))
            go_wp2_with (at_builtin; refine K.append1 rfl (.tmp 33) (.tmp 35) _ rfl w.heap.size _ i0 _ 1 8 Try.underlying34 hi0 hz0 hz1 hz2 rfl (by omega) B L.length d _ rfl HR5.out #[.int .i64 ((j : Int) + 1)] rfl (by simp [Value.oneCell']) (by simp [go_sem]) hj2 (by omega) HB5.out.size ?_; intro g' c' w6 hrow6 hb6 _ _ _)
            go_roundw
            case rel => exact ⟨j + 1, L ++ [(j : Int) + 1], some ⟨g', 0, none⟩, c', by omega, by go_num, by simp, Lib.hid HT.out.symm, Lib.hid (by simpa using hrow6), Lib.hid (HB5.out.trans hb6)⟩
            case measure => simp [intOf]; omega
          | false =>
            have HT := Lib.hid (show M.clsFor l k (j + 1) = L by rw [M.clsFor_succ, hw, ← HL.out]; simp)
            have HWj := Lib.hid (HW.out ((j : Int) + 1))
            rw [hw] at HWj
            clear hw HL HW
            generalize M.withC l k ((j : Int) + 1) = P at *
            go_wp2_with fail
            refine (HWj.out _ (ha.below HB.out)).mono ?_
            rintro e w5 ⟨X, n, rfl, row5, b5⟩
            have HR5 := Lib.hid (HROW.out.below b5)
            have HB5 := Lib.hid (HB.out.trans (b5.mono HB.out.size))
            go_wp2_with fail
            go_roundw
            case rel => exact ⟨j + 1, L, B, d, by omega, by go_num, rfl, Lib.hid HT.out.symm, HR5, HB5⟩
            case measure => simp [intOf]; omega
        · obtain rfl : j = 9 := by omega
          have hQ : L = M.clsFor l k 9 := HL.out
          clear HL
          subst hQ
          go_wp2_with fail
          go_ret2
          exact ⟨B, d, rfl, HROW.out, HB.out⟩
    · rw [if_neg hix] at HA
      rw [M.classesFor_no (by simp [hix])]
      clear hok hix
      go_enter Try.func22, Try.ntmps22
      go_wp2_with fail
      refine (HA.out).mono ?_
      rintro e w1 ⟨rfl, b1⟩
      have q1 := Lib.hid (q0.out.trans (b1.mono q0.out.size))
      have r1 := Lib.hid (ha.below q1.out)
      go_wp2_with fail
      refine (HS.out _ r1.out).mono ?_
      rintro e w2 ⟨rfl, b2⟩
      have q2 := Lib.hid (q1.out.trans (b2.mono q1.out.size))
      have r2 := Lib.hid (ha.below q2.out)
      go_wp2_with fail
      go_ret2
      exact ⟨none, 0, rfl, K.Row.nil _ _ _ _, q2.out⟩
set_option maxRecDepth 100000 in
set_option maxHeartbeats 2000000 in
theorem s_classes (A : Option Addr) (c : Nat) (l : List M.Pupil) (id : Int) (w : World) (hl : l.length ≤ 1048576) (hs : ∀ p ∈ l, p.name.size ≤ 9223372036854775807) (ha : K.Rd w 5 A l.length (l.flatMap M.pupilCells)) :
    Calls Try.prog 23 #[.slice A l.length c, .int .i64 id] w (K.RetRowB w 3 1 (M.classesFor l id).1.length ((M.classesFor l id).1.map (Value.int .i64)) (M.classesFor l id).2) := by
  have q0 := Lib.hid (Below.refl w.heap.size w)
  have e0 : Hid (K.Row (w.alloc (.cells #[] 3)) w.heap.size 3 1 (some ⟨w.heap.size, 0, none⟩) 0 0 []) := Lib.hid (World.ownsRow_made w #[] 0 (Nat.le_refl _) (Nat.zero_le _) rfl)
  have qe := Lib.hid (q0.out.alloc q0.out.size (.cells #[] 3))
  have re := Lib.hid (ha.below qe.out)
  have HF := Lib.hid (PupilA.s_find A c l id (w.alloc (.cells #[] 3)) hl hs re.out)
  by_cases hy : M.pupsOk l = true ∧ M.pIx l id < l.length
  rotate_left
  · rw [if_neg hy] at HF
    rw [M.classesFor_no (fun h => hy ⟨h.1, h.2⟩)]
    clear hy
    go_enter Try.func23, Try.ntmps23
    go_wp2_with fail
    refine HF.out.mono ?_
    rintro e w1 ⟨rfl, b1⟩
    have q1 := Lib.hid (qe.out.trans (b1.mono qe.out.size))
    go_wp2_with fail
    go_ret2
    exact ⟨some ⟨w.heap.size, 0, none⟩, 0, rfl, e0.out.below b1, q1.out⟩
  · rw [if_pos hy] at HF
    obtain ⟨hok, hix⟩ := hy
    rw [M.classesFor_yes hok hix]
    have HW := Lib.hid (fun q w ha => PupilX.s_with A c l (M.pIx l id) q l[M.pIx l id].level w hl hix ha)
    have HG := Lib.hid (fun (q : Int) (A : Option Addr) (c : Nat) (w : World) (ha : K.Rd w 5 A (M.withCL l (M.pIx l id) q l[M.pIx l id].level).length ((M.withCL l (M.pIx l id) q l[M.pIx l id].level).flatMap M.pupilCells)) => PupilG.s_good A c (M.withCL l (M.pIx l id) q l[M.pIx l id].level) w (by rw [M.withCL_len]; exact hl) (M.names_withCL hs hix q _) ha)
    have HE := Lib.hid (fun q => M.withCL_withC l (M.pIx l id) hix q)
    have HLL := Lib.hid (fun q => M.withC_len l (M.pIx l id) q)
    have HR := Lib.hid (fun (w : World) (ha : K.Rd w 5 A l.length (l.flatMap M.pupilCells)) => ha.pupil hix)
    generalize l[M.pIx l id].level = v at *
    generalize l[M.pIx l id].id = x0 at *
    generalize l[M.pIx l id].name = x1 at *
    generalize l[M.pIx l id].born = x2 at *
    generalize l[M.pIx l id].cls = x3 at *
    generalize M.pIx l id = k at *
    clear hok
    have h1 : (k : Int) < (l.length : Int) := by omega
    have h2 : (0 : Int) ≤ (k : Int) := by omega
    obtain ⟨i0, hi0, hz0, hz1, hz2⟩ := info_parts PupilI.infoInt
    go_enter Try.func23, Try.ntmps23
    go_wp2_with fail
    refine HF.out.mono ?_
    rintro e w1 ⟨rfl, b1⟩
    have q1 := Lib.hid (qe.out.trans (b1.mono qe.out.size))
    have row1 := Lib.hid (e0.out.below b1)
    go_wp2_with fail
    go_loopw [8, 6] (fun s o wr => ∃ (j : Nat) (L : List Int) (B : Option Addr) (d : Nat), j ≤ 9 ∧ s = .int .i64 ((j : Int) + 1) ∧ o = .slice B L.length d ∧ Hid (L = M.clsFor l k j) ∧ Hid (K.Row wr w.heap.size 3 1 B L.length d (L.map (Value.int .i64))) ∧ Hid (Below w.heap.size w wr)) (fun s _ _ => (10 - intOf s).toNat)
    case atStart => exact ⟨0, [], some ⟨w.heap.size, 0, none⟩, 0, by omega, rfl, rfl, Lib.hid rfl, Lib.hid (row1.out), q1⟩
    case round =>
      obtain ⟨j, L, B, d, hj, rfl, rfl, HL, HROW, HB⟩ := hrel
      by_cases hlt : j < 9
      · have hLj : L.length ≤ j := by rw [HL.out]; exact M.clsFor_le l k j
        have hj2 : L.length + 1 ≤ maxLen := by simp only [maxLen]; omega
        cases hw : M.pupsOk (M.withC l k ((j : Int) + 1)) with
        | true =>
          have HT := Lib.hid (show M.clsFor l k (j + 1) = L ++ [(j : Int) + 1] by rw [M.clsFor_succ, hw, ← HL.out]; simp)
          have HWj := Lib.hid (HW.out ((j : Int) + 1))
          have HGj := Lib.hid (HG.out ((j : Int) + 1))
          rw [HE.out] at HWj HGj
          rw [hw, HLL.out] at HGj
          clear hw HL HW HG
          generalize M.withC l k ((j : Int) + 1) = P at *
          have rr := Lib.hid (ha.below HB.out)
          obtain ⟨g, o, hA, hg, c0, c1, c2, c3, c4⟩ := HR.out _ rr.out
          subst hA
          go_wp2_with fail
          refine (HWj.out _ rr.out).mono ?_
          rintro e w4 ⟨X, n, rfl, row4, b4⟩
          have HR4 := Lib.hid (HROW.out.below b4)
          have HB4 := Lib.hid (HB.out.trans (b4.mono HB.out.size))
          go_wp2_with fail
          refine (HGj.out _ _ _ row4.rd).mono ?_
          rintro e w5 ⟨rfl, b5⟩
          have HR5 := Lib.hid (HR4.out.below b5)
          have HB5 := Lib.hid (HB4.out.trans (b5.mono HB4.out.size))
          clear c0 c1 c2 c3 c4
          go_wp2_with (at_builtin; refine K.append1 rfl (.tmp 30) (.tmp 32) _ rfl w.heap.size _ i0 _ 1 8 Try.underlying34 hi0 hz0 hz1 hz2 rfl (by omega) B L.length d _ rfl HR5.out #[.int .i64 ((j : Int) + 1)] rfl (by simp [Value.oneCell']) (by simp [go_sem]) hj2 (by omega) HB5.out.size ?_; intro g' c' w6 hrow6 hb6 _ _ _)
          go_roundw
          case rel => exact ⟨j + 1, L ++ [(j : Int) + 1], some ⟨g', 0, none⟩, c', by omega, by go_num, by simp, Lib.hid HT.out.symm, Lib.hid (by simpa using hrow6), Lib.hid (HB5.out.trans hb6)⟩
          case measure => simp [intOf]; omega
        | false =>
          have HT := Lib.hid (show M.clsFor l k (j + 1) = L by rw [M.clsFor_succ, hw, ← HL.out]; simp)
          have HWj := Lib.hid (HW.out ((j : Int) + 1))
          have HGj := Lib.hid (HG.out ((j : Int) + 1))
          rw [HE.out] at HWj HGj
          rw [hw, HLL.out] at HGj
          clear hw HL HW HG
          generalize M.withC l k ((j : Int) + 1) = P at *
          have rr := Lib.hid (ha.below HB.out)
          obtain ⟨g, o, hA, hg, c0, c1, c2, c3, c4⟩ := HR.out _ rr.out
          subst hA
          go_wp2_with fail
          refine (HWj.out _ rr.out).mono ?_
          rintro e w4 ⟨X, n, rfl, row4, b4⟩
          have HR4 := Lib.hid (HROW.out.below b4)
          have HB4 := Lib.hid (HB.out.trans (b4.mono HB.out.size))
          go_wp2_with fail
          refine (HGj.out _ _ _ row4.rd).mono ?_
          rintro e w5 ⟨rfl, b5⟩
          have HR5 := Lib.hid (HR4.out.below b5)
          have HB5 := Lib.hid (HB4.out.trans (b5.mono HB4.out.size))
          clear c0 c1 c2 c3 c4
          go_wp2_with fail
          go_roundw
          case rel => exact ⟨j + 1, L, B, d, by omega, by go_num, rfl, Lib.hid HT.out.symm, HR5, HB5⟩
          case measure => simp [intOf]; omega
      · obtain rfl : j = 9 := by omega
        have hQ : L = M.clsFor l k 9 := HL.out
        clear HL
        subst hQ
        go_wp2_with fail
        go_ret2
        exact ⟨B, d, rfl, HROW.out, HB.out⟩
end Go.Proofs.Ytebbihckndjbeaa.PupilC
