/-
  Walks: two pupils change their classes (printed by gen_pops.py).
-/
import Derived.Test.YtebbihckndjbeaaPupilX
set_option linter.unusedVariables false
namespace Go.Proofs.Ytebbihckndjbeaa.PupilS
open Go.RowKit
theorem two_set (l : List M.Pupil) {i k : Nat} (hi : i < l.length) (hk : k < l.length) : ((l.flatMap M.pupilCells).set (i * 5 + 3) (.int .i64 l[k].cls)).set (k * 5 + 3) (.int .i64 l[i].cls) = (M.swapped l i k).flatMap M.pupilCells := by
  unfold M.swapped
  rw [PupilW.cls_set l i hi, PupilW.cls_set (M.withC l i l[k].cls) k (by rw [M.withC_len]; exact hk), M.clsAt_eq l i hi, M.clsAt_eq l k hk]
theorem names_swapped {l : List M.Pupil} (hs : ∀ p ∈ l, p.name.size ≤ 9223372036854775807) {i k : Nat} (hi : i < l.length) (hk : k < l.length) : ∀ p ∈ M.swapped l i k, p.name.size ≤ 9223372036854775807 :=
  PupilW.names_withC (PupilW.names_withC hs hi _) (by rw [M.withC_len]; exact hk) _
set_option maxRecDepth 100000 in
set_option maxHeartbeats 2000000 in
theorem i_swap (A : Option Addr) (c : Nat) (l : List M.Pupil) (a b : Int) (w : World) (hl : l.length ≤ 1048576) (hs : ∀ p ∈ l, p.name.size ≤ 9223372036854775807) (ha : K.Rd w 5 A l.length (l.flatMap M.pupilCells)) :
    Calls Try.prog 29 #[.slice A l.length c, .int .i64 a, .int .i64 b] w (K.RetRowB w 26 5 (M.swapC l a b).1.length ((M.swapC l a b).1.flatMap M.pupilCells) (M.swapC l a b).2) := by
  have q0 := Lib.hid (Below.refl w.heap.size w)
  have HA := Lib.hid (PupilA.i_at A c l a w hl ha)
  have HB := Lib.hid (fun w ha => PupilA.i_at A c l b w hl ha)
  have HS := Lib.hid (fun w ha => PupilG.i_are A c l w hl hs ha)
  cases hok : M.pupsOk l with
  | false =>
    rw [hok] at HS
    rw [M.swapC_no (by simp [hok])]
    generalize (if M.pIx l a < l.length then (M.pIx l a : Int) else -1) = r at HA
    generalize (if M.pIx l b < l.length then (M.pIx l b : Int) else -1) = s at HB
    clear hok
    go_enter Try.func29, Try.ntmps29
    go_wp2_with fail
    refine (HA.out).mono ?_
    rintro e w1 ⟨rfl, b1⟩
    have q1 := Lib.hid (q0.out.trans (b1.mono q0.out.size))
    have r1 := Lib.hid (ha.below q1.out)
    go_wp2_with fail
    refine (HB.out _ r1.out).mono ?_
    rintro e w2 ⟨rfl, b2⟩
    have q2 := Lib.hid (q1.out.trans (b2.mono q1.out.size))
    have r2 := Lib.hid (ha.below q2.out)
    go_wp2_with fail
    refine (HS.out _ r2.out).mono ?_
    rintro e w3 ⟨rfl, b3⟩
    have q3 := Lib.hid (q2.out.trans (b3.mono q2.out.size))
    have r3 := Lib.hid (ha.below q3.out)
    go_wp2_with fail
    go_ret2
    exact ⟨none, 0, rfl, K.Row.nil _ _ _ _, q3.out⟩
  | true =>
    rw [hok] at HS
    by_cases hi : M.pIx l a < l.length
    rotate_left
    · rw [if_neg hi] at HA
      rw [M.swapC_no (fun h => hi h.2.1)]
      generalize (if M.pIx l b < l.length then (M.pIx l b : Int) else -1) = s at HB
      clear hok hi
      go_enter Try.func29, Try.ntmps29
      go_wp2_with fail
      refine (HA.out).mono ?_
      rintro e w1 ⟨rfl, b1⟩
      have q1 := Lib.hid (q0.out.trans (b1.mono q0.out.size))
      have r1 := Lib.hid (ha.below q1.out)
      go_wp2_with fail
      refine (HB.out _ r1.out).mono ?_
      rintro e w2 ⟨rfl, b2⟩
      have q2 := Lib.hid (q1.out.trans (b2.mono q1.out.size))
      have r2 := Lib.hid (ha.below q2.out)
      go_wp2_with fail
      refine (HS.out _ r2.out).mono ?_
      rintro e w3 ⟨rfl, b3⟩
      have q3 := Lib.hid (q2.out.trans (b3.mono q2.out.size))
      have r3 := Lib.hid (ha.below q3.out)
      go_wp2_with fail
      go_ret2
      exact ⟨none, 0, rfl, K.Row.nil _ _ _ _, q3.out⟩
    · rw [if_pos hi] at HA
      by_cases hk : M.pIx l b < l.length
      rotate_left
      · rw [if_neg hk] at HB
        rw [M.swapC_no (fun h => hk h.2.2.1)]
        clear hok hk
        generalize M.pIx l a = i at *
        have h2 : (0 : Int) ≤ (i : Int) := by omega
        go_enter Try.func29, Try.ntmps29
        go_wp2_with fail
        refine (HA.out).mono ?_
        rintro e w1 ⟨rfl, b1⟩
        have q1 := Lib.hid (q0.out.trans (b1.mono q0.out.size))
        have r1 := Lib.hid (ha.below q1.out)
        go_wp2_with fail
        refine (HB.out _ r1.out).mono ?_
        rintro e w2 ⟨rfl, b2⟩
        have q2 := Lib.hid (q1.out.trans (b2.mono q1.out.size))
        have r2 := Lib.hid (ha.below q2.out)
        go_wp2_with fail
        refine (HS.out _ r2.out).mono ?_
        rintro e w3 ⟨rfl, b3⟩
        have q3 := Lib.hid (q2.out.trans (b3.mono q2.out.size))
        have r3 := Lib.hid (ha.below q3.out)
        go_wp2_with fail
        go_ret2
        exact ⟨none, 0, rfl, K.Row.nil _ _ _ _, q3.out⟩
      · rw [if_pos hk] at HB
        by_cases hik : M.pIx l a = M.pIx l b
        · rw [M.swapC_no (fun h => h.2.2.2.1 hik)]
          rw [hik] at HA
          clear hok hik hi
          generalize M.pIx l b = k at *
          have h2 : (0 : Int) ≤ (k : Int) := by omega
          have hd : ((k : Int) == (k : Int)) = true := by simp
          go_enter Try.func29, Try.ntmps29
          go_wp2_with fail
          refine (HA.out).mono ?_
          rintro e w1 ⟨rfl, b1⟩
          have q1 := Lib.hid (q0.out.trans (b1.mono q0.out.size))
          have r1 := Lib.hid (ha.below q1.out)
          go_wp2_with fail
          refine (HB.out _ r1.out).mono ?_
          rintro e w2 ⟨rfl, b2⟩
          have q2 := Lib.hid (q1.out.trans (b2.mono q1.out.size))
          have r2 := Lib.hid (ha.below q2.out)
          go_wp2_with fail
          refine (HS.out _ r2.out).mono ?_
          rintro e w3 ⟨rfl, b3⟩
          have q3 := Lib.hid (q2.out.trans (b3.mono q2.out.size))
          have r3 := Lib.hid (ha.below q3.out)
          go_wp2_with fail
          go_ret2
          exact ⟨none, 0, rfl, K.Row.nil _ _ _ _, q3.out⟩
        · have hd : ((M.pIx l a : Int) == (M.pIx l b : Int)) = false := beq_eq_false_iff_ne.2 (by omega)
          have HL := Lib.hid (M.swapped_len l (M.pIx l a) (M.pIx l b))
          have HC := Lib.hid (two_set l hi hk)
          have HRi := Lib.hid (fun (w : World) (ha : K.Rd w 5 A l.length (l.flatMap M.pupilCells)) => ha.pupil hi)
          have HRk := Lib.hid (fun (w : World) (ha : K.Rd w 5 A l.length (l.flatMap M.pupilCells)) => ha.pupil hk)
          have HPi := Lib.hid (fun (w : World) (lo c : Nat) (A : Option Addr) (h : K.Row w lo 26 5 A l.length c (l.flatMap M.pupilCells)) => h.pupil hi)
          have HPk := Lib.hid (fun (w : World) (lo c : Nat) (A : Option Addr) (h : K.Row w lo 26 5 A l.length c (l.flatMap M.pupilCells)) => h.pupil hk)
          have HG := Lib.hid (fun A c w ha => PupilG.i_are A c (M.swapped l (M.pIx l a) (M.pIx l b)) w (by rw [M.swapped_len]; exact hl) (names_swapped hs hi hk) ha)
          rw [HL.out] at HG
          have HNO := Lib.hid (fun h : M.pupsOk (M.swapped l (M.pIx l a) (M.pIx l b)) = false => M.swapC_no (l := l) (a := a) (b := b) (fun hh => by rw [hh.2.2.2.2] at h; cases h))
          have HYE := Lib.hid (fun h : M.pupsOk (M.swapped l (M.pIx l a) (M.pIx l b)) = true => M.swapC_yes (l := l) (a := a) (b := b) ⟨hok, hi, hk, hik, h⟩)
          generalize M.swapC l a b = RR at *
          generalize M.swapped l (M.pIx l a) (M.pIx l b) = L at *
          generalize l[M.pIx l a].id = x0 at *
          generalize l[M.pIx l a].name = x1 at *
          generalize l[M.pIx l a].born = x2 at *
          generalize l[M.pIx l a].cls = x3 at *
          generalize l[M.pIx l a].level = x4 at *
          generalize l[M.pIx l b].id = y0 at *
          generalize l[M.pIx l b].name = y1 at *
          generalize l[M.pIx l b].born = y2 at *
          generalize l[M.pIx l b].cls = y3 at *
          generalize l[M.pIx l b].level = y4 at *
          generalize M.pIx l a = i at *
          generalize M.pIx l b = k at *
          clear hok
          have h1 : (i : Int) < (l.length : Int) := by omega
          have h2 : (0 : Int) ≤ (i : Int) := by omega
          have h3 : (k : Int) < (l.length : Int) := by omega
          have h4 : (0 : Int) ≤ (k : Int) := by omega
          go_enter Try.func29, Try.ntmps29
          go_wp2_with fail
          refine (HA.out).mono ?_
          rintro e w1 ⟨rfl, b1⟩
          have q1 := Lib.hid (q0.out.trans (b1.mono q0.out.size))
          have r1 := Lib.hid (ha.below q1.out)
          go_wp2_with fail
          refine (HB.out _ r1.out).mono ?_
          rintro e w2 ⟨rfl, b2⟩
          have q2 := Lib.hid (q1.out.trans (b2.mono q1.out.size))
          have r2 := Lib.hid (ha.below q2.out)
          go_wp2_with fail
          refine (HS.out _ r2.out).mono ?_
          rintro e w3 ⟨rfl, b3⟩
          have q3 := Lib.hid (q2.out.trans (b3.mono q2.out.size))
          have r3 := Lib.hid (ha.below q3.out)
          obtain ⟨i0, hi0, hz0, hz1, hz2⟩ := info_parts PupilW.infoPup
          have e0 : Hid (K.Row (w3.alloc (.cells #[] 26)) w3.heap.size 26 5 (some ⟨w3.heap.size, 0, none⟩) 0 0 []) := Lib.hid (World.ownsRow_made w3 #[] 0 (Nat.le_refl _) (Nat.zero_le _) rfl)
          have qe := Lib.hid (q3.out.alloc q3.out.size (.cells #[] 26))
          have re := Lib.hid (ha.below qe.out)
          go_wp2_with (at_builtin; refine K.appendN rfl (.tmp 33) (.tmp 34) _ rfl w3.heap.size _ i0 _ 5 48 Try.underlying31 hi0 hz0 hz1 hz2 rfl (by omega) (some ⟨w3.heap.size, 0, none⟩) 0 0 [] (by simp [go_sem]) e0.out A l.length c _ rfl re.out (PupilW.cells_one l) (by simp only [maxLen]; omega) (by omega) (by simp) ?_; intro A' c' wa hrow hba _ _; rw [Nat.zero_add, List.nil_append] at hrow; rw [Nat.zero_add]; have rwa := Lib.hid (ha.below (qe.out.trans (hba.mono q3.out.size))); obtain ⟨g, o, hA, hg, c0, c1, c2, c3, c4⟩ := HRi.out _ rwa.out; subst hA; obtain ⟨g', o', hA', _, d0, d1, d2, d3, d4⟩ := HRk.out _ rwa.out; injection hA' with hA'; injection hA' with hA' hA''; subst hA' hA''; obtain ⟨gx, hA2, gx1, gx2, hfz, u0, u1, u2, u3, u4⟩ := HPi.out _ _ _ _ hrow; subst hA2; have f3 := hfz (i * 5 + 3); have f4 := hfz (k * 5 + 3); obtain ⟨gy, hA3, _, _, _, v0, v1, v2, v3, v4⟩ := HPk.out _ _ _ _ hrow; injection hA3 with hA3; injection hA3 with hA3; subst hA3; have HROW := Lib.hid hrow; have HB4 := Lib.hid (qe.out.trans (hba.mono q3.out.size)); clear hrow hba c0 c1 c2 c4 d0 d1 d2 d4 u0 u1 u2 u4 v0 v1 v2 v4 hfz)
          have hrow5 := ((HROW.out.set_ (i * 5 + 3) (.int .i64 y3)).1.set_ (k * 5 + 3) (.int .i64 x3)).1
          rw [HC.out] at hrow5
          have HR5 := Lib.hid hrow5.drew
          have HB5 := Lib.hid ((HB4.out.setCell (p := ⟨gx, i * 5 + 3, none⟩) (by have := q3.out.size; simp; omega) (.int .i64 y3)).setCell (p := ⟨gx, k * 5 + 3, none⟩) (by have := q3.out.size; simp; omega) (.int .i64 x3)).drew
          clear hrow5
          go_region
          go_wp2_with fail
          refine (HG.out _ _ _ HR5.out.rd).mono ?_
          rintro e w5 ⟨rfl, b5⟩
          cases hgo : M.pupsOk L with
          | false =>
            have HF := HNO.out hgo
            subst HF
            clear hgo
            go_wp2_with fail
            go_ret2
            exact ⟨none, 0, rfl, K.Row.nil _ _ _ _, HB5.out.trans (b5.mono HB5.out.size)⟩
          | true =>
            have HF := HYE.out hgo
            subst HF
            clear hgo
            go_wp2_with fail
            go_ret2
            exact ⟨some ⟨gx, 0, none⟩, c', by rw [HL.out]; rfl, by rw [HL.out]; exact (HR5.out.below b5).more q3.out.size, HB5.out.trans (b5.mono HB5.out.size)⟩
set_option maxRecDepth 100000 in
set_option maxHeartbeats 2000000 in
theorem s_swap (A : Option Addr) (c : Nat) (l : List M.Pupil) (a b : Int) (w : World) (hl : l.length ≤ 1048576) (hs : ∀ p ∈ l, p.name.size ≤ 9223372036854775807) (ha : K.Rd w 5 A l.length (l.flatMap M.pupilCells)) :
    Calls Try.prog 30 #[.slice A l.length c, .int .i64 a, .int .i64 b] w (K.RetRowB w 26 5 (M.swapC l a b).1.length ((M.swapC l a b).1.flatMap M.pupilCells) (M.swapC l a b).2) := by
  have q0 := Lib.hid (Below.refl w.heap.size w)
  have HA := Lib.hid (PupilA.s_find A c l a w hl hs ha)
  have HB := Lib.hid (fun w ha => PupilA.s_find A c l b w hl hs ha)
  by_cases hi : M.pupsOk l = true ∧ M.pIx l a < l.length
  rotate_left
  · rw [if_neg hi] at HA
    rw [M.swapC_no (fun h => hi ⟨h.1, h.2.1⟩)]
    generalize (if M.pupsOk l = true ∧ M.pIx l b < l.length then (M.pIx l b : Int) else -1) = s at HB
    clear hi
    go_enter Try.func30, Try.ntmps30
    go_wp2_with fail
    refine (HA.out).mono ?_
    rintro e w1 ⟨rfl, b1⟩
    have q1 := Lib.hid (q0.out.trans (b1.mono q0.out.size))
    have r1 := Lib.hid (ha.below q1.out)
    go_wp2_with fail
    refine (HB.out _ r1.out).mono ?_
    rintro e w2 ⟨rfl, b2⟩
    have q2 := Lib.hid (q1.out.trans (b2.mono q1.out.size))
    have r2 := Lib.hid (ha.below q2.out)
    go_wp2_with fail
    go_ret2
    exact ⟨some ⟨w2.heap.size, 0, none⟩, 0, rfl, World.ownsRow_made w2 #[] 0 q2.out.size (Nat.zero_le _) rfl, q2.out.alloc q2.out.size _⟩
  · rw [if_pos hi] at HA
    obtain ⟨hok, hi⟩ := hi
    by_cases hk : M.pIx l b < l.length
    rotate_left
    · rw [if_neg (fun h => hk h.2)] at HB
      rw [M.swapC_no (fun h => hk h.2.2.1)]
      clear hok hk
      generalize M.pIx l a = i at *
      have h2 : (0 : Int) ≤ (i : Int) := by omega
      go_enter Try.func30, Try.ntmps30
      go_wp2_with fail
      refine (HA.out).mono ?_
      rintro e w1 ⟨rfl, b1⟩
      have q1 := Lib.hid (q0.out.trans (b1.mono q0.out.size))
      have r1 := Lib.hid (ha.below q1.out)
      go_wp2_with fail
      refine (HB.out _ r1.out).mono ?_
      rintro e w2 ⟨rfl, b2⟩
      have q2 := Lib.hid (q1.out.trans (b2.mono q1.out.size))
      have r2 := Lib.hid (ha.below q2.out)
      go_wp2_with fail
      go_ret2
      exact ⟨some ⟨w2.heap.size, 0, none⟩, 0, rfl, World.ownsRow_made w2 #[] 0 q2.out.size (Nat.zero_le _) rfl, q2.out.alloc q2.out.size _⟩
    · rw [if_pos ⟨hok, hk⟩] at HB
      by_cases hik : M.pIx l a = M.pIx l b
      · rw [M.swapC_no (fun h => h.2.2.2.1 hik)]
        rw [hik] at HA
        clear hok hik hi
        generalize M.pIx l b = k at *
        have h2 : (0 : Int) ≤ (k : Int) := by omega
        have hd : ((k : Int) == (k : Int)) = true := by simp
        go_enter Try.func30, Try.ntmps30
        go_wp2_with fail
        refine (HA.out).mono ?_
        rintro e w1 ⟨rfl, b1⟩
        have q1 := Lib.hid (q0.out.trans (b1.mono q0.out.size))
        have r1 := Lib.hid (ha.below q1.out)
        go_wp2_with fail
        refine (HB.out _ r1.out).mono ?_
        rintro e w2 ⟨rfl, b2⟩
        have q2 := Lib.hid (q1.out.trans (b2.mono q1.out.size))
        have r2 := Lib.hid (ha.below q2.out)
        go_wp2_with fail
        go_ret2
        exact ⟨some ⟨w2.heap.size, 0, none⟩, 0, rfl, World.ownsRow_made w2 #[] 0 q2.out.size (Nat.zero_le _) rfl, q2.out.alloc q2.out.size _⟩
      · have hd : ((M.pIx l a : Int) == (M.pIx l b : Int)) = false := beq_eq_false_iff_ne.2 (by omega)
        have HL := Lib.hid (M.swapped_len l (M.pIx l a) (M.pIx l b))
        have hL1 := M.withC_len l (M.pIx l a) l[M.pIx l b].cls
        have hk1 : M.pIx l b < (M.withC l (M.pIx l a) l[M.pIx l b].cls).length := by rw [hL1]; exact hk
        have HRi := Lib.hid (fun (w : World) (ha : K.Rd w 5 A l.length (l.flatMap M.pupilCells)) => ha.pupil hi)
        have HRk := Lib.hid (fun (w : World) (ha : K.Rd w 5 A l.length (l.flatMap M.pupilCells)) => ha.pupil hk)
        have HW1 := Lib.hid (fun (w : World) (ha : K.Rd w 5 A l.length (l.flatMap M.pupilCells)) => PupilX.s_with A c l (M.pIx l a) l[M.pIx l b].cls l[M.pIx l a].level w hl hi ha)
        rw [M.withCL_withC l _ hi] at HW1
        have HW2 := Lib.hid (fun (A : Option Addr) (c : Nat) (w : World) (ha : K.Rd w 5 A (M.withC l (M.pIx l a) l[M.pIx l b].cls).length ((M.withC l (M.pIx l a) l[M.pIx l b].cls).flatMap M.pupilCells)) => PupilX.s_with A c (M.withC l (M.pIx l a) l[M.pIx l b].cls) (M.pIx l b) l[M.pIx l a].cls l[M.pIx l b].level w (by rw [hL1]; exact hl) hk1 ha)
        have hlv : (M.withC l (M.pIx l a) l[M.pIx l b].cls)[M.pIx l b].level = l[M.pIx l b].level := by rw [M.withC_at _ _ _ _ hk1 hk, if_neg hik]
        have hwc := M.withCL_withC (M.withC l (M.pIx l a) l[M.pIx l b].cls) (M.pIx l b) hk1 l[M.pIx l a].cls
        rw [hlv] at hwc
        rw [hwc, hL1] at HW2
        have hsw : M.withC (M.withC l (M.pIx l a) l[M.pIx l b].cls) (M.pIx l b) l[M.pIx l a].cls = M.swapped l (M.pIx l a) (M.pIx l b) := by unfold M.swapped; rw [M.clsAt_eq l _ hi, M.clsAt_eq l _ hk]
        rw [hsw] at HW2
        clear hwc hlv hsw hk1 hL1
        have HG := Lib.hid (fun A c w ha => PupilG.s_good A c (M.swapped l (M.pIx l a) (M.pIx l b)) w (by rw [M.swapped_len]; exact hl) (names_swapped hs hi hk) ha)
        rw [HL.out] at HG
        have HNO := Lib.hid (fun h : M.pupsOk (M.swapped l (M.pIx l a) (M.pIx l b)) = false => M.swapC_no (l := l) (a := a) (b := b) (fun hh => by rw [hh.2.2.2.2] at h; cases h))
        have HYE := Lib.hid (fun h : M.pupsOk (M.swapped l (M.pIx l a) (M.pIx l b)) = true => M.swapC_yes (l := l) (a := a) (b := b) ⟨hok, hi, hk, hik, h⟩)
        generalize M.swapC l a b = RR at *
        generalize M.swapped l (M.pIx l a) (M.pIx l b) = L at *
        generalize M.withC l (M.pIx l a) l[M.pIx l b].cls = L1 at *
        generalize l[M.pIx l a].id = x0 at *
        generalize l[M.pIx l a].name = x1 at *
        generalize l[M.pIx l a].born = x2 at *
        generalize l[M.pIx l a].cls = x3 at *
        generalize l[M.pIx l a].level = x4 at *
        generalize l[M.pIx l b].id = y0 at *
        generalize l[M.pIx l b].name = y1 at *
        generalize l[M.pIx l b].born = y2 at *
        generalize l[M.pIx l b].cls = y3 at *
        generalize l[M.pIx l b].level = y4 at *
        generalize M.pIx l a = i at *
        generalize M.pIx l b = k at *
        clear hok
        have h1 : (i : Int) < (l.length : Int) := by omega
        have h2 : (0 : Int) ≤ (i : Int) := by omega
        have h3 : (k : Int) < (l.length : Int) := by omega
        have h4 : (0 : Int) ≤ (k : Int) := by omega
        go_enter Try.func30, Try.ntmps30
        go_wp2_with fail
        refine (HA.out).mono ?_
        rintro e w1 ⟨rfl, b1⟩
        have q1 := Lib.hid (q0.out.trans (b1.mono q0.out.size))
        have r1 := Lib.hid (ha.below q1.out)
        go_wp2_with fail
        refine (HB.out _ r1.out).mono ?_
        rintro e w2 ⟨rfl, b2⟩
        have q2 := Lib.hid (q1.out.trans (b2.mono q1.out.size))
        have r2 := Lib.hid (ha.below q2.out)
        obtain ⟨g, o, hA, hg, c0, c1, c2, c3, c4⟩ := HRi.out _ r2.out
        subst hA
        obtain ⟨g', o', hA', _, d0, d1, d2, d3, d4⟩ := HRk.out _ r2.out
        injection hA' with hA'
        injection hA' with hA' hA''
        subst hA' hA''
        have rd := Lib.hid r2.out.drew
        go_wp2_with fail
        go_region_held3 (fun w' => w'.cell? ⟨g, o + k * 5 + 3, none⟩ = some (.int .i64 y3) ∧ w'.cell? ⟨g, o + i * 5 + 4, none⟩ = some (.int .i64 x4) ∧ w'.cell? ⟨g, o + i * 5 + 3, none⟩ = some (.int .i64 x3) ∧ w'.cell? ⟨g, o + k * 5 + 4, none⟩ = some (.int .i64 y4))
          (first | go_keep | exact ⟨(b3.cell (p := ⟨g, o + k * 5 + 3, none⟩) hg).trans d3, (b3.cell (p := ⟨g, o + i * 5 + 4, none⟩) hg).trans c4, (b3.cell (p := ⟨g, o + i * 5 + 3, none⟩) hg).trans c3, (b3.cell (p := ⟨g, o + k * 5 + 4, none⟩) hg).trans d4⟩ | exact ⟨(b4.cell (p := ⟨g, o + k * 5 + 3, none⟩) (Nat.lt_of_lt_of_le hg b3.size)).trans ((b3.cell (p := ⟨g, o + k * 5 + 3, none⟩) hg).trans d3), (b4.cell (p := ⟨g, o + i * 5 + 4, none⟩) (Nat.lt_of_lt_of_le hg b3.size)).trans ((b3.cell (p := ⟨g, o + i * 5 + 4, none⟩) hg).trans c4), (b4.cell (p := ⟨g, o + i * 5 + 3, none⟩) (Nat.lt_of_lt_of_le hg b3.size)).trans ((b3.cell (p := ⟨g, o + i * 5 + 3, none⟩) hg).trans c3), (b4.cell (p := ⟨g, o + k * 5 + 4, none⟩) (Nat.lt_of_lt_of_le hg b3.size)).trans ((b3.cell (p := ⟨g, o + k * 5 + 4, none⟩) hg).trans d4)⟩)
          (first | (go_at_call 72; ((with_reducible refine (HW1.out _ rd.out).mono ?_)); rintro e w3 ⟨X, n, rfl, row, b3⟩) | (go_at_call 72; ((with_reducible refine (HW2.out _ _ _ row.rd).mono ?_)); rintro e w4 ⟨Y, m, rfl, row4, b4⟩))
        have q3 := Lib.hid (q2.out.drew.trans (b3.mono q2.out.drew.size))
        have q4 := Lib.hid (q3.out.trans (b4.mono q3.out.size))
        go_wp2_with fail
        refine (HG.out _ _ _ row4.rd).mono ?_
        rintro e w5 ⟨rfl, b5⟩
        have q5 := Lib.hid (q4.out.trans (b5.mono q4.out.size))
        cases hgo : M.pupsOk L with
        | false =>
          have HF := HNO.out hgo
          subst HF
          clear hgo
          go_wp2_with fail
          go_ret2
          exact ⟨some ⟨w5.heap.size, 0, none⟩, 0, rfl, World.ownsRow_made w5 #[] 0 q5.out.size (Nat.zero_le _) rfl, q5.out.alloc q5.out.size _⟩
        | true =>
          have HF := HYE.out hgo
          subst HF
          clear hgo
          go_wp2_with fail
          go_ret2
          exact ⟨Y, m, by rw [HL.out]; rfl, by rw [HL.out]; exact (row4.below b5).more q3.out.size, q5.out⟩
end Go.Proofs.Ytebbihckndjbeaa.PupilS
