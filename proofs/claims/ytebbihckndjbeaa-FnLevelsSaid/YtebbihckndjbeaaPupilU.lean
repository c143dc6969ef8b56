/-
  Walks: a pupil's level is raised (printed by gen_pops.py).
-/
import Derived.Test.YtebbihckndjbeaaPupilX
set_option linter.unusedVariables false
namespace Go.Proofs.Ytebbihckndjbeaa.PupilU
open Go.RowKit
theorem lvl_set (l : List M.Pupil) (k : Nat) (hk : k < l.length) : (l.flatMap M.pupilCells).set (k * 5 + 4) (.int .i64 (l[k].level + 1)) = (M.upAt l k).flatMap M.pupilCells := by
  rw [M.upAt_eq l k hk]
  exact M.flat_set M.pupilCells 5 (fun _ => rfl) 4 (by omega) _ _ l k hk rfl
theorem names_up {l : List M.Pupil} (hs : ∀ p ∈ l, p.name.size ≤ 9223372036854775807) {k : Nat} (hk : k < l.length) : ∀ p ∈ M.upAt l k, p.name.size ≤ 9223372036854775807 := by
  intro p hp
  rw [M.upAt_eq l k hk] at hp
  rcases List.mem_or_eq_of_mem_set hp with h | rfl
  · exact hs p h
  · exact (show l[k].name.size ≤ 9223372036854775807 from hs _ (List.getElem_mem hk))
set_option maxRecDepth 100000 in
set_option maxHeartbeats 2000000 in
theorem i_raise (A : Option Addr) (c : Nat) (l : List M.Pupil) (id : Int) (w : World) (hl : l.length ≤ 1048576) (hs : ∀ p ∈ l, p.name.size ≤ 9223372036854775807) (ha : K.Rd w 5 A l.length (l.flatMap M.pupilCells)) :
    Calls Try.prog 42 #[.slice A l.length c, .int .i64 id] w (K.RetRowB w 26 5 (M.raise l id).1.length ((M.raise l id).1.flatMap M.pupilCells) (M.raise l id).2) := by
  have q0 := Lib.hid (Below.refl w.heap.size w)
  have HA := Lib.hid (PupilA.i_at A c l id w hl ha)
  have HS := Lib.hid (fun w ha => PupilG.i_are A c l w hl hs ha)
  cases hok : M.pupsOk l with
  | false =>
    rw [hok] at HS
    rw [M.raise_no (by simp [hok])]
    generalize (if M.pIx l id < l.length then (M.pIx l id : Int) else -1) = r at HA
    clear hok
    go_enter Try.func42, Try.ntmps42
    go_wp2_with fail
    refine (HA.out).mono ?_
    rintro e w1 ⟨rfl, b1⟩
    have q1 := Lib.hid (q0.out.trans (b1.mono q0.out.size))
    have r1 := Lib.hid (ha.below q1.out)
    go_wp2_with fail
    refine (HS.out _ r1.out).mono ?_
    rintro e w2 ⟨rfl, b2⟩
    have q2 := Lib.hid (q1.out.trans (b2.mono q1.out.size))
    have r2 := Lib.hid (ha.below q2.out)
    go_wp2_with fail
    go_ret2
    exact ⟨none, 0, rfl, K.Row.nil _ _ _ _, q2.out⟩
  | true =>
    rw [hok] at HS
    by_cases hix : M.pIx l id < l.length
    · rw [if_pos hix] at HA
      have hlv := (M.Pupil.ok_iff _).1 (M.pupsOk_at hok hix)
      have HR := Lib.hid (fun (w : World) (ha : K.Rd w 5 A l.length (l.flatMap M.pupilCells)) => ha.pupil hix)
      have HP := Lib.hid (fun (w : World) (lo c : Nat) (A : Option Addr) (h : K.Row w lo 26 5 A l.length c (l.flatMap M.pupilCells)) => h.pupil hix)
      have HLV := Lib.hid (M.lvlAt_eq l _ hix)
      obtain ⟨_, _, _, _, hlv1, hlv2⟩ := hlv
      by_cases h10 : l[M.pIx l id].level = 10
      · rw [M.raise_no (fun h => h.2.2 (by rw [HLV.out, h10]))]
        have hd : (l[M.pIx l id].level == 10) = true := beq_iff_eq.2 h10
        generalize l[M.pIx l id].level = v at *
        generalize l[M.pIx l id].id = x0 at *
        generalize l[M.pIx l id].name = x1 at *
        generalize l[M.pIx l id].born = x2 at *
        generalize l[M.pIx l id].cls = x3 at *
        clear h10 hlv1 hlv2 HLV
        generalize M.pIx l id = k at *
        clear hok
        have h1 : (k : Int) < (l.length : Int) := by omega
        have h2 : (0 : Int) ≤ (k : Int) := by omega
        go_enter Try.func42, Try.ntmps42
        go_wp2_with fail
        refine (HA.out).mono ?_
        rintro e w1 ⟨rfl, b1⟩
        have q1 := Lib.hid (q0.out.trans (b1.mono q0.out.size))
        have r1 := Lib.hid (ha.below q1.out)
        go_wp2_with fail
        refine (HS.out _ r1.out).mono ?_
        rintro e w2 ⟨rfl, b2⟩
        have q2 := Lib.hid (q1.out.trans (b2.mono q1.out.size))
        have r2 := Lib.hid (ha.below q2.out)
        obtain ⟨g, o, hA, hg, c0, c1, c2, c3, c4⟩ := HR.out _ r2.out
        subst hA
        go_wp2_with fail
        go_ret2
        exact ⟨none, 0, rfl, K.Row.nil _ _ _ _, q2.out⟩
      · rw [M.raise_yes ⟨hok, hix, by rw [HLV.out]; exact h10⟩]
        have hd : (l[M.pIx l id].level == 10) = false := beq_eq_false_iff_ne.2 h10
        have HC4 := Lib.hid (lvl_set l _ hix)
        have hul := M.upAt_len l (M.pIx l id)
        have HC3 := Lib.hid (PupilW.cls_set (M.upAt l (M.pIx l id)) (M.pIx l id) (by rw [hul]; exact hix) 0)
        have HG := Lib.hid (fun A c w ha => PupilG.i_are A c (M.upAt l (M.pIx l id)) w (by rw [M.upAt_len]; exact hl) (names_up hs hix) ha)
        rw [hul] at HG
        have HU1 := Lib.hid (fun h : M.pupsOk (M.upAt l (M.pIx l id)) = true => show M.raised l (M.pIx l id) = M.upAt l (M.pIx l id) by unfold M.raised; rw [if_pos h])
        have HU2 := Lib.hid (fun h : M.pupsOk (M.upAt l (M.pIx l id)) = false => show M.raised l (M.pIx l id) = M.withC (M.upAt l (M.pIx l id)) (M.pIx l id) 0 by unfold M.raised; rw [if_neg (by rw [h]; simp)])
        have HRL := Lib.hid (M.raised_len l (M.pIx l id))
        generalize M.raised l (M.pIx l id) = F at *
        generalize M.withC (M.upAt l (M.pIx l id)) (M.pIx l id) 0 = L2 at *
        generalize M.upAt l (M.pIx l id) = L at *
        generalize l[M.pIx l id].level = v at *
        generalize l[M.pIx l id].id = x0 at *
        generalize l[M.pIx l id].name = x1 at *
        generalize l[M.pIx l id].born = x2 at *
        generalize l[M.pIx l id].cls = x3 at *
        generalize M.pIx l id = k at *
        clear h10 HLV hok hul
        have h1 : (k : Int) < (l.length : Int) := by omega
        have h2 : (0 : Int) ≤ (k : Int) := by omega
        go_enter Try.func42, Try.ntmps42
        go_wp2_with fail
        refine (HA.out).mono ?_
        rintro e w1 ⟨rfl, b1⟩
        have q1 := Lib.hid (q0.out.trans (b1.mono q0.out.size))
        have r1 := Lib.hid (ha.below q1.out)
        go_wp2_with fail
        refine (HS.out _ r1.out).mono ?_
        rintro e w2 ⟨rfl, b2⟩
        have q2 := Lib.hid (q1.out.trans (b2.mono q1.out.size))
        have r2 := Lib.hid (ha.below q2.out)
        have cc := HR.out _ r2.out
        obtain ⟨g, o, hA, hg, c0, c1, c2, c3, c4⟩ := cc
        subst hA
        obtain ⟨i0, hi0, hz0, hz1, hz2⟩ := info_parts PupilW.infoPup
        have e0 : Hid (K.Row (w2.alloc (.cells #[] 26)) w2.heap.size 26 5 (some ⟨w2.heap.size, 0, none⟩) 0 0 []) := Lib.hid (World.ownsRow_made w2 #[] 0 (Nat.le_refl _) (Nat.zero_le _) rfl)
        have qe := Lib.hid (q2.out.alloc q2.out.size (.cells #[] 26))
        have re := Lib.hid (ha.below qe.out)
        go_wp2_with (at_builtin; refine K.appendN rfl (.tmp 26) (.tmp 27) _ rfl w2.heap.size _ i0 _ 5 48 Try.underlying31 hi0 hz0 hz1 hz2 rfl (by omega) (some ⟨w2.heap.size, 0, none⟩) 0 0 [] (by simp [go_sem]) e0.out (some ⟨g, o, none⟩) l.length c _ rfl re.out (PupilW.cells_one l) (by simp only [maxLen]; omega) (by omega) (by simp) ?_; intro A' c' wa hrow hba _ _; rw [Nat.zero_add, List.nil_append] at hrow; rw [Nat.zero_add]; obtain ⟨gx, hA2, gx1, gx2, hfz, d0, d1, d2, d3, d4⟩ := HP.out _ _ _ _ hrow; subst hA2; have f4 := hfz (k * 5 + 4); have HR4 := Lib.hid (show K.Row (wa.setCell ⟨gx, k * 5 + 4, none⟩ (.int .i64 (v + 1))) w2.heap.size 26 5 (some ⟨gx, 0, none⟩) l.length c' (L.flatMap M.pupilCells) by rw [← HC4.out]; exact (hrow.set_ (k * 5 + 4) _).1); have HB4 := Lib.hid ((qe.out.trans (hba.mono q2.out.size)).setCell (p := ⟨gx, k * 5 + 4, none⟩) (by have := q2.out.size; simp; omega) (.int .i64 (v + 1))); clear hrow hba d0 d1 d2 d3 hfz)
        refine (HG.out _ _ _ HR4.out.rd).mono ?_
        rintro e w3 ⟨rfl, b3⟩
        have row3 := HR4.out.below b3
        have q3 := Lib.hid (HB4.out.trans (b3.mono HB4.out.size))
        cases hgo : M.pupsOk L with
        | true =>
          have HF := Lib.hid (HU1.out hgo)
          clear hgo
          go_wp2_with fail
          go_ret2
          exact ⟨some ⟨gx, 0, none⟩, c', by rw [HRL.out]; rfl, by rw [HRL.out, HF.out]; exact row3.more q2.out.size, q3.out⟩
        | false =>
          have HF := Lib.hid (HU2.out hgo)
          obtain ⟨g9, u9, hA9, _, _, hu9, hc9, hf9⟩ := row3.at_ (j := k * 5 + 3) (by omega)
          injection hA9 with hA9
          injection hA9 with hA9
          subst hA9
          clear hu9 hgo
          go_wp2_with fail
          go_ret2
          refine ⟨some ⟨gx, 0, none⟩, c', by rw [HRL.out]; rfl, ?_, ?_⟩
          · rw [HRL.out, HF.out, ← HC3.out]; exact (row3.set_ (k * 5 + 3) _).1.more q2.out.size
          · exact q3.out.setCell (p := ⟨gx, k * 5 + 3, none⟩) (by have := q2.out.size; simp; omega) _
    · rw [if_neg hix] at HA
      rw [M.raise_no (by simp [hix])]
      clear hok hix
      go_enter Try.func42, Try.ntmps42
      go_wp2_with fail
      refine (HA.out).mono ?_
      rintro e w1 ⟨rfl, b1⟩
      have q1 := Lib.hid (q0.out.trans (b1.mono q0.out.size))
      have r1 := Lib.hid (ha.below q1.out)
      go_wp2_with fail
      refine (HS.out _ r1.out).mono ?_
      rintro e w2 ⟨rfl, b2⟩
      have q2 := Lib.hid (q1.out.trans (b2.mono q1.out.size))
      have r2 := Lib.hid (ha.below q2.out)
      go_wp2_with fail
      go_ret2
      exact ⟨none, 0, rfl, K.Row.nil _ _ _ _, q2.out⟩
set_option maxRecDepth 100000 in
set_option maxHeartbeats 2000000 in
theorem s_raise (A : Option Addr) (c : Nat) (l : List M.Pupil) (id : Int) (w : World) (hl : l.length ≤ 1048576) (hs : ∀ p ∈ l, p.name.size ≤ 9223372036854775807) (ha : K.Rd w 5 A l.length (l.flatMap M.pupilCells)) :
    Calls Try.prog 43 #[.slice A l.length c, .int .i64 id] w (K.RetRowB w 26 5 (M.raise l id).1.length ((M.raise l id).1.flatMap M.pupilCells) (M.raise l id).2) := by
  have q0 := Lib.hid (Below.refl w.heap.size w)
  have HF := Lib.hid (PupilA.s_find A c l id w hl hs ha)
  by_cases hy : M.pupsOk l = true ∧ M.pIx l id < l.length
  rotate_left
  · rw [if_neg hy] at HF
    rw [M.raise_no (fun h => hy ⟨h.1, h.2.1⟩)]
    clear hy
    go_enter Try.func43, Try.ntmps43
    go_wp2_with fail
    refine (HF.out).mono ?_
    rintro e w1 ⟨rfl, b1⟩
    have q1 := Lib.hid (q0.out.trans (b1.mono q0.out.size))
    have r1 := Lib.hid (ha.below q1.out)
    go_wp2_with fail
    go_ret2
    exact ⟨some ⟨w1.heap.size, 0, none⟩, 0, rfl, World.ownsRow_made w1 #[] 0 q1.out.size (Nat.zero_le _) rfl, q1.out.alloc q1.out.size _⟩
  · rw [if_pos hy] at HF
    obtain ⟨hok, hix⟩ := hy
    have hlv := (M.Pupil.ok_iff _).1 (M.pupsOk_at hok hix)
    have HR := Lib.hid (fun (w : World) (ha : K.Rd w 5 A l.length (l.flatMap M.pupilCells)) => ha.pupil hix)
    have HLV := Lib.hid (M.lvlAt_eq l _ hix)
    obtain ⟨_, _, _, _, hlv1, hlv2⟩ := hlv
    by_cases h10 : l[M.pIx l id].level = 10
    · rw [M.raise_no (fun h => h.2.2 (by rw [HLV.out, h10]))]
      have hd : (l[M.pIx l id].level == 10) = true := beq_iff_eq.2 h10
      generalize l[M.pIx l id].level = v at *
      generalize l[M.pIx l id].id = x0 at *
      generalize l[M.pIx l id].name = x1 at *
      generalize l[M.pIx l id].born = x2 at *
      generalize l[M.pIx l id].cls = x3 at *
      clear h10 hlv1 hlv2 HLV
      generalize M.pIx l id = k at *
      clear hok
      have h1 : (k : Int) < (l.length : Int) := by omega
      have h2 : (0 : Int) ≤ (k : Int) := by omega
      go_enter Try.func43, Try.ntmps43
      go_wp2_with fail
      refine (HF.out).mono ?_
      rintro e w1 ⟨rfl, b1⟩
      have q1 := Lib.hid (q0.out.trans (b1.mono q0.out.size))
      have r1 := Lib.hid (ha.below q1.out)
      obtain ⟨g, o, hA, hg, c0, c1, c2, c3, c4⟩ := HR.out _ r1.out
      subst hA
      go_wp2_with fail
      go_ret2
      exact ⟨some ⟨w1.heap.size, 0, none⟩, 0, rfl, World.ownsRow_made w1 #[] 0 q1.out.size (Nat.zero_le _) rfl, q1.out.alloc q1.out.size _⟩
    · rw [M.raise_yes ⟨hok, hix, by rw [HLV.out]; exact h10⟩]
      have hd : (l[M.pIx l id].level == 10) = false := beq_eq_false_iff_ne.2 h10
      have hul := M.upAt_len l (M.pIx l id)
      have HW := Lib.hid (fun w ha => PupilX.s_with A c l (M.pIx l id) l[M.pIx l id].cls (l[M.pIx l id].level + 1) w hl hix ha)
      rw [M.withCL_up l _ hix] at HW
      have HW0 := Lib.hid (fun w ha => PupilX.s_with A c l (M.pIx l id) 0 (l[M.pIx l id].level + 1) w hl hix ha)
      rw [M.withCL_up0 l _ hix] at HW0
      have HG := Lib.hid (fun A c w ha => PupilG.s_good A c (M.upAt l (M.pIx l id)) w (by rw [M.upAt_len]; exact hl) (names_up hs hix) ha)
      rw [hul] at HG
      have HU1 := Lib.hid (fun h : M.pupsOk (M.upAt l (M.pIx l id)) = true => show M.raised l (M.pIx l id) = M.upAt l (M.pIx l id) by unfold M.raised; rw [if_pos h])
      have HU2 := Lib.hid (fun h : M.pupsOk (M.upAt l (M.pIx l id)) = false => show M.raised l (M.pIx l id) = M.withC (M.upAt l (M.pIx l id)) (M.pIx l id) 0 by unfold M.raised; rw [if_neg (by rw [h]; simp)])
      have HRL := Lib.hid (M.raised_len l (M.pIx l id))
      generalize M.raised l (M.pIx l id) = F at *
      generalize M.withC (M.upAt l (M.pIx l id)) (M.pIx l id) 0 = L2 at *
      generalize M.upAt l (M.pIx l id) = L at *
      generalize l[M.pIx l id].level = v at *
      generalize l[M.pIx l id].id = x0 at *
      generalize l[M.pIx l id].name = x1 at *
      generalize l[M.pIx l id].born = x2 at *
      generalize l[M.pIx l id].cls = x3 at *
      generalize M.pIx l id = k at *
      clear h10 HLV hok hul
      have h1 : (k : Int) < (l.length : Int) := by omega
      have h2 : (0 : Int) ≤ (k : Int) := by omega
      go_enter Try.func43, Try.ntmps43
      go_wp2_with fail
      refine (HF.out).mono ?_
      rintro e w1 ⟨rfl, b1⟩
      have q1 := Lib.hid (q0.out.trans (b1.mono q0.out.size))
      have r1 := Lib.hid (ha.below q1.out)
      obtain ⟨g, o, hA, hg, c0, c1, c2, c3, c4⟩ := HR.out _ r1.out
      subst hA
      have rd := Lib.hid r1.out.drew
      have hwv : IntKind.i64.wrap (v + 1) = v + 1 := IntWalk.i64_in _ (by omega)
      go_wp2_with fail
      go_region_held3 (fun w' => w'.cell? ⟨g, o + k * 5 + 3, none⟩ = some (.int .i64 x3) ∧ w'.cell? ⟨g, o + k * 5 + 4, none⟩ = some (.int .i64 v))
        (first | go_keep | exact ⟨(b2.cell (p := ⟨g, o + k * 5 + 3, none⟩) hg).trans c3, (b2.cell (p := ⟨g, o + k * 5 + 4, none⟩) hg).trans c4⟩)
        ((go_at_call 72; ((with_reducible refine (HW.out _ rd.out).mono ?_)); rintro e w2 ⟨X, n, rfl, row, b2⟩))
      have d4 := (b2.cell (p := ⟨g, o + k * 5 + 4, none⟩) hg).trans c4
      have q2 := Lib.hid (q1.out.drew.trans (b2.mono q1.out.drew.size))
      have r2 := Lib.hid (ha.below q2.out)
      have hg2 := Nat.lt_of_lt_of_le hg b2.size
      go_wp2_with fail
      refine (HG.out _ _ _ row.rd).mono ?_
      rintro e w3 ⟨rfl, b3⟩
      have q3 := Lib.hid (q2.out.trans (b3.mono q2.out.size))
      have r3 := Lib.hid (ha.below q3.out)
      have d5 := (b3.cell (p := ⟨g, o + k * 5 + 4, none⟩) hg2).trans d4
      clear c0 c1 c2 c3 c4 d4
      cases hgo : M.pupsOk L with
      | true =>
        have HF := Lib.hid (HU1.out hgo)
        clear hgo
        go_wp2_with fail
        go_ret2
        exact ⟨X, n, by rw [HRL.out]; rfl, by rw [HRL.out, HF.out]; exact (row.below b3).more q1.out.size, q3.out⟩
      | false =>
        have HF := Lib.hid (HU2.out hgo)
        clear hgo
        go_wp2_with fail
        refine (HW0.out _ r3.out).mono ?_
        rintro e w4 ⟨Y, m, rfl, row4, b4⟩
        have q4 := Lib.hid (q3.out.trans (b4.mono q3.out.size))
        have r4 := Lib.hid (ha.below q4.out)
        go_wp2_with fail
        go_ret2
        exact ⟨Y, m, by rw [HRL.out]; rfl, by rw [HRL.out, HF.out]; exact row4.more q3.out.size, q4.out⟩
end Go.Proofs.Ytebbihckndjbeaa.PupilU
