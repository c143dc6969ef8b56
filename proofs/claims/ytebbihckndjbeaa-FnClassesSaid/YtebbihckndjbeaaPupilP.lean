/-
  Walks: a pupil goes to a class (printed by gen_pops.py).
-/
import Derived.Test.YtebbihckndjbeaaPupilX
set_option linter.unusedVariables false
namespace Go.Proofs.Ytebbihckndjbeaa.PupilP
open Go.RowKit
set_option maxRecDepth 100000 in
set_option maxHeartbeats 2000000 in
theorem i_put (A : Option Addr) (c : Nat) (l : List M.Pupil) (id q : Int) (w : World) (hl : l.length ≤ 1048576) (hs : ∀ p ∈ l, p.name.size ≤ 9223372036854775807) (ha : K.Rd w 5 A l.length (l.flatMap M.pupilCells)) :
    Calls Try.prog 25 #[.slice A l.length c, .int .i64 id, .int .i64 q] w (K.RetRowB w 26 5 (M.putIn l id q).1.length ((M.putIn l id q).1.flatMap M.pupilCells) (M.putIn l id q).2) := by
  have q0 := Lib.hid (Below.refl w.heap.size w)
  have HA := Lib.hid (PupilA.i_at A c l id w hl ha)
  have HS := Lib.hid (fun w ha => PupilG.i_are A c l w hl hs ha)
  cases hok : M.pupsOk l with
  | false =>
    rw [hok] at HS
    rw [M.putIn_no (by simp [hok])]
    generalize (if M.pIx l id < l.length then (M.pIx l id : Int) else -1) = r at HA
    clear hok
    go_enter Try.func25, Try.ntmps25
    go_wp2_with fail
    refine (HA.out).mono ?_
    rintro e w1 ⟨rfl, b1⟩
    have q1 := Lib.hid (q0.out.trans (b1.mono q0.out.size))
    have r1 := Lib.hid (ha.below q1.out)
    go_wp2_with fail
    refine (HS.out _ r1.out).mono ?_
    rintro e w2 ⟨rfl, b2⟩
    have q2 := Lib.hid (q1.out.trans (b2.mono q1.out.size))
    have r2 := Lib.hid (ha.below q2.out)
    go_wp2_with fail
    go_ret2
    exact ⟨none, 0, rfl, K.Row.nil _ _ _ _, q2.out⟩
  | true =>
    rw [hok] at HS
    by_cases hix : M.pIx l id < l.length
    · rw [if_pos hix] at HA
      have HW := Lib.hid (fun w ha => PupilW.i_with A c l (M.pIx l id) q w hl hs hix ha)
      have HL := Lib.hid (M.withC_len l (M.pIx l id) q)
      cases hw : M.pupsOk (M.withC l (M.pIx l id) q) with
      | false =>
        rw [M.putIn_no (by simp [hw])]
        rw [hw] at HW
        generalize M.withC l (M.pIx l id) q = L at *
        generalize M.pIx l id = k at *
        clear hok hw HL
        have h1 : (k : Int) < (l.length : Int) := by omega
        have h2 : (0 : Int) ≤ (k : Int) := by omega
        go_enter Try.func25, Try.ntmps25
        go_wp2_with fail
        refine (HA.out).mono ?_
        rintro e w1 ⟨rfl, b1⟩
        have q1 := Lib.hid (q0.out.trans (b1.mono q0.out.size))
        have r1 := Lib.hid (ha.below q1.out)
        go_wp2_with fail
        refine (HS.out _ r1.out).mono ?_
        rintro e w2 ⟨rfl, b2⟩
        have q2 := Lib.hid (q1.out.trans (b2.mono q1.out.size))
        have r2 := Lib.hid (ha.below q2.out)
        go_wp2_with fail
        refine (HW.out _ r2.out).mono ?_
        rintro e w3 ⟨X, n, rfl, row, b3⟩
        have q3 := Lib.hid (q2.out.trans (b3.mono q2.out.size))
        have r3 := Lib.hid (ha.below q3.out)
        go_wp2_with fail
        go_ret2
        exact ⟨none, 0, rfl, K.Row.nil _ _ _ _, q3.out⟩
      | true =>
        rw [M.putIn_yes ⟨hok, hix, hw⟩]
        rw [hw] at HW
        generalize M.withC l (M.pIx l id) q = L at *
        generalize M.pIx l id = k at *
        clear hok hw
        have h1 : (k : Int) < (l.length : Int) := by omega
        have h2 : (0 : Int) ≤ (k : Int) := by omega
        go_enter Try.func25, Try.ntmps25
        go_wp2_with fail
        refine (HA.out).mono ?_
        rintro e w1 ⟨rfl, b1⟩
        have q1 := Lib.hid (q0.out.trans (b1.mono q0.out.size))
        have r1 := Lib.hid (ha.below q1.out)
        go_wp2_with fail
        refine (HS.out _ r1.out).mono ?_
        rintro e w2 ⟨rfl, b2⟩
        have q2 := Lib.hid (q1.out.trans (b2.mono q1.out.size))
        have r2 := Lib.hid (ha.below q2.out)
        go_wp2_with fail
        refine (HW.out _ r2.out).mono ?_
        rintro e w3 ⟨X, n, rfl, row, b3⟩
        have q3 := Lib.hid (q2.out.trans (b3.mono q2.out.size))
        have r3 := Lib.hid (ha.below q3.out)
        go_wp2_with fail
        go_ret2
        exact ⟨X, n, by rw [HL.out]; rfl, by rw [HL.out]; exact row.more q2.out.size, q3.out⟩
    · rw [if_neg hix] at HA
      rw [M.putIn_no (by simp [hix])]
      clear hok hix
      go_enter Try.func25, Try.ntmps25
      go_wp2_with fail
      refine (HA.out).mono ?_
      rintro e w1 ⟨rfl, b1⟩
      have q1 := Lib.hid (q0.out.trans (b1.mono q0.out.size))
      have r1 := Lib.hid (ha.below q1.out)
      go_wp2_with fail
      refine (HS.out _ r1.out).mono ?_
      rintro e w2 ⟨rfl, b2⟩
      have q2 := Lib.hid (q1.out.trans (b2.mono q1.out.size))
      have r2 := Lib.hid (ha.below q2.out)
      go_wp2_with fail
      go_ret2
      exact ⟨none, 0, rfl, K.Row.nil _ _ _ _, q2.out⟩
set_option maxRecDepth 100000 in
set_option maxHeartbeats 2000000 in
theorem s_put (A : Option Addr) (c : Nat) (l : List M.Pupil) (id q : Int) (w : World) (hl : l.length ≤ 1048576) (hs : ∀ p ∈ l, p.name.size ≤ 9223372036854775807) (ha : K.Rd w 5 A l.length (l.flatMap M.pupilCells)) :
    Calls Try.prog 33 #[.slice A l.length c, .int .i64 id, .int .i64 q] w (K.RetRowB w 26 5 (M.putIn l id q).1.length ((M.putIn l id q).1.flatMap M.pupilCells) (M.putIn l id q).2) := by
  have q0 := Lib.hid (Below.refl w.heap.size w)
  have HF := Lib.hid (PupilA.s_find A c l id w hl hs ha)
  by_cases hy : M.pupsOk l = true ∧ M.pIx l id < l.length
  rotate_left
  · rw [if_neg hy] at HF
    rw [M.putIn_no (fun h => hy ⟨h.1, h.2.1⟩)]
    clear hy
    go_enter Try.func33, Try.ntmps33
    go_wp2_with fail
    refine (HF.out).mono ?_
    rintro e w1 ⟨rfl, b1⟩
    have q1 := Lib.hid (q0.out.trans (b1.mono q0.out.size))
    have r1 := Lib.hid (ha.below q1.out)
    go_wp2_with fail
    go_ret2
    exact ⟨some ⟨w1.heap.size, 0, none⟩, 0, rfl, World.ownsRow_made w1 #[] 0 q1.out.size (Nat.zero_le _) rfl, q1.out.alloc q1.out.size _⟩
  · rw [if_pos hy] at HF
    obtain ⟨hok, hix⟩ := hy
    have HE := Lib.hid (M.withCL_withC l (M.pIx l id) hix q)
    have HW := Lib.hid (fun v w ha => PupilX.s_with A c l (M.pIx l id) q v w hl hix ha)
    have HL := Lib.hid (M.withC_len l (M.pIx l id) q)
    have HG := Lib.hid (fun A c w ha => PupilG.s_good A c (M.withC l (M.pIx l id) q) w (by rw [M.withC_len]; exact hl) (PupilW.names_withC hs hix q) ha)
    cases hw : M.pupsOk (M.withC l (M.pIx l id) q) with
    | false =>
      rw [M.putIn_no (by simp [hw])]
      rw [hw] at HG
      rw [HL.out] at HG
      have HR := Lib.hid (fun (w : World) (ha : K.Rd w 5 A l.length (l.flatMap M.pupilCells)) => ha.pupil hix)
      generalize hv : l[M.pIx l id].level = v at *
      have HWv := Lib.hid (HW.out v)
      rw [HE.out] at HWv
      generalize l[M.pIx l id].id = x0 at *
      generalize l[M.pIx l id].name = x1 at *
      generalize l[M.pIx l id].born = x2 at *
      generalize l[M.pIx l id].cls = x3 at *
      generalize M.withC l (M.pIx l id) q = L at *
      generalize M.pIx l id = k at *
      clear hok hw hv HE HW
      have h1 : (k : Int) < (l.length : Int) := by omega
      have h2 : (0 : Int) ≤ (k : Int) := by omega
      go_enter Try.func33, Try.ntmps33
      go_wp2_with fail
      refine (HF.out).mono ?_
      rintro e w1 ⟨rfl, b1⟩
      have q1 := Lib.hid (q0.out.trans (b1.mono q0.out.size))
      have r1 := Lib.hid (ha.below q1.out)
      obtain ⟨g, o, hA, hg, c0, c1, c2, c3, c4⟩ := HR.out _ r1.out
      subst hA
      go_wp2_with fail
      refine (HWv.out _ r1.out).mono ?_
      rintro e w2 ⟨X, n, rfl, row, b2⟩
      have q2 := Lib.hid (q1.out.trans (b2.mono q1.out.size))
      have r2 := Lib.hid (ha.below q2.out)
      go_wp2_with fail
      refine (HG.out _ _ _ row.rd).mono ?_
      rintro e w3 ⟨rfl, b3⟩
      have q3 := Lib.hid (q2.out.trans (b3.mono q2.out.size))
      have r3 := Lib.hid (ha.below q3.out)
      go_wp2_with fail
      go_ret2
      exact ⟨some ⟨w3.heap.size, 0, none⟩, 0, rfl, World.ownsRow_made w3 #[] 0 q3.out.size (Nat.zero_le _) rfl, q3.out.alloc q3.out.size _⟩
    | true =>
      rw [M.putIn_yes ⟨hok, hix, hw⟩]
      rw [hw] at HG
      rw [HL.out] at HG
      have HR := Lib.hid (fun (w : World) (ha : K.Rd w 5 A l.length (l.flatMap M.pupilCells)) => ha.pupil hix)
      generalize hv : l[M.pIx l id].level = v at *
      have HWv := Lib.hid (HW.out v)
      rw [HE.out] at HWv
      generalize l[M.pIx l id].id = x0 at *
      generalize l[M.pIx l id].name = x1 at *
      generalize l[M.pIx l id].born = x2 at *
      generalize l[M.pIx l id].cls = x3 at *
      generalize M.withC l (M.pIx l id) q = L at *
      generalize M.pIx l id = k at *
      clear hok hw hv HE HW
      have h1 : (k : Int) < (l.length : Int) := by omega
      have h2 : (0 : Int) ≤ (k : Int) := by omega
      go_enter Try.func33, Try.ntmps33
      go_wp2_with fail
      refine (HF.out).mono ?_
      rintro e w1 ⟨rfl, b1⟩
      have q1 := Lib.hid (q0.out.trans (b1.mono q0.out.size))
      have r1 := Lib.hid (ha.below q1.out)
      obtain ⟨g, o, hA, hg, c0, c1, c2, c3, c4⟩ := HR.out _ r1.out
      subst hA
      go_wp2_with fail
      refine (HWv.out _ r1.out).mono ?_
      rintro e w2 ⟨X, n, rfl, row, b2⟩
      have q2 := Lib.hid (q1.out.trans (b2.mono q1.out.size))
      have r2 := Lib.hid (ha.below q2.out)
      go_wp2_with fail
      refine (HG.out _ _ _ row.rd).mono ?_
      rintro e w3 ⟨rfl, b3⟩
      have q3 := Lib.hid (q2.out.trans (b3.mono q2.out.size))
      have r3 := Lib.hid (ha.below q3.out)
      go_wp2_with fail
      go_ret2
      exact ⟨X, n, by rw [HL.out]; rfl, by rw [HL.out]; exact (row.below b3).more q1.out.size, q3.out⟩
end Go.Proofs.Ytebbihckndjbeaa.PupilP
