/-
  Walks: are all pupils of a list valid (printed by gen_are.py).
-/
import Derived.Test.YtebbihckndjbeaaPupilG
set_option linter.unusedVariables false
namespace Go.Proofs.Ytebbihckndjbeaa.PupilG
open Go.RowKit
set_option maxRecDepth 100000 in
set_option maxHeartbeats 4000000 in
theorem i_are (A : Option Addr) (c : Nat) (l : List M.Pupil) (w : World) (hl : l.length ≤ 1048576) (hs : ∀ p ∈ l, p.name.size ≤ 9223372036854775807) (ha : K.Rd w 5 A l.length (l.flatMap M.pupilCells)) :
    Calls Try.prog 40 #[.slice A l.length c] w fun e w' => e = .returned (.bool (M.pupsOk l)) ∧ Below w.heap.size w w' := by
  obtain ⟨R, hR⟩ : ∃ R, R = M.pupsOk l := ⟨_, rfl⟩
  rw [← hR]
  have HR := Lib.hid (show R = (decide (l.length ≤ 12) && M.pupsUpTo l l.length && M.clsUpTo l 9) from hR)
  have HSS := Lib.hid hs
  clear hR hs
  by_cases h12 : l.length ≤ 12
  · have hd12 : decide ((12 : Int) < (l.length : Int)) = false := decide_eq_false (by omega)
    go_enter Try.func40, Try.ntmps40
    go_wp2_with fail
    go_loopw [16] (fun s wr => ∃ i : Nat, i ≤ l.length ∧ s = .int .i64 i ∧ Hid (M.pupsUpTo l i = true) ∧ Below w.heap.size w wr) (fun s _ => l.length - (intOf s).toNat)
    case atStart => exact ⟨0, Nat.zero_le _, rfl, Lib.hid (by simp [M.pupsUpTo]), Below.refl _ _⟩
    case round =>
      obtain ⟨i, hi, rfl, hup, hb⟩ := hrel
      by_cases hlt : i < l.length
      · have hr := ha.below hb
        obtain ⟨g, o, hA, hg, c0, c1, c2, c3, c4⟩ := hr.pupil hlt
        subst hA
        have h1 : (i : Int) < (l.length : Int) := by omega
        have h2 : (0 : Int) ≤ (i : Int) := by omega
        have HU := Lib.hid (M.pupsUpTo_succ l i)
        have HO := Lib.hid (fun w => PupilF.i_one l[i] w (HSS.out _ (List.getElem_mem hlt)))
        have HF := Lib.hid (fun h : M.pupsUpTo l (i + 1) = false => show R = false by rw [HR.out, M.pupsUpTo_false h (m := l.length) (by omega)]; simp)
        have HB := Lib.hid hb
        have HZ := Lib.hid hb.size
        cases i with
        | zero =>
          have HA := Lib.hid (M.pupAt_zero l hlt)
          generalize l[0].ok = ok at HA HO
          generalize l[0].id = x0 at *
          generalize l[0].name = x1 at *
          generalize l[0].born = x2 at *
          generalize l[0].cls = x3 at *
          generalize l[0].level = x4 at *
          clear hb ha hr
          simp only [Nat.zero_mul, Nat.add_zero] at c0 c1 c2 c3 c4
          obtain ⟨ob, hob⟩ : ∃ o : Obj, o = .cells #[.int .i64 x0, .string x1, .int .i64 x2, .int .i64 x3, .int .i64 x4] 26 := ⟨_, rfl⟩
          have px : K.Box (wr.alloc ob) wr.heap.size [.int .i64 x0, .string x1, .int .i64 x2, .int .i64 x3, .int .i64 x4] := by rw [hob]; exact K.Box.new _ _ _
          have HB1 := Lib.hid (HB.out.alloc HZ.out ob)
          subst hob
          cases ok with
          | false =>
            have HK := Lib.hid (HF.out (by rw [HU.out, HA.out]; simp))
            clear HF HU HA
            go_wp2_with fail
            refine wp_region_held_drew (S := fun w' => w'.cell? ⟨wr.heap.size, 0, none⟩ = some (.int .i64 x0) ∧ w'.cell? ⟨wr.heap.size, 1, none⟩ = some (.string x1) ∧ w'.cell? ⟨wr.heap.size, 2, none⟩ = some (.int .i64 x2) ∧ w'.cell? ⟨wr.heap.size, 3, none⟩ = some (.int .i64 x3) ∧ w'.cell? ⟨wr.heap.size, 4, none⟩ = some (.int .i64 x4)) (by kernel_rfl) ⟨px.2 0 _ rfl, px.2 1 _ rfl, px.2 2 _ rfl, px.2 3 _ rfl, px.2 4 _ rfl⟩ (fun hHeld => ?_)
            refine K.takeL 0 (v := ?_) rfl (by kernel_rfl) (by kernel_rfl) (by kernel_rfl) (fun _ _ _ h => h) (Or.inl ⟨rfl, ?_⟩) (by assumption) ?_
            rotate_left
            · intro w hSw; (try dsimp only at hSw); first | (go_simp; done) | (go_simp; with_reducible rfl)
            simp only [Act.put, List.setIfInBounds_toArray, List.set_cons_zero, List.set_cons_succ]
            refine K.consL 1 rfl (by kernel_rfl) (fun K hK => ?_)
            go_simp
            refine (HO.out _).mono ?_
            rintro e w1 ⟨rfl, b1⟩
            go_wp2_with fail
            refine hK.out _ _ ⟨(px.drew.below b1).2 0 _ rfl, (px.drew.below b1).2 1 _ rfl, (px.drew.below b1).2 2 _ rfl, (px.drew.below b1).2 3 _ rfl, (px.drew.below b1).2 4 _ rfl⟩ (fun hHeld => ?_)
            clear hK K
            try simp only [Act.put, List.setIfInBounds_toArray, List.set_cons_zero, List.set_cons_succ]
            refine K.takeL 2 (v := ?_) rfl (by kernel_rfl) (by kernel_rfl) (by kernel_rfl) (fun _ _ _ h => h) (Or.inl ⟨rfl, ?_⟩) (by assumption) ?_
            rotate_left
            · intro w hSw; (try dsimp only at hSw); first | (go_simp; done) | (go_simp; with_reducible rfl)
            simp only [Act.put, List.setIfInBounds_toArray, List.set_cons_zero, List.set_cons_succ]
            refine K.takeL 3 (v := ?_) rfl (by kernel_rfl) (by kernel_rfl) (by kernel_rfl) (fun _ _ _ h => h) (Or.inl ⟨rfl, ?_⟩) (by assumption) ?_
            rotate_left
            · intro w hSw; (try dsimp only at hSw); first | (go_simp; done) | (go_simp; with_reducible rfl)
            simp only [Act.put, List.setIfInBounds_toArray, List.set_cons_zero, List.set_cons_succ]
            refine K.skipL 4 rfl (by kernel_rfl) (by kernel_rfl) (by kernel_rfl) (fun _ _ _ h => h) rfl (by assumption) ?_
            simp only [Act.put, List.setIfInBounds_toArray, List.set_cons_zero, List.set_cons_succ]
            refine K.skipL 5 rfl (by kernel_rfl) (by kernel_rfl) (by kernel_rfl) (fun _ _ _ h => h) rfl (by assumption) ?_
            simp only [Act.put, List.setIfInBounds_toArray, List.set_cons_zero, List.set_cons_succ]
            refine K.skipL 6 rfl (by kernel_rfl) (by kernel_rfl) (by kernel_rfl) (fun _ _ _ h => h) rfl (by assumption) ?_
            simp only [Act.put, List.setIfInBounds_toArray, List.set_cons_zero, List.set_cons_succ]
            refine K.skipL 7 rfl (by kernel_rfl) (by kernel_rfl) (by kernel_rfl) (fun _ _ _ h => h) rfl (by assumption) ?_
            simp only [Act.put, List.setIfInBounds_toArray, List.set_cons_zero, List.set_cons_succ]
            refine K.skipL 8 rfl (by kernel_rfl) (by kernel_rfl) (by kernel_rfl) (fun _ _ _ h => h) rfl (by assumption) ?_
            simp only [Act.put, List.setIfInBounds_toArray, List.set_cons_zero, List.set_cons_succ]
            refine K.skipL 9 rfl (by kernel_rfl) (by kernel_rfl) (by kernel_rfl) (fun _ _ _ h => h) rfl (by assumption) ?_
            simp only [Act.put, List.setIfInBounds_toArray, List.set_cons_zero, List.set_cons_succ]
            refine K.skipL 10 rfl (by kernel_rfl) (by kernel_rfl) (by kernel_rfl) (fun _ _ _ h => h) rfl (by assumption) ?_
            simp only [Act.put, List.setIfInBounds_toArray, List.set_cons_zero, List.set_cons_succ]
            refine K.skipL 11 rfl (by kernel_rfl) (by kernel_rfl) (by kernel_rfl) (fun _ _ _ h => h) rfl (by assumption) ?_
            simp only [Act.put, List.setIfInBounds_toArray, List.set_cons_zero, List.set_cons_succ]
            refine K.skipL 12 rfl (by kernel_rfl) (by kernel_rfl) (by kernel_rfl) (fun _ _ _ h => h) rfl (by assumption) ?_
            simp only [Act.put, List.setIfInBounds_toArray, List.set_cons_zero, List.set_cons_succ]
            refine K.skipL 13 rfl (by kernel_rfl) (by kernel_rfl) (by kernel_rfl) (fun _ _ _ h => h) rfl (by assumption) ?_
            simp only [Act.put, List.setIfInBounds_toArray, List.set_cons_zero, List.set_cons_succ]
            refine K.skipL 14 rfl (by kernel_rfl) (by kernel_rfl) (by kernel_rfl) (fun _ _ _ h => h) rfl (by assumption) ?_
            simp only [Act.put, List.setIfInBounds_toArray, List.set_cons_zero, List.set_cons_succ]
            refine K.skipL 15 rfl (by kernel_rfl) (by kernel_rfl) (by kernel_rfl) (fun _ _ _ h => h) rfl (by assumption) ?_
            simp only [Act.put, List.setIfInBounds_toArray, List.set_cons_zero, List.set_cons_succ]
            refine K.skipL 16 rfl (by kernel_rfl) (by kernel_rfl) (by kernel_rfl) (fun _ _ _ h => h) rfl (by assumption) ?_
            simp only [Act.put, List.setIfInBounds_toArray, List.set_cons_zero, List.set_cons_succ]
            refine K.takeL 17 (v := ?_) rfl (by kernel_rfl) (by kernel_rfl) (by kernel_rfl) (fun _ _ _ h => h) (Or.inl ⟨rfl, ?_⟩) (by assumption) ?_
            rotate_left
            · intro w hSw; (try dsimp only at hSw); first | (go_simp; done) | (go_simp; with_reducible rfl)
            simp only [Act.put, List.setIfInBounds_toArray, List.set_cons_zero, List.set_cons_succ]
            refine wpAnyH_done (by kernel_rfl) ?_ _
            all_goals go_wp2_with fail
            all_goals go_ret
            all_goals exact ⟨K.ret_bool HK.out.symm, (HB1.out.drew.trans (b1.mono HB1.out.drew.size))⟩
          | true =>
            have HK := Lib.hid (show M.pupsUpTo l (0 + 1) = true by rw [HU.out, hup.out, HA.out]; rfl)
            clear HF HU HA
            go_wp2_with fail
            refine wp_region_held_drew (S := fun w' => w'.cell? ⟨wr.heap.size, 0, none⟩ = some (.int .i64 x0) ∧ w'.cell? ⟨wr.heap.size, 1, none⟩ = some (.string x1) ∧ w'.cell? ⟨wr.heap.size, 2, none⟩ = some (.int .i64 x2) ∧ w'.cell? ⟨wr.heap.size, 3, none⟩ = some (.int .i64 x3) ∧ w'.cell? ⟨wr.heap.size, 4, none⟩ = some (.int .i64 x4)) (by kernel_rfl) ⟨px.2 0 _ rfl, px.2 1 _ rfl, px.2 2 _ rfl, px.2 3 _ rfl, px.2 4 _ rfl⟩ (fun hHeld => ?_)
            refine K.takeL 0 (v := ?_) rfl (by kernel_rfl) (by kernel_rfl) (by kernel_rfl) (fun _ _ _ h => h) (Or.inl ⟨rfl, ?_⟩) (by assumption) ?_
            rotate_left
            · intro w hSw; (try dsimp only at hSw); first | (go_simp; done) | (go_simp; with_reducible rfl)
            simp only [Act.put, List.setIfInBounds_toArray, List.set_cons_zero, List.set_cons_succ]
            refine K.consL 1 rfl (by kernel_rfl) (fun K hK => ?_)
            go_simp
            refine (HO.out _).mono ?_
            rintro e w1 ⟨rfl, b1⟩
            go_wp2_with fail
            refine hK.out _ _ ⟨(px.drew.below b1).2 0 _ rfl, (px.drew.below b1).2 1 _ rfl, (px.drew.below b1).2 2 _ rfl, (px.drew.below b1).2 3 _ rfl, (px.drew.below b1).2 4 _ rfl⟩ (fun hHeld => ?_)
            clear hK K
            try simp only [Act.put, List.setIfInBounds_toArray, List.set_cons_zero, List.set_cons_succ]
            refine K.takeL 2 (v := ?_) rfl (by kernel_rfl) (by kernel_rfl) (by kernel_rfl) (fun _ _ _ h => h) (Or.inl ⟨rfl, ?_⟩) (by assumption) ?_
            rotate_left
            · intro w hSw; (try dsimp only at hSw); first | (go_simp; done) | (go_simp; with_reducible rfl)
            simp only [Act.put, List.setIfInBounds_toArray, List.set_cons_zero, List.set_cons_succ]
            refine K.takeL 3 (v := ?_) rfl (by kernel_rfl) (by kernel_rfl) (by kernel_rfl) (fun _ _ _ h => h) (Or.inl ⟨rfl, ?_⟩) (by assumption) ?_
            rotate_left
            · intro w hSw; (try dsimp only at hSw); first | (go_simp; done) | (go_simp; with_reducible rfl)
            simp only [Act.put, List.setIfInBounds_toArray, List.set_cons_zero, List.set_cons_succ]
            refine K.takeL 4 (v := ?_) rfl (by kernel_rfl) (by kernel_rfl) (by kernel_rfl) (fun _ _ _ h => h) (Or.inl ⟨rfl, ?_⟩) (by assumption) ?_
            rotate_left
            · intro w hSw; (try dsimp only at hSw); first | (go_simp; done) | (go_simp; with_reducible rfl)
            simp only [Act.put, List.setIfInBounds_toArray, List.set_cons_zero, List.set_cons_succ]
            refine K.takeL 5 (v := ?_) rfl (by kernel_rfl) (by kernel_rfl) (by kernel_rfl) (fun _ _ _ h => h) (Or.inl ⟨rfl, ?_⟩) (by assumption) ?_
            rotate_left
            · intro w hSw; (try dsimp only at hSw); first | (go_simp; done) | (go_simp; with_reducible rfl)
            simp only [Act.put, List.setIfInBounds_toArray, List.set_cons_zero, List.set_cons_succ]
            refine K.takeL 6 (v := ?_) rfl (by kernel_rfl) (by kernel_rfl) (by kernel_rfl) (fun _ _ _ h => h) (Or.inl ⟨rfl, ?_⟩) (by assumption) ?_
            rotate_left
            · intro w hSw; (try dsimp only at hSw); first | (go_simp; done) | (go_simp; with_reducible rfl)
            simp only [Act.put, List.setIfInBounds_toArray, List.set_cons_zero, List.set_cons_succ]
            refine K.skipL 7 rfl (by kernel_rfl) (by kernel_rfl) (by kernel_rfl) (fun _ _ _ h => h) rfl (by assumption) ?_
            simp only [Act.put, List.setIfInBounds_toArray, List.set_cons_zero, List.set_cons_succ]
            refine K.skipL 8 rfl (by kernel_rfl) (by kernel_rfl) (by kernel_rfl) (fun _ _ _ h => h) rfl (by assumption) ?_
            simp only [Act.put, List.setIfInBounds_toArray, List.set_cons_zero, List.set_cons_succ]
            refine K.skipL 9 rfl (by kernel_rfl) (by kernel_rfl) (by kernel_rfl) (fun _ _ _ h => h) rfl (by assumption) ?_
            simp only [Act.put, List.setIfInBounds_toArray, List.set_cons_zero, List.set_cons_succ]
            refine K.skipL 10 rfl (by kernel_rfl) (by kernel_rfl) (by kernel_rfl) (fun _ _ _ h => h) rfl (by assumption) ?_
            simp only [Act.put, List.setIfInBounds_toArray, List.set_cons_zero, List.set_cons_succ]
            refine K.skipL 11 rfl (by kernel_rfl) (by kernel_rfl) (by kernel_rfl) (fun _ _ _ h => h) rfl (by assumption) ?_
            simp only [Act.put, List.setIfInBounds_toArray, List.set_cons_zero, List.set_cons_succ]
            refine K.skipL 12 rfl (by kernel_rfl) (by kernel_rfl) (by kernel_rfl) (fun _ _ _ h => h) rfl (by assumption) ?_
            simp only [Act.put, List.setIfInBounds_toArray, List.set_cons_zero, List.set_cons_succ]
            refine K.skipL 13 rfl (by kernel_rfl) (by kernel_rfl) (by kernel_rfl) (fun _ _ _ h => h) rfl (by assumption) ?_
            simp only [Act.put, List.setIfInBounds_toArray, List.set_cons_zero, List.set_cons_succ]
            refine K.skipL 14 rfl (by kernel_rfl) (by kernel_rfl) (by kernel_rfl) (fun _ _ _ h => h) rfl (by assumption) ?_
            simp only [Act.put, List.setIfInBounds_toArray, List.set_cons_zero, List.set_cons_succ]
            refine K.skipL 15 rfl (by kernel_rfl) (by kernel_rfl) (by kernel_rfl) (fun _ _ _ h => h) rfl (by assumption) ?_
            simp only [Act.put, List.setIfInBounds_toArray, List.set_cons_zero, List.set_cons_succ]
            refine K.takeL 16 (v := ?_) rfl (by kernel_rfl) (by kernel_rfl) (by kernel_rfl) (fun _ _ _ h => h) (Or.inl ⟨rfl, ?_⟩) (by assumption) ?_
            rotate_left
            · intro w hSw; (try dsimp only at hSw); first | (go_simp; done) | (go_simp; with_reducible rfl)
            simp only [Act.put, List.setIfInBounds_toArray, List.set_cons_zero, List.set_cons_succ]
            refine K.takeL 17 (v := ?_) rfl (by kernel_rfl) (by kernel_rfl) (by kernel_rfl) (fun _ _ _ h => h) (Or.inl ⟨rfl, ?_⟩) (by assumption) ?_
            rotate_left
            · intro w hSw; (try dsimp only at hSw); first | (go_simp; done) | (go_simp; with_reducible rfl)
            simp only [Act.put, List.setIfInBounds_toArray, List.set_cons_zero, List.set_cons_succ]
            refine wpAnyH_done (by kernel_rfl) ?_ _
            all_goals go_wp2_with fail
            all_goals
              go_roundw
              case rel => exact ⟨0 + 1, by omega, by first | rfl | go_num, HK, (HB1.out.drew.trans (b1.mono HB1.out.drew.size))⟩
              case measure => simp [intOf]; omega
        | succ j =>
          have hjl : j < l.length := by omega
          obtain ⟨g2, o2, hA, _, d0, d1, d2, d3, d4⟩ := hr.pupil hjl
          injection hA with hA
          injection hA with e1 e2 _
          subst e1 e2
          clear d1 d2 d3 d4
          have HA := Lib.hid (M.pupAt_succ l j hlt)
          have h5 : (0 : Int) ≤ (j : Int) + 1 := by omega
          have h6 : (j : Int) + 1 < (l.length : Int) := by omega
          generalize l[j + 1].ok = ok at HA HO
          generalize l[j].id = y0 at *
          generalize l[j + 1].id = x0 at *
          generalize l[j + 1].name = x1 at *
          generalize l[j + 1].born = x2 at *
          generalize l[j + 1].cls = x3 at *
          generalize l[j + 1].level = x4 at *
          clear hb ha hr
          obtain ⟨ob, hob⟩ : ∃ o : Obj, o = .cells #[.int .i64 x0, .string x1, .int .i64 x2, .int .i64 x3, .int .i64 x4] 26 := ⟨_, rfl⟩
          have px : K.Box (wr.alloc ob) wr.heap.size [.int .i64 x0, .string x1, .int .i64 x2, .int .i64 x3, .int .i64 x4] := by rw [hob]; exact K.Box.new _ _ _
          have HB1 := Lib.hid (HB.out.alloc HZ.out ob)
          have dd : (wr.alloc ob).cell? ⟨g, o + j * 5, none⟩ = some (.int .i64 y0) := (((Below.refl wr.heap.size wr).alloc (Nat.le_refl _) ob).cell (p := ⟨g, o + j * 5, none⟩) hg).trans d0
          subst hob
          cases ok with
          | false =>
            have HK := Lib.hid (HF.out (by rw [HU.out, HA.out]; simp))
            clear HF HU HA
            have hd : decide ((0 : Int) < (j : Int) + 1) = true := decide_eq_true (by omega)
            go_wp2_with fail
            refine wp_region_held_drew (S := fun w' => w'.cell? ⟨wr.heap.size, 0, none⟩ = some (.int .i64 x0) ∧ w'.cell? ⟨wr.heap.size, 1, none⟩ = some (.string x1) ∧ w'.cell? ⟨wr.heap.size, 2, none⟩ = some (.int .i64 x2) ∧ w'.cell? ⟨wr.heap.size, 3, none⟩ = some (.int .i64 x3) ∧ w'.cell? ⟨wr.heap.size, 4, none⟩ = some (.int .i64 x4) ∧ w'.cell? ⟨g, o + j * 5, none⟩ = some (.int .i64 y0)) (by kernel_rfl) ⟨px.2 0 _ rfl, px.2 1 _ rfl, px.2 2 _ rfl, px.2 3 _ rfl, px.2 4 _ rfl, dd⟩ (fun hHeld => ?_)
            refine K.takeL 0 (v := ?_) rfl (by kernel_rfl) (by kernel_rfl) (by kernel_rfl) (fun _ _ _ h => h) (Or.inl ⟨rfl, ?_⟩) (by assumption) ?_
            rotate_left
            · intro w hSw; (try dsimp only at hSw); first | (go_simp; done) | (go_simp; with_reducible rfl)
            simp only [Act.put, List.setIfInBounds_toArray, List.set_cons_zero, List.set_cons_succ]
            refine K.consL 1 rfl (by kernel_rfl) (fun K hK => ?_)
            go_simp
            refine (HO.out _).mono ?_
            rintro e w1 ⟨rfl, b1⟩
            go_wp2_with fail
            refine hK.out _ _ ⟨(px.drew.below b1).2 0 _ rfl, (px.drew.below b1).2 1 _ rfl, (px.drew.below b1).2 2 _ rfl, (px.drew.below b1).2 3 _ rfl, (px.drew.below b1).2 4 _ rfl, (b1.cell (p := ⟨g, o + j * 5, none⟩) (by simp; omega)).trans dd⟩ (fun hHeld => ?_)
            clear hK K
            try simp only [Act.put, List.setIfInBounds_toArray, List.set_cons_zero, List.set_cons_succ]
            refine K.takeL 2 (v := ?_) rfl (by kernel_rfl) (by kernel_rfl) (by kernel_rfl) (fun _ _ _ h => h) (Or.inl ⟨rfl, ?_⟩) (by assumption) ?_
            rotate_left
            · intro w hSw; (try dsimp only at hSw); first | (go_simp; done) | (go_simp; with_reducible rfl)
            simp only [Act.put, List.setIfInBounds_toArray, List.set_cons_zero, List.set_cons_succ]
            refine K.takeL 3 (v := ?_) rfl (by kernel_rfl) (by kernel_rfl) (by kernel_rfl) (fun _ _ _ h => h) (Or.inl ⟨rfl, ?_⟩) (by assumption) ?_
            rotate_left
            · intro w hSw; (try dsimp only at hSw); first | (go_simp; done) | (go_simp; with_reducible rfl)
            simp only [Act.put, List.setIfInBounds_toArray, List.set_cons_zero, List.set_cons_succ]
            refine K.skipL 4 rfl (by kernel_rfl) (by kernel_rfl) (by kernel_rfl) (fun _ _ _ h => h) rfl (by assumption) ?_
            simp only [Act.put, List.setIfInBounds_toArray, List.set_cons_zero, List.set_cons_succ]
            refine K.skipL 5 rfl (by kernel_rfl) (by kernel_rfl) (by kernel_rfl) (fun _ _ _ h => h) rfl (by assumption) ?_
            simp only [Act.put, List.setIfInBounds_toArray, List.set_cons_zero, List.set_cons_succ]
            refine K.skipL 6 rfl (by kernel_rfl) (by kernel_rfl) (by kernel_rfl) (fun _ _ _ h => h) rfl (by assumption) ?_
            simp only [Act.put, List.setIfInBounds_toArray, List.set_cons_zero, List.set_cons_succ]
            refine K.skipL 7 rfl (by kernel_rfl) (by kernel_rfl) (by kernel_rfl) (fun _ _ _ h => h) rfl (by assumption) ?_
            simp only [Act.put, List.setIfInBounds_toArray, List.set_cons_zero, List.set_cons_succ]
            refine K.skipL 8 rfl (by kernel_rfl) (by kernel_rfl) (by kernel_rfl) (fun _ _ _ h => h) rfl (by assumption) ?_
            simp only [Act.put, List.setIfInBounds_toArray, List.set_cons_zero, List.set_cons_succ]
            refine K.skipL 9 rfl (by kernel_rfl) (by kernel_rfl) (by kernel_rfl) (fun _ _ _ h => h) rfl (by assumption) ?_
            simp only [Act.put, List.setIfInBounds_toArray, List.set_cons_zero, List.set_cons_succ]
            refine K.skipL 10 rfl (by kernel_rfl) (by kernel_rfl) (by kernel_rfl) (fun _ _ _ h => h) rfl (by assumption) ?_
            simp only [Act.put, List.setIfInBounds_toArray, List.set_cons_zero, List.set_cons_succ]
            refine K.skipL 11 rfl (by kernel_rfl) (by kernel_rfl) (by kernel_rfl) (fun _ _ _ h => h) rfl (by assumption) ?_
            simp only [Act.put, List.setIfInBounds_toArray, List.set_cons_zero, List.set_cons_succ]
            refine K.skipL 12 rfl (by kernel_rfl) (by kernel_rfl) (by kernel_rfl) (fun _ _ _ h => h) rfl (by assumption) ?_
            simp only [Act.put, List.setIfInBounds_toArray, List.set_cons_zero, List.set_cons_succ]
            refine K.skipL 13 rfl (by kernel_rfl) (by kernel_rfl) (by kernel_rfl) (fun _ _ _ h => h) rfl (by assumption) ?_
            simp only [Act.put, List.setIfInBounds_toArray, List.set_cons_zero, List.set_cons_succ]
            refine K.skipL 14 rfl (by kernel_rfl) (by kernel_rfl) (by kernel_rfl) (fun _ _ _ h => h) rfl (by assumption) ?_
            simp only [Act.put, List.setIfInBounds_toArray, List.set_cons_zero, List.set_cons_succ]
            refine K.skipL 15 rfl (by kernel_rfl) (by kernel_rfl) (by kernel_rfl) (fun _ _ _ h => h) rfl (by assumption) ?_
            simp only [Act.put, List.setIfInBounds_toArray, List.set_cons_zero, List.set_cons_succ]
            refine K.skipL 16 rfl (by kernel_rfl) (by kernel_rfl) (by kernel_rfl) (fun _ _ _ h => h) rfl (by assumption) ?_
            simp only [Act.put, List.setIfInBounds_toArray, List.set_cons_zero, List.set_cons_succ]
            refine K.takeL 17 (v := ?_) rfl (by kernel_rfl) (by kernel_rfl) (by kernel_rfl) (fun _ _ _ h => h) (Or.inl ⟨rfl, ?_⟩) (by assumption) ?_
            rotate_left
            · intro w hSw; (try dsimp only at hSw); first | (go_simp; done) | (go_simp; with_reducible rfl)
            simp only [Act.put, List.setIfInBounds_toArray, List.set_cons_zero, List.set_cons_succ]
            refine wpAnyH_done (by kernel_rfl) ?_ _
            all_goals go_wp2_with fail
            all_goals go_ret
            all_goals exact ⟨K.ret_bool HK.out.symm, (HB1.out.drew.trans (b1.mono HB1.out.drew.size))⟩
          | true =>
            have hd : decide ((0 : Int) < (j : Int) + 1) = true := decide_eq_true (by omega)
            have hw : IntKind.i64.wrap ((j : Int) + 1 - 1) = (j : Int) := by rw [show (j : Int) + 1 - 1 = j by omega]; exact IntWalk.i64_in _ (by omega)
            have hw2 : (j : Int) + 1 - 1 = (j : Int) := by omega
            have hw3 : IntKind.i64.wrap (j : Int) = (j : Int) := IntWalk.i64_in _ (by omega)
            have h3 : (j : Int) < (l.length : Int) := by omega
            have h4 : (0 : Int) ≤ (j : Int) := by omega
            by_cases hlid : y0 < x0
            · have hge : decide (x0 ≤ y0) = false := decide_eq_false (by omega)
              have HK := Lib.hid (show M.pupsUpTo l (j + 1 + 1) = true by rw [HU.out, hup.out, HA.out]; simp [hlid])
              clear HF HU HA hlid
              go_wp2_with fail
              refine wp_region_held_drew (S := fun w' => w'.cell? ⟨wr.heap.size, 0, none⟩ = some (.int .i64 x0) ∧ w'.cell? ⟨wr.heap.size, 1, none⟩ = some (.string x1) ∧ w'.cell? ⟨wr.heap.size, 2, none⟩ = some (.int .i64 x2) ∧ w'.cell? ⟨wr.heap.size, 3, none⟩ = some (.int .i64 x3) ∧ w'.cell? ⟨wr.heap.size, 4, none⟩ = some (.int .i64 x4) ∧ w'.cell? ⟨g, o + j * 5, none⟩ = some (.int .i64 y0)) (by kernel_rfl) ⟨px.2 0 _ rfl, px.2 1 _ rfl, px.2 2 _ rfl, px.2 3 _ rfl, px.2 4 _ rfl, dd⟩ (fun hHeld => ?_)
              refine K.takeL 0 (v := ?_) rfl (by kernel_rfl) (by kernel_rfl) (by kernel_rfl) (fun _ _ _ h => h) (Or.inl ⟨rfl, ?_⟩) (by assumption) ?_
              rotate_left
              · intro w hSw; (try dsimp only at hSw); first | (go_simp; done) | (go_simp; with_reducible rfl)
              simp only [Act.put, List.setIfInBounds_toArray, List.set_cons_zero, List.set_cons_succ]
              refine K.consL 1 rfl (by kernel_rfl) (fun K hK => ?_)
              go_simp
              refine (HO.out _).mono ?_
              rintro e w1 ⟨rfl, b1⟩
              go_wp2_with fail
              refine hK.out _ _ ⟨(px.drew.below b1).2 0 _ rfl, (px.drew.below b1).2 1 _ rfl, (px.drew.below b1).2 2 _ rfl, (px.drew.below b1).2 3 _ rfl, (px.drew.below b1).2 4 _ rfl, (b1.cell (p := ⟨g, o + j * 5, none⟩) (by simp; omega)).trans dd⟩ (fun hHeld => ?_)
              clear hK K
              try simp only [Act.put, List.setIfInBounds_toArray, List.set_cons_zero, List.set_cons_succ]
              refine K.takeL 2 (v := ?_) rfl (by kernel_rfl) (by kernel_rfl) (by kernel_rfl) (fun _ _ _ h => h) (Or.inl ⟨rfl, ?_⟩) (by assumption) ?_
              rotate_left
              · intro w hSw; (try dsimp only at hSw); first | (go_simp; done) | (go_simp; with_reducible rfl)
              simp only [Act.put, List.setIfInBounds_toArray, List.set_cons_zero, List.set_cons_succ]
              refine K.takeL 3 (v := ?_) rfl (by kernel_rfl) (by kernel_rfl) (by kernel_rfl) (fun _ _ _ h => h) (Or.inl ⟨rfl, ?_⟩) (by assumption) ?_
              rotate_left
              · intro w hSw; (try dsimp only at hSw); first | (go_simp; done) | (go_simp; with_reducible rfl)
              simp only [Act.put, List.setIfInBounds_toArray, List.set_cons_zero, List.set_cons_succ]
              refine K.takeL 4 (v := ?_) rfl (by kernel_rfl) (by kernel_rfl) (by kernel_rfl) (fun _ _ _ h => h) (Or.inl ⟨rfl, ?_⟩) (by assumption) ?_
              rotate_left
              · intro w hSw; (try dsimp only at hSw); first | (go_simp; done) | (go_simp; with_reducible rfl)
              simp only [Act.put, List.setIfInBounds_toArray, List.set_cons_zero, List.set_cons_succ]
              refine K.takeL 5 (v := ?_) rfl (by kernel_rfl) (by kernel_rfl) (by kernel_rfl) (fun _ _ _ h => h) (Or.inl ⟨rfl, ?_⟩) (by assumption) ?_
              rotate_left
              · intro w hSw; (try dsimp only at hSw); first | (go_simp; done) | (go_simp; with_reducible rfl)
              simp only [Act.put, List.setIfInBounds_toArray, List.set_cons_zero, List.set_cons_succ]
              refine K.takeL 6 (v := ?_) rfl (by kernel_rfl) (by kernel_rfl) (by kernel_rfl) (fun _ _ _ h => h) (Or.inl ⟨rfl, ?_⟩) (by assumption) ?_
              rotate_left
              · intro w hSw; (try dsimp only at hSw); first | (go_simp; done) | (go_simp; with_reducible rfl)
              simp only [Act.put, List.setIfInBounds_toArray, List.set_cons_zero, List.set_cons_succ]
              refine K.takeL 7 (v := ?_) rfl (by kernel_rfl) (by kernel_rfl) (by kernel_rfl) (fun _ _ _ h => h) (Or.inl ⟨rfl, ?_⟩) (by assumption) ?_
              rotate_left
              · intro w hSw; (try dsimp only at hSw); first | (go_simp; done) | (go_simp; with_reducible rfl)
              simp only [Act.put, List.setIfInBounds_toArray, List.set_cons_zero, List.set_cons_succ]
              refine K.takeL 8 (v := ?_) rfl (by kernel_rfl) (by kernel_rfl) (by kernel_rfl) (fun _ _ _ h => h) (Or.inl ⟨rfl, ?_⟩) (by assumption) ?_
              rotate_left
              · intro w hSw; (try dsimp only at hSw); first | (go_simp; done) | (go_simp; with_reducible rfl)
              simp only [Act.put, List.setIfInBounds_toArray, List.set_cons_zero, List.set_cons_succ]
              refine K.takeL 9 (v := ?_) rfl (by kernel_rfl) (by kernel_rfl) (by kernel_rfl) (fun _ _ _ h => h) (Or.inl ⟨rfl, ?_⟩) (by assumption) ?_
              rotate_left
              · intro w hSw; (try dsimp only at hSw); first | (go_simp; done) | (go_simp; with_reducible rfl)
              simp only [Act.put, List.setIfInBounds_toArray, List.set_cons_zero, List.set_cons_succ]
              refine K.takeL 10 (v := ?_) rfl (by kernel_rfl) (by kernel_rfl) (by kernel_rfl) (fun _ _ _ h => h) (Or.inl ⟨rfl, ?_⟩) (by assumption) ?_
              rotate_left
              · intro w hSw; (try dsimp only at hSw); first | (go_simp; done) | (go_simp; with_reducible rfl)
              simp only [Act.put, List.setIfInBounds_toArray, List.set_cons_zero, List.set_cons_succ]
              refine K.takeL 11 (v := ?_) rfl (by kernel_rfl) (by kernel_rfl) (by kernel_rfl) (fun _ _ _ h => h) (Or.inl ⟨rfl, ?_⟩) (by assumption) ?_
              rotate_left
              · intro w hSw; (try dsimp only at hSw); first | (go_simp; done) | (go_simp; with_reducible rfl)
              simp only [Act.put, List.setIfInBounds_toArray, List.set_cons_zero, List.set_cons_succ]
              refine K.takeL 12 (v := ?_) rfl (by kernel_rfl) (by kernel_rfl) (by kernel_rfl) (fun _ _ _ h => h) (Or.inl ⟨rfl, ?_⟩) (by assumption) ?_
              rotate_left
              · intro w hSw; (try dsimp only at hSw); first | (go_simp; done) | (go_simp; with_reducible rfl)
              simp only [Act.put, List.setIfInBounds_toArray, List.set_cons_zero, List.set_cons_succ]
              refine K.takeL 13 (v := ?_) rfl (by kernel_rfl) (by kernel_rfl) (by kernel_rfl) (fun _ _ _ h => h) (Or.inl ⟨rfl, ?_⟩) (by assumption) ?_
              rotate_left
              · intro w hSw; (try dsimp only at hSw); first | (go_simp; done) | (go_simp; with_reducible rfl)
              simp only [Act.put, List.setIfInBounds_toArray, List.set_cons_zero, List.set_cons_succ]
              refine K.takeL 14 (v := ?_) rfl (by kernel_rfl) (by kernel_rfl) (by kernel_rfl) (fun _ _ _ h => h) (Or.inl ⟨rfl, ?_⟩) (by assumption) ?_
              rotate_left
              · intro w hSw; (try dsimp only at hSw); first | (go_simp; done) | (go_simp; with_reducible rfl)
              simp only [Act.put, List.setIfInBounds_toArray, List.set_cons_zero, List.set_cons_succ]
              refine K.takeL 15 (v := ?_) rfl (by kernel_rfl) (by kernel_rfl) (by kernel_rfl) (fun _ _ _ h => h) (Or.inl ⟨rfl, ?_⟩) (by assumption) ?_
              rotate_left
              · intro w hSw; (try dsimp only at hSw); first | (go_simp; done) | (go_simp; with_reducible rfl)
              simp only [Act.put, List.setIfInBounds_toArray, List.set_cons_zero, List.set_cons_succ]
              refine K.takeL 16 (v := ?_) rfl (by kernel_rfl) (by kernel_rfl) (by kernel_rfl) (fun _ _ _ h => h) (Or.inl ⟨rfl, ?_⟩) (by assumption) ?_
              rotate_left
              · intro w hSw; (try dsimp only at hSw); first | (go_simp; done) | (go_simp; with_reducible rfl)
              simp only [Act.put, List.setIfInBounds_toArray, List.set_cons_zero, List.set_cons_succ]
              refine K.takeL 17 (v := ?_) rfl (by kernel_rfl) (by kernel_rfl) (by kernel_rfl) (fun _ _ _ h => h) (Or.inl ⟨rfl, ?_⟩) (by assumption) ?_
              rotate_left
              · intro w hSw; (try dsimp only at hSw); first | (go_simp; done) | (go_simp; with_reducible rfl)
              simp only [Act.put, List.setIfInBounds_toArray, List.set_cons_zero, List.set_cons_succ]
              refine wpAnyH_done (by kernel_rfl) ?_ _
              all_goals (try clear hw hw2 hw3)
              all_goals go_wp2_with fail
              all_goals
                go_roundw
                case rel => exact ⟨j + 1 + 1, by omega, by first | rfl | go_num, HK, (HB1.out.drew.trans (b1.mono HB1.out.drew.size))⟩
                case measure => simp [intOf]; omega
            · have hge : decide (x0 ≤ y0) = true := decide_eq_true (by omega)
              have HK := Lib.hid (HF.out (by rw [HU.out, HA.out]; simp [hlid]))
              clear HF HU HA hlid
              go_wp2_with fail
              refine wp_region_held_drew (S := fun w' => w'.cell? ⟨wr.heap.size, 0, none⟩ = some (.int .i64 x0) ∧ w'.cell? ⟨wr.heap.size, 1, none⟩ = some (.string x1) ∧ w'.cell? ⟨wr.heap.size, 2, none⟩ = some (.int .i64 x2) ∧ w'.cell? ⟨wr.heap.size, 3, none⟩ = some (.int .i64 x3) ∧ w'.cell? ⟨wr.heap.size, 4, none⟩ = some (.int .i64 x4) ∧ w'.cell? ⟨g, o + j * 5, none⟩ = some (.int .i64 y0)) (by kernel_rfl) ⟨px.2 0 _ rfl, px.2 1 _ rfl, px.2 2 _ rfl, px.2 3 _ rfl, px.2 4 _ rfl, dd⟩ (fun hHeld => ?_)
              refine K.takeL 0 (v := ?_) rfl (by kernel_rfl) (by kernel_rfl) (by kernel_rfl) (fun _ _ _ h => h) (Or.inl ⟨rfl, ?_⟩) (by assumption) ?_
              rotate_left
              · intro w hSw; (try dsimp only at hSw); first | (go_simp; done) | (go_simp; with_reducible rfl)
              simp only [Act.put, List.setIfInBounds_toArray, List.set_cons_zero, List.set_cons_succ]
              refine K.consL 1 rfl (by kernel_rfl) (fun K hK => ?_)
              go_simp
              refine (HO.out _).mono ?_
              rintro e w1 ⟨rfl, b1⟩
              go_wp2_with fail
              refine hK.out _ _ ⟨(px.drew.below b1).2 0 _ rfl, (px.drew.below b1).2 1 _ rfl, (px.drew.below b1).2 2 _ rfl, (px.drew.below b1).2 3 _ rfl, (px.drew.below b1).2 4 _ rfl, (b1.cell (p := ⟨g, o + j * 5, none⟩) (by simp; omega)).trans dd⟩ (fun hHeld => ?_)
              clear hK K
              try simp only [Act.put, List.setIfInBounds_toArray, List.set_cons_zero, List.set_cons_succ]
              refine K.takeL 2 (v := ?_) rfl (by kernel_rfl) (by kernel_rfl) (by kernel_rfl) (fun _ _ _ h => h) (Or.inl ⟨rfl, ?_⟩) (by assumption) ?_
              rotate_left
              · intro w hSw; (try dsimp only at hSw); first | (go_simp; done) | (go_simp; with_reducible rfl)
              simp only [Act.put, List.setIfInBounds_toArray, List.set_cons_zero, List.set_cons_succ]
              refine K.takeL 3 (v := ?_) rfl (by kernel_rfl) (by kernel_rfl) (by kernel_rfl) (fun _ _ _ h => h) (Or.inl ⟨rfl, ?_⟩) (by assumption) ?_
              rotate_left
              · intro w hSw; (try dsimp only at hSw); first | (go_simp; done) | (go_simp; with_reducible rfl)
              simp only [Act.put, List.setIfInBounds_toArray, List.set_cons_zero, List.set_cons_succ]
              refine K.takeL 4 (v := ?_) rfl (by kernel_rfl) (by kernel_rfl) (by kernel_rfl) (fun _ _ _ h => h) (Or.inl ⟨rfl, ?_⟩) (by assumption) ?_
              rotate_left
              · intro w hSw; (try dsimp only at hSw); first | (go_simp; done) | (go_simp; with_reducible rfl)
              simp only [Act.put, List.setIfInBounds_toArray, List.set_cons_zero, List.set_cons_succ]
              refine K.takeL 5 (v := ?_) rfl (by kernel_rfl) (by kernel_rfl) (by kernel_rfl) (fun _ _ _ h => h) (Or.inl ⟨rfl, ?_⟩) (by assumption) ?_
              rotate_left
              · intro w hSw; (try dsimp only at hSw); first | (go_simp; done) | (go_simp; with_reducible rfl)
              simp only [Act.put, List.setIfInBounds_toArray, List.set_cons_zero, List.set_cons_succ]
              refine K.takeL 6 (v := ?_) rfl (by kernel_rfl) (by kernel_rfl) (by kernel_rfl) (fun _ _ _ h => h) (Or.inl ⟨rfl, ?_⟩) (by assumption) ?_
              rotate_left
              · intro w hSw; (try dsimp only at hSw); first | (go_simp; done) | (go_simp; with_reducible rfl)
              simp only [Act.put, List.setIfInBounds_toArray, List.set_cons_zero, List.set_cons_succ]
              refine K.takeL 7 (v := ?_) rfl (by kernel_rfl) (by kernel_rfl) (by kernel_rfl) (fun _ _ _ h => h) (Or.inl ⟨rfl, ?_⟩) (by assumption) ?_
              rotate_left
              · intro w hSw; (try dsimp only at hSw); first | (go_simp; done) | (go_simp; with_reducible rfl)
              simp only [Act.put, List.setIfInBounds_toArray, List.set_cons_zero, List.set_cons_succ]
              refine K.takeL 8 (v := ?_) rfl (by kernel_rfl) (by kernel_rfl) (by kernel_rfl) (fun _ _ _ h => h) (Or.inl ⟨rfl, ?_⟩) (by assumption) ?_
              rotate_left
              · intro w hSw; (try dsimp only at hSw); first | (go_simp; done) | (go_simp; with_reducible rfl)
              simp only [Act.put, List.setIfInBounds_toArray, List.set_cons_zero, List.set_cons_succ]
              refine K.takeL 9 (v := ?_) rfl (by kernel_rfl) (by kernel_rfl) (by kernel_rfl) (fun _ _ _ h => h) (Or.inl ⟨rfl, ?_⟩) (by assumption) ?_
              rotate_left
              · intro w hSw; (try dsimp only at hSw); first | (go_simp; done) | (go_simp; with_reducible rfl)
              simp only [Act.put, List.setIfInBounds_toArray, List.set_cons_zero, List.set_cons_succ]
              refine K.takeL 10 (v := ?_) rfl (by kernel_rfl) (by kernel_rfl) (by kernel_rfl) (fun _ _ _ h => h) (Or.inl ⟨rfl, ?_⟩) (by assumption) ?_
              rotate_left
              · intro w hSw; (try dsimp only at hSw); first | (go_simp; done) | (go_simp; with_reducible rfl)
              simp only [Act.put, List.setIfInBounds_toArray, List.set_cons_zero, List.set_cons_succ]
              refine K.takeL 11 (v := ?_) rfl (by kernel_rfl) (by kernel_rfl) (by kernel_rfl) (fun _ _ _ h => h) (Or.inl ⟨rfl, ?_⟩) (by assumption) ?_
              rotate_left
              · intro w hSw; (try dsimp only at hSw); first | (go_simp; done) | (go_simp; with_reducible rfl)
              simp only [Act.put, List.setIfInBounds_toArray, List.set_cons_zero, List.set_cons_succ]
              refine K.takeL 12 (v := ?_) rfl (by kernel_rfl) (by kernel_rfl) (by kernel_rfl) (fun _ _ _ h => h) (Or.inl ⟨rfl, ?_⟩) (by assumption) ?_
              rotate_left
              · intro w hSw; (try dsimp only at hSw); first | (go_simp; done) | (go_simp; with_reducible rfl)
              simp only [Act.put, List.setIfInBounds_toArray, List.set_cons_zero, List.set_cons_succ]
              refine K.takeL 13 (v := ?_) rfl (by kernel_rfl) (by kernel_rfl) (by kernel_rfl) (fun _ _ _ h => h) (Or.inl ⟨rfl, ?_⟩) (by assumption) ?_
              rotate_left
              · intro w hSw; (try dsimp only at hSw); first | (go_simp; done) | (go_simp; with_reducible rfl)
              simp only [Act.put, List.setIfInBounds_toArray, List.set_cons_zero, List.set_cons_succ]
              refine K.takeL 14 (v := ?_) rfl (by kernel_rfl) (by kernel_rfl) (by kernel_rfl) (fun _ _ _ h => h) (Or.inl ⟨rfl, ?_⟩) (by assumption) ?_
              rotate_left
              · intro w hSw; (try dsimp only at hSw); first | (go_simp; done) | (go_simp; with_reducible rfl)
              simp only [Act.put, List.setIfInBounds_toArray, List.set_cons_zero, List.set_cons_succ]
              refine K.takeL 15 (v := ?_) rfl (by kernel_rfl) (by kernel_rfl) (by kernel_rfl) (fun _ _ _ h => h) (Or.inl ⟨rfl, ?_⟩) (by assumption) ?_
              rotate_left
              · intro w hSw; (try dsimp only at hSw); first | (go_simp; done) | (go_simp; with_reducible rfl)
              simp only [Act.put, List.setIfInBounds_toArray, List.set_cons_zero, List.set_cons_succ]
              refine K.takeL 16 (v := ?_) rfl (by kernel_rfl) (by kernel_rfl) (by kernel_rfl) (fun _ _ _ h => h) (Or.inl ⟨rfl, ?_⟩) (by assumption) ?_
              rotate_left
              · intro w hSw; (try dsimp only at hSw); first | (go_simp; done) | (go_simp; with_reducible rfl)
              simp only [Act.put, List.setIfInBounds_toArray, List.set_cons_zero, List.set_cons_succ]
              refine K.takeL 17 (v := ?_) rfl (by kernel_rfl) (by kernel_rfl) (by kernel_rfl) (fun _ _ _ h => h) (Or.inl ⟨rfl, ?_⟩) (by assumption) ?_
              rotate_left
              · intro w hSw; (try dsimp only at hSw); first | (go_simp; done) | (go_simp; with_reducible rfl)
              simp only [Act.put, List.setIfInBounds_toArray, List.set_cons_zero, List.set_cons_succ]
              refine wpAnyH_done (by kernel_rfl) ?_ _
              all_goals (try clear hw hw2 hw3)
              all_goals go_wp2_with fail
              all_goals go_ret
              all_goals exact ⟨K.ret_bool HK.out.symm, (HB1.out.drew.trans (b1.mono HB1.out.drew.size))⟩
      · obtain rfl : i = l.length := by omega
        have hlv : ∀ p ∈ l, 0 ≤ p.level ∧ p.level ≤ 10 := fun p hp => by
          obtain ⟨k, hk, rfl⟩ := List.getElem_of_mem hp
          have := (M.Pupil.ok_iff _).1 (M.pups_ok _ hup.out k hk hk)
          omega
        have HRR := Lib.hid (show R = M.clsUpTo l 9 by rw [HR.out, hup.out, decide_eq_true h12, Bool.true_and, Bool.true_and])
        have HC := Lib.hid (fun q k (_ : k ≤ l.length) => M.clsAcc_bd (l.take k) q (fun p hp => hlv p (List.mem_of_mem_take hp)))
        clear hlv HR hup HSS
        go_wp2_with fail
        go_loopw [5] (fun s wq => ∃ q : Nat, q ≤ 9 ∧ s = .int .i64 ((q : Int) + 1) ∧ Hid (M.clsUpTo l q = true) ∧ Below w.heap.size w wq) (fun s _ => 11 - (intOf s).toNat)
        case atStart => exact ⟨0, by omega, rfl, Lib.hid (by simp [M.clsUpTo]), hb⟩
        case round =>
          obtain ⟨q, hq, rfl, hcl, hb2⟩ := hrel
          by_cases hq9 : q < 9
          · have HU := Lib.hid (M.clsUpTo_succ l q)
            have HF := Lib.hid (fun h : M.clsUpTo l (q + 1) = false => show R = false by rw [HRR.out, M.clsUpTo_false h (m := 9) (by omega)])
            have HCC := Lib.hid (HC.out ((q : Int) + 1))
            have HOK := Lib.hid (show M.clsOk l ((q : Int) + 1) = decide ((M.clsAcc l ((q : Int) + 1)).1 ≤ 6 ∧ (M.clsAcc l ((q : Int) + 1)).2.2 - (M.clsAcc l ((q : Int) + 1)).2.1 ≤ 3) from rfl)
            go_wp2_with fail
            go_loopw [46, 6, 7, 8] (fun s n lo hi wv => ∃ (k : Nat) (n' lo' hi' : Int), k ≤ l.length ∧ s = .int .i64 k ∧ n = .int .i64 n' ∧ lo = .int .i64 lo' ∧ hi = .int .i64 hi' ∧ Hid ((n', lo', hi') = M.clsAcc (l.take k) ((q : Int) + 1)) ∧ Below w.heap.size w wv) (fun s _ _ _ _ => l.length - (intOf s).toNat)
            case atStart => exact ⟨0, 0, 10, 0, Nat.zero_le _, rfl, rfl, rfl, rfl, Lib.hid (by simp [M.clsAcc]), hb2⟩
            case round =>
              obtain ⟨k, n', lo', hi', hk, rfl, rfl, rfl, rfl, hacc, hb3⟩ := hrel
              obtain ⟨⟨b1, b2⟩, ⟨b3, b4⟩, b5, b6⟩ := HCC.out k hk
              rw [← hacc.out] at b1 b2 b3 b4 b5 b6
              dsimp only at b1 b2 b3 b4 b5 b6
              rw [List.length_take] at b2
              have b7 : n' ≤ (l.length : Int) := by omega
              clear b2
              by_cases hlt : k < l.length
              · obtain ⟨g, o, rfl, hg, c0, c1, c2, c3, c4⟩ := (ha.below hb3).pupil hlt
                have h1 : (k : Int) < (l.length : Int) := by omega
                have h2 : (0 : Int) ≤ (k : Int) := by omega
                have HT := Lib.hid (M.clsAcc_take l ((q : Int) + 1) k hlt)
                have HS : Hid (M.clsStep ((q : Int) + 1) (n', lo', hi') l[k] = if l[k].cls = (q : Int) + 1 then (n' + 1, min lo' l[k].level, max hi' l[k].level) else (n', lo', hi')) := Lib.hid rfl
                rw [← hacc.out] at HT
                generalize hz : M.clsStep ((q : Int) + 1) (n', lo', hi') l[k] = st at HT HS
                clear hz
                generalize l[k].id = x0 at *
                generalize l[k].name = x1 at *
                generalize l[k].born = x2 at *
                generalize l[k].cls = x3 at *
                generalize l[k].level = x4 at *
                have HB3 := Lib.hid hb3
                have HZ3 := Lib.hid hb3.size
                obtain ⟨ob, hob⟩ : ∃ o : Obj, o = .cells #[.int .i64 x0, .string x1, .int .i64 x2, .int .i64 x3, .int .i64 x4] 26 := ⟨_, rfl⟩
                have px : K.Box (wr.alloc ob) wr.heap.size [.int .i64 x0, .string x1, .int .i64 x2, .int .i64 x3, .int .i64 x4] := by rw [hob]; exact K.Box.new _ _ _
                have HB4 := Lib.hid (HB3.out.alloc HZ3.out ob)
                subst hob
                have p4 := px.2 4 _ rfl
                clear hb3
                by_cases he : x3 = (q : Int) + 1
                · have hd : (x3 == (q : Int) + 1) = true := beq_iff_eq.2 he
                  have HK := Lib.hid (show (n' + 1, min lo' x4, max hi' x4) = M.clsAcc (l.take (k + 1)) ((q : Int) + 1) by rw [HT.out, HS.out, if_pos he])
                  clear he hacc
                  go_wp2_with fail
                  go_region
                  go_wp2_with fail
                  go_roundw
                  case rel => exact ⟨k + 1, n' + 1, min lo' x4, max hi' x4, by omega, by go_num, rfl, (by first | rfl | (congr 1; split <;> omega)), (by first | rfl | (congr 1; split <;> omega)), HK, HB4.out.drew⟩
                  case measure => simp [intOf]; omega
                · have hd : (x3 == (q : Int) + 1) = false := beq_eq_false_iff_ne.2 he
                  have HK := Lib.hid (show (n', lo', hi') = M.clsAcc (l.take (k + 1)) ((q : Int) + 1) by rw [HT.out, HS.out, if_neg he])
                  clear he hacc
                  go_wp2_with fail
                  go_roundw
                  case rel => exact ⟨k + 1, n', lo', hi', by omega, by go_num, rfl, rfl, rfl, HK, HB4.out⟩
                  case measure => simp [intOf]; omega
              · obtain rfl : k = l.length := by omega
                have hK : M.clsOk l ((q : Int) + 1) = decide (n' ≤ 6 ∧ hi' - lo' ≤ 3) := by
                  have h := hacc.out
                  rw [List.take_length] at h
                  rw [HOK.out, ← h]
                have HK := Lib.hid hK
                clear hK hacc
                by_cases h6 : n' ≤ 6
                · have hd6 : decide (6 < n') = false := decide_eq_false (by omega)
                  by_cases h3 : hi' - lo' ≤ 3
                  · have hd3 : decide (3 < hi' - lo') = false := decide_eq_false (by omega)
                    have HQ := Lib.hid (show M.clsUpTo l (q + 1) = true by rw [HU.out, hcl.out, HK.out]; simp [h6, h3])
                    go_wp2_with fail
                    go_roundw
                    case rel => exact ⟨q + 1, by omega, by go_num, HQ, hb3⟩
                    case measure => simp [intOf]; omega
                  · have hd3 : decide (3 < hi' - lo') = true := decide_eq_true (by omega)
                    have HQ := Lib.hid (HF.out (by rw [HU.out, HK.out]; simp [h3]))
                    go_wp2_with fail
                    go_ret
                    exact ⟨K.ret_bool HQ.out.symm, hb3⟩
                · have hd6 : decide (6 < n') = true := decide_eq_true (by omega)
                  have HQ := Lib.hid (HF.out (by rw [HU.out, HK.out]; simp [h6]))
                  go_wp2_with fail
                  go_ret
                  exact ⟨K.ret_bool HQ.out.symm, hb3⟩
          · obtain rfl : q = 9 := by omega
            have HK := Lib.hid (show R = true by rw [HRR.out, hcl.out])
            go_wp2_with fail
            go_ret
            exact ⟨K.ret_bool HK.out.symm, hb2⟩
  · have hd12 : decide ((12 : Int) < (l.length : Int)) = true := decide_eq_true (by omega)
    have HK := Lib.hid (show R = false by rw [HR.out, decide_eq_false h12]; rfl)
    go_enter Try.func40, Try.ntmps40
    go_wp2_with fail
    go_ret
    exact ⟨K.ret_bool HK.out.symm, Below.refl _ _⟩
end Go.Proofs.Ytebbihckndjbeaa.PupilG
