/-
  Walks: merging moves.
-/
import Derived.Test.YthlkdaogmcjlbaaMoveW
import Derived.Deep.DeepCutAuto
import Derived.Deep.RegionHeld3
set_option linter.unusedVariables false
namespace Go.Proofs.Ythlkdaogmcjlbaa.MoveW
open Go.RowKit
set_option maxRecDepth 100000 in
set_option maxHeartbeats 8000000 in
theorem s_merge (A : Option Addr) (c : Nat) (l : List M.Move) (w : World) (hl : l.length ≤ 1048576) (ha : K.Rd w 3 A l.length (l.flatMap M.moveCells)) :
    Calls Try.prog 43 #[.slice A l.length c] w (K.RetRowB w 25 3 (M.mergedMv l).1.length ((M.mergedMv l).1.flatMap M.moveCells) (M.mergedMv l).2) := by
  obtain ⟨i0, hi0, hz0, hz1, hz2⟩ := info_parts Moves.info
  have e0 : K.Row (w.alloc (.cells #[] 25)) w.heap.size 25 3 (some ⟨w.heap.size, 0, none⟩) 0 0 [] := World.ownsRow_made w #[] 0 (Nat.le_refl _) (Nat.zero_le _) rfl
  have b0 : Below w.heap.size w (w.alloc (.cells #[] 25)) := (Below.refl _ _).alloc (Nat.le_refl _) _
  have HS := Lib.hid (MoveF.s_good A c l _ hl (ha.below b0))
  cases hok : M.movesOk l with
  | false =>
    rw [hok] at HS
    rw [M.mergedMv_no hok]
    clear hok
    go_enter Try.func43, Try.ntmps43
    go_wp2_with fail
    refine HS.out.mono ?_
    rintro e w1 ⟨rfl, b1⟩
    go_wp2_with fail
    go_ret2
    exact ⟨some ⟨w.heap.size, 0, none⟩, 0, rfl, e0.below b1, b0.trans (b1.mono b0.size)⟩
  | true =>
    rw [hok] at HS
    have h60 : l.length ≤ 60 := ((M.movesOk_iff l).1 hok).1
    have hall := ((M.movesOk_iff l).1 hok).2
    have hm := fun k hk => (M.movesOk_at hok (k := k) hk).2.2.1
    have HSOME := Lib.hid (fun (L : List M.Move) (h : M.mgAll l = some L) => M.mergedMv_some hok h)
    have HNONE := Lib.hid (fun (k : Nat) (h : M.mgAll (l.take k) = none) => M.mergedMv_none (M.mgAll_none h))
    have HLEN := Lib.hid (fun k L h hk => M.mgAll_len l k L h hk)
    have HOKS := Lib.hid (fun k L h hk => M.mgAll_ok l hall k L h hk)
    clear hok hall
    generalize M.mergedMv l = RR at *
    go_enter Try.func43, Try.ntmps43
    go_wp2_with fail
    refine HS.out.mono ?_
    rintro e w1 ⟨rfl, b1⟩
    have e1 := e0.below b1
    replace b1 := b0.trans (b1.mono b0.size)
    clear e0 b0
    go_wp2_with fail
    go_loopw [5, 4] (fun i o wr => ∃ (k n : Nat) (B : Option Addr) (d : Nat) (L : List M.Move), k ≤ l.length ∧ Hid (M.mgAll (l.take k) = some L) ∧ Hid (L.length = n) ∧ i = .int .i64 (k : Int) ∧ o = .slice B n d ∧ Hid (K.Row wr w.heap.size 25 3 B n d (L.flatMap M.moveCells)) ∧ Hid (Below w.heap.size w wr)) (fun i _ _ => l.length - (intOf i).toNat)
    case atStart => exact ⟨0, 0, some ⟨w.heap.size, 0, none⟩, 0, [], Nat.zero_le _, Lib.hid rfl, Lib.hid rfl, rfl, rfl, Lib.hid e1, Lib.hid b1⟩
    case round =>
      clear b1 e1
      obtain ⟨k, n, B, d, L, hk, HM, HN, rfl, rfl, HROW, HB⟩ := hrel
      by_cases hlt : k < l.length
      · obtain ⟨ga, oa, rfl, hga, ca0, ca1, ca2⟩ := (ha.below HB.out).move hlt
        have h1 : (k : Int) < (l.length : Int) := by omega
        have h2 : (0 : Int) ≤ (k : Int) := by omega
        have hnk : n ≤ k := by rw [← HN.out]; exact HLEN.out k L HM.out hk
        have hLok := Lib.hid (HOKS.out k L HM.out hk)
        have HST := Lib.hid (show M.mgAll (l.take (k + 1)) = M.mgOne L ⟨l[k].rod, l[k].part, l[k].by_⟩ by rw [M.mgAll_take l k hlt, HM.out]; rfl)
        obtain ⟨z1, z2⟩ := hm k hlt
        clear hm
        generalize l[k].rod = x at *
        generalize l[k].part = y at *
        generalize l[k].by_ = z at *
        have hbs := HB.out.size
        have hj2 : n + 1 ≤ maxLen := by simp only [maxLen]; omega
        have r1 := Lib.hid (HROW.out.alloc (.cells #[.int .i64 x, .int .i64 y, .int .i64 z] 25))
        have q1 := Lib.hid (HB.out.alloc hbs (.cells #[.int .i64 x, .int .i64 y, .int .i64 z] 25))
        rcases M.nil_or_snoc L with rfl | ⟨L1, ⟨u, v, s⟩, rfl⟩
        · have hn0 : n = 0 := by have := HN.out; simpa using this.symm
          subst hn0
          have HI := Lib.hid (And.intro hi0 (And.intro hz0 (And.intro hz1 hz2)))
          clear hi0 hz0 hz1 hz2
          go_upto_region 8 with fail
          obtain ⟨W, hW⟩ : ∃ X, X = wr.alloc (.cells #[.int .i64 x, .int .i64 y, .int .i64 z] 25) := ⟨_, rfl⟩
          have HRW := Lib.hid (show K.Row W w.heap.size 25 3 B (0) d (([] : List M.Move).flatMap M.moveCells) by rw [hW]; exact r1.out)
          have HBW := Lib.hid (show Below w.heap.size w W by rw [hW]; exact q1.out)
          have PX := Lib.hid (show K.Box W wr.heap.size [.int .i64 x, .int .i64 y, .int .i64 z] by rw [hW]; exact K.Box.new wr #[.int .i64 x, .int .i64 y, .int .i64 z] 25)
          rw [← hW]
          clear hW ca0 ca1 ca2 hga
          obtain ⟨x0, x1, x2⟩ := PX.out.c3
          have HH := Lib.hid (And.intro h60 (And.intro h1 h2))
          clear h60 h1 h2 hl hbs
          refine wp_region_held_drew (S := fun w' => True) (by kernel_rfl) trivial (fun hHeld => ?_)
          refine K.takeL 0 (v := ?_) rfl (by kernel_rfl) (by kernel_rfl) (by kernel_rfl) (fun _ _ _ h => h) (Or.inl ⟨rfl, ?_⟩) (by assumption) ?_
          rotate_left
          · intro w hSw; (try dsimp only at hSw); first | (go_simp; done) | (go_simp; with_reducible rfl)
          simp only [Act.put, List.setIfInBounds_toArray, List.set_cons_zero, List.set_cons_succ]
          refine K.takeL 1 (v := ?_) rfl (by kernel_rfl) (by kernel_rfl) (by kernel_rfl) (fun _ _ _ h => h) (Or.inl ⟨rfl, ?_⟩) (by assumption) ?_
          rotate_left
          · intro w hSw; (try dsimp only at hSw); first | (go_simp; done) | (go_simp; with_reducible rfl)
          simp only [Act.put, List.setIfInBounds_toArray, List.set_cons_zero, List.set_cons_succ]
          refine K.takeL 2 (v := ?_) rfl (by kernel_rfl) (by kernel_rfl) (by kernel_rfl) (fun _ _ _ h => h) (Or.inl ⟨rfl, ?_⟩) (by assumption) ?_
          rotate_left
          · intro w hSw; (try dsimp only at hSw); first | (go_simp; done) | (go_simp; with_reducible rfl)
          simp only [Act.put, List.setIfInBounds_toArray, List.set_cons_zero, List.set_cons_succ]
          refine K.skipL 3 rfl (by kernel_rfl) (by kernel_rfl) (by kernel_rfl) (fun _ _ _ h => h) rfl (by assumption) ?_
          simp only [Act.put, List.setIfInBounds_toArray, List.set_cons_zero, List.set_cons_succ]
          refine K.skipL 4 rfl (by kernel_rfl) (by kernel_rfl) (by kernel_rfl) (fun _ _ _ h => h) rfl (by assumption) ?_
          simp only [Act.put, List.setIfInBounds_toArray, List.set_cons_zero, List.set_cons_succ]
          refine K.skipL 5 rfl (by kernel_rfl) (by kernel_rfl) (by kernel_rfl) (fun _ _ _ h => h) rfl (by assumption) ?_
          simp only [Act.put, List.setIfInBounds_toArray, List.set_cons_zero, List.set_cons_succ]
          refine K.skipL 6 rfl (by kernel_rfl) (by kernel_rfl) (by kernel_rfl) (fun _ _ _ h => h) rfl (by assumption) ?_
          simp only [Act.put, List.setIfInBounds_toArray, List.set_cons_zero, List.set_cons_succ]
          refine K.skipL 7 rfl (by kernel_rfl) (by kernel_rfl) (by kernel_rfl) (fun _ _ _ h => h) rfl (by assumption) ?_
          simp only [Act.put, List.setIfInBounds_toArray, List.set_cons_zero, List.set_cons_succ]
          refine K.skipL 8 rfl (by kernel_rfl) (by kernel_rfl) (by kernel_rfl) (fun _ _ _ h => h) rfl (by assumption) ?_
          simp only [Act.put, List.setIfInBounds_toArray, List.set_cons_zero, List.set_cons_succ]
          refine K.skipL 9 rfl (by kernel_rfl) (by kernel_rfl) (by kernel_rfl) (fun _ _ _ h => h) rfl (by assumption) ?_
          simp only [Act.put, List.setIfInBounds_toArray, List.set_cons_zero, List.set_cons_succ]
          refine K.skipL 10 rfl (by kernel_rfl) (by kernel_rfl) (by kernel_rfl) (fun _ _ _ h => h) rfl (by assumption) ?_
          simp only [Act.put, List.setIfInBounds_toArray, List.set_cons_zero, List.set_cons_succ]
          refine K.skipL 11 rfl (by kernel_rfl) (by kernel_rfl) (by kernel_rfl) (fun _ _ _ h => h) rfl (by assumption) ?_
          simp only [Act.put, List.setIfInBounds_toArray, List.set_cons_zero, List.set_cons_succ]
          refine K.takeL 12 (v := ?_) rfl (by kernel_rfl) (by kernel_rfl) (by kernel_rfl) (fun _ _ _ h => h) (Or.inl ⟨rfl, ?_⟩) (by assumption) ?_
          rotate_left
          · intro w hSw; (try dsimp only at hSw); first | (go_simp; done) | (go_simp; with_reducible rfl)
          simp only [Act.put, List.setIfInBounds_toArray, List.set_cons_zero, List.set_cons_succ]
          refine K.takeL 13 (v := ?_) rfl (by kernel_rfl) (by kernel_rfl) (by kernel_rfl) (fun _ _ _ h => h) (Or.inl ⟨rfl, ?_⟩) (by assumption) ?_
          rotate_left
          · intro w hSw; (try dsimp only at hSw); first | (go_simp; done) | (go_simp; with_reducible rfl)
          simp only [Act.put, List.setIfInBounds_toArray, List.set_cons_zero, List.set_cons_succ]
          refine K.skipL 14 rfl (by kernel_rfl) (by kernel_rfl) (by kernel_rfl) (fun _ _ _ h => h) rfl (by assumption) ?_
          simp only [Act.put, List.setIfInBounds_toArray, List.set_cons_zero, List.set_cons_succ]
          refine K.skipL 15 rfl (by kernel_rfl) (by kernel_rfl) (by kernel_rfl) (fun _ _ _ h => h) rfl (by assumption) ?_
          simp only [Act.put, List.setIfInBounds_toArray, List.set_cons_zero, List.set_cons_succ]
          refine K.skipL 16 rfl (by kernel_rfl) (by kernel_rfl) (by kernel_rfl) (fun _ _ _ h => h) rfl (by assumption) ?_
          simp only [Act.put, List.setIfInBounds_toArray, List.set_cons_zero, List.set_cons_succ]
          refine K.skipL 17 rfl (by kernel_rfl) (by kernel_rfl) (by kernel_rfl) (fun _ _ _ h => h) rfl (by assumption) ?_
          simp only [Act.put, List.setIfInBounds_toArray, List.set_cons_zero, List.set_cons_succ]
          refine K.skipL 18 rfl (by kernel_rfl) (by kernel_rfl) (by kernel_rfl) (fun _ _ _ h => h) rfl (by assumption) ?_
          simp only [Act.put, List.setIfInBounds_toArray, List.set_cons_zero, List.set_cons_succ]
          refine K.skipL 19 rfl (by kernel_rfl) (by kernel_rfl) (by kernel_rfl) (fun _ _ _ h => h) rfl (by assumption) ?_
          simp only [Act.put, List.setIfInBounds_toArray, List.set_cons_zero, List.set_cons_succ]
          refine K.skipL 20 rfl (by kernel_rfl) (by kernel_rfl) (by kernel_rfl) (fun _ _ _ h => h) rfl (by assumption) ?_
          simp only [Act.put, List.setIfInBounds_toArray, List.set_cons_zero, List.set_cons_succ]
          refine K.skipL 21 rfl (by kernel_rfl) (by kernel_rfl) (by kernel_rfl) (fun _ _ _ h => h) rfl (by assumption) ?_
          simp only [Act.put, List.setIfInBounds_toArray, List.set_cons_zero, List.set_cons_succ]
          refine K.skipL 22 rfl (by kernel_rfl) (by kernel_rfl) (by kernel_rfl) (fun _ _ _ h => h) rfl (by assumption) ?_
          simp only [Act.put, List.setIfInBounds_toArray, List.set_cons_zero, List.set_cons_succ]
          refine K.takeL 23 (v := ?_) rfl (by kernel_rfl) (by kernel_rfl) (by kernel_rfl) (fun _ _ _ h => h) (Or.inl ⟨rfl, ?_⟩) (by assumption) ?_
          rotate_left
          · intro w hSw; (try dsimp only at hSw); first | (go_simp; done) | (go_simp; with_reducible rfl)
          simp only [Act.put, List.setIfInBounds_toArray, List.set_cons_zero, List.set_cons_succ]
          refine wpAnyH_done (by kernel_rfl) ?_ _
          obtain ⟨h60, h1, h2⟩ := HH.out
          obtain ⟨hi0, hz0, hz1, hz2⟩ := HI.out
          obtain ⟨W1, hW1⟩ : ∃ X, X = W.drew := ⟨_, rfl⟩
          have HROW1 := Lib.hid (show K.Row W1 w.heap.size 25 3 B (0) d (([] : List M.Move).flatMap M.moveCells) by rw [hW1]; exact HRW.out.drew)
          have HB1 := Lib.hid (show Below w.heap.size w W1 by rw [hW1]; exact HBW.out.drew)
          have PX1 := Lib.hid (show K.Box W1 wr.heap.size [.int .i64 x, .int .i64 y, .int .i64 z] by rw [hW1]; exact PX.out.drew)
          rw [← hW1]
          clear hW1 hHeld x0 x1 x2
          obtain ⟨x0, x1, x2⟩ := PX1.out.c3
          have hb1s := HB1.out.size
          go_wp2_with (at_builtin; go_must (refine K.append1 rfl (.tmp 50) (.tmp 52) _ rfl w.heap.size _ i0 _ 3 24 Try.underlying43 hi0 hz0 hz1 hz2 rfl (by omega) B 0 d _ rfl HROW1.out #[.int .i64 x, .int .i64 y, .int .i64 z] rfl (by simp [Value.oneCell']) (by simp [go_sem]) hj2 (by omega) hb1s ?_; intro g' c' w2 hrow1 hb1 _ _ _))
          go_roundw
          case rel => exact ⟨k + 1, 1, some ⟨g', 0, none⟩, c', [⟨x, y, z⟩], by omega, Lib.hid (by rw [HST.out]; rfl), Lib.hid rfl, by go_num, rfl, Lib.hid (by simpa [M.moveCells] using hrow1), Lib.hid (HB1.out.trans hb1)⟩
          case measure => simp [intOf]; omega
        · obtain ⟨p, hp⟩ : ∃ p, p = L1.length := ⟨_, rfl⟩
          have hn1 : n = p + 1 := by have := HN.out; simp at this; omega
          subst hn1
          obtain ⟨⟨_, _⟩, ⟨_, _⟩, ⟨s1, s2⟩, _⟩ := (M.Move.ok_iff _).1 (hLok.out ⟨u, v, s⟩ (by simp))
          dsimp only at s1 s2
          obtain ⟨gb, eB, hg1, hg2, hf, d0, d1, d2⟩ := lastCells HROW.out hp
          subst eB
          subst hp
          have hp5 : L1.length ≤ 60 := by omega
          have hw64 : IntKind.i64.wrap (L1.length : Int) = (L1.length : Int) := IntWalk.i64_in _ (by omega)
          have hp2 : (0 : Int) ≤ (L1.length : Int) := by omega
          have hp3 : (L1.length : Int) < (L1.length : Int) + 1 := by omega
          have hp4 : L1.length < L1.length + 1 := by omega
          by_cases hu : u = x
          rotate_left
          · have hu2 : (u != x) = true := by simp [hu]
            have HI := Lib.hid (And.intro hi0 (And.intro hz0 (And.intro hz1 hz2)))
            clear hi0 hz0 hz1 hz2
            go_upto_region 8 with fail
            obtain ⟨W, hW⟩ : ∃ X, X = wr.alloc (.cells #[.int .i64 x, .int .i64 y, .int .i64 z] 25) := ⟨_, rfl⟩
            have HRW := Lib.hid (show K.Row W w.heap.size 25 3 (some ⟨gb, 0, none⟩) ((L1.length + 1)) d ((L1 ++ [(⟨u, v, s⟩ : M.Move)]).flatMap M.moveCells) by rw [hW]; exact r1.out)
            have HBW := Lib.hid (show Below w.heap.size w W by rw [hW]; exact q1.out)
            have PX := Lib.hid (show K.Box W wr.heap.size [.int .i64 x, .int .i64 y, .int .i64 z] by rw [hW]; exact K.Box.new wr #[.int .i64 x, .int .i64 y, .int .i64 z] 25)
            rw [← hW]
            clear hW ca0 ca1 ca2 hga
            obtain ⟨x0, x1, x2⟩ := PX.out.c3
            have HH := Lib.hid (And.intro h60 (And.intro h1 h2))
            clear h60 h1 h2 hl hbs
            have HD := Lib.hid (And.intro hg1 (And.intro hg2 (And.intro hf (And.intro d0 (And.intro d1 d2)))))
            clear hg1 hg2 hf d0 d1 d2
            obtain ⟨g9, e9, hg1, hg2, hf, d0, d1, d2⟩ := lastCells HRW.out rfl
            injection e9 with e9
            injection e9 with e9
            subst e9
            have t0 : ((L1.length : Int) + 1 == 0) = false := by rw [beq_eq_false_iff_ne]; omega
            refine wp_region_held_drew (S := fun w' => w'.cell? ⟨gb, L1.length * 3, none⟩ = some (.int .i64 u) ∧ w'.cell? ⟨gb, L1.length * 3 + 1, none⟩ = some (.int .i64 v) ∧ w'.cell? ⟨wr.heap.size, 0, none⟩ = some (.int .i64 x) ∧ w'.cell? ⟨wr.heap.size, 1, none⟩ = some (.int .i64 y)) (by kernel_rfl) ⟨d0, d1, x0, x1⟩ (fun hHeld => ?_)
            refine K.takeL 0 (v := ?_) rfl (by kernel_rfl) (by kernel_rfl) (by kernel_rfl) (fun _ _ _ h => h) (Or.inl ⟨rfl, ?_⟩) (by assumption) ?_
            rotate_left
            · intro w hSw; (try dsimp only at hSw); first | (go_simp; done) | (go_simp; with_reducible rfl)
            simp only [Act.put, List.setIfInBounds_toArray, List.set_cons_zero, List.set_cons_succ]
            refine K.takeL 1 (v := ?_) rfl (by kernel_rfl) (by kernel_rfl) (by kernel_rfl) (fun _ _ _ h => h) (Or.inl ⟨rfl, ?_⟩) (by assumption) ?_
            rotate_left
            · intro w hSw; (try dsimp only at hSw); first | (go_simp; done) | (go_simp; with_reducible rfl)
            simp only [Act.put, List.setIfInBounds_toArray, List.set_cons_zero, List.set_cons_succ]
            refine K.takeL 2 (v := ?_) rfl (by kernel_rfl) (by kernel_rfl) (by kernel_rfl) (fun _ _ _ h => h) (Or.inl ⟨rfl, ?_⟩) (by assumption) ?_
            rotate_left
            · intro w hSw; (try dsimp only at hSw); first | (go_simp; done) | (go_simp; with_reducible rfl)
            simp only [Act.put, List.setIfInBounds_toArray, List.set_cons_zero, List.set_cons_succ]
            refine K.takeL 3 (v := ?_) rfl (by kernel_rfl) (by kernel_rfl) (by kernel_rfl) (fun _ _ _ h => h) (Or.inl ⟨rfl, ?_⟩) (by assumption) ?_
            rotate_left
            · intro w hSw; (try dsimp only at hSw); first | (go_simp; done) | (go_simp; with_reducible rfl)
            simp only [Act.put, List.setIfInBounds_toArray, List.set_cons_zero, List.set_cons_succ]
            refine K.takeL 4 (v := ?_) rfl (by kernel_rfl) (by kernel_rfl) (by kernel_rfl) (fun _ _ _ h => h) (Or.inl ⟨rfl, ?_⟩) (by assumption) ?_
            rotate_left
            · intro w hSw; (try dsimp only at hSw); first | (go_simp; done) | (go_simp; with_reducible rfl)
            simp only [Act.put, List.setIfInBounds_toArray, List.set_cons_zero, List.set_cons_succ]
            refine K.takeL 5 (v := ?_) rfl (by kernel_rfl) (by kernel_rfl) (by kernel_rfl) (fun _ _ _ h => h) (Or.inl ⟨rfl, ?_⟩) (by assumption) ?_
            rotate_left
            · intro w hSw; (try dsimp only at hSw); first | (go_simp; done) | (go_simp; with_reducible rfl)
            simp only [Act.put, List.setIfInBounds_toArray, List.set_cons_zero, List.set_cons_succ]
            refine K.takeL 6 (v := ?_) rfl (by kernel_rfl) (by kernel_rfl) (by kernel_rfl) (fun _ _ _ h => h) (Or.inl ⟨rfl, ?_⟩) (by assumption) ?_
            rotate_left
            · intro w hSw; (try dsimp only at hSw); first | (go_simp; done) | (go_simp; with_reducible rfl)
            simp only [Act.put, List.setIfInBounds_toArray, List.set_cons_zero, List.set_cons_succ]
            refine K.takeL 7 (v := ?_) rfl (by kernel_rfl) (by kernel_rfl) (by kernel_rfl) (fun _ _ _ h => h) (Or.inl ⟨rfl, ?_⟩) (by assumption) ?_
            rotate_left
            · intro w hSw; (try dsimp only at hSw); first | (go_simp; done) | (go_simp; with_reducible rfl)
            simp only [Act.put, List.setIfInBounds_toArray, List.set_cons_zero, List.set_cons_succ]
            refine K.takeL 8 (v := ?_) rfl (by kernel_rfl) (by kernel_rfl) (by kernel_rfl) (fun _ _ _ h => h) (Or.inl ⟨rfl, ?_⟩) (by assumption) ?_
            rotate_left
            · intro w hSw; (try dsimp only at hSw); first | (go_simp; done) | (go_simp; with_reducible rfl)
            simp only [Act.put, List.setIfInBounds_toArray, List.set_cons_zero, List.set_cons_succ]
            refine K.takeL 9 (v := ?_) rfl (by kernel_rfl) (by kernel_rfl) (by kernel_rfl) (fun _ _ _ h => h) (Or.inl ⟨rfl, ?_⟩) (by assumption) ?_
            rotate_left
            · intro w hSw; (try dsimp only at hSw); first | (go_simp; done) | (go_simp; with_reducible rfl)
            simp only [Act.put, List.setIfInBounds_toArray, List.set_cons_zero, List.set_cons_succ]
            refine K.takeL 10 (v := ?_) rfl (by kernel_rfl) (by kernel_rfl) (by kernel_rfl) (fun _ _ _ h => h) (Or.inl ⟨rfl, ?_⟩) (by assumption) ?_
            rotate_left
            · intro w hSw; (try dsimp only at hSw); first | (go_simp; done) | (go_simp; with_reducible rfl)
            simp only [Act.put, List.setIfInBounds_toArray, List.set_cons_zero, List.set_cons_succ]
            refine K.takeL 11 (v := ?_) rfl (by kernel_rfl) (by kernel_rfl) (by kernel_rfl) (fun _ _ _ h => h) (Or.inl ⟨rfl, ?_⟩) (by assumption) ?_
            rotate_left
            · intro w hSw; (try dsimp only at hSw); first | (go_simp; done) | (go_simp; with_reducible rfl)
            simp only [Act.put, List.setIfInBounds_toArray, List.set_cons_zero, List.set_cons_succ]
            refine K.takeL 12 (v := ?_) rfl (by kernel_rfl) (by kernel_rfl) (by kernel_rfl) (fun _ _ _ h => h) (Or.inl ⟨rfl, ?_⟩) (by assumption) ?_
            rotate_left
            · intro w hSw; (try dsimp only at hSw); first | (go_simp; done) | (go_simp; with_reducible rfl)
            simp only [Act.put, List.setIfInBounds_toArray, List.set_cons_zero, List.set_cons_succ]
            refine K.takeL 13 (v := ?_) rfl (by kernel_rfl) (by kernel_rfl) (by kernel_rfl) (fun _ _ _ h => h) (Or.inl ⟨rfl, ?_⟩) (by assumption) ?_
            rotate_left
            · intro w hSw; (try dsimp only at hSw); first | (go_simp; done) | (go_simp; with_reducible rfl)
            simp only [Act.put, List.setIfInBounds_toArray, List.set_cons_zero, List.set_cons_succ]
            refine K.skipL 14 rfl (by kernel_rfl) (by kernel_rfl) (by kernel_rfl) (fun _ _ _ h => h) rfl (by assumption) ?_
            simp only [Act.put, List.setIfInBounds_toArray, List.set_cons_zero, List.set_cons_succ]
            refine K.skipL 15 rfl (by kernel_rfl) (by kernel_rfl) (by kernel_rfl) (fun _ _ _ h => h) rfl (by assumption) ?_
            simp only [Act.put, List.setIfInBounds_toArray, List.set_cons_zero, List.set_cons_succ]
            refine K.skipL 16 rfl (by kernel_rfl) (by kernel_rfl) (by kernel_rfl) (fun _ _ _ h => h) rfl (by assumption) ?_
            simp only [Act.put, List.setIfInBounds_toArray, List.set_cons_zero, List.set_cons_succ]
            refine K.skipL 17 rfl (by kernel_rfl) (by kernel_rfl) (by kernel_rfl) (fun _ _ _ h => h) rfl (by assumption) ?_
            simp only [Act.put, List.setIfInBounds_toArray, List.set_cons_zero, List.set_cons_succ]
            refine K.skipL 18 rfl (by kernel_rfl) (by kernel_rfl) (by kernel_rfl) (fun _ _ _ h => h) rfl (by assumption) ?_
            simp only [Act.put, List.setIfInBounds_toArray, List.set_cons_zero, List.set_cons_succ]
            refine K.skipL 19 rfl (by kernel_rfl) (by kernel_rfl) (by kernel_rfl) (fun _ _ _ h => h) rfl (by assumption) ?_
            simp only [Act.put, List.setIfInBounds_toArray, List.set_cons_zero, List.set_cons_succ]
            refine K.skipL 20 rfl (by kernel_rfl) (by kernel_rfl) (by kernel_rfl) (fun _ _ _ h => h) rfl (by assumption) ?_
            simp only [Act.put, List.setIfInBounds_toArray, List.set_cons_zero, List.set_cons_succ]
            refine K.skipL 21 rfl (by kernel_rfl) (by kernel_rfl) (by kernel_rfl) (fun _ _ _ h => h) rfl (by assumption) ?_
            simp only [Act.put, List.setIfInBounds_toArray, List.set_cons_zero, List.set_cons_succ]
            refine K.skipL 22 rfl (by kernel_rfl) (by kernel_rfl) (by kernel_rfl) (fun _ _ _ h => h) rfl (by assumption) ?_
            simp only [Act.put, List.setIfInBounds_toArray, List.set_cons_zero, List.set_cons_succ]
            refine K.takeL 23 (v := ?_) rfl (by kernel_rfl) (by kernel_rfl) (by kernel_rfl) (fun _ _ _ h => h) (Or.inl ⟨rfl, ?_⟩) (by assumption) ?_
            rotate_left
            · intro w hSw; (try dsimp only at hSw); first | (go_simp; done) | (go_simp; with_reducible rfl)
            simp only [Act.put, List.setIfInBounds_toArray, List.set_cons_zero, List.set_cons_succ]
            refine wpAnyH_done (by kernel_rfl) ?_ _
            obtain ⟨h60, h1, h2⟩ := HH.out
            obtain ⟨hi0, hz0, hz1, hz2⟩ := HI.out
            obtain ⟨W1, hW1⟩ : ∃ X, X = W.drew := ⟨_, rfl⟩
            have HROW1 := Lib.hid (show K.Row W1 w.heap.size 25 3 (some ⟨gb, 0, none⟩) ((L1.length + 1)) d ((L1 ++ [(⟨u, v, s⟩ : M.Move)]).flatMap M.moveCells) by rw [hW1]; exact HRW.out.drew)
            have HB1 := Lib.hid (show Below w.heap.size w W1 by rw [hW1]; exact HBW.out.drew)
            have PX1 := Lib.hid (show K.Box W1 wr.heap.size [.int .i64 x, .int .i64 y, .int .i64 z] by rw [hW1]; exact PX.out.drew)
            rw [← hW1]
            clear hW1 hHeld x0 x1 x2
            obtain ⟨x0, x1, x2⟩ := PX1.out.c3
            have hb1s := HB1.out.size
            go_wp2_with (at_builtin; go_must (refine K.append1 rfl (.tmp 50) (.tmp 52) _ rfl w.heap.size _ i0 _ 3 24 Try.underlying43 hi0 hz0 hz1 hz2 rfl (by omega) (some ⟨gb, 0, none⟩) (L1.length + 1) d _ rfl HROW1.out #[.int .i64 x, .int .i64 y, .int .i64 z] rfl (by simp [Value.oneCell']) (by simp [go_sem]) hj2 (by omega) hb1s ?_; intro g' c' w2 hrow1 hb1 _ _ _))
            go_roundw
            case rel => exact ⟨k + 1, L1.length + 2, some ⟨g', 0, none⟩, c', L1 ++ [⟨u, v, s⟩] ++ [⟨x, y, z⟩], by omega, Lib.hid (by rw [HST.out]; exact M.mgOne_new (by simp; omega)), Lib.hid (by simp), by go_num, rfl, Lib.hid (by rw [List.flatMap_append]; simpa [M.moveCells] using hrow1), Lib.hid (HB1.out.trans hb1)⟩
            case measure => simp [intOf]; omega
          · by_cases hv : v = y
            rotate_left
            · have hu2 : (u != x) = false := by simp [hu]
              have hv2 : (v != y) = true := by simp [hv]
              have HI := Lib.hid (And.intro hi0 (And.intro hz0 (And.intro hz1 hz2)))
              clear hi0 hz0 hz1 hz2
              go_upto_region 8 with fail
              obtain ⟨W, hW⟩ : ∃ X, X = wr.alloc (.cells #[.int .i64 x, .int .i64 y, .int .i64 z] 25) := ⟨_, rfl⟩
              have HRW := Lib.hid (show K.Row W w.heap.size 25 3 (some ⟨gb, 0, none⟩) ((L1.length + 1)) d ((L1 ++ [(⟨u, v, s⟩ : M.Move)]).flatMap M.moveCells) by rw [hW]; exact r1.out)
              have HBW := Lib.hid (show Below w.heap.size w W by rw [hW]; exact q1.out)
              have PX := Lib.hid (show K.Box W wr.heap.size [.int .i64 x, .int .i64 y, .int .i64 z] by rw [hW]; exact K.Box.new wr #[.int .i64 x, .int .i64 y, .int .i64 z] 25)
              rw [← hW]
              clear hW ca0 ca1 ca2 hga
              obtain ⟨x0, x1, x2⟩ := PX.out.c3
              have HH := Lib.hid (And.intro h60 (And.intro h1 h2))
              clear h60 h1 h2 hl hbs
              have HD := Lib.hid (And.intro hg1 (And.intro hg2 (And.intro hf (And.intro d0 (And.intro d1 d2)))))
              clear hg1 hg2 hf d0 d1 d2
              obtain ⟨g9, e9, hg1, hg2, hf, d0, d1, d2⟩ := lastCells HRW.out rfl
              injection e9 with e9
              injection e9 with e9
              subst e9
              have t0 : ((L1.length : Int) + 1 == 0) = false := by rw [beq_eq_false_iff_ne]; omega
              refine wp_region_held_drew (S := fun w' => w'.cell? ⟨gb, L1.length * 3, none⟩ = some (.int .i64 u) ∧ w'.cell? ⟨gb, L1.length * 3 + 1, none⟩ = some (.int .i64 v) ∧ w'.cell? ⟨wr.heap.size, 0, none⟩ = some (.int .i64 x) ∧ w'.cell? ⟨wr.heap.size, 1, none⟩ = some (.int .i64 y)) (by kernel_rfl) ⟨d0, d1, x0, x1⟩ (fun hHeld => ?_)
              refine K.takeL 0 (v := ?_) rfl (by kernel_rfl) (by kernel_rfl) (by kernel_rfl) (fun _ _ _ h => h) (Or.inl ⟨rfl, ?_⟩) (by assumption) ?_
              rotate_left
              · intro w hSw; (try dsimp only at hSw); first | (go_simp; done) | (go_simp; with_reducible rfl)
              simp only [Act.put, List.setIfInBounds_toArray, List.set_cons_zero, List.set_cons_succ]
              refine K.takeL 1 (v := ?_) rfl (by kernel_rfl) (by kernel_rfl) (by kernel_rfl) (fun _ _ _ h => h) (Or.inl ⟨rfl, ?_⟩) (by assumption) ?_
              rotate_left
              · intro w hSw; (try dsimp only at hSw); first | (go_simp; done) | (go_simp; with_reducible rfl)
              simp only [Act.put, List.setIfInBounds_toArray, List.set_cons_zero, List.set_cons_succ]
              refine K.takeL 2 (v := ?_) rfl (by kernel_rfl) (by kernel_rfl) (by kernel_rfl) (fun _ _ _ h => h) (Or.inl ⟨rfl, ?_⟩) (by assumption) ?_
              rotate_left
              · intro w hSw; (try dsimp only at hSw); first | (go_simp; done) | (go_simp; with_reducible rfl)
              simp only [Act.put, List.setIfInBounds_toArray, List.set_cons_zero, List.set_cons_succ]
              refine K.takeL 3 (v := ?_) rfl (by kernel_rfl) (by kernel_rfl) (by kernel_rfl) (fun _ _ _ h => h) (Or.inl ⟨rfl, ?_⟩) (by assumption) ?_
              rotate_left
              · intro w hSw; (try dsimp only at hSw); first | (go_simp; done) | (go_simp; with_reducible rfl)
              simp only [Act.put, List.setIfInBounds_toArray, List.set_cons_zero, List.set_cons_succ]
              refine K.takeL 4 (v := ?_) rfl (by kernel_rfl) (by kernel_rfl) (by kernel_rfl) (fun _ _ _ h => h) (Or.inl ⟨rfl, ?_⟩) (by assumption) ?_
              rotate_left
              · intro w hSw; (try dsimp only at hSw); first | (go_simp; done) | (go_simp; with_reducible rfl)
              simp only [Act.put, List.setIfInBounds_toArray, List.set_cons_zero, List.set_cons_succ]
              refine K.takeL 5 (v := ?_) rfl (by kernel_rfl) (by kernel_rfl) (by kernel_rfl) (fun _ _ _ h => h) (Or.inl ⟨rfl, ?_⟩) (by assumption) ?_
              rotate_left
              · intro w hSw; (try dsimp only at hSw); first | (go_simp; done) | (go_simp; with_reducible rfl)
              simp only [Act.put, List.setIfInBounds_toArray, List.set_cons_zero, List.set_cons_succ]
              refine K.takeL 6 (v := ?_) rfl (by kernel_rfl) (by kernel_rfl) (by kernel_rfl) (fun _ _ _ h => h) (Or.inl ⟨rfl, ?_⟩) (by assumption) ?_
              rotate_left
              · intro w hSw; (try dsimp only at hSw); first | (go_simp; done) | (go_simp; with_reducible rfl)
              simp only [Act.put, List.setIfInBounds_toArray, List.set_cons_zero, List.set_cons_succ]
              refine K.takeL 7 (v := ?_) rfl (by kernel_rfl) (by kernel_rfl) (by kernel_rfl) (fun _ _ _ h => h) (Or.inl ⟨rfl, ?_⟩) (by assumption) ?_
              rotate_left
              · intro w hSw; (try dsimp only at hSw); first | (go_simp; done) | (go_simp; with_reducible rfl)
              simp only [Act.put, List.setIfInBounds_toArray, List.set_cons_zero, List.set_cons_succ]
              refine K.takeL 8 (v := ?_) rfl (by kernel_rfl) (by kernel_rfl) (by kernel_rfl) (fun _ _ _ h => h) (Or.inl ⟨rfl, ?_⟩) (by assumption) ?_
              rotate_left
              · intro w hSw; (try dsimp only at hSw); first | (go_simp; done) | (go_simp; with_reducible rfl)
              simp only [Act.put, List.setIfInBounds_toArray, List.set_cons_zero, List.set_cons_succ]
              refine K.takeL 9 (v := ?_) rfl (by kernel_rfl) (by kernel_rfl) (by kernel_rfl) (fun _ _ _ h => h) (Or.inl ⟨rfl, ?_⟩) (by assumption) ?_
              rotate_left
              · intro w hSw; (try dsimp only at hSw); first | (go_simp; done) | (go_simp; with_reducible rfl)
              simp only [Act.put, List.setIfInBounds_toArray, List.set_cons_zero, List.set_cons_succ]
              refine K.takeL 10 (v := ?_) rfl (by kernel_rfl) (by kernel_rfl) (by kernel_rfl) (fun _ _ _ h => h) (Or.inl ⟨rfl, ?_⟩) (by assumption) ?_
              rotate_left
              · intro w hSw; (try dsimp only at hSw); first | (go_simp; done) | (go_simp; with_reducible rfl)
              simp only [Act.put, List.setIfInBounds_toArray, List.set_cons_zero, List.set_cons_succ]
              refine K.takeL 11 (v := ?_) rfl (by kernel_rfl) (by kernel_rfl) (by kernel_rfl) (fun _ _ _ h => h) (Or.inl ⟨rfl, ?_⟩) (by assumption) ?_
              rotate_left
              · intro w hSw; (try dsimp only at hSw); first | (go_simp; done) | (go_simp; with_reducible rfl)
              simp only [Act.put, List.setIfInBounds_toArray, List.set_cons_zero, List.set_cons_succ]
              refine K.takeL 12 (v := ?_) rfl (by kernel_rfl) (by kernel_rfl) (by kernel_rfl) (fun _ _ _ h => h) (Or.inl ⟨rfl, ?_⟩) (by assumption) ?_
              rotate_left
              · intro w hSw; (try dsimp only at hSw); first | (go_simp; done) | (go_simp; with_reducible rfl)
              simp only [Act.put, List.setIfInBounds_toArray, List.set_cons_zero, List.set_cons_succ]
              refine K.takeL 13 (v := ?_) rfl (by kernel_rfl) (by kernel_rfl) (by kernel_rfl) (fun _ _ _ h => h) (Or.inl ⟨rfl, ?_⟩) (by assumption) ?_
              rotate_left
              · intro w hSw; (try dsimp only at hSw); first | (go_simp; done) | (go_simp; with_reducible rfl)
              simp only [Act.put, List.setIfInBounds_toArray, List.set_cons_zero, List.set_cons_succ]
              refine K.takeL 14 (v := ?_) rfl (by kernel_rfl) (by kernel_rfl) (by kernel_rfl) (fun _ _ _ h => h) (Or.inl ⟨rfl, ?_⟩) (by assumption) ?_
              rotate_left
              · intro w hSw; (try dsimp only at hSw); first | (go_simp; done) | (go_simp; with_reducible rfl)
              simp only [Act.put, List.setIfInBounds_toArray, List.set_cons_zero, List.set_cons_succ]
              refine K.takeL 15 (v := ?_) rfl (by kernel_rfl) (by kernel_rfl) (by kernel_rfl) (fun _ _ _ h => h) (Or.inl ⟨rfl, ?_⟩) (by assumption) ?_
              rotate_left
              · intro w hSw; (try dsimp only at hSw); first | (go_simp; done) | (go_simp; with_reducible rfl)
              simp only [Act.put, List.setIfInBounds_toArray, List.set_cons_zero, List.set_cons_succ]
              refine K.takeL 16 (v := ?_) rfl (by kernel_rfl) (by kernel_rfl) (by kernel_rfl) (fun _ _ _ h => h) (Or.inl ⟨rfl, ?_⟩) (by assumption) ?_
              rotate_left
              · intro w hSw; (try dsimp only at hSw); first | (go_simp; done) | (go_simp; with_reducible rfl)
              simp only [Act.put, List.setIfInBounds_toArray, List.set_cons_zero, List.set_cons_succ]
              refine K.takeL 17 (v := ?_) rfl (by kernel_rfl) (by kernel_rfl) (by kernel_rfl) (fun _ _ _ h => h) (Or.inl ⟨rfl, ?_⟩) (by assumption) ?_
              rotate_left
              · intro w hSw; (try dsimp only at hSw); first | (go_simp; done) | (go_simp; with_reducible rfl)
              simp only [Act.put, List.setIfInBounds_toArray, List.set_cons_zero, List.set_cons_succ]
              refine K.takeL 18 (v := ?_) rfl (by kernel_rfl) (by kernel_rfl) (by kernel_rfl) (fun _ _ _ h => h) (Or.inl ⟨rfl, ?_⟩) (by assumption) ?_
              rotate_left
              · intro w hSw; (try dsimp only at hSw); first | (go_simp; done) | (go_simp; with_reducible rfl)
              simp only [Act.put, List.setIfInBounds_toArray, List.set_cons_zero, List.set_cons_succ]
              refine K.takeL 19 (v := ?_) rfl (by kernel_rfl) (by kernel_rfl) (by kernel_rfl) (fun _ _ _ h => h) (Or.inl ⟨rfl, ?_⟩) (by assumption) ?_
              rotate_left
              · intro w hSw; (try dsimp only at hSw); first | (go_simp; done) | (go_simp; with_reducible rfl)
              simp only [Act.put, List.setIfInBounds_toArray, List.set_cons_zero, List.set_cons_succ]
              refine K.takeL 20 (v := ?_) rfl (by kernel_rfl) (by kernel_rfl) (by kernel_rfl) (fun _ _ _ h => h) (Or.inl ⟨rfl, ?_⟩) (by assumption) ?_
              rotate_left
              · intro w hSw; (try dsimp only at hSw); first | (go_simp; done) | (go_simp; with_reducible rfl)
              simp only [Act.put, List.setIfInBounds_toArray, List.set_cons_zero, List.set_cons_succ]
              refine K.takeL 21 (v := ?_) rfl (by kernel_rfl) (by kernel_rfl) (by kernel_rfl) (fun _ _ _ h => h) (Or.inl ⟨rfl, ?_⟩) (by assumption) ?_
              rotate_left
              · intro w hSw; (try dsimp only at hSw); first | (go_simp; done) | (go_simp; with_reducible rfl)
              simp only [Act.put, List.setIfInBounds_toArray, List.set_cons_zero, List.set_cons_succ]
              refine K.takeL 22 (v := ?_) rfl (by kernel_rfl) (by kernel_rfl) (by kernel_rfl) (fun _ _ _ h => h) (Or.inl ⟨rfl, ?_⟩) (by assumption) ?_
              rotate_left
              · intro w hSw; (try dsimp only at hSw); first | (go_simp; done) | (go_simp; with_reducible rfl)
              simp only [Act.put, List.setIfInBounds_toArray, List.set_cons_zero, List.set_cons_succ]
              refine K.takeL 23 (v := ?_) rfl (by kernel_rfl) (by kernel_rfl) (by kernel_rfl) (fun _ _ _ h => h) (Or.inl ⟨rfl, ?_⟩) (by assumption) ?_
              rotate_left
              · intro w hSw; (try dsimp only at hSw); first | (go_simp; done) | (go_simp; with_reducible rfl)
              simp only [Act.put, List.setIfInBounds_toArray, List.set_cons_zero, List.set_cons_succ]
              refine wpAnyH_done (by kernel_rfl) ?_ _
              obtain ⟨h60, h1, h2⟩ := HH.out
              obtain ⟨hi0, hz0, hz1, hz2⟩ := HI.out
              obtain ⟨W1, hW1⟩ : ∃ X, X = W.drew := ⟨_, rfl⟩
              have HROW1 := Lib.hid (show K.Row W1 w.heap.size 25 3 (some ⟨gb, 0, none⟩) ((L1.length + 1)) d ((L1 ++ [(⟨u, v, s⟩ : M.Move)]).flatMap M.moveCells) by rw [hW1]; exact HRW.out.drew)
              have HB1 := Lib.hid (show Below w.heap.size w W1 by rw [hW1]; exact HBW.out.drew)
              have PX1 := Lib.hid (show K.Box W1 wr.heap.size [.int .i64 x, .int .i64 y, .int .i64 z] by rw [hW1]; exact PX.out.drew)
              rw [← hW1]
              clear hW1 hHeld x0 x1 x2
              obtain ⟨x0, x1, x2⟩ := PX1.out.c3
              have hb1s := HB1.out.size
              go_wp2_with (at_builtin; go_must (refine K.append1 rfl (.tmp 50) (.tmp 52) _ rfl w.heap.size _ i0 _ 3 24 Try.underlying43 hi0 hz0 hz1 hz2 rfl (by omega) (some ⟨gb, 0, none⟩) (L1.length + 1) d _ rfl HROW1.out #[.int .i64 x, .int .i64 y, .int .i64 z] rfl (by simp [Value.oneCell']) (by simp [go_sem]) hj2 (by omega) hb1s ?_; intro g' c' w2 hrow1 hb1 _ _ _))
              go_roundw
              case rel => exact ⟨k + 1, L1.length + 2, some ⟨g', 0, none⟩, c', L1 ++ [⟨u, v, s⟩] ++ [⟨x, y, z⟩], by omega, Lib.hid (by rw [HST.out]; exact M.mgOne_new (by simp; omega)), Lib.hid (by simp), by go_num, rfl, Lib.hid (by rw [List.flatMap_append]; simpa [M.moveCells] using hrow1), Lib.hid (HB1.out.trans hb1)⟩
              case measure => simp [intOf]; omega
            · subst hu hv
              have hu2 : (u != u) = false := by simp
              have hv2 : (v != v) = false := by simp
              have hw : IntKind.i64.wrap (s + z) = s + z := IntWalk.i64_in _ (by omega)
              have hd := HROW.out.max
              have hd3 := K.Row.cap HROW.out
              have HI := Lib.hid (And.intro hi0 (And.intro hz0 (And.intro hz1 hz2)))
              clear hi0 hz0 hz1 hz2
              go_upto_region 8 with fail
              obtain ⟨W, hW⟩ : ∃ X, X = wr.alloc (.cells #[.int .i64 u, .int .i64 v, .int .i64 z] 25) := ⟨_, rfl⟩
              have HRW := Lib.hid (show K.Row W w.heap.size 25 3 (some ⟨gb, 0, none⟩) (L1.length + 1) d ((L1 ++ [(⟨u, v, s⟩ : M.Move)]).flatMap M.moveCells) by rw [hW]; exact r1.out)
              have HBW := Lib.hid (show Below w.heap.size w W by rw [hW]; exact q1.out)
              have PX := Lib.hid (show K.Box W wr.heap.size [.int .i64 u, .int .i64 v, .int .i64 z] by rw [hW]; exact K.Box.new wr #[.int .i64 u, .int .i64 v, .int .i64 z] 25)
              rw [← hW]
              clear hW ca0 ca1 ca2 hga
              obtain ⟨x0, x1, x2⟩ := PX.out.c3
              have HH := Lib.hid (And.intro h60 (And.intro h1 h2))
              clear h60 h1 h2 hl hbs
              have HD := Lib.hid (And.intro hg1 (And.intro hg2 (And.intro hf (And.intro d0 (And.intro d1 d2)))))
              clear hg1 hg2 hf d0 d1 d2
              obtain ⟨g9, e9, hg1, hg2, hf, d0, d1, d2⟩ := lastCells HRW.out rfl
              injection e9 with e9
              injection e9 with e9
              subst e9
              have t0 : ((L1.length : Int) + 1 == 0) = false := by rw [beq_eq_false_iff_ne]; omega
              refine wp_region_held_drew (S := fun w' => w'.cell? ⟨gb, L1.length * 3, none⟩ = some (.int .i64 u) ∧ w'.cell? ⟨gb, L1.length * 3 + 1, none⟩ = some (.int .i64 v) ∧ w'.cell? ⟨wr.heap.size, 0, none⟩ = some (.int .i64 u) ∧ w'.cell? ⟨wr.heap.size, 1, none⟩ = some (.int .i64 v)) (by kernel_rfl) ⟨d0, d1, x0, x1⟩ (fun hHeld => ?_)
              refine K.takeL 0 (v := ?_) rfl (by kernel_rfl) (by kernel_rfl) (by kernel_rfl) (fun _ _ _ h => h) (Or.inl ⟨rfl, ?_⟩) (by assumption) ?_
              rotate_left
              · intro w hSw; (try dsimp only at hSw); first | (go_simp; done) | (go_simp; with_reducible rfl)
              simp only [Act.put, List.setIfInBounds_toArray, List.set_cons_zero, List.set_cons_succ]
              refine K.takeL 1 (v := ?_) rfl (by kernel_rfl) (by kernel_rfl) (by kernel_rfl) (fun _ _ _ h => h) (Or.inl ⟨rfl, ?_⟩) (by assumption) ?_
              rotate_left
              · intro w hSw; (try dsimp only at hSw); first | (go_simp; done) | (go_simp; with_reducible rfl)
              simp only [Act.put, List.setIfInBounds_toArray, List.set_cons_zero, List.set_cons_succ]
              refine K.takeL 2 (v := ?_) rfl (by kernel_rfl) (by kernel_rfl) (by kernel_rfl) (fun _ _ _ h => h) (Or.inl ⟨rfl, ?_⟩) (by assumption) ?_
              rotate_left
              · intro w hSw; (try dsimp only at hSw); first | (go_simp; done) | (go_simp; with_reducible rfl)
              simp only [Act.put, List.setIfInBounds_toArray, List.set_cons_zero, List.set_cons_succ]
              refine K.takeL 3 (v := ?_) rfl (by kernel_rfl) (by kernel_rfl) (by kernel_rfl) (fun _ _ _ h => h) (Or.inl ⟨rfl, ?_⟩) (by assumption) ?_
              rotate_left
              · intro w hSw; (try dsimp only at hSw); first | (go_simp; done) | (go_simp; with_reducible rfl)
              simp only [Act.put, List.setIfInBounds_toArray, List.set_cons_zero, List.set_cons_succ]
              refine K.takeL 4 (v := ?_) rfl (by kernel_rfl) (by kernel_rfl) (by kernel_rfl) (fun _ _ _ h => h) (Or.inl ⟨rfl, ?_⟩) (by assumption) ?_
              rotate_left
              · intro w hSw; (try dsimp only at hSw); first | (go_simp; done) | (go_simp; with_reducible rfl)
              simp only [Act.put, List.setIfInBounds_toArray, List.set_cons_zero, List.set_cons_succ]
              refine K.takeL 5 (v := ?_) rfl (by kernel_rfl) (by kernel_rfl) (by kernel_rfl) (fun _ _ _ h => h) (Or.inl ⟨rfl, ?_⟩) (by assumption) ?_
              rotate_left
              · intro w hSw; (try dsimp only at hSw); first | (go_simp; done) | (go_simp; with_reducible rfl)
              simp only [Act.put, List.setIfInBounds_toArray, List.set_cons_zero, List.set_cons_succ]
              refine K.takeL 6 (v := ?_) rfl (by kernel_rfl) (by kernel_rfl) (by kernel_rfl) (fun _ _ _ h => h) (Or.inl ⟨rfl, ?_⟩) (by assumption) ?_
              rotate_left
              · intro w hSw; (try dsimp only at hSw); first | (go_simp; done) | (go_simp; with_reducible rfl)
              simp only [Act.put, List.setIfInBounds_toArray, List.set_cons_zero, List.set_cons_succ]
              refine K.takeL 7 (v := ?_) rfl (by kernel_rfl) (by kernel_rfl) (by kernel_rfl) (fun _ _ _ h => h) (Or.inl ⟨rfl, ?_⟩) (by assumption) ?_
              rotate_left
              · intro w hSw; (try dsimp only at hSw); first | (go_simp; done) | (go_simp; with_reducible rfl)
              simp only [Act.put, List.setIfInBounds_toArray, List.set_cons_zero, List.set_cons_succ]
              refine K.takeL 8 (v := ?_) rfl (by kernel_rfl) (by kernel_rfl) (by kernel_rfl) (fun _ _ _ h => h) (Or.inl ⟨rfl, ?_⟩) (by assumption) ?_
              rotate_left
              · intro w hSw; (try dsimp only at hSw); first | (go_simp; done) | (go_simp; with_reducible rfl)
              simp only [Act.put, List.setIfInBounds_toArray, List.set_cons_zero, List.set_cons_succ]
              refine K.takeL 9 (v := ?_) rfl (by kernel_rfl) (by kernel_rfl) (by kernel_rfl) (fun _ _ _ h => h) (Or.inl ⟨rfl, ?_⟩) (by assumption) ?_
              rotate_left
              · intro w hSw; (try dsimp only at hSw); first | (go_simp; done) | (go_simp; with_reducible rfl)
              simp only [Act.put, List.setIfInBounds_toArray, List.set_cons_zero, List.set_cons_succ]
              refine K.takeL 10 (v := ?_) rfl (by kernel_rfl) (by kernel_rfl) (by kernel_rfl) (fun _ _ _ h => h) (Or.inl ⟨rfl, ?_⟩) (by assumption) ?_
              rotate_left
              · intro w hSw; (try dsimp only at hSw); first | (go_simp; done) | (go_simp; with_reducible rfl)
              simp only [Act.put, List.setIfInBounds_toArray, List.set_cons_zero, List.set_cons_succ]
              refine K.takeL 11 (v := ?_) rfl (by kernel_rfl) (by kernel_rfl) (by kernel_rfl) (fun _ _ _ h => h) (Or.inl ⟨rfl, ?_⟩) (by assumption) ?_
              rotate_left
              · intro w hSw; (try dsimp only at hSw); first | (go_simp; done) | (go_simp; with_reducible rfl)
              simp only [Act.put, List.setIfInBounds_toArray, List.set_cons_zero, List.set_cons_succ]
              refine K.takeL 12 (v := ?_) rfl (by kernel_rfl) (by kernel_rfl) (by kernel_rfl) (fun _ _ _ h => h) (Or.inl ⟨rfl, ?_⟩) (by assumption) ?_
              rotate_left
              · intro w hSw; (try dsimp only at hSw); first | (go_simp; done) | (go_simp; with_reducible rfl)
              simp only [Act.put, List.setIfInBounds_toArray, List.set_cons_zero, List.set_cons_succ]
              refine K.takeL 13 (v := ?_) rfl (by kernel_rfl) (by kernel_rfl) (by kernel_rfl) (fun _ _ _ h => h) (Or.inl ⟨rfl, ?_⟩) (by assumption) ?_
              rotate_left
              · intro w hSw; (try dsimp only at hSw); first | (go_simp; done) | (go_simp; with_reducible rfl)
              simp only [Act.put, List.setIfInBounds_toArray, List.set_cons_zero, List.set_cons_succ]
              refine K.takeL 14 (v := ?_) rfl (by kernel_rfl) (by kernel_rfl) (by kernel_rfl) (fun _ _ _ h => h) (Or.inl ⟨rfl, ?_⟩) (by assumption) ?_
              rotate_left
              · intro w hSw; (try dsimp only at hSw); first | (go_simp; done) | (go_simp; with_reducible rfl)
              simp only [Act.put, List.setIfInBounds_toArray, List.set_cons_zero, List.set_cons_succ]
              refine K.takeL 15 (v := ?_) rfl (by kernel_rfl) (by kernel_rfl) (by kernel_rfl) (fun _ _ _ h => h) (Or.inl ⟨rfl, ?_⟩) (by assumption) ?_
              rotate_left
              · intro w hSw; (try dsimp only at hSw); first | (go_simp; done) | (go_simp; with_reducible rfl)
              simp only [Act.put, List.setIfInBounds_toArray, List.set_cons_zero, List.set_cons_succ]
              refine K.takeL 16 (v := ?_) rfl (by kernel_rfl) (by kernel_rfl) (by kernel_rfl) (fun _ _ _ h => h) (Or.inl ⟨rfl, ?_⟩) (by assumption) ?_
              rotate_left
              · intro w hSw; (try dsimp only at hSw); first | (go_simp; done) | (go_simp; with_reducible rfl)
              simp only [Act.put, List.setIfInBounds_toArray, List.set_cons_zero, List.set_cons_succ]
              refine K.takeL 17 (v := ?_) rfl (by kernel_rfl) (by kernel_rfl) (by kernel_rfl) (fun _ _ _ h => h) (Or.inl ⟨rfl, ?_⟩) (by assumption) ?_
              rotate_left
              · intro w hSw; (try dsimp only at hSw); first | (go_simp; done) | (go_simp; with_reducible rfl)
              simp only [Act.put, List.setIfInBounds_toArray, List.set_cons_zero, List.set_cons_succ]
              refine K.takeL 18 (v := ?_) rfl (by kernel_rfl) (by kernel_rfl) (by kernel_rfl) (fun _ _ _ h => h) (Or.inl ⟨rfl, ?_⟩) (by assumption) ?_
              rotate_left
              · intro w hSw; (try dsimp only at hSw); first | (go_simp; done) | (go_simp; with_reducible rfl)
              simp only [Act.put, List.setIfInBounds_toArray, List.set_cons_zero, List.set_cons_succ]
              refine K.takeL 19 (v := ?_) rfl (by kernel_rfl) (by kernel_rfl) (by kernel_rfl) (fun _ _ _ h => h) (Or.inl ⟨rfl, ?_⟩) (by assumption) ?_
              rotate_left
              · intro w hSw; (try dsimp only at hSw); first | (go_simp; done) | (go_simp; with_reducible rfl)
              simp only [Act.put, List.setIfInBounds_toArray, List.set_cons_zero, List.set_cons_succ]
              refine K.takeL 20 (v := ?_) rfl (by kernel_rfl) (by kernel_rfl) (by kernel_rfl) (fun _ _ _ h => h) (Or.inl ⟨rfl, ?_⟩) (by assumption) ?_
              rotate_left
              · intro w hSw; (try dsimp only at hSw); first | (go_simp; done) | (go_simp; with_reducible rfl)
              simp only [Act.put, List.setIfInBounds_toArray, List.set_cons_zero, List.set_cons_succ]
              refine K.takeL 21 (v := ?_) rfl (by kernel_rfl) (by kernel_rfl) (by kernel_rfl) (fun _ _ _ h => h) (Or.inl ⟨rfl, ?_⟩) (by assumption) ?_
              rotate_left
              · intro w hSw; (try dsimp only at hSw); first | (go_simp; done) | (go_simp; with_reducible rfl)
              simp only [Act.put, List.setIfInBounds_toArray, List.set_cons_zero, List.set_cons_succ]
              refine K.takeL 22 (v := ?_) rfl (by kernel_rfl) (by kernel_rfl) (by kernel_rfl) (fun _ _ _ h => h) (Or.inl ⟨rfl, ?_⟩) (by assumption) ?_
              rotate_left
              · intro w hSw; (try dsimp only at hSw); first | (go_simp; done) | (go_simp; with_reducible rfl)
              simp only [Act.put, List.setIfInBounds_toArray, List.set_cons_zero, List.set_cons_succ]
              refine K.takeL 23 (v := ?_) rfl (by kernel_rfl) (by kernel_rfl) (by kernel_rfl) (fun _ _ _ h => h) (Or.inl ⟨rfl, ?_⟩) (by assumption) ?_
              rotate_left
              · intro w hSw; (try dsimp only at hSw); first | (go_simp; done) | (go_simp; with_reducible rfl)
              simp only [Act.put, List.setIfInBounds_toArray, List.set_cons_zero, List.set_cons_succ]
              refine wpAnyH_done (by kernel_rfl) ?_ _
              obtain ⟨h60, h1, h2⟩ := HH.out
              obtain ⟨hi0, hz0, hz1, hz2⟩ := HI.out
              obtain ⟨W1, hW1⟩ : ∃ X, X = W.drew := ⟨_, rfl⟩
              have HROW1 := Lib.hid (show K.Row W1 w.heap.size 25 3 (some ⟨gb, 0, none⟩) (L1.length + 1) d ((L1 ++ [(⟨u, v, s⟩ : M.Move)]).flatMap M.moveCells) by rw [hW1]; exact HRW.out.drew)
              have HB1 := Lib.hid (show Below w.heap.size w W1 by rw [hW1]; exact HBW.out.drew)
              have PX1 := Lib.hid (show K.Box W1 wr.heap.size [.int .i64 u, .int .i64 v, .int .i64 z] by rw [hW1]; exact PX.out.drew)
              rw [← hW1]
              clear hW1 hHeld x0 x1 x2
              obtain ⟨x0, x1, x2⟩ := PX1.out.c3
              have hb1s := HB1.out.size
              clear HRW HBW PX
              skip
              obtain ⟨W0, hW0⟩ : ∃ X, X = W1.drew := ⟨_, rfl⟩
              have HROW0 := Lib.hid (show K.Row W0 w.heap.size 25 3 (some ⟨gb, 0, none⟩) (L1.length + 1) d ((L1 ++ [(⟨u, v, s⟩ : M.Move)]).flatMap M.moveCells) by rw [hW0]; exact HROW1.out.drew)
              have HB0 := Lib.hid (show Below w.heap.size w W0 by rw [hW0]; exact HB1.out.drew)
              have PX0 := Lib.hid (show K.Box W0 wr.heap.size [.int .i64 u, .int .i64 v, .int .i64 z] by rw [hW0]; exact PX1.out.drew)
              clear hg1 hg2 hf d0 d1 d2
              obtain ⟨g9, e9, hg1, hg2, hf, d0, d1, d2⟩ := lastCells HROW1.out rfl
              injection e9 with e9
              injection e9 with e9
              subst e9
              go_upto_region 10 with fail
              refine wp_region_held_drew (S := fun w' => w'.cell? ⟨gb, L1.length * 3 + 2, none⟩ = some (.int .i64 s) ∧ w'.cell? ⟨wr.heap.size, 2, none⟩ = some (.int .i64 z)) (by kernel_rfl) ⟨d2, x2⟩ (fun hHeld => ?_)
              refine K.takeL 0 (v := ?_) rfl (by kernel_rfl) (by kernel_rfl) (by kernel_rfl) (fun _ _ _ h => h) (Or.inl ⟨rfl, ?_⟩) (by assumption) ?_
              rotate_left
              · intro w hSw; (try dsimp only at hSw); first | (go_simp; done) | (go_simp; with_reducible rfl)
              simp only [Act.put, List.setIfInBounds_toArray, List.set_cons_zero, List.set_cons_succ]
              refine K.takeL 1 (v := ?_) rfl (by kernel_rfl) (by kernel_rfl) (by kernel_rfl) (fun _ _ _ h => h) (Or.inl ⟨rfl, ?_⟩) (by assumption) ?_
              rotate_left
              · intro w hSw; (try dsimp only at hSw); first | (go_simp; done) | (go_simp; with_reducible rfl)
              simp only [Act.put, List.setIfInBounds_toArray, List.set_cons_zero, List.set_cons_succ]
              refine K.takeL 2 (v := ?_) rfl (by kernel_rfl) (by kernel_rfl) (by kernel_rfl) (fun _ _ _ h => h) (Or.inl ⟨rfl, ?_⟩) (by assumption) ?_
              rotate_left
              · intro w hSw; (try dsimp only at hSw); first | (go_simp; done) | (go_simp; with_reducible rfl)
              simp only [Act.put, List.setIfInBounds_toArray, List.set_cons_zero, List.set_cons_succ]
              refine K.takeL 3 (v := ?_) rfl (by kernel_rfl) (by kernel_rfl) (by kernel_rfl) (fun _ _ _ h => h) (Or.inl ⟨rfl, ?_⟩) (by assumption) ?_
              rotate_left
              · intro w hSw; (try dsimp only at hSw); first | (go_simp; done) | (go_simp; with_reducible rfl)
              simp only [Act.put, List.setIfInBounds_toArray, List.set_cons_zero, List.set_cons_succ]
              refine K.takeL 4 (v := ?_) rfl (by kernel_rfl) (by kernel_rfl) (by kernel_rfl) (fun _ _ _ h => h) (Or.inl ⟨rfl, ?_⟩) (by assumption) ?_
              rotate_left
              · intro w hSw; (try dsimp only at hSw); first | (go_simp; done) | (go_simp; with_reducible rfl)
              simp only [Act.put, List.setIfInBounds_toArray, List.set_cons_zero, List.set_cons_succ]
              refine K.takeL 5 (v := ?_) rfl (by kernel_rfl) (by kernel_rfl) (by kernel_rfl) (fun _ _ _ h => h) (Or.inl ⟨rfl, ?_⟩) (by assumption) ?_
              rotate_left
              · intro w hSw; (try dsimp only at hSw); first | (go_simp; done) | (go_simp; with_reducible rfl)
              simp only [Act.put, List.setIfInBounds_toArray, List.set_cons_zero, List.set_cons_succ]
              refine K.takeL 6 (v := ?_) rfl (by kernel_rfl) (by kernel_rfl) (by kernel_rfl) (fun _ _ _ h => h) (Or.inl ⟨rfl, ?_⟩) (by assumption) ?_
              rotate_left
              · intro w hSw; (try dsimp only at hSw); first | (go_simp; done) | (go_simp; with_reducible rfl)
              simp only [Act.put, List.setIfInBounds_toArray, List.set_cons_zero, List.set_cons_succ]
              refine K.takeL 7 (v := ?_) rfl (by kernel_rfl) (by kernel_rfl) (by kernel_rfl) (fun _ _ _ h => h) (Or.inl ⟨rfl, ?_⟩) (by assumption) ?_
              rotate_left
              · intro w hSw; (try dsimp only at hSw); first | (go_simp; done) | (go_simp; with_reducible rfl)
              simp only [Act.put, List.setIfInBounds_toArray, List.set_cons_zero, List.set_cons_succ]
              refine K.takeL 8 (v := ?_) rfl (by kernel_rfl) (by kernel_rfl) (by kernel_rfl) (fun _ _ _ h => h) (Or.inl ⟨rfl, ?_⟩) (by assumption) ?_
              rotate_left
              · intro w hSw; (try dsimp only at hSw); first | (go_simp; done) | (go_simp; with_reducible rfl)
              simp only [Act.put, List.setIfInBounds_toArray, List.set_cons_zero, List.set_cons_succ]
              refine K.takeL 9 (v := ?_) rfl (by kernel_rfl) (by kernel_rfl) (by kernel_rfl) (fun _ _ _ h => h) (Or.inl ⟨rfl, ?_⟩) (by assumption) ?_
              rotate_left
              · intro w hSw; (try dsimp only at hSw); first | (go_simp; done) | (go_simp; with_reducible rfl)
              simp only [Act.put, List.setIfInBounds_toArray, List.set_cons_zero, List.set_cons_succ]
              refine wpAnyH_done (by kernel_rfl) ?_ _
              rw [← hW0]
              clear hW0 hHeld hg1 hg2 hf d0 d1 d2 x0 x1 x2
              obtain ⟨g9, e9, hg1, hg2, hf, d0, d1, d2⟩ := lastCells HROW0.out rfl
              injection e9 with e9
              injection e9 with e9
              subst e9
              obtain ⟨b0, b1, b2⟩ := PX0.out.c3
              have bg := PX0.out.1
              have f0 := hf (L1.length * 3)
              have f1 := hf (L1.length * 3 + 1)
              have f2 := hf (L1.length * 3 + 2)
              by_cases c2 : s + z = 0
              · have c5 : (s + z == 0) = true := by simp [c2]
                have C2 := Lib.hid c2
                clear c2
                have rc := HROW0.out.cut L1.length (by omega)
                rw [lastTake] at rc
                have RC := Lib.hid rc
                clear rc
                go_wp2_with fail
                go_roundw
                case rel => exact ⟨k + 1, L1.length, some ⟨gb, 0, none⟩, d, L1, by omega, Lib.hid (by rw [HST.out]; exact M.mgOne_zero ⟨rfl, rfl⟩ C2.out), Lib.hid rfl, by go_num, by first | rfl | simp, RC, HB0⟩
                case measure => simp [intOf]; omega
              · have c5 : (s + z == 0) = false := by simp [c2]
                cases c3 : M.inR (s + z) (-5) 5 with
                | false =>
                  have hR := Lib.hid (HNONE.out (k + 1) (by rw [HST.out]; exact M.mgOne_bad ⟨rfl, rfl⟩ c2 c3))
                  go_wp2_with fail
                  refine (Base.s_in _ _ _ _).mono ?_
                  rintro e w3 ⟨rfl, rfl⟩
                  rw [c3]
                  go_wp2_with fail
                  go_ret2
                  rw [hR.out]
                  have eR : K.Row (W0.alloc (.cells #[] 25)) W0.heap.size 25 3 (some ⟨W0.heap.size, 0, none⟩) 0 0 [] := World.ownsRow_made W0 #[] 0 (Nat.le_refl _) (Nat.zero_le _) rfl
                  exact ⟨some ⟨_, 0, none⟩, 0, rfl, eR.more HB0.out.size, HB0.out.alloc HB0.out.size _⟩
                | true =>
                  go_wp2_with fail
                  refine (Base.s_in _ _ _ _).mono ?_
                  rintro e w3 ⟨rfl, rfl⟩
                  rw [c3]
                  go_wp2_with fail
                  go_roundw
                  case rel => exact ⟨k + 1, L1.length + 1, some ⟨gb, 0, none⟩, d, L1 ++ [⟨u, v, s + z⟩], by omega, Lib.hid (by rw [HST.out]; exact M.mgOne_add ⟨rfl, rfl⟩ c2 c3), Lib.hid (by simp), by go_num, rfl, Lib.hid (by have h := (HROW0.out.set3 (L1.length * 3) (.int .i64 u) (.int .i64 v) (.int .i64 (s + z))).1; rw [lastSet3] at h; exact h), Lib.hid (((HB0.out.setCell (p := ⟨gb, L1.length * 3, none⟩) hg1 _).setCell (p := ⟨gb, L1.length * 3 + 1, none⟩) hg1 _).setCell (p := ⟨gb, L1.length * 3 + 2, none⟩) hg1 _)⟩
                  case measure => simp [intOf]; omega
      · obtain rfl : k = l.length := by omega
        have hM := Lib.hid (HSOME.out L (by have := HM.out; rw [List.take_length] at this; exact this))
        have hn := HN.out
        subst hn
        go_wp2_with fail
        go_ret2
        rw [hM.out]
        exact ⟨B, d, rfl, HROW.out, HB.out⟩
end Go.Proofs.Ythlkdaogmcjlbaa.MoveW
