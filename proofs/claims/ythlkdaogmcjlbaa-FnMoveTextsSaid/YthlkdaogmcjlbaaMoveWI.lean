/-
  Walks: merging moves.
-/
import Derived.Test.YthlkdaogmcjlbaaMoveW
set_option linter.unusedVariables false
namespace Go.Proofs.Ythlkdaogmcjlbaa.MoveW
open Go.RowKit
set_option maxRecDepth 100000 in
set_option maxHeartbeats 8000000 in
theorem i_merge (A : Option Addr) (c : Nat) (l : List M.Move) (w : World) (hl : l.length ≤ 1048576) (ha : K.Rd w 3 A l.length (l.flatMap M.moveCells)) :
    Calls Try.prog 42 #[.slice A l.length c] w (K.RetRowB w 25 3 (M.mergedMv l).1.length ((M.mergedMv l).1.flatMap M.moveCells) (M.mergedMv l).2) := by
  obtain ⟨i0, hi0, hz0, hz1, hz2⟩ := info_parts Moves.info
  have HS := Lib.hid (MoveF.i_good A c l w hl ha)
  cases hok : M.movesOk l with
  | false =>
    rw [hok] at HS
    rw [M.mergedMv_no hok]
    clear hok
    go_enter Try.func42, Try.ntmps42
    go_wp2_with fail
    refine HS.out.mono ?_
    rintro e w1 ⟨rfl, b1⟩
    go_wp2_with fail
    go_ret2
    exact ⟨none, 0, rfl, K.Row.nil _ _ _ _, b1⟩
  | true =>
    rw [hok] at HS
    have h60 : l.length ≤ 60 := ((M.movesOk_iff l).1 hok).1
    have hall := ((M.movesOk_iff l).1 hok).2
    have hm := fun k hk => (M.movesOk_at hok (k := k) hk).2.2.1
    have HSOME := Lib.hid (fun (L : List M.Move) (h : M.mgAll l = some L) => M.mergedMv_some hok h)
    have HNONE := Lib.hid (fun (k : Nat) (h : M.mgAll (l.take k) = none) => M.mergedMv_none (M.mgAll_none h))
    have HLEN := Lib.hid (fun k L h hk => M.mgAll_len l k L h hk)
    have HOKS := Lib.hid (fun k L h hk => M.mgAll_ok l hall k L h hk)
    clear hok hall
    generalize M.mergedMv l = RR at *
    go_enter Try.func42, Try.ntmps42
    go_wp2_with fail
    refine HS.out.mono ?_
    rintro e w1 ⟨rfl, b1⟩
    have e1 := K.Row.nil w1 w.heap.size 25 3
    go_wp2_with fail
    go_loopw [13, 4] (fun i o wr => ∃ (k n : Nat) (B : Option Addr) (d : Nat) (L : List M.Move), k ≤ l.length ∧ Hid (M.mgAll (l.take k) = some L) ∧ Hid (L.length = n) ∧ i = .int .i64 (k : Int) ∧ o = .slice B n d ∧ Hid (K.Row wr w.heap.size 25 3 B n d (L.flatMap M.moveCells)) ∧ Hid (Below w.heap.size w wr)) (fun i _ _ => l.length - (intOf i).toNat)
    case atStart => exact ⟨0, 0, none, 0, [], Nat.zero_le _, Lib.hid rfl, Lib.hid rfl, rfl, rfl, Lib.hid e1, Lib.hid b1⟩
    case round =>
      clear b1 e1
      obtain ⟨k, n, B, d, L, hk, HM, HN, rfl, rfl, HROW, HB⟩ := hrel
      by_cases hlt : k < l.length
      · obtain ⟨ga, oa, rfl, hga, ca0, ca1, ca2⟩ := (ha.below HB.out).move hlt
        have h1 : (k : Int) < (l.length : Int) := by omega
        have h2 : (0 : Int) ≤ (k : Int) := by omega
        have hnk : n ≤ k := by rw [← HN.out]; exact HLEN.out k L HM.out hk
        have hLok := Lib.hid (HOKS.out k L HM.out hk)
        have HST := Lib.hid (show M.mgAll (l.take (k + 1)) = M.mgOne L ⟨l[k].rod, l[k].part, l[k].by_⟩ by rw [M.mgAll_take l k hlt, HM.out]; rfl)
        obtain ⟨z1, z2⟩ := hm k hlt
        clear hm
        generalize l[k].rod = x at *
        generalize l[k].part = y at *
        generalize l[k].by_ = z at *
        have hbs := HB.out.size
        have hj2 : n + 1 ≤ maxLen := by simp only [maxLen]; omega
        have r1 := Lib.hid (HROW.out.alloc (.cells #[.int .i64 x, .int .i64 y, .int .i64 z] 25))
        have q1 := Lib.hid (HB.out.alloc hbs (.cells #[.int .i64 x, .int .i64 y, .int .i64 z] 25))
        rcases M.nil_or_snoc L with rfl | ⟨L1, ⟨u, v, s⟩, rfl⟩
        · have hn0 : n = 0 := by have := HN.out; simpa using this.symm
          subst hn0
          have HI := Lib.hid (And.intro hi0 (And.intro hz0 (And.intro hz1 hz2)))
          clear hi0 hz0 hz1 hz2
          go_wp2_with fail
          clear ca0 ca1 ca2
          go_quiet (fail)
          obtain ⟨hi0, hz0, hz1, hz2⟩ := HI.out
          go_wp2_with (at_builtin; go_must (refine K.append1 rfl (.tmp 42) (.tmp 44) _ rfl w.heap.size _ i0 _ 3 24 Try.underlying43 hi0 hz0 hz1 hz2 rfl (by omega) B 0 d _ rfl (by exact r1.out.drewN _) #[.int .i64 x, .int .i64 y, .int .i64 z] rfl (by simp [Value.oneCell']) (by simp [go_sem]) hj2 (by omega) (by exact (K.below_drewN q1.out _).size) ?_; intro g' c' w2 hrow1 hb1 _ _ _))
          go_roundw
          case rel => exact ⟨k + 1, 1, some ⟨g', 0, none⟩, c', [⟨x, y, z⟩], by omega, Lib.hid (by rw [HST.out]; rfl), Lib.hid rfl, by go_num, rfl, Lib.hid (by simpa [M.moveCells] using hrow1), Lib.hid ((K.below_drewN q1.out _).trans hb1)⟩
          case measure => simp [intOf]; omega
        · obtain ⟨p, hp⟩ : ∃ p, p = L1.length := ⟨_, rfl⟩
          have hn1 : n = p + 1 := by have := HN.out; simp at this; omega
          subst hn1
          obtain ⟨⟨_, _⟩, ⟨_, _⟩, ⟨s1, s2⟩, _⟩ := (M.Move.ok_iff _).1 (hLok.out ⟨u, v, s⟩ (by simp))
          dsimp only at s1 s2
          obtain ⟨gb, eB, hg1, hg2, hf, d0, d1, d2⟩ := lastCells HROW.out hp
          subst eB
          subst hp
          have hp5 : L1.length ≤ 60 := by omega
          have hw64 : IntKind.i64.wrap (L1.length : Int) = (L1.length : Int) := IntWalk.i64_in _ (by omega)
          have hp2 : (0 : Int) ≤ (L1.length : Int) := by omega
          have hp3 : (L1.length : Int) < (L1.length : Int) + 1 := by omega
          have hp4 : L1.length < L1.length + 1 := by omega
          by_cases hu : u = x
          rotate_left
          · have hu2 : (u != x) = true := by simp [hu]
            have HI := Lib.hid (And.intro hi0 (And.intro hz0 (And.intro hz1 hz2)))
            clear hi0 hz0 hz1 hz2
            go_wp2_with fail
            clear ca0 ca1 ca2
            go_quiet (fail)
            obtain ⟨hi0, hz0, hz1, hz2⟩ := HI.out
            go_wp2_with (at_builtin; go_must (refine K.append1 rfl (.tmp 42) (.tmp 44) _ rfl w.heap.size _ i0 _ 3 24 Try.underlying43 hi0 hz0 hz1 hz2 rfl (by omega) (some ⟨gb, 0, none⟩) (L1.length + 1) d _ rfl (by exact r1.out.drewN _) #[.int .i64 x, .int .i64 y, .int .i64 z] rfl (by simp [Value.oneCell']) (by simp [go_sem]) hj2 (by omega) (by exact (K.below_drewN q1.out _).size) ?_; intro g' c' w2 hrow1 hb1 _ _ _))
            go_roundw
            case rel => exact ⟨k + 1, L1.length + 2, some ⟨g', 0, none⟩, c', L1 ++ [⟨u, v, s⟩] ++ [⟨x, y, z⟩], by omega, Lib.hid (by rw [HST.out]; exact M.mgOne_new (by simp; omega)), Lib.hid (by simp), by go_num, rfl, Lib.hid (by rw [List.flatMap_append]; simpa [M.moveCells] using hrow1), Lib.hid ((K.below_drewN q1.out _).trans hb1)⟩
            case measure => simp [intOf]; omega
          · by_cases hv : v = y
            rotate_left
            · have hu2 : (u != x) = false := by simp [hu]
              have hv2 : (v != y) = true := by simp [hv]
              have HI := Lib.hid (And.intro hi0 (And.intro hz0 (And.intro hz1 hz2)))
              clear hi0 hz0 hz1 hz2
              go_wp2_with fail
              clear ca0 ca1 ca2
              go_quiet (fail)
              obtain ⟨hi0, hz0, hz1, hz2⟩ := HI.out
              go_wp2_with (at_builtin; go_must (refine K.append1 rfl (.tmp 42) (.tmp 44) _ rfl w.heap.size _ i0 _ 3 24 Try.underlying43 hi0 hz0 hz1 hz2 rfl (by omega) (some ⟨gb, 0, none⟩) (L1.length + 1) d _ rfl (by exact r1.out.drewN _) #[.int .i64 x, .int .i64 y, .int .i64 z] rfl (by simp [Value.oneCell']) (by simp [go_sem]) hj2 (by omega) (by exact (K.below_drewN q1.out _).size) ?_; intro g' c' w2 hrow1 hb1 _ _ _))
              go_roundw
              case rel => exact ⟨k + 1, L1.length + 2, some ⟨g', 0, none⟩, c', L1 ++ [⟨u, v, s⟩] ++ [⟨x, y, z⟩], by omega, Lib.hid (by rw [HST.out]; exact M.mgOne_new (by simp; omega)), Lib.hid (by simp), by go_num, rfl, Lib.hid (by rw [List.flatMap_append]; simpa [M.moveCells] using hrow1), Lib.hid ((K.below_drewN q1.out _).trans hb1)⟩
              case measure => simp [intOf]; omega
            · subst hu hv
              have hu2 : (u != u) = false := by simp
              have hv2 : (v != v) = false := by simp
              have hw : IntKind.i64.wrap (s + z) = s + z := IntWalk.i64_in _ (by omega)
              have hd := HROW.out.max
              have hd3 := K.Row.cap HROW.out
              go_wp2_with fail
              have HH := Lib.hid (And.intro h60 (And.intro h1 h2))
              clear ca0 ca1 ca2 hga h1 h2 hl h60 hi0 hz0 hz1 hz2
              go_quiet (fail)
              go_wp2_with fail
              go_region
              obtain ⟨h60, h1, h2⟩ := HH.out
              obtain ⟨W2, hW2⟩ : ∃ W2, W2 = ((wr.alloc (.cells #[.int .i64 u, .int .i64 v, .int .i64 z] 25)).drewN (nq + 1)).setCell ⟨gb, L1.length * 3 + 2, none⟩ (.int .i64 (s + z)) := ⟨_, rfl⟩
              have HROW2 := Lib.hid (show K.Row W2 w.heap.size 25 3 (some ⟨gb, 0, none⟩) (L1.length + 1) d ((L1 ++ [(⟨u, v, s + z⟩ : M.Move)]).flatMap M.moveCells) by rw [hW2]; have := ((r1.out.drewN (nq + 1)).set_ (L1.length * 3 + 2) (.int .i64 (s + z))).1; rw [lastSet] at this; exact this)
              have HB2 := Lib.hid (show Below w.heap.size w W2 by rw [hW2]; exact (K.below_drewN q1.out _).setCell (p := ⟨gb, L1.length * 3 + 2, none⟩) hg1 _)
              have hcw : W2.cell? ⟨gb, L1.length * 3 + 2, none⟩ = some (.int .i64 (s + z)) := by obtain ⟨gg, ee, _, _, _, _, _, x2⟩ := lastCells HROW2.out rfl; injection ee with ee; injection ee with ee; subst ee; exact x2
              rw [← hW2]
              clear hW2 hu2 hv2 hf d0 d1 d2
              cases c3 : M.inR (s + z) (-5) 5 with
              | false =>
                have c4 := M.inR_niff.1 c3
                have hR := Lib.hid (HNONE.out (k + 1) (by rw [HST.out]; exact M.mgOne_bad ⟨rfl, rfl⟩ (by simp only; omega) c3))
                go_wp2_with fail
                refine (Base.i_within _ _ _ _).mono ?_
                rintro e w3 ⟨rfl, rfl⟩
                rw [c3]
                go_wp2_with fail
                go_ret2
                rw [hR.out]
                exact ⟨none, 0, rfl, K.Row.nil _ _ _ _, HB2.out⟩
              | true =>
                have c4 := M.inR_iff.1 c3
                by_cases c2 : s + z = 0
                · have c5 : (s + z == 0) = true := by simp [c2]
                  have C2 := Lib.hid c2
                  clear c2
                  go_wp2_with fail
                  refine (Base.i_within _ _ _ _).mono ?_
                  rintro e w3 ⟨rfl, rfl⟩
                  rw [c3]
                  go_wp2_with fail
                  go_roundw
                  case rel => exact ⟨k + 1, L1.length, some ⟨gb, 0, none⟩, d, L1, by omega, Lib.hid (by rw [HST.out]; exact M.mgOne_zero ⟨rfl, rfl⟩ C2.out), Lib.hid rfl, by go_num, by first | rfl | simp, Lib.hid (by have := HROW2.out.cut L1.length (by omega); rw [lastTake] at this; exact this), HB2⟩
                  case measure => simp [intOf]; omega
                · have c5 : (s + z == 0) = false := by simp [c2]
                  go_wp2_with fail
                  refine (Base.i_within _ _ _ _).mono ?_
                  rintro e w3 ⟨rfl, rfl⟩
                  rw [c3]
                  go_wp2_with fail
                  go_roundw
                  case rel => exact ⟨k + 1, L1.length + 1, some ⟨gb, 0, none⟩, d, L1 ++ [⟨u, v, s + z⟩], by omega, Lib.hid (by rw [HST.out]; exact M.mgOne_add ⟨rfl, rfl⟩ c2 c3), Lib.hid (by simp), by go_num, rfl, HROW2, HB2⟩
                  case measure => simp [intOf]; omega
      · obtain rfl : k = l.length := by omega
        have hM := Lib.hid (HSOME.out L (by have := HM.out; rw [List.take_length] at this; exact this))
        have hn := HN.out
        subst hn
        go_wp2_with fail
        go_ret2
        rw [hM.out]
        exact ⟨B, d, rfl, HROW.out, HB.out⟩
end Go.Proofs.Ythlkdaogmcjlbaa.MoveW
