/-
  Walks: the moves between two frames, in the reference.
-/
import Derived.Test.YthlkdaogmcjlbaaMoveBI
set_option linter.unusedVariables false
namespace Go.Proofs.Ythlkdaogmcjlbaa.MoveBS
open Go.RowKit
set_option maxRecDepth 100000 in
set_option maxHeartbeats 8000000 in
theorem s_btw (u1 v1 u2 v2 : Int) (A B2 : Option Addr) (c c2 : Nat) (l l2 : List (Int × Int)) (w : World) (hl : l.length ≤ 8) (hl2 : l.length = l2.length) (hx : ∀ k (hk : k < l.length), (-10 ≤ l[k].1 ∧ l[k].1 ≤ 10) ∧ -10 ≤ l[k].2 ∧ l[k].2 ≤ 10) (hy : ∀ k (hk : k < l2.length), (-10 ≤ l2[k].1 ∧ l2[k].1 ≤ 10) ∧ -10 ≤ l2[k].2 ∧ l2[k].2 ≤ 10) (ha : K.Rd w 2 A l.length (l.flatMap M.rodCells)) (hb : K.Rd w 2 B2 l2.length (l2.flatMap M.rodCells)) :
    Calls Try.prog 101 #[.agg #[.int .i64 u1, .int .i64 v1, .slice A l.length c], .agg #[.int .i64 u2, .int .i64 v2, .slice B2 l2.length c2]] w (K.RetRow w 25 3 (M.btTo l l2 l.length).length ((M.btTo l l2 l.length).flatMap M.moveCells)) := by
  obtain ⟨i0, hi0, hz0, hz1, hz2⟩ := info_parts Moves.info
  obtain ⟨o1, ho1⟩ : ∃ o : Obj, o = .cells #[.int .i64 u1, .int .i64 v1, .slice A l.length c] 33 := ⟨_, rfl⟩
  obtain ⟨o2, ho2⟩ : ∃ o : Obj, o = .cells #[.int .i64 u2, .int .i64 v2, .slice B2 l2.length c2] 33 := ⟨_, rfl⟩
  obtain ⟨W0, hW0⟩ : ∃ W, W = (w.alloc o1).alloc o2 := ⟨_, rfl⟩
  have p1 : K.Box W0 w.heap.size [.int .i64 u1, .int .i64 v1, .slice A l.length c] := by have h := K.Box.new w #[.int .i64 u1, .int .i64 v1, .slice A l.length c] 33; rw [← ho1] at h; rw [hW0]; exact h.alloc o2
  have p2 : K.Box W0 (w.heap.size + 1) [.int .i64 u2, .int .i64 v2, .slice B2 l2.length c2] := by have h := K.Box.new (w.alloc o1) #[.int .i64 u2, .int .i64 v2, .slice B2 l2.length c2] 33; rw [World.size_alloc, ← ho2] at h; rw [hW0]; exact h
  have bb : Below w.heap.size w W0 := by rw [hW0]; exact ((Below.refl _ _).alloc (Nat.le_refl _) o1).alloc (by simp) o2
  have hs0 : W0.heap.size = w.heap.size + 1 + 1 := by rw [hW0]; simp
  have e1 : K.Row (W0.alloc (.cells #[] 25)) W0.heap.size 25 3 (some ⟨W0.heap.size, 0, none⟩) 0 0 [] := World.ownsRow_made W0 #[] 0 (Nat.le_refl _) (Nat.zero_le _) rfl
  rw [hs0] at e1
  replace p1 := p1.alloc (.cells #[] 25)
  replace p2 := p2.alloc (.cells #[] 25)
  replace bb := bb.alloc bb.size (.cells #[] 25)
  have hsz : w.heap.size + 1 + 1 ≤ (W0.alloc (.cells #[] 25)).heap.size := by rw [World.size_alloc, hs0]; omega
  subst hW0 ho1 ho2
  have HT := Lib.hid (fun k h h2 => M.btTo_succ l l2 k h h2)
  have HTL := Lib.hid (fun k => M.btTo_len l l2 k)
  have hl3 : l.length ≤ l2.length := by omega
  have hl4 : l2.length ≤ l.length := by omega
  clear hl2 hs0
  obtain ⟨q0, q1, q2⟩ := p1.c3
  go_enter Try.func101, Try.ntmps101
  go_wp2_with fail
  clear q0 q1 q2
  go_loopw [6, 5] (fun i o wr => ∃ (k n : Nat) (B : Option Addr) (d : Nat), k ≤ l.length ∧ Hid ((M.btTo l l2 k).length = n) ∧ i = .int .i64 (k : Int) ∧ o = .slice B n d ∧ Hid (K.Row wr (w.heap.size + 1 + 1) 25 3 B n d ((M.btTo l l2 k).flatMap M.moveCells)) ∧ Hid (Below w.heap.size w wr) ∧ Hid (K.Box wr w.heap.size [.int .i64 u1, .int .i64 v1, .slice A l.length c]) ∧ Hid (K.Box wr (w.heap.size + 1) [.int .i64 u2, .int .i64 v2, .slice B2 l2.length c2]) ∧ w.heap.size + 1 + 1 ≤ wr.heap.size) (fun i _ _ => l.length - (intOf i).toNat)
  case atStart => exact ⟨0, 0, _, 0, Nat.zero_le _, Lib.hid rfl, rfl, by first | rfl | simp, Lib.hid (by first | exact e1 | simpa using e1), Lib.hid bb, Lib.hid p1, Lib.hid p2, hsz⟩
  case round =>
    clear e1 bb p1 p2 hsz
    obtain ⟨k, n, B, d, hk, HN, rfl, rfl, HROW, HB, HP1, HP2, hsz⟩ := hrel
    obtain ⟨q0, q1, q2⟩ := HP1.out.c3
    have qg := HP1.out.1
    by_cases hlt : k < l.length
    · have hlt2 : k < l2.length := by omega
      have h1 : (k : Int) < (l.length : Int) := by omega
      have h2 : (0 : Int) ≤ (k : Int) := by omega
      have h3 : (k : Int) < (l2.length : Int) := by omega
      have hn16 : n ≤ 16 := by have := HTL.out k; rw [HN.out] at this; omega
      go_wp2_with fail
      clear q0 q1 q2 qg
      obtain ⟨ga, oa, rfl, hga, ca0, ca1⟩ := ha.rod hlt
      obtain ⟨gb, ob, rfl, hgb, cb0, cb1⟩ := hb.rod hlt2
      have HS := Lib.hid (HT.out k hlt hlt2)
      obtain ⟨⟨x1, x2⟩, x3, x4⟩ := hx k hlt
      obtain ⟨⟨y1, y2⟩, y3, y4⟩ := hy k hlt2
      have HE1 : Hid (M.btOne (k : Int) l[k] l2[k] = M.btPart (k : Int) 0 l[k].1 l2[k].1 ++ M.btPart (k : Int) 1 l[k].2 l2[k].2) := Lib.hid rfl
      rw [HE1.out] at HS
      clear hx hy HE1
      generalize l[k].1 = xa at *
      generalize l[k].2 = xb at *
      generalize l2[k].1 = ya at *
      generalize l2[k].2 = yb at *
      generalize M.btTo l l2 k = L0 at *
      go_loopw [7, 5] (fun j o wr => ∃ (n2 : Nat) (B3 : Option Addr) (d3 : Nat) (L : List M.Move), Hid ((j = .int .i64 0 ∧ L = L0) ∨ (j = .int .i64 1 ∧ L = L0 ++ M.btPart (k : Int) 0 xa ya) ∨ (j = .int .i64 2 ∧ L = M.btTo l l2 (k + 1))) ∧ Hid (L.length = n2) ∧ o = .slice B3 n2 d3 ∧ Hid (K.Row wr (w.heap.size + 1 + 1) 25 3 B3 n2 d3 (L.flatMap M.moveCells)) ∧ Hid (Below w.heap.size w wr) ∧ Hid (K.Box wr w.heap.size [.int .i64 u1, .int .i64 v1, .slice (some ⟨ga, oa, none⟩) l.length c]) ∧ Hid (K.Box wr (w.heap.size + 1) [.int .i64 u2, .int .i64 v2, .slice (some ⟨gb, ob, none⟩) l2.length c2]) ∧ w.heap.size + 1 + 1 ≤ wr.heap.size) (fun j _ _ => 2 - (intOf j).toNat)
      case atStart => exact ⟨n, B, d, L0, Lib.hid (.inl ⟨rfl, rfl⟩), HN, rfl, HROW, HB, HP1, HP2, hsz⟩
      case round =>
        clear HROW HB HP1 HP2 hsz
        obtain ⟨n2, B3, d3, L, HC, HN2, rfl, HROW, HB, HP1, HP2, hsz⟩ := hrel
        rcases HC.out with ⟨rfl, hL⟩ | ⟨rfl, hL⟩ | ⟨rfl, hL⟩
        · clear HC
          have hn1 : n2 ≤ 17 := by rw [← HN2.out, hL]; have := HN.out; omega
          have HL := Lib.hid hL
          clear hL HN
          obtain ⟨u0, u1, u2⟩ := HP1.out.c3
          obtain ⟨v0, v1, v2⟩ := HP2.out.c3
          have g1 := HP1.out.1
          have g2 := HP2.out.1
          have a5 := ((K.At.of (p := ⟨ga, oa + k * 2, none⟩) hga ca0).low HB.out hga).cell
          have b5 := ((K.At.of (p := ⟨gb, ob + k * 2, none⟩) hgb cb0).low HB.out hgb).cell
          have sb : IntKind.i64.wrap (ya - xa) = ya - xa := IntWalk.i64_in _ (by omega)
          by_cases hz : ya - xa = 0
          · have hne : (ya - xa != 0) = false := by simp [hz]
            go_wp2_with fail
            go_quiet (fail)
            go_wp2_with fail
            go_roundw
            case rel => exact ⟨n2, B3, d3, L, Lib.hid (.inr (.inl ⟨by go_num, by rw [HL.out, M.btPart_zero hz, List.append_nil]⟩)), HN2, rfl, by first | exact Lib.hid (HROW.out.drewN _) | exact HROW, by first | exact Lib.hid (K.below_drewN HB.out _) | exact HB, by first | exact Lib.hid (HP1.out.drewN _) | exact HP1, by first | exact Lib.hid (HP2.out.drewN _) | exact HP2, by first | exact hsz | simpa using hsz⟩
            case measure => simp [intOf]
          · have hne : (ya - xa != 0) = true := by simp [hz]
            have hj2 : n2 + 1 ≤ maxLen := by simp only [maxLen]; omega
            go_wp2_with fail
            go_quiet (fail)
            go_wp2_with (at_builtin; go_must (refine K.append1 rfl (.tmp 38) (.tmp 43) _ rfl (w.heap.size + 1 + 1) _ i0 _ 3 24 Try.underlying43 hi0 hz0 hz1 hz2 rfl (by omega) B3 n2 d3 _ rfl (by exact HROW.out.drewN _) #[.int .i64 (k : Int), .int .i64 0, .int .i64 (ya - xa)] rfl (by simp [Value.oneCell']) (by simp [go_sem]) hj2 (by omega) (by simp; omega) ?_; intro g' c' w2 hrow1 hb1 _ _ _))
            go_roundw
            case rel => exact ⟨n2 + 1, some ⟨g', 0, none⟩, c', L ++ [⟨(k : Int), 0, ya - xa⟩], Lib.hid (.inr (.inl ⟨by go_num, by rw [HL.out, M.btPart_ne hz]⟩)), Lib.hid (by rw [List.length_append, HN2.out]; rfl), rfl, Lib.hid (by rw [List.flatMap_append]; simpa [M.moveCells] using hrow1), Lib.hid ((K.below_drewN HB.out _).trans (hb1.mono (by omega))), Lib.hid ((HP1.out.drewN _).low hb1 (by omega)), Lib.hid ((HP2.out.drewN _).low hb1 (by omega)), by have := hb1.size; simp at this; omega⟩
            case measure => simp [intOf]
        · clear HC
          have hn1 : n2 ≤ 17 := by rw [← HN2.out, hL]; have := HN.out; have := M.btPart_len (k : Int) 0 xa ya; rw [List.length_append]; omega
          have HL := Lib.hid hL
          clear hL HN
          obtain ⟨u0, u1, u2⟩ := HP1.out.c3
          obtain ⟨v0, v1, v2⟩ := HP2.out.c3
          have g1 := HP1.out.1
          have g2 := HP2.out.1
          have a5 := ((K.At.of (p := ⟨ga, oa + k * 2 + 1, none⟩) hga ca1).low HB.out hga).cell
          have b5 := ((K.At.of (p := ⟨gb, ob + k * 2 + 1, none⟩) hgb cb1).low HB.out hgb).cell
          have sb : IntKind.i64.wrap (yb - xb) = yb - xb := IntWalk.i64_in _ (by omega)
          by_cases hz : yb - xb = 0
          · have hne : (yb - xb != 0) = false := by simp [hz]
            go_wp2_with fail
            go_quiet (fail)
            go_wp2_with fail
            go_roundw
            case rel => exact ⟨n2, B3, d3, L, Lib.hid (.inr (.inr ⟨by go_num, by rw [HL.out, HS.out, M.btPart_zero hz, List.append_nil]⟩)), HN2, rfl, by first | exact Lib.hid (HROW.out.drewN _) | exact HROW, by first | exact Lib.hid (K.below_drewN HB.out _) | exact HB, by first | exact Lib.hid (HP1.out.drewN _) | exact HP1, by first | exact Lib.hid (HP2.out.drewN _) | exact HP2, by first | exact hsz | simpa using hsz⟩
            case measure => simp [intOf]
          · have hne : (yb - xb != 0) = true := by simp [hz]
            have hj2 : n2 + 1 ≤ maxLen := by simp only [maxLen]; omega
            go_wp2_with fail
            go_quiet (fail)
            go_wp2_with (at_builtin; go_must (refine K.append1 rfl (.tmp 38) (.tmp 43) _ rfl (w.heap.size + 1 + 1) _ i0 _ 3 24 Try.underlying43 hi0 hz0 hz1 hz2 rfl (by omega) B3 n2 d3 _ rfl (by exact HROW.out.drewN _) #[.int .i64 (k : Int), .int .i64 1, .int .i64 (yb - xb)] rfl (by simp [Value.oneCell']) (by simp [go_sem]) hj2 (by omega) (by simp; omega) ?_; intro g' c' w2 hrow1 hb1 _ _ _))
            go_roundw
            case rel => exact ⟨n2 + 1, some ⟨g', 0, none⟩, c', L ++ [⟨(k : Int), 1, yb - xb⟩], Lib.hid (.inr (.inr ⟨by go_num, by rw [HL.out, HS.out, M.btPart_ne hz, List.append_assoc]⟩)), Lib.hid (by rw [List.length_append, HN2.out]; rfl), rfl, Lib.hid (by rw [List.flatMap_append]; simpa [M.moveCells] using hrow1), Lib.hid ((K.below_drewN HB.out _).trans (hb1.mono (by omega))), Lib.hid ((HP1.out.drewN _).low hb1 (by omega)), Lib.hid ((HP2.out.drewN _).low hb1 (by omega)), by have := hb1.size; simp at this; omega⟩
            case measure => simp [intOf]
        · clear HC
          have HL := Lib.hid hL
          clear hL
          go_wp2_with fail
          go_roundw
          case rel => exact ⟨k + 1, n2, B3, d3, by omega, Lib.hid (by rw [← HL.out]; exact HN2.out), by go_num, rfl, Lib.hid (by rw [← HL.out]; exact HROW.out), HB, HP1, HP2, hsz⟩
          case measure => simp [intOf]; omega
    · obtain rfl : k = l.length := by omega
      have hn := HN.out
      generalize M.btTo l l2 l.length = RR at *
      subst hn
      go_wp2_with fail
      go_ret
      exact ⟨B, d, rfl, HROW.out.more (by omega), HB.out⟩
end Go.Proofs.Ythlkdaogmcjlbaa.MoveBS
