/-
  Walks: reading moves, in the program and in the reference.
-/
import Derived.Test.YthlkdaogmcjlbaaMoveP
import Derived.Test.YthlkdaogmcjlbaaMoveU
import Derived.Test.YthlkdaogmcjlbaaSplit
import Derived.Test.YthlkdaogmcjlbaaMoves
import Derived.Deep.DeepCutAuto
set_option linter.unusedVariables false
namespace Go.Proofs.Ythlkdaogmcjlbaa.M
theorem dec_take (ws : List ByteArray) (k : Nat) (h : k < ws.length) : (ws.take (k + 1)).map readWord = (ws.take k).map readWord ++ [readWord ws[k]] := by
  rw [List.take_succ_eq_append_getElem h, List.map_append]; rfl
theorem part_le2 (sep : ByteArray) (l : List ByteArray) : ∀ x ∈ l, x.size ≤ (M.jn sep l).size := by
  intro x hx
  obtain ⟨k, hk, rfl⟩ := List.getElem_of_mem hx
  have h1 := M.jn_le sep l (k + 1) (by omega)
  have h2 := M.jn_take sep l k hk
  by_cases h0 : k = 0
  · rw [if_pos h0] at h2; rw [h2, ByteArray.size_append] at h1; omega
  · rw [if_neg h0] at h2; rw [h2, ByteArray.size_append] at h1; omega
theorem str_nil {s : ByteArray} (h : s.size = 0) : (s.toList == ([] : List UInt8)) = true := by
  have e : s = ByteArray.empty := by
    apply toList_inj
    have : s.data.toList.length = 0 := by simpa using h
    rw [List.eq_nil_of_length_eq_zero this]; rfl
  subst e
  simp
theorem str_full {s : ByteArray} (h : ¬ s.size = 0) : (s.toList == ([] : List UInt8)) = false := by
  have e := str_ne (a := s) (b := ByteArray.empty) (fun e => h (by rw [e]; rfl))
  simpa using e
end Go.Proofs.Ythlkdaogmcjlbaa.M
namespace Go.Proofs.Ythlkdaogmcjlbaa.MoveQ
open Go.RowKit
theorem row_made (w : World) (lo : Nat) (h : lo ≤ w.heap.size) : K.Row (w.alloc (.cells #[] 25)) lo 25 3 (some ⟨w.heap.size, 0, none⟩) 0 0 [] := by
  have h0 : K.Row (w.alloc (.cells #[] 25)) w.heap.size 25 3 (some ⟨w.heap.size, 0, none⟩) 0 0 [] := World.ownsRow_made w #[] 0 (Nat.le_refl _) (Nat.zero_le _) rfl
  exact h0.more h
set_option maxRecDepth 100000 in
set_option maxHeartbeats 4000000 in
theorem i_parse (s : ByteArray) (w : World) (hs : s.size ≤ 1048576) :
    Calls Try.prog 36 #[.string s] w (K.RetRowB w 25 3 (M.parseMv s).1.length ((M.parseMv s).1.flatMap M.moveCells) (M.parseMv s).2) := by
  obtain ⟨i0, hi0, hz0, hz1, hz2⟩ := info_parts Moves.info
  by_cases hz : s.size = 0
  · rw [M.parseMv_zero hz]
    have te := M.str_nil hz
    go_enter Try.func36, Try.ntmps36
    go_wp2_with fail
    go_ret2
    exact ⟨none, 0, rfl, K.Row.nil _ _ _ _, Below.refl _ _⟩
  have te := M.str_full hz
  by_cases hb : 300 < s.size
  · rw [M.parseMv_long hb]
    have tl : decide ((300 : Int) < (s.size : Int)) = true := decide_eq_true (by omega)
    go_enter Try.func36, Try.ntmps36
    go_wp2_with fail
    go_ret2
    exact ⟨none, 0, rfl, K.Row.nil _ _ _ _, Below.refl _ _⟩
  have tl : decide ((300 : Int) < (s.size : Int)) = false := decide_eq_false (by omega)
  have HW := Lib.hid (fun k h h4 => M.parseMv_word hz (k := k) h h4)
  have HY := Lib.hid (fun h h1 => M.parseMv_yes hz h h1)
  have HN := Lib.hid (fun h => M.parseMv_no hz h)
  have HD : Hid (M.decMoves s = (M.spl s 32).map M.readWord) := Lib.hid rfl
  have HSP := Lib.hid (fun w => Spl.i_split s 32 w hs)
  have hwl := M.spl_le s 32
  rw [HD.out] at HY HN
  clear HD
  generalize M.parseMv s = RR at *
  generalize M.spl s 32 = ws at *
  have hwn : ws.length ≤ 301 := by omega
  clear hwl hb hz
  go_enter Try.func36, Try.ntmps36
  go_wp2_with fail
  refine (HSP.out _).mono ?_
  rintro e w1 ⟨A1, c1, rfl, q1, b1⟩
  have Q1 := Lib.hid q1
  have B1 := Lib.hid b1
  have e1 := K.Row.nil w1 w1.heap.size 25 3
  clear q1 b1 HSP
  go_wp2_with fail
  go_loopw [4, 16] (fun o i wr => ∃ (k : Nat) (B : Option Addr) (d : Nat), k ≤ ws.length ∧ i = .int .i64 (k : Int) ∧ o = .slice B k d ∧ Hid (K.Row wr w1.heap.size 25 3 B k d (((ws.take k).map M.readWord).flatMap M.moveCells)) ∧ Hid (Below w1.heap.size w1 wr)) (fun _ i _ => ws.length - (intOf i).toNat)
  case atStart => exact ⟨0, none, 0, Nat.zero_le _, rfl, rfl, Lib.hid e1, Lib.hid (Below.refl _ _)⟩
  case round =>
    clear e1
    obtain ⟨k, B, d, hk, rfl, rfl, HROW, HB⟩ := hrel
    have hbs := HB.out.size
    by_cases hlt : k < ws.length
    · obtain ⟨g, o, rfl, hc⟩ := (Q1.out.rd.below HB.out).str hlt
      have h1 : (k : Int) < (ws.length : Int) := by omega
      have h2 : (0 : Int) ≤ (k : Int) := by omega
      have HWK := Lib.hid (fun h4 => HW.out k hlt h4)
      have HT := Lib.hid (M.dec_take ws k hlt)
      generalize ws[k] = x at *
      by_cases h4 : x.size = 4
      rotate_left
      · have HE := Lib.hid (HWK.out h4)
        have hne : ((x.size : Int) != 4) = true := by rw [bne_iff_ne]; omega
        go_wp2_with fail
        go_ret2
        rw [HE.out]
        exact ⟨none, 0, rfl, K.Row.nil _ _ _ _, B1.out.trans (HB.out.mono B1.out.size)⟩
      have x0 : 0 < x.size := by omega
      have x1 : 1 < x.size := by omega
      have x2 : 2 < x.size := by omega
      have x3 : 3 < x.size := by omega
      have HR := Lib.hid (M.readWord_yes h4 x0 x1 x2 x3)
      have k1 : (1 : Int) < (x.size : Int) := by omega
      have k2 : (2 : Int) < (x.size : Int) := by omega
      have k3 : (3 : Int) < (x.size : Int) := by omega
      have hne : ((x.size : Int) != 4) = false := by rw [h4]; rfl
      clear h4 HWK
      obtain ⟨a0, a1⟩ := M.u8_bd x[0]
      obtain ⟨d0, d1⟩ := M.u8_bd x[3]
      have sa : IntKind.i64.wrap ((x[0].toNat : Int) - 48) = (x[0].toNat : Int) - 48 := IntWalk.i64_in _ (by omega)
      have sd : IntKind.i64.wrap ((x[3].toNat : Int) - 48) = (x[3].toNat : Int) - 48 := IntWalk.i64_in _ (by omega)
      have hj2 : k + 1 ≤ maxLen := by simp only [maxLen]; omega
      by_cases hb : (x[1].toNat : Int) = 108
      · have t1 : ((x[1].toNat : Int) == 108) = true := by simp [hb]
        have HBB := Lib.hid hb
        clear hb
        by_cases hc2 : (x[2].toNat : Int) = 45
        · have t2 : ((x[2].toNat : Int) == 45) = true := by simp [hc2]
          have HC2 := Lib.hid hc2
          clear hc2
          have HM : Hid (M.readWord x = ⟨(x[0].toNat : Int) - 48, 1, -((x[3].toNat : Int) - 48)⟩) := Lib.hid (by have h1 := HBB.out; have h2 := HC2.out; rw [HR.out]; simp [M.rdMv, h1, h2])
          obtain ⟨W0, hW0⟩ : ∃ X, X = (wr.alloc (.cells #[.int .i64 ((x[0].toNat : Int) - 48), .int .i64 1, .int .i64 (-((x[3].toNat : Int) - 48))] 25)).drew := ⟨_, rfl⟩
          have r5 : K.Row W0 w1.heap.size 25 3 B k d (((ws.take k).map M.readWord).flatMap M.moveCells) := by rw [hW0]; exact HROW.out.alloc (.cells #[.int .i64 ((x[0].toNat : Int) - 48), .int .i64 1, .int .i64 (-((x[3].toNat : Int) - 48))] 25)
          have b5 : Below w1.heap.size w1 W0 := by rw [hW0]; exact (HB.out.alloc hbs (.cells #[.int .i64 ((x[0].toNat : Int) - 48), .int .i64 1, .int .i64 (-((x[3].toNat : Int) - 48))] 25)).drew
          have pw : K.Own W0 wr.heap.size [.int .i64 ((x[0].toNat : Int) - 48), .int .i64 1, .int .i64 (-((x[3].toNat : Int) - 48))] := by rw [hW0]; exact K.Own.new wr #[.int .i64 ((x[0].toNat : Int) - 48), .int .i64 1, .int .i64 (-((x[3].toNat : Int) - 48))] 25
          have R5 := Lib.hid r5
          have B5 := Lib.hid b5
          have hws := b5.size
          obtain ⟨pw0, pw1, pw2⟩ := pw.1.c3
          have pwl := pw.1.1
          clear r5 b5 pw
          go_wp2_with fail
          go_region
          go_upto_region 16 with fail
          rw [← hW0]
          clear hW0
          go_wp2_with (at_builtin; go_must (refine K.append1 rfl (.tmp 43) (.tmp 45) _ rfl w1.heap.size _ i0 _ 3 24 Try.underlying43 hi0 hz0 hz1 hz2 rfl (by omega) B k d _ rfl R5.out #[.int .i64 ((x[0].toNat : Int) - 48), .int .i64 1, .int .i64 (-((x[3].toNat : Int) - 48))] rfl (by simp [Value.oneCell']) (by simp [go_sem]) hj2 (by omega) hws ?_; intro g' c' w2 hrow1 hb1 _ _ _))
          go_roundw
          case rel => exact ⟨k + 1, some ⟨g', 0, none⟩, c', by omega, by go_num, rfl, Lib.hid (by rw [HT.out, List.flatMap_append]; simpa [M.moveCells, HM.out] using hrow1), Lib.hid (B5.out.trans hb1)⟩
          case measure => simp [intOf]; omega
        · have t2 : ((x[2].toNat : Int) == 45) = false := by simp [hc2]
          have HC2 := Lib.hid hc2
          clear hc2
          have HM : Hid (M.readWord x = ⟨(x[0].toNat : Int) - 48, 1, (x[3].toNat : Int) - 48⟩) := Lib.hid (by have h1 := HBB.out; have h2 := HC2.out; rw [HR.out]; simp [M.rdMv, h1, h2])
          obtain ⟨W0, hW0⟩ : ∃ X, X = (wr.alloc (.cells #[.int .i64 ((x[0].toNat : Int) - 48), .int .i64 1, .int .i64 ((x[3].toNat : Int) - 48)] 25)).drew := ⟨_, rfl⟩
          have r5 : K.Row W0 w1.heap.size 25 3 B k d (((ws.take k).map M.readWord).flatMap M.moveCells) := by rw [hW0]; exact HROW.out.alloc (.cells #[.int .i64 ((x[0].toNat : Int) - 48), .int .i64 1, .int .i64 ((x[3].toNat : Int) - 48)] 25)
          have b5 : Below w1.heap.size w1 W0 := by rw [hW0]; exact (HB.out.alloc hbs (.cells #[.int .i64 ((x[0].toNat : Int) - 48), .int .i64 1, .int .i64 ((x[3].toNat : Int) - 48)] 25)).drew
          have pw : K.Own W0 wr.heap.size [.int .i64 ((x[0].toNat : Int) - 48), .int .i64 1, .int .i64 ((x[3].toNat : Int) - 48)] := by rw [hW0]; exact K.Own.new wr #[.int .i64 ((x[0].toNat : Int) - 48), .int .i64 1, .int .i64 ((x[3].toNat : Int) - 48)] 25
          have R5 := Lib.hid r5
          have B5 := Lib.hid b5
          have hws := b5.size
          obtain ⟨pw0, pw1, pw2⟩ := pw.1.c3
          have pwl := pw.1.1
          clear r5 b5 pw
          go_wp2_with fail
          go_region
          go_upto_region 16 with fail
          rw [← hW0]
          clear hW0
          go_wp2_with (at_builtin; go_must (refine K.append1 rfl (.tmp 43) (.tmp 45) _ rfl w1.heap.size _ i0 _ 3 24 Try.underlying43 hi0 hz0 hz1 hz2 rfl (by omega) B k d _ rfl R5.out #[.int .i64 ((x[0].toNat : Int) - 48), .int .i64 1, .int .i64 ((x[3].toNat : Int) - 48)] rfl (by simp [Value.oneCell']) (by simp [go_sem]) hj2 (by omega) hws ?_; intro g' c' w2 hrow1 hb1 _ _ _))
          go_roundw
          case rel => exact ⟨k + 1, some ⟨g', 0, none⟩, c', by omega, by go_num, rfl, Lib.hid (by rw [HT.out, List.flatMap_append]; simpa [M.moveCells, HM.out] using hrow1), Lib.hid (B5.out.trans hb1)⟩
          case measure => simp [intOf]; omega
      · have t1 : ((x[1].toNat : Int) == 108) = false := by simp [hb]
        have HBB := Lib.hid hb
        clear hb
        by_cases hc2 : (x[2].toNat : Int) = 45
        · have t2 : ((x[2].toNat : Int) == 45) = true := by simp [hc2]
          have HC2 := Lib.hid hc2
          clear hc2
          have HM : Hid (M.readWord x = ⟨(x[0].toNat : Int) - 48, 0, -((x[3].toNat : Int) - 48)⟩) := Lib.hid (by have h1 := HBB.out; have h2 := HC2.out; rw [HR.out]; simp [M.rdMv, h1, h2])
          obtain ⟨W0, hW0⟩ : ∃ X, X = (wr.alloc (.cells #[.int .i64 ((x[0].toNat : Int) - 48), .int .i64 0, .int .i64 (-((x[3].toNat : Int) - 48))] 25)).drew := ⟨_, rfl⟩
          have r5 : K.Row W0 w1.heap.size 25 3 B k d (((ws.take k).map M.readWord).flatMap M.moveCells) := by rw [hW0]; exact HROW.out.alloc (.cells #[.int .i64 ((x[0].toNat : Int) - 48), .int .i64 0, .int .i64 (-((x[3].toNat : Int) - 48))] 25)
          have b5 : Below w1.heap.size w1 W0 := by rw [hW0]; exact (HB.out.alloc hbs (.cells #[.int .i64 ((x[0].toNat : Int) - 48), .int .i64 0, .int .i64 (-((x[3].toNat : Int) - 48))] 25)).drew
          have pw : K.Own W0 wr.heap.size [.int .i64 ((x[0].toNat : Int) - 48), .int .i64 0, .int .i64 (-((x[3].toNat : Int) - 48))] := by rw [hW0]; exact K.Own.new wr #[.int .i64 ((x[0].toNat : Int) - 48), .int .i64 0, .int .i64 (-((x[3].toNat : Int) - 48))] 25
          have R5 := Lib.hid r5
          have B5 := Lib.hid b5
          have hws := b5.size
          obtain ⟨pw0, pw1, pw2⟩ := pw.1.c3
          have pwl := pw.1.1
          clear r5 b5 pw
          go_wp2_with fail
          go_region
          go_upto_region 16 with fail
          rw [← hW0]
          clear hW0
          go_wp2_with (at_builtin; go_must (refine K.append1 rfl (.tmp 43) (.tmp 45) _ rfl w1.heap.size _ i0 _ 3 24 Try.underlying43 hi0 hz0 hz1 hz2 rfl (by omega) B k d _ rfl R5.out #[.int .i64 ((x[0].toNat : Int) - 48), .int .i64 0, .int .i64 (-((x[3].toNat : Int) - 48))] rfl (by simp [Value.oneCell']) (by simp [go_sem]) hj2 (by omega) hws ?_; intro g' c' w2 hrow1 hb1 _ _ _))
          go_roundw
          case rel => exact ⟨k + 1, some ⟨g', 0, none⟩, c', by omega, by go_num, rfl, Lib.hid (by rw [HT.out, List.flatMap_append]; simpa [M.moveCells, HM.out] using hrow1), Lib.hid (B5.out.trans hb1)⟩
          case measure => simp [intOf]; omega
        · have t2 : ((x[2].toNat : Int) == 45) = false := by simp [hc2]
          have HC2 := Lib.hid hc2
          clear hc2
          have HM : Hid (M.readWord x = ⟨(x[0].toNat : Int) - 48, 0, (x[3].toNat : Int) - 48⟩) := Lib.hid (by have h1 := HBB.out; have h2 := HC2.out; rw [HR.out]; simp [M.rdMv, h1, h2])
          obtain ⟨W0, hW0⟩ : ∃ X, X = (wr.alloc (.cells #[.int .i64 ((x[0].toNat : Int) - 48), .int .i64 0, .int .i64 ((x[3].toNat : Int) - 48)] 25)).drew := ⟨_, rfl⟩
          have r5 : K.Row W0 w1.heap.size 25 3 B k d (((ws.take k).map M.readWord).flatMap M.moveCells) := by rw [hW0]; exact HROW.out.alloc (.cells #[.int .i64 ((x[0].toNat : Int) - 48), .int .i64 0, .int .i64 ((x[3].toNat : Int) - 48)] 25)
          have b5 : Below w1.heap.size w1 W0 := by rw [hW0]; exact (HB.out.alloc hbs (.cells #[.int .i64 ((x[0].toNat : Int) - 48), .int .i64 0, .int .i64 ((x[3].toNat : Int) - 48)] 25)).drew
          have pw : K.Own W0 wr.heap.size [.int .i64 ((x[0].toNat : Int) - 48), .int .i64 0, .int .i64 ((x[3].toNat : Int) - 48)] := by rw [hW0]; exact K.Own.new wr #[.int .i64 ((x[0].toNat : Int) - 48), .int .i64 0, .int .i64 ((x[3].toNat : Int) - 48)] 25
          have R5 := Lib.hid r5
          have B5 := Lib.hid b5
          have hws := b5.size
          obtain ⟨pw0, pw1, pw2⟩ := pw.1.c3
          have pwl := pw.1.1
          clear r5 b5 pw
          go_wp2_with fail
          go_region
          go_upto_region 16 with fail
          rw [← hW0]
          clear hW0
          go_wp2_with (at_builtin; go_must (refine K.append1 rfl (.tmp 43) (.tmp 45) _ rfl w1.heap.size _ i0 _ 3 24 Try.underlying43 hi0 hz0 hz1 hz2 rfl (by omega) B k d _ rfl R5.out #[.int .i64 ((x[0].toNat : Int) - 48), .int .i64 0, .int .i64 ((x[3].toNat : Int) - 48)] rfl (by simp [Value.oneCell']) (by simp [go_sem]) hj2 (by omega) hws ?_; intro g' c' w2 hrow1 hb1 _ _ _))
          go_roundw
          case rel => exact ⟨k + 1, some ⟨g', 0, none⟩, c', by omega, by go_num, rfl, Lib.hid (by rw [HT.out, List.flatMap_append]; simpa [M.moveCells, HM.out] using hrow1), Lib.hid (B5.out.trans hb1)⟩
          case measure => simp [intOf]; omega
    · obtain rfl : k = ws.length := by omega
      rw [List.take_of_length_le (Nat.le_refl _)] at HROW
      have HLN : Hid ((ws.map M.readWord).length = ws.length) := Lib.hid (by simp)
      generalize ws.map M.readWord = L at *
      have hLn : L.length ≤ 1048576 := by rw [HLN.out]; omega
      have HG := Lib.hid (fun w h => MoveF.i_good B d L w hLn h)
      rw [HLN.out] at HG
      cases hok : M.movesOk L with
      | false =>
        have HE := Lib.hid (HN.out (fun h => by rw [hok] at h; exact absurd h.1 (by simp)))
        rw [hok] at HG
        clear hok HN HY
        go_wp2_with fail
        refine (HG.out _ (by first | exact HROW.out.rd | simpa using HROW.out.rd)).mono ?_
        rintro e w3 ⟨rfl, b3⟩
        go_wp2_with fail
        go_ret2
        rw [HE.out]
        exact ⟨none, 0, rfl, K.Row.nil _ _ _ _, B1.out.trans ((HB.out.trans (b3.mono hbs)).mono B1.out.size)⟩
      | true =>
        obtain ⟨h60, hall⟩ := (M.movesOk_iff L).1 hok
        have HTX := Lib.hid (fun w h => MoveT.i_txt B d L w h60 hall h)
        rw [HLN.out] at HTX
        by_cases hq : M.movesTxt L = s
        · have HE := Lib.hid (HY.out hok hq)
          have tq := M.str_eq hq
          rw [hok] at HG
          clear hok HN HY hq
          generalize M.movesTxt L = S2 at *
          go_wp2_with fail
          refine (HG.out _ HROW.out.rd).mono ?_
          rintro e w3 ⟨rfl, b3⟩
          go_wp2_with fail
          refine (HTX.out _ (HROW.out.rd.below b3)).mono ?_
          rintro e w4 ⟨rfl, b4⟩
          have b5 := HB.out.trans ((b3.trans (b4.mono b3.size)).mono hbs)
          go_wp2_with fail
          go_ret2
          rw [HE.out]
          have hx := (HROW.out.below (b3.trans (b4.mono b3.size))).more B1.out.size
          rw [← HLN.out] at hx
          exact ⟨B, d, by rw [← HLN.out]; rfl, hx, B1.out.trans (b5.mono B1.out.size)⟩
        · have HE := Lib.hid (HN.out (fun h => hq h.2))
          have tq := M.str_ne hq
          rw [hok] at HG
          clear hok HN HY hq
          generalize M.movesTxt L = S2 at *
          go_wp2_with fail
          refine (HG.out _ HROW.out.rd).mono ?_
          rintro e w3 ⟨rfl, b3⟩
          go_wp2_with fail
          refine (HTX.out _ (HROW.out.rd.below b3)).mono ?_
          rintro e w4 ⟨rfl, b4⟩
          have b5 := HB.out.trans ((b3.trans (b4.mono b3.size)).mono hbs)
          go_wp2_with fail
          go_ret2
          rw [HE.out]
          exact ⟨none, 0, rfl, K.Row.nil _ _ _ _, B1.out.trans (b5.mono B1.out.size)⟩
set_option maxRecDepth 100000 in
set_option maxHeartbeats 4000000 in
theorem s_parse (s : ByteArray) (w : World) (hs : s.size ≤ 1048576) :
    Calls Try.prog 40 #[.string s] w (K.RetRowB w 25 3 (M.parseMv s).1.length ((M.parseMv s).1.flatMap M.moveCells) (M.parseMv s).2) := by
  obtain ⟨i0, hi0, hz0, hz1, hz2⟩ := info_parts Moves.info
  have e0 : K.Row (w.alloc (.cells #[] 25)) w.heap.size 25 3 (some ⟨w.heap.size, 0, none⟩) 0 0 [] := World.ownsRow_made w #[] 0 (Nat.le_refl _) (Nat.zero_le _) rfl
  have b0 : Below w.heap.size w (w.alloc (.cells #[] 25)) := (Below.refl _ _).alloc (Nat.le_refl _) _
  have hs0 : (w.alloc (.cells #[] 25)).heap.size = w.heap.size + 1 := World.size_alloc _ _
  by_cases hz : s.size = 0
  · rw [M.parseMv_zero hz]
    have te := M.str_nil hz
    go_enter Try.func40, Try.ntmps40
    go_wp2_with fail
    go_ret2
    exact ⟨some ⟨w.heap.size, 0, none⟩, 0, rfl, e0, b0⟩
  have te := M.str_full hz
  have HY := Lib.hid (fun h h1 => M.parseMv_yes hz h h1)
  have HN := Lib.hid (fun h => M.parseMv_no hz h)
  have HD : Hid (M.decMoves s = (M.spl s 32).map M.readWord) := Lib.hid rfl
  have HSP := Lib.hid (fun w => Spl.s_split s 32 w hs)
  have HXS := Lib.hid (fun x hx => M.part_le2 ⟨#[32]⟩ (M.spl s 32) x hx)
  have HSJ := Lib.hid (show M.jn ⟨#[32]⟩ (M.spl s 32) = s from M.spl_jn s 32)
  have hwl := M.spl_le s 32
  rw [HD.out] at HY HN
  rw [HSJ.out] at HXS
  clear HD HSJ
  generalize M.parseMv s = RR at *
  generalize M.spl s 32 = ws at *
  have hwn : ws.length ≤ 1048577 := by omega
  clear hwl hz
  go_enter Try.func40, Try.ntmps40
  go_wp2_with fail
  refine (HSP.out _).mono ?_
  rintro e w1 ⟨A1, c1, rfl, q1, b1⟩
  have hq1 := Lib.hid q1.lt
  have Q1 := Lib.hid q1.rd
  have B1 := Lib.hid (b0.trans (b1.mono b0.size))
  have E1 := Lib.hid (e0.below b1)
  have hs1 := b1.size
  have HAP0 : Hid (∀ q, K.blk A1 = some q → w.heap.size < q ∧ q < w1.heap.size) := Lib.hid (fun q hq => by have := hq1.out q hq; omega)
  clear q1 b1 HSP e0 b0 hq1
  go_wp2_with fail
  go_loopw [4, 6] (fun o i wr => ∃ (k : Nat) (B : Option Addr) (d : Nat), (k ≤ ws.length ∧ k ≤ 61) ∧ i = .int .i64 (k : Int) ∧ o = .slice B k d ∧ Hid (K.Row wr w.heap.size 25 3 B k d (((ws.take k).map M.readWord).flatMap M.moveCells)) ∧ Hid (Below w.heap.size w wr) ∧ Hid (K.Rd wr 1 A1 ws.length (ws.map Value.string)) ∧ w1.heap.size ≤ wr.heap.size ∧ Hid (∀ q, K.blk A1 = some q → K.blk B ≠ some q)) (fun _ i _ => ws.length - (intOf i).toNat)
  case atStart => exact ⟨0, some ⟨w.heap.size, 0, none⟩, 0, ⟨Nat.zero_le _, Nat.zero_le _⟩, rfl, rfl, E1, B1, Q1, Nat.le_refl _, Lib.hid (fun q hq h => by have := HAP0.out q hq; simp [K.blk] at h; omega)⟩
  case round =>
    clear E1 B1 Q1
    obtain ⟨k, B, d, ⟨hk, hk61⟩, rfl, rfl, HROW, HB, HQ, hwz, HAP⟩ := hrel
    have hbs := HB.out.size
    by_cases hlt : k < ws.length
    · by_cases hk6 : k ≤ 60
      · obtain ⟨g, o, rfl, hc⟩ := HQ.out.str hlt
        have h1 : (k : Int) < (ws.length : Int) := by omega
        have h2 : (0 : Int) ≤ (k : Int) := by omega
        have h3 : (k : Int) ≤ 60 := by omega
        have HT := Lib.hid (M.dec_take ws k hlt)
        have hxs : ws[k].size ≤ 1048576 := by have := HXS.out _ (List.getElem_mem hlt); omega
        generalize ws[k] = x at *
        have HRD := Lib.hid (fun w => MoveP.s_read x w hxs)
        have hj2 : k + 1 ≤ maxLen := by simp only [maxLen]; omega
        generalize M.readWord x = m at *
        obtain ⟨mr, mp, mb⟩ := m
        dsimp only at HRD
        go_wp2_with fail
        refine (HRD.out _).mono ?_
        rintro e w2 ⟨rfl, b2⟩
        have hb2 := b2.size
        have R5 := Lib.hid (HROW.out.below b2)
        have B5 := Lib.hid (HB.out.trans (b2.mono hbs))
        have hws := B5.out.size
        clear hc
        go_wp2_with (at_builtin; go_must (refine K.append1 rfl (.tmp 23) (.tmp 29) _ rfl w.heap.size _ i0 _ 3 24 Try.underlying43 hi0 hz0 hz1 hz2 rfl (by omega) B k d _ rfl R5.out #[.int .i64 mr, .int .i64 mp, .int .i64 mb] rfl (by simp [Value.oneCell']) (by simp [go_sem]) hj2 (by omega) hws ?_; intro g' c' w3 hrow1 hb1 hlog hgg hgr))
        go_roundw
        case rel => exact ⟨k + 1, some ⟨g', 0, none⟩, c', ⟨by omega, by omega⟩, by go_num, rfl, Lib.hid (by rw [HT.out, List.flatMap_append]; simpa [M.moveCells] using hrow1), Lib.hid (B5.out.trans hb1), Lib.hid ((HQ.out.below b2).kept hgr (fun q hq e => HAP.out q hq e)), by have := hb1.size; omega, Lib.hid (fun q hq h => by cases hgg with | inl h' => exact HAP.out q hq (h'.trans h) | inr h' => (have := HAP0.out q hq; simp [K.blk] at h; omega))⟩
        case measure => simp [intOf]; omega
      · obtain rfl : k = 61 := by omega
        have h1 : (61 : Int) < (ws.length : Int) := by omega
        have hbad : M.movesOk (ws.map M.readWord) = false := by cases h : M.movesOk (ws.map M.readWord) with | false => rfl | true => have := ((M.movesOk_iff _).1 h).1; simp at this; omega
        have hbad2 : M.movesOk ((ws.take 61).map M.readWord) = false := by cases h : M.movesOk ((ws.take 61).map M.readWord) with | false => rfl | true => have := ((M.movesOk_iff _).1 h).1; simp at this; omega
        have HE := Lib.hid (HN.out (fun h => by rw [hbad] at h; exact absurd h.1 (by simp)))
        have HLN : Hid (((ws.take 61).map M.readWord).length = 61) := Lib.hid (by simp; omega)
        generalize (ws.take 61).map M.readWord = L at *
        have HG := Lib.hid (fun w h => MoveF.s_good B d L w (by rw [HLN.out]; omega) h)
        rw [HLN.out, hbad2] at HG
        clear hbad hbad2 HN HY
        go_wp2_with fail
        refine (HG.out _ HROW.out.rd).mono ?_
        rintro e w3 ⟨rfl, b3⟩
        have b5 := HB.out.trans (b3.mono hbs)
        go_wp2_with fail
        go_ret2
        rw [HE.out]
        exact ⟨some ⟨w3.heap.size, 0, none⟩, 0, rfl, row_made w3 _ b5.size, b5.alloc b5.size _⟩
    · obtain rfl : k = ws.length := by omega
      rw [List.take_of_length_le (Nat.le_refl _)] at HROW
      have HLN : Hid ((ws.map M.readWord).length = ws.length) := Lib.hid (by simp)
      have hwq : ws.length ≤ 61 := hk61
      generalize ws.map M.readWord = L at *
      have hLn : L.length ≤ 1048576 := by rw [HLN.out]; omega
      have HG := Lib.hid (fun w h => MoveF.s_good B d L w hLn h)
      rw [HLN.out] at HG
      cases hok : M.movesOk L with
      | false =>
        have HE := Lib.hid (HN.out (fun h => by rw [hok] at h; exact absurd h.1 (by simp)))
        rw [hok] at HG
        clear hok HN HY
        go_wp2_with fail
        refine (HG.out _ HROW.out.rd).mono ?_
        rintro e w3 ⟨rfl, b3⟩
        have b5 := HB.out.trans (b3.mono hbs)
        go_wp2_with fail
        go_ret2
        rw [HE.out]
        exact ⟨some ⟨w3.heap.size, 0, none⟩, 0, rfl, row_made w3 _ b5.size, b5.alloc b5.size _⟩
      | true =>
        obtain ⟨h60, hall⟩ := (M.movesOk_iff L).1 hok
        have HTX := Lib.hid (fun w h => MoveT.s_txt B d L w h60 hall h)
        rw [HLN.out] at HTX
        by_cases hq : M.movesTxt L = s
        · have HE := Lib.hid (HY.out hok hq)
          have tq := M.str_eq hq
          rw [hok] at HG
          clear hok HN HY hq
          generalize M.movesTxt L = S2 at *
          go_wp2_with fail
          refine (HG.out _ HROW.out.rd).mono ?_
          rintro e w3 ⟨rfl, b3⟩
          go_wp2_with fail
          refine (HTX.out _ (HROW.out.rd.below b3)).mono ?_
          rintro e w4 ⟨rfl, b4⟩
          have b5 := HB.out.trans ((b3.trans (b4.mono b3.size)).mono hbs)
          go_wp2_with fail
          go_ret2
          rw [HE.out]
          have hx := HROW.out.below (b3.trans (b4.mono b3.size))
          rw [← HLN.out] at hx
          exact ⟨B, d, by rw [← HLN.out]; rfl, hx, b5⟩
        · have HE := Lib.hid (HN.out (fun h => hq h.2))
          have tq := M.str_ne hq
          rw [hok] at HG
          clear hok HN HY hq
          generalize M.movesTxt L = S2 at *
          go_wp2_with fail
          refine (HG.out _ HROW.out.rd).mono ?_
          rintro e w3 ⟨rfl, b3⟩
          go_wp2_with fail
          refine (HTX.out _ (HROW.out.rd.below b3)).mono ?_
          rintro e w4 ⟨rfl, b4⟩
          have b5 := HB.out.trans ((b3.trans (b4.mono b3.size)).mono hbs)
          go_wp2_with fail
          go_ret2
          rw [HE.out]
          exact ⟨some ⟨w4.heap.size, 0, none⟩, 0, rfl, row_made w4 _ b5.size, b5.alloc b5.size _⟩
end Go.Proofs.Ythlkdaogmcjlbaa.MoveQ
