/-
  Walks: reading a frame, in the reference.
-/
import Derived.Test.YthlkdaogmcjlbaaFrameQ
import Derived.Test.YthlkdaogmcjlbaaCur
set_option linter.unusedVariables false
namespace Go.Proofs.Ythlkdaogmcjlbaa.M
theorem wordRods_succ (ws : List ByteArray) (j : Nat) (h : j + 1 < ws.length) : ((ws.drop 1).take (j + 1)).map wordRod = ((ws.drop 1).take j).map wordRod ++ [wordRod ws[j + 1]] := by
  rw [List.take_succ_eq_append_getElem (by simp; omega), List.map_append]
  simp
end Go.Proofs.Ythlkdaogmcjlbaa.M
namespace Go.Proofs.Ythlkdaogmcjlbaa.FrameQ
open Go.RowKit
theorem row_made2 (w : World) (lo : Nat) (h : lo ≤ w.heap.size) : K.Row (w.alloc (.cells #[] 74)) lo 74 2 (some ⟨w.heap.size, 0, none⟩) 0 0 [] := by
  have h0 : K.Row (w.alloc (.cells #[] 74)) w.heap.size 74 2 (some ⟨w.heap.size, 0, none⟩) 0 0 [] := World.ownsRow_made w #[] 0 (Nat.le_refl _) (Nat.zero_le _) rfl
  exact h0.more h
theorem at_set {w : World} {p q : Addr} {u v : Value} (h : K.At w p u) (hne : q.block ≠ p.block) : K.At (w.setCell q v) p u :=
  ⟨by simpa using h.1, by rw [World.cell?_setCell_other _ _ _ _ (fun e => hne (by rw [e]))]; exact h.2⟩
set_option maxRecDepth 100000 in
set_option maxHeartbeats 4000000 in
theorem s_parse (s : ByteArray) (w : World) (hs : s.size ≤ 1048576) :
    Calls Try.prog 58 #[.string s] w (RetFrameB w (M.parseFr s).1 (M.parseFr s).2) := by
  obtain ⟨i0, hi0, hz0, hz1, hz2⟩ := info_parts Pair.info2
  obtain ⟨oz, hoz⟩ : ∃ o : Obj, o = .cells #[.int .i64 0, .int .i64 0, .slice none 0 0] 33 := ⟨_, rfl⟩
  have res : K.Own (w.alloc oz) w.heap.size [.int .i64 0, .int .i64 0, .slice none 0 0] := by rw [hoz]; exact K.Own.new w #[.int .i64 0, .int .i64 0, .slice none 0 0] 33
  have b0 : Below w.heap.size w (w.alloc oz) := (Below.refl _ _).alloc (Nat.le_refl _) _
  have hs0 : (w.alloc oz).heap.size = w.heap.size + 1 := World.size_alloc _ _
  subst hoz
  have HY := Lib.hid (fun h h1 => M.parseFr_word (s := s) h h1)
  have HN := Lib.hid (fun h => M.parseFr_noword (s := s) h)
  have HF := Lib.hid (fun h => M.parseFr_form (s := s) h)
  have HSP := Lib.hid (fun w => Spl.s_split s 32 w hs)
  have hpos := M.spl_pos s 32
  have hwl := M.spl_le s 32
  have HXS := Lib.hid (fun x hx => M.part_le2 ⟨#[32]⟩ (M.spl s 32) x hx)
  have HSJ := Lib.hid (show M.jn ⟨#[32]⟩ (M.spl s 32) = s from M.spl_jn s 32)
  rw [HSJ.out] at HXS
  clear HSJ
  generalize M.spl s 32 = ws at *
  generalize M.parseFr s = RR at *
  have hwn : ws.length ≤ 1048577 := by omega
  clear hwl
  have HF1 := Lib.hid (fun (h : ws[0].size ≠ 3) => HF.out (fun hh => by obtain ⟨⟨x, r, hx, h3⟩, _, _⟩ := hh; subst hx; exact h h3))
  have HF2 := Lib.hid (fun (h : 9 < ws.length) => HF.out (fun hh => by have := hh.2.1; omega))
  have HF3 := Lib.hid (fun i (hi : i < ws.length) (h1 : 1 ≤ i) (h : ws[i].size ≠ 2) => HF.out (fun hh => h (hh.2.2 i hi h1)))
  clear HF
  have hx0 : ws[0].size ≤ 1048576 := by have := HXS.out _ (List.getElem_mem hpos); omega
  have HWF : Hid (M.wordFrame ws = ⟨M.byteAt ws[0] 0, M.byteAt ws[0] 2, (ws.drop 1).map M.wordRod⟩) := Lib.hid (by cases ws with | nil => simp at hpos | cons x r => rfl)
  rw [HWF.out] at HY HN
  clear HWF
  go_enter Try.func58, Try.ntmps58
  go_wp2_with fail
  refine (HSP.out _).mono ?_
  rintro e w1 ⟨A1, c1, rfl, q1, b1⟩
  have hq1 := q1.lt
  have HAP : Hid (∀ q, K.blk A1 = some q → q < w1.heap.size) := Lib.hid (fun q hq => (hq1 q hq).2)
  have Q1 := Lib.hid q1.rd
  have RES := Lib.hid (res.below b1)
  have BB := Lib.hid (b0.trans (b1.mono b0.size))
  have hs1 := b1.size
  clear q1 hq1 res b0 b1 HSP
  obtain ⟨g0, o0, rfl, hc0⟩ := Q1.out.str hpos
  have hc0 : w1.cell? ⟨g0, o0, none⟩ = some (.string ws[0]) := by simpa using hc0
  have hn0 : (0 : Int) < (ws.length : Int) := by omega
  have hp0 : 0 < ws.length := by omega
  have hg0 : g0 < w1.heap.size := HAP.out g0 rfl
  obtain ⟨x, hx⟩ : ∃ x, x = ws[0] := ⟨_, rfl⟩
  rw [← hx] at hc0 HF1 HY HN hx0
  clear hx
  by_cases h3 : x.size = 3
  rotate_left
  · have t1 : ((x.size : Int) != 3) = true := by rw [bne_iff_ne]; omega
    have HE := Lib.hid (HF1.out h3)
    clear HF1 h3
    obtain ⟨z0, z1, z2, y0, y1, y2, zg⟩ := own3 RES.out
    go_wp2_with fail
    rw [HE.out]
    exact bodyPost_ret (v := .tuple #[.agg #[.int .i64 0, .int .i64 0, .slice none 0 0], .bool false]) (by simp [results, Try.results58, go_sem, *]) rfl ⟨none, 0, rfl, K.Row.nil _ _ _ _, by have := BB.out.size; (repeat (first | exact Below.refl _ _ | assumption | (refine K.below_drewN ?_ _) | (refine Below.drew ?_) | (refine Below.alloc ?_ (by first | (simp; done) | (simp; omega) | omega) _) | (refine Below.setCell ?_ (by first | (simp; done) | (simp; omega) | omega) _)))⟩
  have t1 : ((x.size : Int) != 3) = false := by rw [h3]; rfl
  by_cases h9 : 9 < ws.length
  · have t2 : decide ((9 : Int) < (ws.length : Int)) = true := decide_eq_true (by omega)
    have HE := Lib.hid (HF2.out h9)
    clear HF1 HF2 h3
    obtain ⟨z0, z1, z2, y0, y1, y2, zg⟩ := own3 RES.out
    go_wp2_with fail
    rw [HE.out]
    exact bodyPost_ret (v := .tuple #[.agg #[.int .i64 0, .int .i64 0, .slice none 0 0], .bool false]) (by simp [results, Try.results58, go_sem, *]) rfl ⟨none, 0, rfl, K.Row.nil _ _ _ _, by have := BB.out.size; (repeat (first | exact Below.refl _ _ | assumption | (refine K.below_drewN ?_ _) | (refine Below.drew ?_) | (refine Below.alloc ?_ (by first | (simp; done) | (simp; omega) | omega) _) | (refine Below.setCell ?_ (by first | (simp; done) | (simp; omega) | omega) _)))⟩
  have t2 : decide ((9 : Int) < (ws.length : Int)) = false := decide_eq_false (by omega)
  have hw9 : ws.length ≤ 9 := by omega
  have p0 : 0 < x.size := by omega
  have p2 : 2 < x.size := by omega
  have k2 : (2 : Int) < (x.size : Int) := by omega
  clear h3 h9 HF1 HF2
  obtain ⟨a0, a1⟩ := M.u8_bd x[0]
  obtain ⟨d0, d1⟩ := M.u8_bd x[2]
  have sa : IntKind.i64.wrap ((x[0].toNat : Int) - 48) = (x[0].toNat : Int) - 48 := IntWalk.i64_in _ (by omega)
  have sd : IntKind.i64.wrap ((x[2].toNat : Int) - 48) = (x[2].toNat : Int) - 48 := IntWalk.i64_in _ (by omega)
  obtain ⟨u, hu⟩ : ∃ u : Int, u = (x[0].toNat : Int) - 48 := ⟨_, rfl⟩
  obtain ⟨v, hv⟩ : ∃ v : Int, v = (x[2].toNat : Int) - 48 := ⟨_, rfl⟩
  rw [M.byteAt_eq x 0 p0, M.byteAt_eq x 2 p2, ← hu, ← hv] at HY HN
  have HU := Lib.hid hu
  have HV := Lib.hid hv
  clear hu hv
  go_upto_region 4 with fail
  go_cut [5] (fun sb wx => ∃ (g h : Nat), sb = .pointer (some ⟨g, 0, none⟩) ∧ K.Own wx g [.int .i64 ((x[0].toNat : Int) - 48), .int .i64 ((x[2].toNat : Int) - 48), .slice (some ⟨h, 0, none⟩) 0 0] ∧ K.Row wx w1.heap.size 74 2 (some ⟨h, 0, none⟩) 0 0 [] ∧ h ≠ g ∧ w1.heap.size ≤ g ∧ Below w1.heap.size w1 wx)
  case first =>
    go_region
    all_goals go_wp2_with fail
    all_goals go_meet
    · exact ⟨w1.heap.size + 1, w1.heap.size, rfl, (by have h := K.Own.new (w1.alloc (.cells #[] 74)) #[.int .i64 ((x[0].toNat : Int) - 48), .int .i64 ((x[2].toNat : Int) - 48), .slice (some ⟨w1.heap.size, 0, none⟩) 0 0] 33; rw [World.size_alloc] at h; exact h), (row_made2 w1 _ (Nat.le_refl _)).alloc _, by omega, by omega, by (repeat (first | exact Below.refl _ _ | assumption | (refine K.below_drewN ?_ _) | (refine Below.drew ?_) | (refine Below.alloc ?_ (by first | (simp; done) | (simp; omega) | omega) _) | (refine Below.setCell ?_ (by first | (simp; done) | (simp; omega) | omega) _)))⟩
    · exact ⟨w1.heap.size, w1.heap.size + 1, rfl, (K.Own.new w1 #[.int .i64 ((x[0].toNat : Int) - 48), .int .i64 ((x[2].toNat : Int) - 48), .slice (some ⟨w1.heap.size + 1, 0, none⟩) 0 0] 33).alloc _, (by have h := row_made2 (w1.alloc (.cells #[.int .i64 ((x[0].toNat : Int) - 48), .int .i64 ((x[2].toNat : Int) - 48), .slice (some ⟨w1.heap.size + 1, 0, none⟩) 0 0] 33)) w1.heap.size (by simp); rw [World.size_alloc] at h; exact h), by omega, by omega, by (repeat (first | exact Below.refl _ _ | assumption | (refine K.below_drewN ?_ _) | (refine Below.drew ?_) | (refine Below.alloc ?_ (by first | (simp; done) | (simp; omega) | omega) _) | (refine Below.setCell ?_ (by first | (simp; done) | (simp; omega) | omega) _)))⟩
  obtain ⟨g, h, rfl, own, row, hgh, hgl, bq⟩ := hcut
  rename World => W
  rw [← HU.out, ← HV.out] at own
  have RES1 := Lib.hid (RES.out.below bq)
  have BB1 := Lib.hid (BB.out.trans (bq.mono BB.out.size))
  have Q2 := Lib.hid (Q1.out.below bq)
  have hgW := own.1.1
  have hsW := bq.size
  clear RES BB Q1 bq a0 a1 d0 d1 sa sd hc0 k2
  obtain ⟨q0, q1, q2, q3, q4, q5, qg⟩ := own3 own
  go_wp2_with fail
  clear q0 q1 q2 q3 q4 q5 qg
  go_loopw [6] (fun i wr => ∃ (k j : Nat) (A : Option Addr) (d : Nat), k ≤ ws.length ∧ i = .int .i64 (k : Int) ∧ Hid (k = j + 1) ∧ Hid (K.Own wr g [.int .i64 u, .int .i64 v, .slice A j d]) ∧ Hid (K.Own wr w.heap.size [.int .i64 0, .int .i64 0, .slice none 0 0]) ∧ Hid (K.Row wr w1.heap.size 74 2 A j d ((((ws.drop 1).take j).map M.wordRod).flatMap M.rodCells)) ∧ Hid (Below w.heap.size w wr) ∧ Hid (K.Rd wr 1 (some ⟨g0, o0, none⟩) ws.length (ws.map Value.string)) ∧ Hid (K.blk A ≠ some g) ∧ w1.heap.size ≤ wr.heap.size ∧ g < wr.heap.size) (fun i _ => ws.length - (intOf i).toNat)
  case atStart => exact ⟨1, 0, some ⟨h, 0, none⟩, 0, by omega, rfl, Lib.hid rfl, Lib.hid own, RES1, Lib.hid (by simpa using row), BB1, Q2, Lib.hid (by simp [K.blk]; exact hgh), hsW, hgW⟩
  case round =>
    clear own RES1 row BB1 Q2 hgW hsW hgh
    obtain ⟨k, j, A, d, hk, rfl, HM, HOWN, HRES, HROW, HB, HQ, HNE, hsz, hgz⟩ := hrel
    have hm := HM.out
    by_cases hlt : k < ws.length
    · obtain ⟨gq, oq, e9, hcw⟩ := HQ.out.str hlt
      injection e9 with e9
      injection e9 with e9 e8
      subst e9 e8
      have h1 : (k : Int) < (ws.length : Int) := by omega
      have h2 : (0 : Int) ≤ (k : Int) := by omega
      have HF := Lib.hid (fun h => HF3.out k hlt (by omega) h)
      have HT := Lib.hid (show ((ws.drop 1).take (j + 1)).map M.wordRod = ((ws.drop 1).take j).map M.wordRod ++ [M.wordRod ws[k]] by subst hm; exact M.wordRods_succ ws j hlt)
      have hys : ws[k].size ≤ 1048576 := by have := HXS.out _ (List.getElem_mem hlt); omega
      generalize ws[k] = y at *
      clear hm
      by_cases hy2 : y.size = 2
      rotate_left
      · have t3 : ((y.size : Int) != 2) = true := by rw [bne_iff_ne]; omega
        have HE := Lib.hid (HF.out hy2)
        clear HF hy2
        obtain ⟨z0, z1, z2, y0, y1, y2, zg⟩ := own3 HRES.out
        go_wp2_with fail
        rw [HE.out]
        exact bodyPost_ret (v := .tuple #[.agg #[.int .i64 0, .int .i64 0, .slice none 0 0], .bool false]) (by simp [results, Try.results58, go_sem, *]) rfl ⟨none, 0, rfl, K.Row.nil _ _ _ _, by have := HB.out.size; (repeat (first | exact Below.refl _ _ | assumption | (refine K.below_drewN ?_ _) | (refine Below.drew ?_) | (refine Below.alloc ?_ (by first | (simp; done) | (simp; omega) | omega) _) | (refine Below.setCell ?_ (by first | (simp; done) | (simp; omega) | omega) _)))⟩
      have t3 : ((y.size : Int) != 2) = false := by rw [hy2]; rfl
      have y0 : 0 < y.size := by omega
      have y1 : 1 < y.size := by omega
      have k1 : (1 : Int) < (y.size : Int) := by omega
      have HWR := Lib.hid (show M.wordRod y = ((y[0].toNat : Int) - 48, (y[1].toNat : Int) - 48) by unfold M.wordRod; rw [M.byteAt_eq y 0 y0, M.byteAt_eq y 1 y1])
      clear hy2 HF
      obtain ⟨a0, a1⟩ := M.u8_bd y[0]
      obtain ⟨d0, d1⟩ := M.u8_bd y[1]
      have sa : IntKind.i64.wrap ((y[0].toNat : Int) - 48) = (y[0].toNat : Int) - 48 := IntWalk.i64_in _ (by omega)
      have sd : IntKind.i64.wrap ((y[1].toNat : Int) - 48) = (y[1].toNat : Int) - 48 := IntWalk.i64_in _ (by omega)
      have wa : IntKind.i64.wrap (y[0].toNat : Int) = (y[0].toNat : Int) := IntWalk.i64_in _ (by omega)
      have wd : IntKind.i64.wrap (y[1].toNat : Int) = (y[1].toNat : Int) := IntWalk.i64_in _ (by omega)
      have hj2 : j + 1 ≤ maxLen := by have := HM.out; simp only [maxLen]; omega
      have hj8 : j ≤ 9 := by have := HM.out; omega
      go_upto_region 10 with fail
      obtain ⟨W0, hW0⟩ : ∃ X, X = wr.drew := ⟨_, rfl⟩
      have own : K.Own W0 g [.int .i64 u, .int .i64 v, .slice A j d] := by rw [hW0]; exact HOWN.out.drew
      have RES := Lib.hid (show K.Own W0 w.heap.size [.int .i64 0, .int .i64 0, .slice none 0 0] by rw [hW0]; exact HRES.out.drew)
      have ROW := Lib.hid (show K.Row W0 w1.heap.size 74 2 A j d ((((ws.drop 1).take j).map M.wordRod).flatMap M.rodCells) by rw [hW0]; exact HROW.out.drew)
      have BB := Lib.hid (show Below w.heap.size w W0 by rw [hW0]; exact HB.out.drew)
      have RD := Lib.hid (show K.Rd W0 1 (some ⟨g0, o0, none⟩) ws.length (ws.map Value.string) by rw [hW0]; exact HQ.out.drew)
      have hsz0 : w1.heap.size ≤ W0.heap.size := by rw [hW0]; exact hsz
      have hgz0 : g < W0.heap.size := by rw [hW0]; exact hgz
      have c0 : K.At W0 ⟨g0, o0 + k, none⟩ (.string y) := ⟨by simp only; omega, by rw [hW0]; exact hcw⟩
      refine wp_region_held_drew (S := fun w' => w'.cell? ⟨g0, o0 + k, none⟩ = some (.string y)) (by kernel_rfl) hcw (fun hHeld => ?_)
      rw [← hW0] at hHeld ⊢
      clear hW0 HOWN HRES HROW HB hsz hgz HQ hcw
      refine K.takeL 0 (v := ?_) rfl (by kernel_rfl) (by kernel_rfl) (by kernel_rfl) (fun _ _ _ h => h) (Or.inl ⟨rfl, ?_⟩) (by assumption) ?_
      rotate_left
      · intro w hSw; (try dsimp only at hSw); first | (go_simp; done) | (go_simp; with_reducible rfl)
      simp only [Act.put, List.setIfInBounds_toArray, List.set_cons_zero, List.set_cons_succ]
      refine K.takeL 2 (v := ?_) rfl (by kernel_rfl) (by kernel_rfl) (by kernel_rfl) (fun _ _ _ h => h) (Or.inl ⟨rfl, ?_⟩) (by assumption) ?_
      rotate_left
      · intro w hSw; (try dsimp only at hSw); first | (go_simp; done) | (go_simp; with_reducible rfl)
      simp only [Act.put, List.setIfInBounds_toArray, List.set_cons_zero, List.set_cons_succ]
      refine K.takeL 3 (v := ?_) rfl (by kernel_rfl) (by kernel_rfl) (by kernel_rfl) (fun _ _ _ h => h) (Or.inl ⟨rfl, ?_⟩) (by assumption) ?_
      rotate_left
      · intro w hSw; (try dsimp only at hSw); first | (go_simp; done) | (go_simp; with_reducible rfl)
      simp only [Act.put, List.setIfInBounds_toArray, List.set_cons_zero, List.set_cons_succ]
      refine K.takeL 4 (v := ?_) rfl (by kernel_rfl) (by kernel_rfl) (by kernel_rfl) (fun _ _ _ h => h) (Or.inl ⟨rfl, ?_⟩) (by assumption) ?_
      rotate_left
      · intro w hSw; (try dsimp only at hSw); first | (go_simp; done) | (go_simp; with_reducible rfl)
      simp only [Act.put, List.setIfInBounds_toArray, List.set_cons_zero, List.set_cons_succ]
      refine K.takeL 5 (v := ?_) rfl (by kernel_rfl) (by kernel_rfl) (by kernel_rfl) (fun _ _ _ h => h) (Or.inl ⟨rfl, ?_⟩) (by assumption) ?_
      rotate_left
      · intro w hSw; (try dsimp only at hSw); first | (go_simp; done) | (go_simp; with_reducible rfl)
      simp only [Act.put, List.setIfInBounds_toArray, List.set_cons_zero, List.set_cons_succ]
      refine K.takeL 6 (v := ?_) rfl (by kernel_rfl) (by kernel_rfl) (by kernel_rfl) (fun _ _ _ h => h) (Or.inl ⟨rfl, ?_⟩) (by assumption) ?_
      rotate_left
      · intro w hSw; (try dsimp only at hSw); first | (go_simp; done) | (go_simp; with_reducible rfl)
      simp only [Act.put, List.setIfInBounds_toArray, List.set_cons_zero, List.set_cons_succ]
      refine K.takeL 7 (v := ?_) rfl (by kernel_rfl) (by kernel_rfl) (by kernel_rfl) (fun _ _ _ h => h) (Or.inl ⟨rfl, ?_⟩) (by assumption) ?_
      rotate_left
      · intro w hSw; (try dsimp only at hSw); first | (go_simp; done) | (go_simp; with_reducible rfl)
      simp only [Act.put, List.setIfInBounds_toArray, List.set_cons_zero, List.set_cons_succ]
      refine K.takeL 8 (v := ?_) rfl (by kernel_rfl) (by kernel_rfl) (by kernel_rfl) (fun _ _ _ h => h) (Or.inl ⟨rfl, ?_⟩) (by assumption) ?_
      rotate_left
      · intro w hSw; (try dsimp only at hSw); first | (go_simp; done) | (go_simp; with_reducible rfl)
      simp only [Act.put, List.setIfInBounds_toArray, List.set_cons_zero, List.set_cons_succ]
      refine K.takeL 9 (v := ?_) rfl (by kernel_rfl) (by kernel_rfl) (by kernel_rfl) (fun _ _ _ h => h) (Or.inl ⟨rfl, ?_⟩) (by assumption) ?_
      rotate_left
      · intro w hSw; (try dsimp only at hSw); first | (go_simp; done) | (go_simp; with_reducible rfl)
      simp only [Act.put, List.setIfInBounds_toArray, List.set_cons_zero, List.set_cons_succ]
      refine K.takeL 10 (v := ?_) rfl (by kernel_rfl) (by kernel_rfl) (by kernel_rfl) (fun _ _ _ h => h) (Or.inl ⟨rfl, ?_⟩) (by assumption) ?_
      rotate_left
      · intro w hSw; (try dsimp only at hSw); first | (go_simp; done) | (go_simp; with_reducible rfl)
      simp only [Act.put, List.setIfInBounds_toArray, List.set_cons_zero, List.set_cons_succ]
      refine K.takeL 11 (v := ?_) rfl (by kernel_rfl) (by kernel_rfl) (by kernel_rfl) (fun _ _ _ h => h) (Or.inl ⟨rfl, ?_⟩) (by assumption) ?_
      rotate_left
      · intro w hSw; (try dsimp only at hSw); first | (go_simp; done) | (go_simp; with_reducible rfl)
      simp only [Act.put, List.setIfInBounds_toArray, List.set_cons_zero, List.set_cons_succ]
      refine K.takeL 12 (v := ?_) rfl (by kernel_rfl) (by kernel_rfl) (by kernel_rfl) (fun _ _ _ h => h) (Or.inl ⟨rfl, ?_⟩) (by assumption) ?_
      rotate_left
      · intro w hSw; (try dsimp only at hSw); first | (go_simp; done) | (go_simp; with_reducible rfl)
      simp only [Act.put, List.setIfInBounds_toArray, List.set_cons_zero, List.set_cons_succ]
      refine K.takeL 13 (v := ?_) rfl (by kernel_rfl) (by kernel_rfl) (by kernel_rfl) (fun _ _ _ h => h) (Or.inl ⟨rfl, ?_⟩) (by assumption) ?_
      rotate_left
      · intro w hSw; (try dsimp only at hSw); first | (go_simp; done) | (go_simp; with_reducible rfl)
      simp only [Act.put, List.setIfInBounds_toArray, List.set_cons_zero, List.set_cons_succ]
      refine K.takeL 14 (v := ?_) rfl (by kernel_rfl) (by kernel_rfl) (by kernel_rfl) (fun _ _ _ h => h) (Or.inl ⟨rfl, ?_⟩) (by assumption) ?_
      rotate_left
      · intro w hSw; (try dsimp only at hSw); first | (go_simp; done) | (go_simp; with_reducible rfl)
      simp only [Act.put, List.setIfInBounds_toArray, List.set_cons_zero, List.set_cons_succ]
      refine K.takeL 15 (v := ?_) rfl (by kernel_rfl) (by kernel_rfl) (by kernel_rfl) (fun _ _ _ h => h) (Or.inl ⟨rfl, ?_⟩) (by assumption) ?_
      rotate_left
      · intro w hSw; (try dsimp only at hSw); first | (go_simp; done) | (go_simp; with_reducible rfl)
      simp only [Act.put, List.setIfInBounds_toArray, List.set_cons_zero, List.set_cons_succ]
      refine K.takeL 16 (v := ?_) rfl (by kernel_rfl) (by kernel_rfl) (by kernel_rfl) (fun _ _ _ h => h) (Or.inl ⟨rfl, ?_⟩) (by assumption) ?_
      rotate_left
      · intro w hSw; (try dsimp only at hSw); first | (go_simp; done) | (go_simp; with_reducible rfl)
      simp only [Act.put, List.setIfInBounds_toArray, List.set_cons_zero, List.set_cons_succ]
      refine wpAnyH_ready (rs := [1, 17]) (by kernel_rfl) (by simp) (AllReadyH.cons (by rfl) (fun KK hK => ?_) (AllReadyH.cons (by rfl) (fun KK hK => ?_) AllReadyH.nil))
      · skip
        obtain ⟨q0, q1, q2, q3, q4, q5, qg⟩ := own3 own
        go_simp
        clear q0 q1 q2 q3 q4 q5 qg
        refine hK.out _ _ c0.cell (fun hHeld => ?_)
        clear hK KK
        try simp only [Act.put, List.setIfInBounds_toArray, List.set_cons_zero, List.set_cons_succ]
        refine K.consL 17 rfl (by kernel_rfl) (fun KK hK => ?_)
        go_simp
        have own2 := own.alloc (.cells #[.int .i64 ((y[0].toNat : Int) - 48), .int .i64 ((y[1].toNat : Int) - 48)] 74)
        have RES2 := Lib.hid (RES.out.alloc (.cells #[.int .i64 ((y[0].toNat : Int) - 48), .int .i64 ((y[1].toNat : Int) - 48)] 74))
        have ROW2 := Lib.hid (ROW.out.alloc (.cells #[.int .i64 ((y[0].toNat : Int) - 48), .int .i64 ((y[1].toNat : Int) - 48)] 74))
        have RD2 := Lib.hid (RD.out.alloc (.cells #[.int .i64 ((y[0].toNat : Int) - 48), .int .i64 ((y[1].toNat : Int) - 48)] 74))
        have BB2 := Lib.hid (BB.out.alloc BB.out.size (.cells #[.int .i64 ((y[0].toNat : Int) - 48), .int .i64 ((y[1].toNat : Int) - 48)] 74))
        have hsz2 : w1.heap.size ≤ (W0.alloc (.cells #[.int .i64 ((y[0].toNat : Int) - 48), .int .i64 ((y[1].toNat : Int) - 48)] 74)).heap.size := by rw [World.size_alloc]; omega
        have hgz2 : g < (W0.alloc (.cells #[.int .i64 ((y[0].toNat : Int) - 48), .int .i64 ((y[1].toNat : Int) - 48)] 74)).heap.size := by rw [World.size_alloc]; omega
        have rn := K.Rd.new W0 #[.int .i64 ((y[0].toNat : Int) - 48), .int .i64 ((y[1].toNat : Int) - 48)] 74 1 2 rfl
        have c2 := c0.alloc (.cells #[.int .i64 ((y[0].toNat : Int) - 48), .int .i64 ((y[1].toNat : Int) - 48)] 74)
        refine hK.out _ _ c2.cell (fun hHeld => ?_)
        clear hK KK
        try simp only [Act.put, List.setIfInBounds_toArray, List.set_cons_zero, List.set_cons_succ]
        refine K.consL 18 rfl (by kernel_rfl) (fun KK hK => ?_)
        refine K.stepN (by rfl) (.tmp 48) (.tmp 64) _ (by rfl) w1.heap.size _ i0 _ 2 16 Try.underlying28 hi0 hz0 hz1 hz2 rfl (by omega) A j d _ (by rfl) ROW2.out (some ⟨W0.heap.size, 0, none⟩) 1 1 #[.int .i64 ((y[0].toNat : Int) - 48), .int .i64 ((y[1].toNat : Int) - 48)].toList (by rfl) rn (by simp [Value.oneCell']) hj2 (by omega) hsz2 ?_
        intro A4 cc4 w4 hrow4 hb4 hgr4 hat4
        have own4 := own2.kept hgr4 HNE.out
        have RES4 := Lib.hid (RES2.out.low hb4 (by omega))
        have BB4 := Lib.hid (BB2.out.trans (hb4.mono (by omega)))
        have RD4 := Lib.hid (RD2.out.kept hgr4 (fun q hq e => by have := HAP.out q hq; have := (ROW2.out.lt _ e).1; omega))
        have hsz4 : w1.heap.size ≤ w4.heap.size := by have := hb4.size; omega
        have hgz4 : g < w4.heap.size := by have := hb4.size; omega
        have c4 := c2.low hb4 hg0
        have HN4 : Hid (K.blk A4 ≠ some g) := Lib.hid (fun e => by rcases hat4 with h | h <;> rw [h] at e <;> first | exact HNE.out e | (simp at e; omega))
        refine hK.out _ _ c4.cell (fun hHeld => ?_)
        clear hK KK
        try simp only [Act.put, List.setIfInBounds_toArray, List.set_cons_zero, List.set_cons_succ]
        refine K.takeL 19 (v := ?_) rfl (by kernel_rfl) (by kernel_rfl) (by kernel_rfl) (fun _ _ _ h => h) (Or.inl ⟨rfl, ?_⟩) (by assumption) ?_
        rotate_left
        · intro w hSw; (try dsimp only at hSw); first | (go_simp; done) | (go_simp; with_reducible rfl)
        simp only [Act.put, List.setIfInBounds_toArray, List.set_cons_zero, List.set_cons_succ]
        refine K.consL 20 rfl (by kernel_rfl) (fun KK hK => ?_)
        obtain ⟨q0, q1, q2, q3, q4, q5, qg⟩ := own3 own4
        go_simp
        clear q0 q1 q2 q3 q4 q5 qg
        refine hK.out _ _ (at_set (q := ⟨g, 2, none⟩) c4 (by simp only; omega)).cell (fun hHeld => ?_)
        clear hK KK
        try simp only [Act.put, List.setIfInBounds_toArray, List.set_cons_zero, List.set_cons_succ]
        refine wpAnyH_done (by kernel_rfl) ?_ _
        have HO5 := Lib.hid (own4.set_ 2 (by simp) (.slice A4 (j + 1) cc4))
        have HR5 := Lib.hid (RES4.out.setOther (p := ⟨g, 2, none⟩) (by simp only; omega) (.slice A4 (j + 1) cc4))
        have HW5 := Lib.hid (hrow4.setNe (p := ⟨g, 2, none⟩) (fun q hq e => HN4.out (by rw [hq, ← e])) (.slice A4 (j + 1) cc4))
        have HB5 := Lib.hid (BB4.out.setCell (p := ⟨g, 2, none⟩) (by simp only; omega) (.slice A4 (j + 1) cc4))
        have HQ5 := Lib.hid (RD4.out.setOther (p := ⟨g, 2, none⟩) (fun q hq e => by have := HAP.out q hq; simp only at e; omega) (.slice A4 (j + 1) cc4))
        obtain ⟨W5, hW5⟩ : ∃ X, X = w4.setCell ⟨g, 2, none⟩ (.slice A4 (j + 1) cc4) := ⟨_, rfl⟩
        have hsz5 : w1.heap.size ≤ W5.heap.size := by rw [hW5]; simpa using hsz4
        have hgz5 : g < W5.heap.size := by rw [hW5]; simpa using hgz4
        rw [← hW5] at HO5 HR5 HW5 HB5 HQ5
        try rw [← hW5]
        clear hW5 own4 RES4 BB4 hsz4 hrow4 hb4 RD4 c4
        go_wp2_with fail
        go_roundw
        case rel => exact ⟨k + 1, j + 1, A4, cc4, by omega, by go_num, Lib.hid (by have := HM.out; omega), HO5, HR5, Lib.hid (by rw [HT.out, HWR.out, List.flatMap_append]; simpa [M.rodCells] using HW5.out), HB5, HQ5, HN4, hsz5, hgz5⟩
        case measure => simp [intOf]; omega
      · skip
        go_simp
        have own2 := own.alloc (.cells #[.int .i64 ((y[0].toNat : Int) - 48), .int .i64 ((y[1].toNat : Int) - 48)] 74)
        have RES2 := Lib.hid (RES.out.alloc (.cells #[.int .i64 ((y[0].toNat : Int) - 48), .int .i64 ((y[1].toNat : Int) - 48)] 74))
        have ROW2 := Lib.hid (ROW.out.alloc (.cells #[.int .i64 ((y[0].toNat : Int) - 48), .int .i64 ((y[1].toNat : Int) - 48)] 74))
        have RD2 := Lib.hid (RD.out.alloc (.cells #[.int .i64 ((y[0].toNat : Int) - 48), .int .i64 ((y[1].toNat : Int) - 48)] 74))
        have BB2 := Lib.hid (BB.out.alloc BB.out.size (.cells #[.int .i64 ((y[0].toNat : Int) - 48), .int .i64 ((y[1].toNat : Int) - 48)] 74))
        have hsz2 : w1.heap.size ≤ (W0.alloc (.cells #[.int .i64 ((y[0].toNat : Int) - 48), .int .i64 ((y[1].toNat : Int) - 48)] 74)).heap.size := by rw [World.size_alloc]; omega
        have hgz2 : g < (W0.alloc (.cells #[.int .i64 ((y[0].toNat : Int) - 48), .int .i64 ((y[1].toNat : Int) - 48)] 74)).heap.size := by rw [World.size_alloc]; omega
        have rn := K.Rd.new W0 #[.int .i64 ((y[0].toNat : Int) - 48), .int .i64 ((y[1].toNat : Int) - 48)] 74 1 2 rfl
        have c2 := c0.alloc (.cells #[.int .i64 ((y[0].toNat : Int) - 48), .int .i64 ((y[1].toNat : Int) - 48)] 74)
        refine hK.out _ _ c2.cell (fun hHeld => ?_)
        clear hK KK
        try simp only [Act.put, List.setIfInBounds_toArray, List.set_cons_zero, List.set_cons_succ]
        refine K.consL 1 rfl (by kernel_rfl) (fun KK hK => ?_)
        obtain ⟨q0, q1, q2, q3, q4, q5, qg⟩ := own3 own2
        go_simp
        clear q0 q1 q2 q3 q4 q5 qg
        refine hK.out _ _ c2.cell (fun hHeld => ?_)
        clear hK KK
        try simp only [Act.put, List.setIfInBounds_toArray, List.set_cons_zero, List.set_cons_succ]
        refine K.consL 18 rfl (by kernel_rfl) (fun KK hK => ?_)
        refine K.stepN (by rfl) (.tmp 48) (.tmp 64) _ (by rfl) w1.heap.size _ i0 _ 2 16 Try.underlying28 hi0 hz0 hz1 hz2 rfl (by omega) A j d _ (by rfl) ROW2.out (some ⟨W0.heap.size, 0, none⟩) 1 1 #[.int .i64 ((y[0].toNat : Int) - 48), .int .i64 ((y[1].toNat : Int) - 48)].toList (by rfl) rn (by simp [Value.oneCell']) hj2 (by omega) hsz2 ?_
        intro A4 cc4 w4 hrow4 hb4 hgr4 hat4
        have own4 := own2.kept hgr4 HNE.out
        have RES4 := Lib.hid (RES2.out.low hb4 (by omega))
        have BB4 := Lib.hid (BB2.out.trans (hb4.mono (by omega)))
        have RD4 := Lib.hid (RD2.out.kept hgr4 (fun q hq e => by have := HAP.out q hq; have := (ROW2.out.lt _ e).1; omega))
        have hsz4 : w1.heap.size ≤ w4.heap.size := by have := hb4.size; omega
        have hgz4 : g < w4.heap.size := by have := hb4.size; omega
        have c4 := c2.low hb4 hg0
        have HN4 : Hid (K.blk A4 ≠ some g) := Lib.hid (fun e => by rcases hat4 with h | h <;> rw [h] at e <;> first | exact HNE.out e | (simp at e; omega))
        refine hK.out _ _ c4.cell (fun hHeld => ?_)
        clear hK KK
        try simp only [Act.put, List.setIfInBounds_toArray, List.set_cons_zero, List.set_cons_succ]
        refine K.takeL 19 (v := ?_) rfl (by kernel_rfl) (by kernel_rfl) (by kernel_rfl) (fun _ _ _ h => h) (Or.inl ⟨rfl, ?_⟩) (by assumption) ?_
        rotate_left
        · intro w hSw; (try dsimp only at hSw); first | (go_simp; done) | (go_simp; with_reducible rfl)
        simp only [Act.put, List.setIfInBounds_toArray, List.set_cons_zero, List.set_cons_succ]
        refine K.consL 20 rfl (by kernel_rfl) (fun KK hK => ?_)
        obtain ⟨q0, q1, q2, q3, q4, q5, qg⟩ := own3 own4
        go_simp
        clear q0 q1 q2 q3 q4 q5 qg
        refine hK.out _ _ (at_set (q := ⟨g, 2, none⟩) c4 (by simp only; omega)).cell (fun hHeld => ?_)
        clear hK KK
        try simp only [Act.put, List.setIfInBounds_toArray, List.set_cons_zero, List.set_cons_succ]
        refine wpAnyH_done (by kernel_rfl) ?_ _
        have HO5 := Lib.hid (own4.set_ 2 (by simp) (.slice A4 (j + 1) cc4))
        have HR5 := Lib.hid (RES4.out.setOther (p := ⟨g, 2, none⟩) (by simp only; omega) (.slice A4 (j + 1) cc4))
        have HW5 := Lib.hid (hrow4.setNe (p := ⟨g, 2, none⟩) (fun q hq e => HN4.out (by rw [hq, ← e])) (.slice A4 (j + 1) cc4))
        have HB5 := Lib.hid (BB4.out.setCell (p := ⟨g, 2, none⟩) (by simp only; omega) (.slice A4 (j + 1) cc4))
        have HQ5 := Lib.hid (RD4.out.setOther (p := ⟨g, 2, none⟩) (fun q hq e => by have := HAP.out q hq; simp only at e; omega) (.slice A4 (j + 1) cc4))
        obtain ⟨W5, hW5⟩ : ∃ X, X = w4.setCell ⟨g, 2, none⟩ (.slice A4 (j + 1) cc4) := ⟨_, rfl⟩
        have hsz5 : w1.heap.size ≤ W5.heap.size := by rw [hW5]; simpa using hsz4
        have hgz5 : g < W5.heap.size := by rw [hW5]; simpa using hgz4
        rw [← hW5] at HO5 HR5 HW5 HB5 HQ5
        try rw [← hW5]
        clear hW5 own4 RES4 BB4 hsz4 hrow4 hb4 RD4 c4
        go_wp2_with fail
        go_roundw
        case rel => exact ⟨k + 1, j + 1, A4, cc4, by omega, by go_num, Lib.hid (by have := HM.out; omega), HO5, HR5, Lib.hid (by rw [HT.out, HWR.out, List.flatMap_append]; simpa [M.rodCells] using HW5.out), HB5, HQ5, HN4, hsz5, hgz5⟩
        case measure => simp [intOf]; omega
    · obtain rfl : k = ws.length := by omega
      have h1 : (ws.length : Int) ≤ (ws.length : Int) := Int.le_refl _
      have HTK : Hid (((ws.drop 1).take j).map M.wordRod = (ws.drop 1).map M.wordRod) := Lib.hid (by rw [List.take_of_length_le (by simp; omega)])
      have HL : Hid (((ws.drop 1).map M.wordRod).length = j) := Lib.hid (by simp; omega)
      have hj9 : j ≤ 9 := by omega
      rw [HTK.out] at HROW
      generalize (ws.drop 1).map M.wordRod = L at *
      clear hm
      have hLn : L.length ≤ 1048576 := by rw [HL.out]; omega
      have HG := Lib.hid (fun w h => Frame.s_good ⟨u, v, L⟩ A d w hLn h)
      dsimp only at HG
      rw [HL.out] at HG
      obtain ⟨q0, q1, q2, q3, q4, q5, qg⟩ := own3 HOWN.out
      cases hok : M.Frame.ok ⟨u, v, L⟩ with
      | false =>
        have HE := Lib.hid (HN.out (fun h => by rw [hok] at h; exact absurd h.1 (by simp)))
        rw [hok] at HG
        clear hok HN HY
        go_wp2_with fail
        refine (HG.out _ HROW.out.rd).mono ?_
        rintro e w3 ⟨rfl, b3⟩
        have b5 := HB.out.trans (b3.mono HB.out.size)
        have HR5 := HRES.out.below b3
        have HO5 := HOWN.out.below b3
        clear q0 q1 q2 q3 q4 q5 qg
        obtain ⟨z0, z1, z2, y0, y1, y2, zg⟩ := own3 HR5
        go_wp2_with fail
        rw [HE.out]
        exact bodyPost_ret (v := .tuple #[.agg #[.int .i64 0, .int .i64 0, .slice none 0 0], .bool false]) (by simp [results, Try.results58, go_sem, *]) rfl ⟨none, 0, rfl, K.Row.nil _ _ _ _, by (repeat (first | exact Below.refl _ _ | assumption | (refine K.below_drewN ?_ _) | (refine Below.drew ?_) | (refine Below.alloc ?_ (by first | (simp; done) | (simp; omega) | omega) _) | (refine Below.setCell ?_ (by first | (simp; done) | (simp; omega) | omega) _)))⟩
      | true =>
        have HTX := Lib.hid (fun w h => FrameT.s_txt ⟨u, v, L⟩ A d w hok h)
        dsimp only at HTX
        rw [HL.out] at HTX
        by_cases hq : M.ftext ⟨u, v, L⟩ = s
        · have HE := Lib.hid (HY.out hok hq)
          have tq := M.str_eq hq
          rw [hok] at HG
          clear hok HN HY hq
          generalize M.ftext ⟨u, v, L⟩ = S2 at *
          go_wp2_with fail
          refine (HG.out _ HROW.out.rd).mono ?_
          rintro e w3 ⟨rfl, b3⟩
          clear q0 q1 q2 q3 q4 q5 qg
          have HO3 := HOWN.out.below b3
          obtain ⟨q0, q1, q2, q3, q4, q5, qg⟩ := own3 HO3
          go_wp2_with fail
          refine (HTX.out _ (HROW.out.rd.below b3)).mono ?_
          rintro e w4 ⟨rfl, b4⟩
          clear q0 q1 q2 q3 q4 q5 qg
          have b34 := b3.trans (b4.mono b3.size)
          have b5 := HB.out.trans (b34.mono HB.out.size)
          have HR5 := HRES.out.below b34
          have HO5 := HOWN.out.below b34
          obtain ⟨q0, q1, q2, q3, q4, q5, qg⟩ := own3 HO5
          obtain ⟨z0, z1, z2, y0, y1, y2, zg⟩ := own3 HR5
          have rw5 := (HROW.out.below b34).more (lo' := w.heap.size) (by omega)
          have hlt := (HROW.out.below b34).lt
          rw [← HL.out] at rw5
          go_wp2_with fail
          rw [HE.out]
          exact bodyPost_ret (v := .tuple #[.agg #[.int .i64 u, .int .i64 v, .slice A j d], .bool true]) (by simp [results, Try.results58, go_sem, *]) rfl ⟨A, d, by rw [← HL.out], by (repeat (first | with_reducible assumption | (with_reducible refine K.Row.setNe ?_ (fun g hg => by have hq := hlt g hg; simp at hq ⊢; omega) _) | (with_reducible refine K.Row.alloc ?_ _) | (with_reducible refine K.Row.drew ?_))), by (repeat (first | exact Below.refl _ _ | assumption | (refine K.below_drewN ?_ _) | (refine Below.drew ?_) | (refine Below.alloc ?_ (by first | (simp; done) | (simp; omega) | omega) _) | (refine Below.setCell ?_ (by first | (simp; done) | (simp; omega) | omega) _)))⟩
        · have HE := Lib.hid (HN.out (fun h => hq h.2))
          have tq := M.str_ne hq
          rw [hok] at HG
          clear hok HN HY hq
          generalize M.ftext ⟨u, v, L⟩ = S2 at *
          go_wp2_with fail
          refine (HG.out _ HROW.out.rd).mono ?_
          rintro e w3 ⟨rfl, b3⟩
          clear q0 q1 q2 q3 q4 q5 qg
          have HO3 := HOWN.out.below b3
          obtain ⟨q0, q1, q2, q3, q4, q5, qg⟩ := own3 HO3
          go_wp2_with fail
          refine (HTX.out _ (HROW.out.rd.below b3)).mono ?_
          rintro e w4 ⟨rfl, b4⟩
          clear q0 q1 q2 q3 q4 q5 qg
          have b34 := b3.trans (b4.mono b3.size)
          have b5 := HB.out.trans (b34.mono HB.out.size)
          have HR5 := HRES.out.below b34
          have HO5 := HOWN.out.below b34
          obtain ⟨z0, z1, z2, y0, y1, y2, zg⟩ := own3 HR5
          go_wp2_with fail
          rw [HE.out]
          exact bodyPost_ret (v := .tuple #[.agg #[.int .i64 0, .int .i64 0, .slice none 0 0], .bool false]) (by simp [results, Try.results58, go_sem, *]) rfl ⟨none, 0, rfl, K.Row.nil _ _ _ _, by (repeat (first | exact Below.refl _ _ | assumption | (refine K.below_drewN ?_ _) | (refine Below.drew ?_) | (refine Below.alloc ?_ (by first | (simp; done) | (simp; omega) | omega) _) | (refine Below.setCell ?_ (by first | (simp; done) | (simp; omega) | omega) _)))⟩
end Go.Proofs.Ythlkdaogmcjlbaa.FrameQ
