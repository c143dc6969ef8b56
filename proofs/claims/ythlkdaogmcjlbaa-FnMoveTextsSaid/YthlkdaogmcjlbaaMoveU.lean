/-
  Walks: the text of moves in the reference (printed by gen_mtext.py).
-/
import Derived.Test.YthlkdaogmcjlbaaMoveT
import Derived.Deep.DeepCutAuto
set_option linter.unusedVariables false
namespace Go.Proofs.Ythlkdaogmcjlbaa.MoveT
open Go.RowKit
set_option maxRecDepth 100000 in
set_option maxHeartbeats 4000000 in
theorem s_txt (A : Option Addr) (c : Nat) (l : List M.Move) (w : World) (hl : l.length ≤ 60) (hok : ∀ m ∈ l, m.ok = true) (ha : K.Rd w 3 A l.length (l.flatMap M.moveCells)) :
    Calls Try.prog 81 #[.slice A l.length c] w fun e w' => e = .returned (.string (M.movesTxt l)) ∧ Below w.heap.size w w' := by
  have HZ := Lib.hid (fun k h => M.movesTxt_size hok k h)
  have HE : Hid (M.movesTxt l = M.jn ⟨#[32]⟩ (l.map M.mvTxt)) := Lib.hid rfl
  generalize M.movesTxt l = R at HE ⊢
  go_enter Try.func81, Try.ntmps81
  go_wp2_with fail
  go_loopw [4, 3] (fun i s wr => ∃ (k : Nat) (t : ByteArray), k ≤ l.length ∧ i = .int .i64 k ∧ s = .string t ∧ Hid (t = M.jn ⟨#[32]⟩ ((l.map M.mvTxt).take k)) ∧ Below w.heap.size w wr) (fun i _ _ => l.length - (intOf i).toNat)
  case atStart => exact ⟨0, ByteArray.empty, Nat.zero_le _, rfl, rfl, Lib.hid (by simp [M.jn_nil]), Below.refl _ _⟩
  case round =>
    obtain ⟨k, t, hk, rfl, rfl, ht, hb⟩ := hrel
    have hts : t.size ≤ 300 := by rw [ht.out, HZ.out k hk]; omega
    by_cases hlt : k < l.length
    · skip
      obtain ⟨g, o, rfl, hg, c0, c1, c2⟩ := (ha.below hb).move hlt
      have h1 : (k : Int) < (l.length : Int) := by omega
      have h2 : (0 : Int) ≤ (k : Int) := by omega
      have hmk := (M.Move.ok_iff _).1 (hok l[k] (List.getElem_mem _))
      have hbs := hb.size
      have HJ := Lib.hid (M.jn_take ⟨#[32]⟩ (l.map M.mvTxt) k (by simpa using hlt))
      have hgm : (l.map M.mvTxt)[k]'(by simpa using hlt) = M.mvTxt l[k] := by simp
      rw [hgm] at HJ
      clear hgm
      have HM : Hid (M.mvTxt l[k] = M.txt l[k].rod ++ M.prt l[k].part ++ M.byt l[k].by_) := Lib.hid rfl
      generalize M.mvTxt l[k] = T at HJ HM
      generalize l[k].rod = x at *
      generalize l[k].part = y at *
      generalize l[k].by_ = z at *
      obtain ⟨⟨x1, x2⟩, ⟨y1, y2⟩, ⟨z1, z2⟩, z3⟩ := hmk
      have hx1 := M.txt1m (n := x) x1 (by omega)
      have HX := Lib.hid (fun w => (Num.s_num x w (by omega) (by omega)).mono (fun e w' h => show e = .returned (.string (M.txt x)) ∧ Below w.heap.size w w' from ⟨h.1, K.qt_below h.2⟩))
      have HY := Lib.hid (fun w => (Num.s_num z w (by omega) (by omega)).mono (fun e w' h => show e = .returned (.string (M.txt z)) ∧ Below w.heap.size w w' from ⟨h.1, K.qt_below h.2⟩))
      have hy1 : (M.txt z).size ≤ 20 := M.txt_size20 (by omega) (by omega)
      have HB := Lib.hid hb
      obtain ⟨ob, hob⟩ : ∃ o : Obj, o = .cells #[.int .i64 x, .int .i64 y, .int .i64 z] 25 := ⟨_, rfl⟩
      have px : K.Box (wr.alloc ob) wr.heap.size [.int .i64 x, .int .i64 y, .int .i64 z] := by rw [hob]; exact K.Box.new _ _ _
      have HB1 := Lib.hid (hb.alloc hbs ob)
      subst hob
      obtain ⟨p0, p1, p2⟩ := px.c3
      by_cases h0 : k = 0
      · have hk0 : decide (0 < k) = false := decide_eq_false (by omega)
        have HJ2 := Lib.hid (show M.jn ⟨#[32]⟩ ((l.map M.mvTxt).take (k + 1)) = t ++ T by rw [HJ.out, if_pos h0, ← ht.out])
        clear h0
        by_cases hy : y = 0
        · subst hy
          by_cases hz : z < 0
          · have hzz : decide (0 < z) = false := decide_eq_false (by omega)
            have HK := Lib.hid (show T = M.txt x ++ ⟨#[117]⟩ ++ M.txt z by
              rw [HM.out]; unfold M.prt M.byt; rw [if_pos rfl]; rw [if_neg (by omega)])
            generalize hTX : M.txt x = tx at *
            generalize hTY : M.txt z = ty at *
            clear hTX hTY HM HZ hz
            have q1 : t.size + 1 ≤ 9223372036854775807 := by omega
            have q2 : ¬ (9223372036854775806 < t.size) := by omega
            have q3 : ¬ (9223372036854775805 < t.size) := by omega
            have q4 : ¬ (9223372036854775804 < t.size) := by omega
            have q5 : ¬ (9223372036854775807 < t.size + 1) := by omega
            have q6 : ¬ (9223372036854775807 < t.size + 1 + 1) := by omega
            have q7 : ¬ (9223372036854775807 < t.size + 1 + 1 + 1) := by omega
            go_upto_region 8 with fail
            obtain ⟨W, hW⟩ : ∃ W, W = wr.alloc (.cells #[.int .i64 x, .int .i64 0, .int .i64 z] 25) := ⟨_, rfl⟩
            have hgW : wr.heap.size < W.heap.size := by rw [hW]; simp
            have hbW := HB1.out
            rw [← hW] at px hbW ⊢
            clear hW p0 p1 p2 HB HB1
            generalize wr.heap.size = G at *
            obtain ⟨p0, p1, p2⟩ := px.c3
            have pxd := px.drew
            have bbd := hbW.drew
            refine wp_region_held_drew (S := fun w' => w'.cell? ⟨G, 0, none⟩ = some (.int .i64 x) ∧ w'.cell? ⟨G, 1, none⟩ = some (.int .i64 0) ∧ w'.cell? ⟨G, 2, none⟩ = some (.int .i64 z)) (by kernel_rfl) ⟨K.Box.at_ (j := 0) pxd rfl, K.Box.at_ (j := 1) pxd rfl, K.Box.at_ (j := 2) pxd rfl⟩ (fun hHeld => ?_)
            refine K.takeL 0 (v := ?_) rfl (by kernel_rfl) (by kernel_rfl) (by kernel_rfl) (fun _ _ _ h => h) (Or.inl ⟨rfl, ?_⟩) (by assumption) ?_
            rotate_left
            · intro w hSw; (try dsimp only at hSw); first | (go_simp; done) | (go_simp; with_reducible rfl)
            simp only [Act.put, List.setIfInBounds_toArray, List.set_cons_zero, List.set_cons_succ]
            refine K.takeL 1 (v := ?_) rfl (by kernel_rfl) (by kernel_rfl) (by kernel_rfl) (fun _ _ _ h => h) (Or.inl ⟨rfl, ?_⟩) (by assumption) ?_
            rotate_left
            · intro w hSw; (try dsimp only at hSw); first | (go_simp; done) | (go_simp; with_reducible rfl)
            simp only [Act.put, List.setIfInBounds_toArray, List.set_cons_zero, List.set_cons_succ]
            refine K.takeL 2 (v := ?_) rfl (by kernel_rfl) (by kernel_rfl) (by kernel_rfl) (fun _ _ _ h => h) (Or.inl ⟨rfl, ?_⟩) (by assumption) ?_
            rotate_left
            · intro w hSw; (try dsimp only at hSw); first | (go_simp; done) | (go_simp; with_reducible rfl)
            simp only [Act.put, List.setIfInBounds_toArray, List.set_cons_zero, List.set_cons_succ]
            refine K.takeL 6 (v := ?_) rfl (by kernel_rfl) (by kernel_rfl) (by kernel_rfl) (fun _ _ _ h => h) (Or.inl ⟨rfl, ?_⟩) (by assumption) ?_
            rotate_left
            · intro w hSw; (try dsimp only at hSw); first | (go_simp; done) | (go_simp; with_reducible rfl)
            simp only [Act.put, List.setIfInBounds_toArray, List.set_cons_zero, List.set_cons_succ]
            refine K.takeL 7 (v := ?_) rfl (by kernel_rfl) (by kernel_rfl) (by kernel_rfl) (fun _ _ _ h => h) (Or.inl ⟨rfl, ?_⟩) (by assumption) ?_
            rotate_left
            · intro w hSw; (try dsimp only at hSw); first | (go_simp; done) | (go_simp; with_reducible rfl)
            simp only [Act.put, List.setIfInBounds_toArray, List.set_cons_zero, List.set_cons_succ]
            refine wpAnyH_ready (rs := [3, 5]) (by kernel_rfl) (by simp) (AllReadyH.cons (by rfl) (fun KK hK => ?_) (AllReadyH.cons (by rfl) (fun KK hK => ?_) AllReadyH.nil))
            · skip
              go_simp
              refine (HX.out _).mono ?_
              rintro e w3 ⟨rfl, b3⟩
              go_wp2_with fail
              have px3 := pxd.below b3
              have bb3 := bbd.trans (b3.mono bbd.size)
              refine hK.out _ _ ⟨K.Box.at_ (j := 0) px3 rfl, K.Box.at_ (j := 1) px3 rfl, K.Box.at_ (j := 2) px3 rfl⟩ (fun hHeld => ?_)
              clear hK KK
              try simp only [Act.put, List.setIfInBounds_toArray, List.set_cons_zero, List.set_cons_succ]
              refine K.takeL 4 (v := ?_) rfl (by kernel_rfl) (by kernel_rfl) (by kernel_rfl) (fun _ _ _ h => h) (Or.inl ⟨rfl, ?_⟩) (by assumption) ?_
              rotate_left
              · intro w hSw; (try dsimp only at hSw); first | (go_simp; done) | (go_simp; with_reducible rfl)
              simp only [Act.put, List.setIfInBounds_toArray, List.set_cons_zero, List.set_cons_succ]
              refine K.consL 5 rfl (by kernel_rfl) (fun KK hK => ?_)
              go_simp
              have px5 := px3.alloc (.cells #[.string ⟨#[117]⟩, .string ⟨#[108]⟩] 9)
              have bb5a := bb3.alloc bb3.size (.cells #[.string ⟨#[117]⟩, .string ⟨#[108]⟩] 9)
              have ow5 := K.Own.new w3 #[.string ⟨#[117]⟩, .string ⟨#[108]⟩] 9
              obtain ⟨cw, cw1, fw, fw1, lw⟩ := ow5.c2
              refine hK.out _ _ ⟨K.Box.at_ (j := 0) px5 rfl, K.Box.at_ (j := 1) px5 rfl, K.Box.at_ (j := 2) px5 rfl⟩ (fun hHeld => ?_)
              clear hK KK
              try simp only [Act.put, List.setIfInBounds_toArray, List.set_cons_zero, List.set_cons_succ]
              refine K.takeL 8 (v := ?_) rfl (by kernel_rfl) (by kernel_rfl) (by kernel_rfl) (fun _ _ _ h => h) (Or.inl ⟨rfl, ?_⟩) (by assumption) ?_
              rotate_left
              · intro w hSw; (try dsimp only at hSw); first | (go_simp; done) | (go_simp; with_reducible rfl)
              simp only [Act.put, List.setIfInBounds_toArray, List.set_cons_zero, List.set_cons_succ]
              refine K.consL 9 rfl (by kernel_rfl) (fun KK hK => ?_)
              go_simp
              skip
              refine hK.out _ _ ⟨K.Box.at_ (j := 0) px5 rfl, K.Box.at_ (j := 1) px5 rfl, K.Box.at_ (j := 2) px5 rfl⟩ (fun hHeld => ?_)
              clear hK KK
              try simp only [Act.put, List.setIfInBounds_toArray, List.set_cons_zero, List.set_cons_succ]
              refine K.takeL 10 (v := ?_) rfl (by kernel_rfl) (by kernel_rfl) (by kernel_rfl) (fun _ _ _ h => h) (Or.inl ⟨rfl, ?_⟩) (by assumption) ?_
              rotate_left
              · intro w hSw; (try dsimp only at hSw); first | (go_simp; done) | (go_simp; with_reducible rfl)
              simp only [Act.put, List.setIfInBounds_toArray, List.set_cons_zero, List.set_cons_succ]
              refine K.takeL 11 (v := ?_) rfl (by kernel_rfl) (by kernel_rfl) (by kernel_rfl) (fun _ _ _ h => h) (Or.inl ⟨rfl, ?_⟩) (by assumption) ?_
              rotate_left
              · intro w hSw; (try dsimp only at hSw); first | (go_simp; done) | (go_simp; with_reducible rfl)
              simp only [Act.put, List.setIfInBounds_toArray, List.set_cons_zero, List.set_cons_succ]
              refine wpAnyH_done (by kernel_rfl) ?_ _
              have h3s := bb5a.size
              go_wp2_with fail
              refine (HY.out _).mono ?_
              rintro e w5 ⟨rfl, b5⟩
              have bb5 := bb5a.trans (b5.mono (by first | omega | (simp at h3s ⊢; omega)))
              go_wp2_with fail
              go_roundw
              case rel => exact ⟨k + 1, _, by omega, by go_num, rfl, Lib.hid (by rw [HJ2.out, HK.out]; simp [ByteArray.append_assoc]), bb5⟩
              case measure => simp [intOf]; omega
            · skip
              go_simp
              have px5 := (px.alloc (.cells #[.string ⟨#[117]⟩, .string ⟨#[108]⟩] 9)).drew
              have bb5a := (hbW.alloc hbW.size (.cells #[.string ⟨#[117]⟩, .string ⟨#[108]⟩] 9)).drew
              have ow5 := (K.Own.new W #[.string ⟨#[117]⟩, .string ⟨#[108]⟩] 9).drew
              obtain ⟨cw, cw1, fw, fw1, lw⟩ := ow5.c2
              refine hK.out _ _ ⟨K.Box.at_ (j := 0) px5 rfl, K.Box.at_ (j := 1) px5 rfl, K.Box.at_ (j := 2) px5 rfl⟩ (fun hHeld => ?_)
              clear hK KK
              try simp only [Act.put, List.setIfInBounds_toArray, List.set_cons_zero, List.set_cons_succ]
              refine K.takeL 8 (v := ?_) rfl (by kernel_rfl) (by kernel_rfl) (by kernel_rfl) (fun _ _ _ h => h) (Or.inl ⟨rfl, ?_⟩) (by assumption) ?_
              rotate_left
              · intro w hSw; (try dsimp only at hSw); first | (go_simp; done) | (go_simp; with_reducible rfl)
              simp only [Act.put, List.setIfInBounds_toArray, List.set_cons_zero, List.set_cons_succ]
              refine wpAnyH_ready (rs := [3, 9]) (by kernel_rfl) (by simp) (AllReadyH.cons (by rfl) (fun KK hK => ?_) (AllReadyH.cons (by rfl) (fun KK hK => ?_) AllReadyH.nil))
              · skip
                go_simp
                refine (HX.out _).mono ?_
                rintro e w3 ⟨rfl, b3⟩
                go_wp2_with fail
                have px3 := px5.below b3
                have bb3 := bb5a.trans (b3.mono bb5a.size)
                have ow3 := ow5.below b3
                obtain ⟨cw, cw1, fw, fw1, lw⟩ := ow3.c2
                refine hK.out _ _ ⟨K.Box.at_ (j := 0) px3 rfl, K.Box.at_ (j := 1) px3 rfl, K.Box.at_ (j := 2) px3 rfl⟩ (fun hHeld => ?_)
                clear hK KK
                try simp only [Act.put, List.setIfInBounds_toArray, List.set_cons_zero, List.set_cons_succ]
                refine K.takeL 4 (v := ?_) rfl (by kernel_rfl) (by kernel_rfl) (by kernel_rfl) (fun _ _ _ h => h) (Or.inl ⟨rfl, ?_⟩) (by assumption) ?_
                rotate_left
                · intro w hSw; (try dsimp only at hSw); first | (go_simp; done) | (go_simp; with_reducible rfl)
                simp only [Act.put, List.setIfInBounds_toArray, List.set_cons_zero, List.set_cons_succ]
                refine K.consL 9 rfl (by kernel_rfl) (fun KK hK => ?_)
                go_simp
                skip
                refine hK.out _ _ ⟨K.Box.at_ (j := 0) px3 rfl, K.Box.at_ (j := 1) px3 rfl, K.Box.at_ (j := 2) px3 rfl⟩ (fun hHeld => ?_)
                clear hK KK
                try simp only [Act.put, List.setIfInBounds_toArray, List.set_cons_zero, List.set_cons_succ]
                refine K.takeL 10 (v := ?_) rfl (by kernel_rfl) (by kernel_rfl) (by kernel_rfl) (fun _ _ _ h => h) (Or.inl ⟨rfl, ?_⟩) (by assumption) ?_
                rotate_left
                · intro w hSw; (try dsimp only at hSw); first | (go_simp; done) | (go_simp; with_reducible rfl)
                simp only [Act.put, List.setIfInBounds_toArray, List.set_cons_zero, List.set_cons_succ]
                refine K.takeL 11 (v := ?_) rfl (by kernel_rfl) (by kernel_rfl) (by kernel_rfl) (fun _ _ _ h => h) (Or.inl ⟨rfl, ?_⟩) (by assumption) ?_
                rotate_left
                · intro w hSw; (try dsimp only at hSw); first | (go_simp; done) | (go_simp; with_reducible rfl)
                simp only [Act.put, List.setIfInBounds_toArray, List.set_cons_zero, List.set_cons_succ]
                refine wpAnyH_done (by kernel_rfl) ?_ _
                have h3s := bb3.size
                go_wp2_with fail
                refine (HY.out _).mono ?_
                rintro e w5 ⟨rfl, b5⟩
                have bb5 := bb3.trans (b5.mono (by first | omega | (simp at h3s ⊢; omega)))
                go_wp2_with fail
                go_roundw
                case rel => exact ⟨k + 1, _, by omega, by go_num, rfl, Lib.hid (by rw [HJ2.out, HK.out]; simp [ByteArray.append_assoc]), bb5⟩
                case measure => simp [intOf]; omega
              · skip
                go_simp
                skip
                refine hK.out _ _ ⟨K.Box.at_ (j := 0) px5 rfl, K.Box.at_ (j := 1) px5 rfl, K.Box.at_ (j := 2) px5 rfl⟩ (fun hHeld => ?_)
                clear hK KK
                try simp only [Act.put, List.setIfInBounds_toArray, List.set_cons_zero, List.set_cons_succ]
                refine K.consL 3 rfl (by kernel_rfl) (fun KK hK => ?_)
                go_simp
                refine (HX.out _).mono ?_
                rintro e w3 ⟨rfl, b3⟩
                go_wp2_with fail
                have px3 := px5.below b3
                have bb3 := bb5a.trans (b3.mono bb5a.size)
                have ow3 := ow5.below b3
                obtain ⟨cw, cw1, fw, fw1, lw⟩ := ow3.c2
                refine hK.out _ _ ⟨K.Box.at_ (j := 0) px3 rfl, K.Box.at_ (j := 1) px3 rfl, K.Box.at_ (j := 2) px3 rfl⟩ (fun hHeld => ?_)
                clear hK KK
                try simp only [Act.put, List.setIfInBounds_toArray, List.set_cons_zero, List.set_cons_succ]
                refine K.takeL 4 (v := ?_) rfl (by kernel_rfl) (by kernel_rfl) (by kernel_rfl) (fun _ _ _ h => h) (Or.inl ⟨rfl, ?_⟩) (by assumption) ?_
                rotate_left
                · intro w hSw; (try dsimp only at hSw); first | (go_simp; done) | (go_simp; with_reducible rfl)
                simp only [Act.put, List.setIfInBounds_toArray, List.set_cons_zero, List.set_cons_succ]
                refine K.takeL 10 (v := ?_) rfl (by kernel_rfl) (by kernel_rfl) (by kernel_rfl) (fun _ _ _ h => h) (Or.inl ⟨rfl, ?_⟩) (by assumption) ?_
                rotate_left
                · intro w hSw; (try dsimp only at hSw); first | (go_simp; done) | (go_simp; with_reducible rfl)
                simp only [Act.put, List.setIfInBounds_toArray, List.set_cons_zero, List.set_cons_succ]
                refine K.takeL 11 (v := ?_) rfl (by kernel_rfl) (by kernel_rfl) (by kernel_rfl) (fun _ _ _ h => h) (Or.inl ⟨rfl, ?_⟩) (by assumption) ?_
                rotate_left
                · intro w hSw; (try dsimp only at hSw); first | (go_simp; done) | (go_simp; with_reducible rfl)
                simp only [Act.put, List.setIfInBounds_toArray, List.set_cons_zero, List.set_cons_succ]
                refine wpAnyH_done (by kernel_rfl) ?_ _
                have h3s := bb3.size
                go_wp2_with fail
                refine (HY.out _).mono ?_
                rintro e w5 ⟨rfl, b5⟩
                have bb5 := bb3.trans (b5.mono (by first | omega | (simp at h3s ⊢; omega)))
                go_wp2_with fail
                go_roundw
                case rel => exact ⟨k + 1, _, by omega, by go_num, rfl, Lib.hid (by rw [HJ2.out, HK.out]; simp [ByteArray.append_assoc]), bb5⟩
                case measure => simp [intOf]; omega
          · have hzz : decide (0 < z) = true := decide_eq_true (by omega)
            have HK := Lib.hid (show T = M.txt x ++ ⟨#[117]⟩ ++ (⟨#[43]⟩ ++ M.txt z) by
              rw [HM.out]; unfold M.prt M.byt; rw [if_pos rfl]; rw [if_pos (by omega)])
            generalize hTX : M.txt x = tx at *
            generalize hTY : M.txt z = ty at *
            clear hTX hTY HM HZ hz
            have q1 : t.size + 1 ≤ 9223372036854775807 := by omega
            have q2 : ¬ (9223372036854775806 < t.size) := by omega
            have q3 : ¬ (9223372036854775805 < t.size) := by omega
            have q4 : ¬ (9223372036854775804 < t.size) := by omega
            have q5 : ¬ (9223372036854775807 < t.size + 1) := by omega
            have q6 : ¬ (9223372036854775807 < t.size + 1 + 1) := by omega
            have q7 : ¬ (9223372036854775807 < t.size + 1 + 1 + 1) := by omega
            go_upto_region 8 with fail
            obtain ⟨W, hW⟩ : ∃ W, W = wr.alloc (.cells #[.int .i64 x, .int .i64 0, .int .i64 z] 25) := ⟨_, rfl⟩
            have hgW : wr.heap.size < W.heap.size := by rw [hW]; simp
            have hbW := HB1.out
            rw [← hW] at px hbW ⊢
            clear hW p0 p1 p2 HB HB1
            generalize wr.heap.size = G at *
            obtain ⟨p0, p1, p2⟩ := px.c3
            have pxd := px.drew
            have bbd := hbW.drew
            refine wp_region_held_drew (S := fun w' => w'.cell? ⟨G, 0, none⟩ = some (.int .i64 x) ∧ w'.cell? ⟨G, 1, none⟩ = some (.int .i64 0) ∧ w'.cell? ⟨G, 2, none⟩ = some (.int .i64 z)) (by kernel_rfl) ⟨K.Box.at_ (j := 0) pxd rfl, K.Box.at_ (j := 1) pxd rfl, K.Box.at_ (j := 2) pxd rfl⟩ (fun hHeld => ?_)
            refine K.takeL 0 (v := ?_) rfl (by kernel_rfl) (by kernel_rfl) (by kernel_rfl) (fun _ _ _ h => h) (Or.inl ⟨rfl, ?_⟩) (by assumption) ?_
            rotate_left
            · intro w hSw; (try dsimp only at hSw); first | (go_simp; done) | (go_simp; with_reducible rfl)
            simp only [Act.put, List.setIfInBounds_toArray, List.set_cons_zero, List.set_cons_succ]
            refine K.takeL 1 (v := ?_) rfl (by kernel_rfl) (by kernel_rfl) (by kernel_rfl) (fun _ _ _ h => h) (Or.inl ⟨rfl, ?_⟩) (by assumption) ?_
            rotate_left
            · intro w hSw; (try dsimp only at hSw); first | (go_simp; done) | (go_simp; with_reducible rfl)
            simp only [Act.put, List.setIfInBounds_toArray, List.set_cons_zero, List.set_cons_succ]
            refine K.takeL 2 (v := ?_) rfl (by kernel_rfl) (by kernel_rfl) (by kernel_rfl) (fun _ _ _ h => h) (Or.inl ⟨rfl, ?_⟩) (by assumption) ?_
            rotate_left
            · intro w hSw; (try dsimp only at hSw); first | (go_simp; done) | (go_simp; with_reducible rfl)
            simp only [Act.put, List.setIfInBounds_toArray, List.set_cons_zero, List.set_cons_succ]
            refine K.takeL 6 (v := ?_) rfl (by kernel_rfl) (by kernel_rfl) (by kernel_rfl) (fun _ _ _ h => h) (Or.inl ⟨rfl, ?_⟩) (by assumption) ?_
            rotate_left
            · intro w hSw; (try dsimp only at hSw); first | (go_simp; done) | (go_simp; with_reducible rfl)
            simp only [Act.put, List.setIfInBounds_toArray, List.set_cons_zero, List.set_cons_succ]
            refine K.takeL 7 (v := ?_) rfl (by kernel_rfl) (by kernel_rfl) (by kernel_rfl) (fun _ _ _ h => h) (Or.inl ⟨rfl, ?_⟩) (by assumption) ?_
            rotate_left
            · intro w hSw; (try dsimp only at hSw); first | (go_simp; done) | (go_simp; with_reducible rfl)
            simp only [Act.put, List.setIfInBounds_toArray, List.set_cons_zero, List.set_cons_succ]
            refine wpAnyH_ready (rs := [3, 5]) (by kernel_rfl) (by simp) (AllReadyH.cons (by rfl) (fun KK hK => ?_) (AllReadyH.cons (by rfl) (fun KK hK => ?_) AllReadyH.nil))
            · skip
              go_simp
              refine (HX.out _).mono ?_
              rintro e w3 ⟨rfl, b3⟩
              go_wp2_with fail
              have px3 := pxd.below b3
              have bb3 := bbd.trans (b3.mono bbd.size)
              refine hK.out _ _ ⟨K.Box.at_ (j := 0) px3 rfl, K.Box.at_ (j := 1) px3 rfl, K.Box.at_ (j := 2) px3 rfl⟩ (fun hHeld => ?_)
              clear hK KK
              try simp only [Act.put, List.setIfInBounds_toArray, List.set_cons_zero, List.set_cons_succ]
              refine K.takeL 4 (v := ?_) rfl (by kernel_rfl) (by kernel_rfl) (by kernel_rfl) (fun _ _ _ h => h) (Or.inl ⟨rfl, ?_⟩) (by assumption) ?_
              rotate_left
              · intro w hSw; (try dsimp only at hSw); first | (go_simp; done) | (go_simp; with_reducible rfl)
              simp only [Act.put, List.setIfInBounds_toArray, List.set_cons_zero, List.set_cons_succ]
              refine K.consL 5 rfl (by kernel_rfl) (fun KK hK => ?_)
              go_simp
              have px5 := px3.alloc (.cells #[.string ⟨#[117]⟩, .string ⟨#[108]⟩] 9)
              have bb5a := bb3.alloc bb3.size (.cells #[.string ⟨#[117]⟩, .string ⟨#[108]⟩] 9)
              have ow5 := K.Own.new w3 #[.string ⟨#[117]⟩, .string ⟨#[108]⟩] 9
              obtain ⟨cw, cw1, fw, fw1, lw⟩ := ow5.c2
              refine hK.out _ _ ⟨K.Box.at_ (j := 0) px5 rfl, K.Box.at_ (j := 1) px5 rfl, K.Box.at_ (j := 2) px5 rfl⟩ (fun hHeld => ?_)
              clear hK KK
              try simp only [Act.put, List.setIfInBounds_toArray, List.set_cons_zero, List.set_cons_succ]
              refine K.takeL 8 (v := ?_) rfl (by kernel_rfl) (by kernel_rfl) (by kernel_rfl) (fun _ _ _ h => h) (Or.inl ⟨rfl, ?_⟩) (by assumption) ?_
              rotate_left
              · intro w hSw; (try dsimp only at hSw); first | (go_simp; done) | (go_simp; with_reducible rfl)
              simp only [Act.put, List.setIfInBounds_toArray, List.set_cons_zero, List.set_cons_succ]
              refine K.consL 9 rfl (by kernel_rfl) (fun KK hK => ?_)
              go_simp
              skip
              refine hK.out _ _ ⟨K.Box.at_ (j := 0) px5 rfl, K.Box.at_ (j := 1) px5 rfl, K.Box.at_ (j := 2) px5 rfl⟩ (fun hHeld => ?_)
              clear hK KK
              try simp only [Act.put, List.setIfInBounds_toArray, List.set_cons_zero, List.set_cons_succ]
              refine K.takeL 10 (v := ?_) rfl (by kernel_rfl) (by kernel_rfl) (by kernel_rfl) (fun _ _ _ h => h) (Or.inl ⟨rfl, ?_⟩) (by assumption) ?_
              rotate_left
              · intro w hSw; (try dsimp only at hSw); first | (go_simp; done) | (go_simp; with_reducible rfl)
              simp only [Act.put, List.setIfInBounds_toArray, List.set_cons_zero, List.set_cons_succ]
              refine K.takeL 11 (v := ?_) rfl (by kernel_rfl) (by kernel_rfl) (by kernel_rfl) (fun _ _ _ h => h) (Or.inl ⟨rfl, ?_⟩) (by assumption) ?_
              rotate_left
              · intro w hSw; (try dsimp only at hSw); first | (go_simp; done) | (go_simp; with_reducible rfl)
              simp only [Act.put, List.setIfInBounds_toArray, List.set_cons_zero, List.set_cons_succ]
              refine wpAnyH_done (by kernel_rfl) ?_ _
              have h3s := bb5a.size
              go_wp2_with fail
              refine (HY.out _).mono ?_
              rintro e w5 ⟨rfl, b5⟩
              have bb5 := bb5a.trans (b5.mono (by first | omega | (simp at h3s ⊢; omega)))
              go_wp2_with fail
              go_roundw
              case rel => exact ⟨k + 1, _, by omega, by go_num, rfl, Lib.hid (by rw [HJ2.out, HK.out]; simp [ByteArray.append_assoc]), bb5⟩
              case measure => simp [intOf]; omega
            · skip
              go_simp
              have px5 := (px.alloc (.cells #[.string ⟨#[117]⟩, .string ⟨#[108]⟩] 9)).drew
              have bb5a := (hbW.alloc hbW.size (.cells #[.string ⟨#[117]⟩, .string ⟨#[108]⟩] 9)).drew
              have ow5 := (K.Own.new W #[.string ⟨#[117]⟩, .string ⟨#[108]⟩] 9).drew
              obtain ⟨cw, cw1, fw, fw1, lw⟩ := ow5.c2
              refine hK.out _ _ ⟨K.Box.at_ (j := 0) px5 rfl, K.Box.at_ (j := 1) px5 rfl, K.Box.at_ (j := 2) px5 rfl⟩ (fun hHeld => ?_)
              clear hK KK
              try simp only [Act.put, List.setIfInBounds_toArray, List.set_cons_zero, List.set_cons_succ]
              refine K.takeL 8 (v := ?_) rfl (by kernel_rfl) (by kernel_rfl) (by kernel_rfl) (fun _ _ _ h => h) (Or.inl ⟨rfl, ?_⟩) (by assumption) ?_
              rotate_left
              · intro w hSw; (try dsimp only at hSw); first | (go_simp; done) | (go_simp; with_reducible rfl)
              simp only [Act.put, List.setIfInBounds_toArray, List.set_cons_zero, List.set_cons_succ]
              refine wpAnyH_ready (rs := [3, 9]) (by kernel_rfl) (by simp) (AllReadyH.cons (by rfl) (fun KK hK => ?_) (AllReadyH.cons (by rfl) (fun KK hK => ?_) AllReadyH.nil))
              · skip
                go_simp
                refine (HX.out _).mono ?_
                rintro e w3 ⟨rfl, b3⟩
                go_wp2_with fail
                have px3 := px5.below b3
                have bb3 := bb5a.trans (b3.mono bb5a.size)
                have ow3 := ow5.below b3
                obtain ⟨cw, cw1, fw, fw1, lw⟩ := ow3.c2
                refine hK.out _ _ ⟨K.Box.at_ (j := 0) px3 rfl, K.Box.at_ (j := 1) px3 rfl, K.Box.at_ (j := 2) px3 rfl⟩ (fun hHeld => ?_)
                clear hK KK
                try simp only [Act.put, List.setIfInBounds_toArray, List.set_cons_zero, List.set_cons_succ]
                refine K.takeL 4 (v := ?_) rfl (by kernel_rfl) (by kernel_rfl) (by kernel_rfl) (fun _ _ _ h => h) (Or.inl ⟨rfl, ?_⟩) (by assumption) ?_
                rotate_left
                · intro w hSw; (try dsimp only at hSw); first | (go_simp; done) | (go_simp; with_reducible rfl)
                simp only [Act.put, List.setIfInBounds_toArray, List.set_cons_zero, List.set_cons_succ]
                refine K.consL 9 rfl (by kernel_rfl) (fun KK hK => ?_)
                go_simp
                skip
                refine hK.out _ _ ⟨K.Box.at_ (j := 0) px3 rfl, K.Box.at_ (j := 1) px3 rfl, K.Box.at_ (j := 2) px3 rfl⟩ (fun hHeld => ?_)
                clear hK KK
                try simp only [Act.put, List.setIfInBounds_toArray, List.set_cons_zero, List.set_cons_succ]
                refine K.takeL 10 (v := ?_) rfl (by kernel_rfl) (by kernel_rfl) (by kernel_rfl) (fun _ _ _ h => h) (Or.inl ⟨rfl, ?_⟩) (by assumption) ?_
                rotate_left
                · intro w hSw; (try dsimp only at hSw); first | (go_simp; done) | (go_simp; with_reducible rfl)
                simp only [Act.put, List.setIfInBounds_toArray, List.set_cons_zero, List.set_cons_succ]
                refine K.takeL 11 (v := ?_) rfl (by kernel_rfl) (by kernel_rfl) (by kernel_rfl) (fun _ _ _ h => h) (Or.inl ⟨rfl, ?_⟩) (by assumption) ?_
                rotate_left
                · intro w hSw; (try dsimp only at hSw); first | (go_simp; done) | (go_simp; with_reducible rfl)
                simp only [Act.put, List.setIfInBounds_toArray, List.set_cons_zero, List.set_cons_succ]
                refine wpAnyH_done (by kernel_rfl) ?_ _
                have h3s := bb3.size
                go_wp2_with fail
                refine (HY.out _).mono ?_
                rintro e w5 ⟨rfl, b5⟩
                have bb5 := bb3.trans (b5.mono (by first | omega | (simp at h3s ⊢; omega)))
                go_wp2_with fail
                go_roundw
                case rel => exact ⟨k + 1, _, by omega, by go_num, rfl, Lib.hid (by rw [HJ2.out, HK.out]; simp [ByteArray.append_assoc]), bb5⟩
                case measure => simp [intOf]; omega
              · skip
                go_simp
                skip
                refine hK.out _ _ ⟨K.Box.at_ (j := 0) px5 rfl, K.Box.at_ (j := 1) px5 rfl, K.Box.at_ (j := 2) px5 rfl⟩ (fun hHeld => ?_)
                clear hK KK
                try simp only [Act.put, List.setIfInBounds_toArray, List.set_cons_zero, List.set_cons_succ]
                refine K.consL 3 rfl (by kernel_rfl) (fun KK hK => ?_)
                go_simp
                refine (HX.out _).mono ?_
                rintro e w3 ⟨rfl, b3⟩
                go_wp2_with fail
                have px3 := px5.below b3
                have bb3 := bb5a.trans (b3.mono bb5a.size)
                have ow3 := ow5.below b3
                obtain ⟨cw, cw1, fw, fw1, lw⟩ := ow3.c2
                refine hK.out _ _ ⟨K.Box.at_ (j := 0) px3 rfl, K.Box.at_ (j := 1) px3 rfl, K.Box.at_ (j := 2) px3 rfl⟩ (fun hHeld => ?_)
                clear hK KK
                try simp only [Act.put, List.setIfInBounds_toArray, List.set_cons_zero, List.set_cons_succ]
                refine K.takeL 4 (v := ?_) rfl (by kernel_rfl) (by kernel_rfl) (by kernel_rfl) (fun _ _ _ h => h) (Or.inl ⟨rfl, ?_⟩) (by assumption) ?_
                rotate_left
                · intro w hSw; (try dsimp only at hSw); first | (go_simp; done) | (go_simp; with_reducible rfl)
                simp only [Act.put, List.setIfInBounds_toArray, List.set_cons_zero, List.set_cons_succ]
                refine K.takeL 10 (v := ?_) rfl (by kernel_rfl) (by kernel_rfl) (by kernel_rfl) (fun _ _ _ h => h) (Or.inl ⟨rfl, ?_⟩) (by assumption) ?_
                rotate_left
                · intro w hSw; (try dsimp only at hSw); first | (go_simp; done) | (go_simp; with_reducible rfl)
                simp only [Act.put, List.setIfInBounds_toArray, List.set_cons_zero, List.set_cons_succ]
                refine K.takeL 11 (v := ?_) rfl (by kernel_rfl) (by kernel_rfl) (by kernel_rfl) (fun _ _ _ h => h) (Or.inl ⟨rfl, ?_⟩) (by assumption) ?_
                rotate_left
                · intro w hSw; (try dsimp only at hSw); first | (go_simp; done) | (go_simp; with_reducible rfl)
                simp only [Act.put, List.setIfInBounds_toArray, List.set_cons_zero, List.set_cons_succ]
                refine wpAnyH_done (by kernel_rfl) ?_ _
                have h3s := bb3.size
                go_wp2_with fail
                refine (HY.out _).mono ?_
                rintro e w5 ⟨rfl, b5⟩
                have bb5 := bb3.trans (b5.mono (by first | omega | (simp at h3s ⊢; omega)))
                go_wp2_with fail
                go_roundw
                case rel => exact ⟨k + 1, _, by omega, by go_num, rfl, Lib.hid (by rw [HJ2.out, HK.out]; simp [ByteArray.append_assoc]), bb5⟩
                case measure => simp [intOf]; omega
        · obtain rfl : y = 1 := by omega
          by_cases hz : z < 0
          · have hzz : decide (0 < z) = false := decide_eq_false (by omega)
            have HK := Lib.hid (show T = M.txt x ++ ⟨#[108]⟩ ++ M.txt z by
              rw [HM.out]; unfold M.prt M.byt; rw [if_neg (by omega)]; rw [if_neg (by omega)])
            generalize hTX : M.txt x = tx at *
            generalize hTY : M.txt z = ty at *
            clear hTX hTY HM HZ hz
            have q1 : t.size + 1 ≤ 9223372036854775807 := by omega
            have q2 : ¬ (9223372036854775806 < t.size) := by omega
            have q3 : ¬ (9223372036854775805 < t.size) := by omega
            have q4 : ¬ (9223372036854775804 < t.size) := by omega
            have q5 : ¬ (9223372036854775807 < t.size + 1) := by omega
            have q6 : ¬ (9223372036854775807 < t.size + 1 + 1) := by omega
            have q7 : ¬ (9223372036854775807 < t.size + 1 + 1 + 1) := by omega
            go_upto_region 8 with fail
            obtain ⟨W, hW⟩ : ∃ W, W = wr.alloc (.cells #[.int .i64 x, .int .i64 1, .int .i64 z] 25) := ⟨_, rfl⟩
            have hgW : wr.heap.size < W.heap.size := by rw [hW]; simp
            have hbW := HB1.out
            rw [← hW] at px hbW ⊢
            clear hW p0 p1 p2 HB HB1
            generalize wr.heap.size = G at *
            obtain ⟨p0, p1, p2⟩ := px.c3
            have pxd := px.drew
            have bbd := hbW.drew
            refine wp_region_held_drew (S := fun w' => w'.cell? ⟨G, 0, none⟩ = some (.int .i64 x) ∧ w'.cell? ⟨G, 1, none⟩ = some (.int .i64 1) ∧ w'.cell? ⟨G, 2, none⟩ = some (.int .i64 z)) (by kernel_rfl) ⟨K.Box.at_ (j := 0) pxd rfl, K.Box.at_ (j := 1) pxd rfl, K.Box.at_ (j := 2) pxd rfl⟩ (fun hHeld => ?_)
            refine K.takeL 0 (v := ?_) rfl (by kernel_rfl) (by kernel_rfl) (by kernel_rfl) (fun _ _ _ h => h) (Or.inl ⟨rfl, ?_⟩) (by assumption) ?_
            rotate_left
            · intro w hSw; (try dsimp only at hSw); first | (go_simp; done) | (go_simp; with_reducible rfl)
            simp only [Act.put, List.setIfInBounds_toArray, List.set_cons_zero, List.set_cons_succ]
            refine K.takeL 1 (v := ?_) rfl (by kernel_rfl) (by kernel_rfl) (by kernel_rfl) (fun _ _ _ h => h) (Or.inl ⟨rfl, ?_⟩) (by assumption) ?_
            rotate_left
            · intro w hSw; (try dsimp only at hSw); first | (go_simp; done) | (go_simp; with_reducible rfl)
            simp only [Act.put, List.setIfInBounds_toArray, List.set_cons_zero, List.set_cons_succ]
            refine K.takeL 2 (v := ?_) rfl (by kernel_rfl) (by kernel_rfl) (by kernel_rfl) (fun _ _ _ h => h) (Or.inl ⟨rfl, ?_⟩) (by assumption) ?_
            rotate_left
            · intro w hSw; (try dsimp only at hSw); first | (go_simp; done) | (go_simp; with_reducible rfl)
            simp only [Act.put, List.setIfInBounds_toArray, List.set_cons_zero, List.set_cons_succ]
            refine K.takeL 6 (v := ?_) rfl (by kernel_rfl) (by kernel_rfl) (by kernel_rfl) (fun _ _ _ h => h) (Or.inl ⟨rfl, ?_⟩) (by assumption) ?_
            rotate_left
            · intro w hSw; (try dsimp only at hSw); first | (go_simp; done) | (go_simp; with_reducible rfl)
            simp only [Act.put, List.setIfInBounds_toArray, List.set_cons_zero, List.set_cons_succ]
            refine K.takeL 7 (v := ?_) rfl (by kernel_rfl) (by kernel_rfl) (by kernel_rfl) (fun _ _ _ h => h) (Or.inl ⟨rfl, ?_⟩) (by assumption) ?_
            rotate_left
            · intro w hSw; (try dsimp only at hSw); first | (go_simp; done) | (go_simp; with_reducible rfl)
            simp only [Act.put, List.setIfInBounds_toArray, List.set_cons_zero, List.set_cons_succ]
            refine wpAnyH_ready (rs := [3, 5]) (by kernel_rfl) (by simp) (AllReadyH.cons (by rfl) (fun KK hK => ?_) (AllReadyH.cons (by rfl) (fun KK hK => ?_) AllReadyH.nil))
            · skip
              go_simp
              refine (HX.out _).mono ?_
              rintro e w3 ⟨rfl, b3⟩
              go_wp2_with fail
              have px3 := pxd.below b3
              have bb3 := bbd.trans (b3.mono bbd.size)
              refine hK.out _ _ ⟨K.Box.at_ (j := 0) px3 rfl, K.Box.at_ (j := 1) px3 rfl, K.Box.at_ (j := 2) px3 rfl⟩ (fun hHeld => ?_)
              clear hK KK
              try simp only [Act.put, List.setIfInBounds_toArray, List.set_cons_zero, List.set_cons_succ]
              refine K.takeL 4 (v := ?_) rfl (by kernel_rfl) (by kernel_rfl) (by kernel_rfl) (fun _ _ _ h => h) (Or.inl ⟨rfl, ?_⟩) (by assumption) ?_
              rotate_left
              · intro w hSw; (try dsimp only at hSw); first | (go_simp; done) | (go_simp; with_reducible rfl)
              simp only [Act.put, List.setIfInBounds_toArray, List.set_cons_zero, List.set_cons_succ]
              refine K.consL 5 rfl (by kernel_rfl) (fun KK hK => ?_)
              go_simp
              have px5 := px3.alloc (.cells #[.string ⟨#[117]⟩, .string ⟨#[108]⟩] 9)
              have bb5a := bb3.alloc bb3.size (.cells #[.string ⟨#[117]⟩, .string ⟨#[108]⟩] 9)
              have ow5 := K.Own.new w3 #[.string ⟨#[117]⟩, .string ⟨#[108]⟩] 9
              obtain ⟨cw, cw1, fw, fw1, lw⟩ := ow5.c2
              refine hK.out _ _ ⟨K.Box.at_ (j := 0) px5 rfl, K.Box.at_ (j := 1) px5 rfl, K.Box.at_ (j := 2) px5 rfl⟩ (fun hHeld => ?_)
              clear hK KK
              try simp only [Act.put, List.setIfInBounds_toArray, List.set_cons_zero, List.set_cons_succ]
              refine K.takeL 8 (v := ?_) rfl (by kernel_rfl) (by kernel_rfl) (by kernel_rfl) (fun _ _ _ h => h) (Or.inl ⟨rfl, ?_⟩) (by assumption) ?_
              rotate_left
              · intro w hSw; (try dsimp only at hSw); first | (go_simp; done) | (go_simp; with_reducible rfl)
              simp only [Act.put, List.setIfInBounds_toArray, List.set_cons_zero, List.set_cons_succ]
              refine K.consL 9 rfl (by kernel_rfl) (fun KK hK => ?_)
              go_simp
              skip
              refine hK.out _ _ ⟨K.Box.at_ (j := 0) px5 rfl, K.Box.at_ (j := 1) px5 rfl, K.Box.at_ (j := 2) px5 rfl⟩ (fun hHeld => ?_)
              clear hK KK
              try simp only [Act.put, List.setIfInBounds_toArray, List.set_cons_zero, List.set_cons_succ]
              refine K.takeL 10 (v := ?_) rfl (by kernel_rfl) (by kernel_rfl) (by kernel_rfl) (fun _ _ _ h => h) (Or.inl ⟨rfl, ?_⟩) (by assumption) ?_
              rotate_left
              · intro w hSw; (try dsimp only at hSw); first | (go_simp; done) | (go_simp; with_reducible rfl)
              simp only [Act.put, List.setIfInBounds_toArray, List.set_cons_zero, List.set_cons_succ]
              refine K.takeL 11 (v := ?_) rfl (by kernel_rfl) (by kernel_rfl) (by kernel_rfl) (fun _ _ _ h => h) (Or.inl ⟨rfl, ?_⟩) (by assumption) ?_
              rotate_left
              · intro w hSw; (try dsimp only at hSw); first | (go_simp; done) | (go_simp; with_reducible rfl)
              simp only [Act.put, List.setIfInBounds_toArray, List.set_cons_zero, List.set_cons_succ]
              refine wpAnyH_done (by kernel_rfl) ?_ _
              have h3s := bb5a.size
              go_wp2_with fail
              refine (HY.out _).mono ?_
              rintro e w5 ⟨rfl, b5⟩
              have bb5 := bb5a.trans (b5.mono (by first | omega | (simp at h3s ⊢; omega)))
              go_wp2_with fail
              go_roundw
              case rel => exact ⟨k + 1, _, by omega, by go_num, rfl, Lib.hid (by rw [HJ2.out, HK.out]; simp [ByteArray.append_assoc]), bb5⟩
              case measure => simp [intOf]; omega
            · skip
              go_simp
              have px5 := (px.alloc (.cells #[.string ⟨#[117]⟩, .string ⟨#[108]⟩] 9)).drew
              have bb5a := (hbW.alloc hbW.size (.cells #[.string ⟨#[117]⟩, .string ⟨#[108]⟩] 9)).drew
              have ow5 := (K.Own.new W #[.string ⟨#[117]⟩, .string ⟨#[108]⟩] 9).drew
              obtain ⟨cw, cw1, fw, fw1, lw⟩ := ow5.c2
              refine hK.out _ _ ⟨K.Box.at_ (j := 0) px5 rfl, K.Box.at_ (j := 1) px5 rfl, K.Box.at_ (j := 2) px5 rfl⟩ (fun hHeld => ?_)
              clear hK KK
              try simp only [Act.put, List.setIfInBounds_toArray, List.set_cons_zero, List.set_cons_succ]
              refine K.takeL 8 (v := ?_) rfl (by kernel_rfl) (by kernel_rfl) (by kernel_rfl) (fun _ _ _ h => h) (Or.inl ⟨rfl, ?_⟩) (by assumption) ?_
              rotate_left
              · intro w hSw; (try dsimp only at hSw); first | (go_simp; done) | (go_simp; with_reducible rfl)
              simp only [Act.put, List.setIfInBounds_toArray, List.set_cons_zero, List.set_cons_succ]
              refine wpAnyH_ready (rs := [3, 9]) (by kernel_rfl) (by simp) (AllReadyH.cons (by rfl) (fun KK hK => ?_) (AllReadyH.cons (by rfl) (fun KK hK => ?_) AllReadyH.nil))
              · skip
                go_simp
                refine (HX.out _).mono ?_
                rintro e w3 ⟨rfl, b3⟩
                go_wp2_with fail
                have px3 := px5.below b3
                have bb3 := bb5a.trans (b3.mono bb5a.size)
                have ow3 := ow5.below b3
                obtain ⟨cw, cw1, fw, fw1, lw⟩ := ow3.c2
                refine hK.out _ _ ⟨K.Box.at_ (j := 0) px3 rfl, K.Box.at_ (j := 1) px3 rfl, K.Box.at_ (j := 2) px3 rfl⟩ (fun hHeld => ?_)
                clear hK KK
                try simp only [Act.put, List.setIfInBounds_toArray, List.set_cons_zero, List.set_cons_succ]
                refine K.takeL 4 (v := ?_) rfl (by kernel_rfl) (by kernel_rfl) (by kernel_rfl) (fun _ _ _ h => h) (Or.inl ⟨rfl, ?_⟩) (by assumption) ?_
                rotate_left
                · intro w hSw; (try dsimp only at hSw); first | (go_simp; done) | (go_simp; with_reducible rfl)
                simp only [Act.put, List.setIfInBounds_toArray, List.set_cons_zero, List.set_cons_succ]
                refine K.consL 9 rfl (by kernel_rfl) (fun KK hK => ?_)
                go_simp
                skip
                refine hK.out _ _ ⟨K.Box.at_ (j := 0) px3 rfl, K.Box.at_ (j := 1) px3 rfl, K.Box.at_ (j := 2) px3 rfl⟩ (fun hHeld => ?_)
                clear hK KK
                try simp only [Act.put, List.setIfInBounds_toArray, List.set_cons_zero, List.set_cons_succ]
                refine K.takeL 10 (v := ?_) rfl (by kernel_rfl) (by kernel_rfl) (by kernel_rfl) (fun _ _ _ h => h) (Or.inl ⟨rfl, ?_⟩) (by assumption) ?_
                rotate_left
                · intro w hSw; (try dsimp only at hSw); first | (go_simp; done) | (go_simp; with_reducible rfl)
                simp only [Act.put, List.setIfInBounds_toArray, List.set_cons_zero, List.set_cons_succ]
                refine K.takeL 11 (v := ?_) rfl (by kernel_rfl) (by kernel_rfl) (by kernel_rfl) (fun _ _ _ h => h) (Or.inl ⟨rfl, ?_⟩) (by assumption) ?_
                rotate_left
                · intro w hSw; (try dsimp only at hSw); first | (go_simp; done) | (go_simp; with_reducible rfl)
                simp only [Act.put, List.setIfInBounds_toArray, List.set_cons_zero, List.set_cons_succ]
                refine wpAnyH_done (by kernel_rfl) ?_ _
                have h3s := bb3.size
                go_wp2_with fail
                refine (HY.out _).mono ?_
                rintro e w5 ⟨rfl, b5⟩
                have bb5 := bb3.trans (b5.mono (by first | omega | (simp at h3s ⊢; omega)))
                go_wp2_with fail
                go_roundw
                case rel => exact ⟨k + 1, _, by omega, by go_num, rfl, Lib.hid (by rw [HJ2.out, HK.out]; simp [ByteArray.append_assoc]), bb5⟩
                case measure => simp [intOf]; omega
              · skip
                go_simp
                skip
                refine hK.out _ _ ⟨K.Box.at_ (j := 0) px5 rfl, K.Box.at_ (j := 1) px5 rfl, K.Box.at_ (j := 2) px5 rfl⟩ (fun hHeld => ?_)
                clear hK KK
                try simp only [Act.put, List.setIfInBounds_toArray, List.set_cons_zero, List.set_cons_succ]
                refine K.consL 3 rfl (by kernel_rfl) (fun KK hK => ?_)
                go_simp
                refine (HX.out _).mono ?_
                rintro e w3 ⟨rfl, b3⟩
                go_wp2_with fail
                have px3 := px5.below b3
                have bb3 := bb5a.trans (b3.mono bb5a.size)
                have ow3 := ow5.below b3
                obtain ⟨cw, cw1, fw, fw1, lw⟩ := ow3.c2
                refine hK.out _ _ ⟨K.Box.at_ (j := 0) px3 rfl, K.Box.at_ (j := 1) px3 rfl, K.Box.at_ (j := 2) px3 rfl⟩ (fun hHeld => ?_)
                clear hK KK
                try simp only [Act.put, List.setIfInBounds_toArray, List.set_cons_zero, List.set_cons_succ]
                refine K.takeL 4 (v := ?_) rfl (by kernel_rfl) (by kernel_rfl) (by kernel_rfl) (fun _ _ _ h => h) (Or.inl ⟨rfl, ?_⟩) (by assumption) ?_
                rotate_left
                · intro w hSw; (try dsimp only at hSw); first | (go_simp; done) | (go_simp; with_reducible rfl)
                simp only [Act.put, List.setIfInBounds_toArray, List.set_cons_zero, List.set_cons_succ]
                refine K.takeL 10 (v := ?_) rfl (by kernel_rfl) (by kernel_rfl) (by kernel_rfl) (fun _ _ _ h => h) (Or.inl ⟨rfl, ?_⟩) (by assumption) ?_
                rotate_left
                · intro w hSw; (try dsimp only at hSw); first | (go_simp; done) | (go_simp; with_reducible rfl)
                simp only [Act.put, List.setIfInBounds_toArray, List.set_cons_zero, List.set_cons_succ]
                refine K.takeL 11 (v := ?_) rfl (by kernel_rfl) (by kernel_rfl) (by kernel_rfl) (fun _ _ _ h => h) (Or.inl ⟨rfl, ?_⟩) (by assumption) ?_
                rotate_left
                · intro w hSw; (try dsimp only at hSw); first | (go_simp; done) | (go_simp; with_reducible rfl)
                simp only [Act.put, List.setIfInBounds_toArray, List.set_cons_zero, List.set_cons_succ]
                refine wpAnyH_done (by kernel_rfl) ?_ _
                have h3s := bb3.size
                go_wp2_with fail
                refine (HY.out _).mono ?_
                rintro e w5 ⟨rfl, b5⟩
                have bb5 := bb3.trans (b5.mono (by first | omega | (simp at h3s ⊢; omega)))
                go_wp2_with fail
                go_roundw
                case rel => exact ⟨k + 1, _, by omega, by go_num, rfl, Lib.hid (by rw [HJ2.out, HK.out]; simp [ByteArray.append_assoc]), bb5⟩
                case measure => simp [intOf]; omega
          · have hzz : decide (0 < z) = true := decide_eq_true (by omega)
            have HK := Lib.hid (show T = M.txt x ++ ⟨#[108]⟩ ++ (⟨#[43]⟩ ++ M.txt z) by
              rw [HM.out]; unfold M.prt M.byt; rw [if_neg (by omega)]; rw [if_pos (by omega)])
            generalize hTX : M.txt x = tx at *
            generalize hTY : M.txt z = ty at *
            clear hTX hTY HM HZ hz
            have q1 : t.size + 1 ≤ 9223372036854775807 := by omega
            have q2 : ¬ (9223372036854775806 < t.size) := by omega
            have q3 : ¬ (9223372036854775805 < t.size) := by omega
            have q4 : ¬ (9223372036854775804 < t.size) := by omega
            have q5 : ¬ (9223372036854775807 < t.size + 1) := by omega
            have q6 : ¬ (9223372036854775807 < t.size + 1 + 1) := by omega
            have q7 : ¬ (9223372036854775807 < t.size + 1 + 1 + 1) := by omega
            go_upto_region 8 with fail
            obtain ⟨W, hW⟩ : ∃ W, W = wr.alloc (.cells #[.int .i64 x, .int .i64 1, .int .i64 z] 25) := ⟨_, rfl⟩
            have hgW : wr.heap.size < W.heap.size := by rw [hW]; simp
            have hbW := HB1.out
            rw [← hW] at px hbW ⊢
            clear hW p0 p1 p2 HB HB1
            generalize wr.heap.size = G at *
            obtain ⟨p0, p1, p2⟩ := px.c3
            have pxd := px.drew
            have bbd := hbW.drew
            refine wp_region_held_drew (S := fun w' => w'.cell? ⟨G, 0, none⟩ = some (.int .i64 x) ∧ w'.cell? ⟨G, 1, none⟩ = some (.int .i64 1) ∧ w'.cell? ⟨G, 2, none⟩ = some (.int .i64 z)) (by kernel_rfl) ⟨K.Box.at_ (j := 0) pxd rfl, K.Box.at_ (j := 1) pxd rfl, K.Box.at_ (j := 2) pxd rfl⟩ (fun hHeld => ?_)
            refine K.takeL 0 (v := ?_) rfl (by kernel_rfl) (by kernel_rfl) (by kernel_rfl) (fun _ _ _ h => h) (Or.inl ⟨rfl, ?_⟩) (by assumption) ?_
            rotate_left
            · intro w hSw; (try dsimp only at hSw); first | (go_simp; done) | (go_simp; with_reducible rfl)
            simp only [Act.put, List.setIfInBounds_toArray, List.set_cons_zero, List.set_cons_succ]
            refine K.takeL 1 (v := ?_) rfl (by kernel_rfl) (by kernel_rfl) (by kernel_rfl) (fun _ _ _ h => h) (Or.inl ⟨rfl, ?_⟩) (by assumption) ?_
            rotate_left
            · intro w hSw; (try dsimp only at hSw); first | (go_simp; done) | (go_simp; with_reducible rfl)
            simp only [Act.put, List.setIfInBounds_toArray, List.set_cons_zero, List.set_cons_succ]
            refine K.takeL 2 (v := ?_) rfl (by kernel_rfl) (by kernel_rfl) (by kernel_rfl) (fun _ _ _ h => h) (Or.inl ⟨rfl, ?_⟩) (by assumption) ?_
            rotate_left
            · intro w hSw; (try dsimp only at hSw); first | (go_simp; done) | (go_simp; with_reducible rfl)
            simp only [Act.put, List.setIfInBounds_toArray, List.set_cons_zero, List.set_cons_succ]
            refine K.takeL 6 (v := ?_) rfl (by kernel_rfl) (by kernel_rfl) (by kernel_rfl) (fun _ _ _ h => h) (Or.inl ⟨rfl, ?_⟩) (by assumption) ?_
            rotate_left
            · intro w hSw; (try dsimp only at hSw); first | (go_simp; done) | (go_simp; with_reducible rfl)
            simp only [Act.put, List.setIfInBounds_toArray, List.set_cons_zero, List.set_cons_succ]
            refine K.takeL 7 (v := ?_) rfl (by kernel_rfl) (by kernel_rfl) (by kernel_rfl) (fun _ _ _ h => h) (Or.inl ⟨rfl, ?_⟩) (by assumption) ?_
            rotate_left
            · intro w hSw; (try dsimp only at hSw); first | (go_simp; done) | (go_simp; with_reducible rfl)
            simp only [Act.put, List.setIfInBounds_toArray, List.set_cons_zero, List.set_cons_succ]
            refine wpAnyH_ready (rs := [3, 5]) (by kernel_rfl) (by simp) (AllReadyH.cons (by rfl) (fun KK hK => ?_) (AllReadyH.cons (by rfl) (fun KK hK => ?_) AllReadyH.nil))
            · skip
              go_simp
              refine (HX.out _).mono ?_
              rintro e w3 ⟨rfl, b3⟩
              go_wp2_with fail
              have px3 := pxd.below b3
              have bb3 := bbd.trans (b3.mono bbd.size)
              refine hK.out _ _ ⟨K.Box.at_ (j := 0) px3 rfl, K.Box.at_ (j := 1) px3 rfl, K.Box.at_ (j := 2) px3 rfl⟩ (fun hHeld => ?_)
              clear hK KK
              try simp only [Act.put, List.setIfInBounds_toArray, List.set_cons_zero, List.set_cons_succ]
              refine K.takeL 4 (v := ?_) rfl (by kernel_rfl) (by kernel_rfl) (by kernel_rfl) (fun _ _ _ h => h) (Or.inl ⟨rfl, ?_⟩) (by assumption) ?_
              rotate_left
              · intro w hSw; (try dsimp only at hSw); first | (go_simp; done) | (go_simp; with_reducible rfl)
              simp only [Act.put, List.setIfInBounds_toArray, List.set_cons_zero, List.set_cons_succ]
              refine K.consL 5 rfl (by kernel_rfl) (fun KK hK => ?_)
              go_simp
              have px5 := px3.alloc (.cells #[.string ⟨#[117]⟩, .string ⟨#[108]⟩] 9)
              have bb5a := bb3.alloc bb3.size (.cells #[.string ⟨#[117]⟩, .string ⟨#[108]⟩] 9)
              have ow5 := K.Own.new w3 #[.string ⟨#[117]⟩, .string ⟨#[108]⟩] 9
              obtain ⟨cw, cw1, fw, fw1, lw⟩ := ow5.c2
              refine hK.out _ _ ⟨K.Box.at_ (j := 0) px5 rfl, K.Box.at_ (j := 1) px5 rfl, K.Box.at_ (j := 2) px5 rfl⟩ (fun hHeld => ?_)
              clear hK KK
              try simp only [Act.put, List.setIfInBounds_toArray, List.set_cons_zero, List.set_cons_succ]
              refine K.takeL 8 (v := ?_) rfl (by kernel_rfl) (by kernel_rfl) (by kernel_rfl) (fun _ _ _ h => h) (Or.inl ⟨rfl, ?_⟩) (by assumption) ?_
              rotate_left
              · intro w hSw; (try dsimp only at hSw); first | (go_simp; done) | (go_simp; with_reducible rfl)
              simp only [Act.put, List.setIfInBounds_toArray, List.set_cons_zero, List.set_cons_succ]
              refine K.consL 9 rfl (by kernel_rfl) (fun KK hK => ?_)
              go_simp
              skip
              refine hK.out _ _ ⟨K.Box.at_ (j := 0) px5 rfl, K.Box.at_ (j := 1) px5 rfl, K.Box.at_ (j := 2) px5 rfl⟩ (fun hHeld => ?_)
              clear hK KK
              try simp only [Act.put, List.setIfInBounds_toArray, List.set_cons_zero, List.set_cons_succ]
              refine K.takeL 10 (v := ?_) rfl (by kernel_rfl) (by kernel_rfl) (by kernel_rfl) (fun _ _ _ h => h) (Or.inl ⟨rfl, ?_⟩) (by assumption) ?_
              rotate_left
              · intro w hSw; (try dsimp only at hSw); first | (go_simp; done) | (go_simp; with_reducible rfl)
              simp only [Act.put, List.setIfInBounds_toArray, List.set_cons_zero, List.set_cons_succ]
              refine K.takeL 11 (v := ?_) rfl (by kernel_rfl) (by kernel_rfl) (by kernel_rfl) (fun _ _ _ h => h) (Or.inl ⟨rfl, ?_⟩) (by assumption) ?_
              rotate_left
              · intro w hSw; (try dsimp only at hSw); first | (go_simp; done) | (go_simp; with_reducible rfl)
              simp only [Act.put, List.setIfInBounds_toArray, List.set_cons_zero, List.set_cons_succ]
              refine wpAnyH_done (by kernel_rfl) ?_ _
              have h3s := bb5a.size
              go_wp2_with fail
              refine (HY.out _).mono ?_
              rintro e w5 ⟨rfl, b5⟩
              have bb5 := bb5a.trans (b5.mono (by first | omega | (simp at h3s ⊢; omega)))
              go_wp2_with fail
              go_roundw
              case rel => exact ⟨k + 1, _, by omega, by go_num, rfl, Lib.hid (by rw [HJ2.out, HK.out]; simp [ByteArray.append_assoc]), bb5⟩
              case measure => simp [intOf]; omega
            · skip
              go_simp
              have px5 := (px.alloc (.cells #[.string ⟨#[117]⟩, .string ⟨#[108]⟩] 9)).drew
              have bb5a := (hbW.alloc hbW.size (.cells #[.string ⟨#[117]⟩, .string ⟨#[108]⟩] 9)).drew
              have ow5 := (K.Own.new W #[.string ⟨#[117]⟩, .string ⟨#[108]⟩] 9).drew
              obtain ⟨cw, cw1, fw, fw1, lw⟩ := ow5.c2
              refine hK.out _ _ ⟨K.Box.at_ (j := 0) px5 rfl, K.Box.at_ (j := 1) px5 rfl, K.Box.at_ (j := 2) px5 rfl⟩ (fun hHeld => ?_)
              clear hK KK
              try simp only [Act.put, List.setIfInBounds_toArray, List.set_cons_zero, List.set_cons_succ]
              refine K.takeL 8 (v := ?_) rfl (by kernel_rfl) (by kernel_rfl) (by kernel_rfl) (fun _ _ _ h => h) (Or.inl ⟨rfl, ?_⟩) (by assumption) ?_
              rotate_left
              · intro w hSw; (try dsimp only at hSw); first | (go_simp; done) | (go_simp; with_reducible rfl)
              simp only [Act.put, List.setIfInBounds_toArray, List.set_cons_zero, List.set_cons_succ]
              refine wpAnyH_ready (rs := [3, 9]) (by kernel_rfl) (by simp) (AllReadyH.cons (by rfl) (fun KK hK => ?_) (AllReadyH.cons (by rfl) (fun KK hK => ?_) AllReadyH.nil))
              · skip
                go_simp
                refine (HX.out _).mono ?_
                rintro e w3 ⟨rfl, b3⟩
                go_wp2_with fail
                have px3 := px5.below b3
                have bb3 := bb5a.trans (b3.mono bb5a.size)
                have ow3 := ow5.below b3
                obtain ⟨cw, cw1, fw, fw1, lw⟩ := ow3.c2
                refine hK.out _ _ ⟨K.Box.at_ (j := 0) px3 rfl, K.Box.at_ (j := 1) px3 rfl, K.Box.at_ (j := 2) px3 rfl⟩ (fun hHeld => ?_)
                clear hK KK
                try simp only [Act.put, List.setIfInBounds_toArray, List.set_cons_zero, List.set_cons_succ]
                refine K.takeL 4 (v := ?_) rfl (by kernel_rfl) (by kernel_rfl) (by kernel_rfl) (fun _ _ _ h => h) (Or.inl ⟨rfl, ?_⟩) (by assumption) ?_
                rotate_left
                · intro w hSw; (try dsimp only at hSw); first | (go_simp; done) | (go_simp; with_reducible rfl)
                simp only [Act.put, List.setIfInBounds_toArray, List.set_cons_zero, List.set_cons_succ]
                refine K.consL 9 rfl (by kernel_rfl) (fun KK hK => ?_)
                go_simp
                skip
                refine hK.out _ _ ⟨K.Box.at_ (j := 0) px3 rfl, K.Box.at_ (j := 1) px3 rfl, K.Box.at_ (j := 2) px3 rfl⟩ (fun hHeld => ?_)
                clear hK KK
                try simp only [Act.put, List.setIfInBounds_toArray, List.set_cons_zero, List.set_cons_succ]
                refine K.takeL 10 (v := ?_) rfl (by kernel_rfl) (by kernel_rfl) (by kernel_rfl) (fun _ _ _ h => h) (Or.inl ⟨rfl, ?_⟩) (by assumption) ?_
                rotate_left
                · intro w hSw; (try dsimp only at hSw); first | (go_simp; done) | (go_simp; with_reducible rfl)
                simp only [Act.put, List.setIfInBounds_toArray, List.set_cons_zero, List.set_cons_succ]
                refine K.takeL 11 (v := ?_) rfl (by kernel_rfl) (by kernel_rfl) (by kernel_rfl) (fun _ _ _ h => h) (Or.inl ⟨rfl, ?_⟩) (by assumption) ?_
                rotate_left
                · intro w hSw; (try dsimp only at hSw); first | (go_simp; done) | (go_simp; with_reducible rfl)
                simp only [Act.put, List.setIfInBounds_toArray, List.set_cons_zero, List.set_cons_succ]
                refine wpAnyH_done (by kernel_rfl) ?_ _
                have h3s := bb3.size
                go_wp2_with fail
                refine (HY.out _).mono ?_
                rintro e w5 ⟨rfl, b5⟩
                have bb5 := bb3.trans (b5.mono (by first | omega | (simp at h3s ⊢; omega)))
                go_wp2_with fail
                go_roundw
                case rel => exact ⟨k + 1, _, by omega, by go_num, rfl, Lib.hid (by rw [HJ2.out, HK.out]; simp [ByteArray.append_assoc]), bb5⟩
                case measure => simp [intOf]; omega
              · skip
                go_simp
                skip
                refine hK.out _ _ ⟨K.Box.at_ (j := 0) px5 rfl, K.Box.at_ (j := 1) px5 rfl, K.Box.at_ (j := 2) px5 rfl⟩ (fun hHeld => ?_)
                clear hK KK
                try simp only [Act.put, List.setIfInBounds_toArray, List.set_cons_zero, List.set_cons_succ]
                refine K.consL 3 rfl (by kernel_rfl) (fun KK hK => ?_)
                go_simp
                refine (HX.out _).mono ?_
                rintro e w3 ⟨rfl, b3⟩
                go_wp2_with fail
                have px3 := px5.below b3
                have bb3 := bb5a.trans (b3.mono bb5a.size)
                have ow3 := ow5.below b3
                obtain ⟨cw, cw1, fw, fw1, lw⟩ := ow3.c2
                refine hK.out _ _ ⟨K.Box.at_ (j := 0) px3 rfl, K.Box.at_ (j := 1) px3 rfl, K.Box.at_ (j := 2) px3 rfl⟩ (fun hHeld => ?_)
                clear hK KK
                try simp only [Act.put, List.setIfInBounds_toArray, List.set_cons_zero, List.set_cons_succ]
                refine K.takeL 4 (v := ?_) rfl (by kernel_rfl) (by kernel_rfl) (by kernel_rfl) (fun _ _ _ h => h) (Or.inl ⟨rfl, ?_⟩) (by assumption) ?_
                rotate_left
                · intro w hSw; (try dsimp only at hSw); first | (go_simp; done) | (go_simp; with_reducible rfl)
                simp only [Act.put, List.setIfInBounds_toArray, List.set_cons_zero, List.set_cons_succ]
                refine K.takeL 10 (v := ?_) rfl (by kernel_rfl) (by kernel_rfl) (by kernel_rfl) (fun _ _ _ h => h) (Or.inl ⟨rfl, ?_⟩) (by assumption) ?_
                rotate_left
                · intro w hSw; (try dsimp only at hSw); first | (go_simp; done) | (go_simp; with_reducible rfl)
                simp only [Act.put, List.setIfInBounds_toArray, List.set_cons_zero, List.set_cons_succ]
                refine K.takeL 11 (v := ?_) rfl (by kernel_rfl) (by kernel_rfl) (by kernel_rfl) (fun _ _ _ h => h) (Or.inl ⟨rfl, ?_⟩) (by assumption) ?_
                rotate_left
                · intro w hSw; (try dsimp only at hSw); first | (go_simp; done) | (go_simp; with_reducible rfl)
                simp only [Act.put, List.setIfInBounds_toArray, List.set_cons_zero, List.set_cons_succ]
                refine wpAnyH_done (by kernel_rfl) ?_ _
                have h3s := bb3.size
                go_wp2_with fail
                refine (HY.out _).mono ?_
                rintro e w5 ⟨rfl, b5⟩
                have bb5 := bb3.trans (b5.mono (by first | omega | (simp at h3s ⊢; omega)))
                go_wp2_with fail
                go_roundw
                case rel => exact ⟨k + 1, _, by omega, by go_num, rfl, Lib.hid (by rw [HJ2.out, HK.out]; simp [ByteArray.append_assoc]), bb5⟩
                case measure => simp [intOf]; omega
      · have hk0 : decide (0 < k) = true := decide_eq_true (by omega)
        have HJ2 := Lib.hid (show M.jn ⟨#[32]⟩ ((l.map M.mvTxt).take (k + 1)) = t ++ ⟨#[32]⟩ ++ T by rw [HJ.out, if_neg h0, ← ht.out])
        clear h0
        by_cases hy : y = 0
        · subst hy
          by_cases hz : z < 0
          · have hzz : decide (0 < z) = false := decide_eq_false (by omega)
            have HK := Lib.hid (show T = M.txt x ++ ⟨#[117]⟩ ++ M.txt z by
              rw [HM.out]; unfold M.prt M.byt; rw [if_pos rfl]; rw [if_neg (by omega)])
            generalize hTX : M.txt x = tx at *
            generalize hTY : M.txt z = ty at *
            clear hTX hTY HM HZ hz
            have q1 : t.size + 1 ≤ 9223372036854775807 := by omega
            have q2 : ¬ (9223372036854775806 < t.size) := by omega
            have q3 : ¬ (9223372036854775805 < t.size) := by omega
            have q4 : ¬ (9223372036854775804 < t.size) := by omega
            have q5 : ¬ (9223372036854775807 < t.size + 1) := by omega
            have q6 : ¬ (9223372036854775807 < t.size + 1 + 1) := by omega
            have q7 : ¬ (9223372036854775807 < t.size + 1 + 1 + 1) := by omega
            go_upto_region 8 with fail
            obtain ⟨W, hW⟩ : ∃ W, W = wr.alloc (.cells #[.int .i64 x, .int .i64 0, .int .i64 z] 25) := ⟨_, rfl⟩
            have hgW : wr.heap.size < W.heap.size := by rw [hW]; simp
            have hbW := HB1.out
            rw [← hW] at px hbW ⊢
            clear hW p0 p1 p2 HB HB1
            generalize wr.heap.size = G at *
            obtain ⟨p0, p1, p2⟩ := px.c3
            have pxd := px.drew
            have bbd := hbW.drew
            refine wp_region_held_drew (S := fun w' => w'.cell? ⟨G, 0, none⟩ = some (.int .i64 x) ∧ w'.cell? ⟨G, 1, none⟩ = some (.int .i64 0) ∧ w'.cell? ⟨G, 2, none⟩ = some (.int .i64 z)) (by kernel_rfl) ⟨K.Box.at_ (j := 0) pxd rfl, K.Box.at_ (j := 1) pxd rfl, K.Box.at_ (j := 2) pxd rfl⟩ (fun hHeld => ?_)
            refine K.takeL 0 (v := ?_) rfl (by kernel_rfl) (by kernel_rfl) (by kernel_rfl) (fun _ _ _ h => h) (Or.inl ⟨rfl, ?_⟩) (by assumption) ?_
            rotate_left
            · intro w hSw; (try dsimp only at hSw); first | (go_simp; done) | (go_simp; with_reducible rfl)
            simp only [Act.put, List.setIfInBounds_toArray, List.set_cons_zero, List.set_cons_succ]
            refine K.takeL 1 (v := ?_) rfl (by kernel_rfl) (by kernel_rfl) (by kernel_rfl) (fun _ _ _ h => h) (Or.inl ⟨rfl, ?_⟩) (by assumption) ?_
            rotate_left
            · intro w hSw; (try dsimp only at hSw); first | (go_simp; done) | (go_simp; with_reducible rfl)
            simp only [Act.put, List.setIfInBounds_toArray, List.set_cons_zero, List.set_cons_succ]
            refine K.takeL 2 (v := ?_) rfl (by kernel_rfl) (by kernel_rfl) (by kernel_rfl) (fun _ _ _ h => h) (Or.inl ⟨rfl, ?_⟩) (by assumption) ?_
            rotate_left
            · intro w hSw; (try dsimp only at hSw); first | (go_simp; done) | (go_simp; with_reducible rfl)
            simp only [Act.put, List.setIfInBounds_toArray, List.set_cons_zero, List.set_cons_succ]
            refine K.takeL 6 (v := ?_) rfl (by kernel_rfl) (by kernel_rfl) (by kernel_rfl) (fun _ _ _ h => h) (Or.inl ⟨rfl, ?_⟩) (by assumption) ?_
            rotate_left
            · intro w hSw; (try dsimp only at hSw); first | (go_simp; done) | (go_simp; with_reducible rfl)
            simp only [Act.put, List.setIfInBounds_toArray, List.set_cons_zero, List.set_cons_succ]
            refine K.takeL 7 (v := ?_) rfl (by kernel_rfl) (by kernel_rfl) (by kernel_rfl) (fun _ _ _ h => h) (Or.inl ⟨rfl, ?_⟩) (by assumption) ?_
            rotate_left
            · intro w hSw; (try dsimp only at hSw); first | (go_simp; done) | (go_simp; with_reducible rfl)
            simp only [Act.put, List.setIfInBounds_toArray, List.set_cons_zero, List.set_cons_succ]
            refine wpAnyH_ready (rs := [3, 5]) (by kernel_rfl) (by simp) (AllReadyH.cons (by rfl) (fun KK hK => ?_) (AllReadyH.cons (by rfl) (fun KK hK => ?_) AllReadyH.nil))
            · skip
              go_simp
              refine (HX.out _).mono ?_
              rintro e w3 ⟨rfl, b3⟩
              go_wp2_with fail
              have px3 := pxd.below b3
              have bb3 := bbd.trans (b3.mono bbd.size)
              refine hK.out _ _ ⟨K.Box.at_ (j := 0) px3 rfl, K.Box.at_ (j := 1) px3 rfl, K.Box.at_ (j := 2) px3 rfl⟩ (fun hHeld => ?_)
              clear hK KK
              try simp only [Act.put, List.setIfInBounds_toArray, List.set_cons_zero, List.set_cons_succ]
              refine K.takeL 4 (v := ?_) rfl (by kernel_rfl) (by kernel_rfl) (by kernel_rfl) (fun _ _ _ h => h) (Or.inl ⟨rfl, ?_⟩) (by assumption) ?_
              rotate_left
              · intro w hSw; (try dsimp only at hSw); first | (go_simp; done) | (go_simp; with_reducible rfl)
              simp only [Act.put, List.setIfInBounds_toArray, List.set_cons_zero, List.set_cons_succ]
              refine K.consL 5 rfl (by kernel_rfl) (fun KK hK => ?_)
              go_simp
              have px5 := px3.alloc (.cells #[.string ⟨#[117]⟩, .string ⟨#[108]⟩] 9)
              have bb5a := bb3.alloc bb3.size (.cells #[.string ⟨#[117]⟩, .string ⟨#[108]⟩] 9)
              have ow5 := K.Own.new w3 #[.string ⟨#[117]⟩, .string ⟨#[108]⟩] 9
              obtain ⟨cw, cw1, fw, fw1, lw⟩ := ow5.c2
              refine hK.out _ _ ⟨K.Box.at_ (j := 0) px5 rfl, K.Box.at_ (j := 1) px5 rfl, K.Box.at_ (j := 2) px5 rfl⟩ (fun hHeld => ?_)
              clear hK KK
              try simp only [Act.put, List.setIfInBounds_toArray, List.set_cons_zero, List.set_cons_succ]
              refine K.takeL 8 (v := ?_) rfl (by kernel_rfl) (by kernel_rfl) (by kernel_rfl) (fun _ _ _ h => h) (Or.inl ⟨rfl, ?_⟩) (by assumption) ?_
              rotate_left
              · intro w hSw; (try dsimp only at hSw); first | (go_simp; done) | (go_simp; with_reducible rfl)
              simp only [Act.put, List.setIfInBounds_toArray, List.set_cons_zero, List.set_cons_succ]
              refine K.consL 9 rfl (by kernel_rfl) (fun KK hK => ?_)
              go_simp
              skip
              refine hK.out _ _ ⟨K.Box.at_ (j := 0) px5 rfl, K.Box.at_ (j := 1) px5 rfl, K.Box.at_ (j := 2) px5 rfl⟩ (fun hHeld => ?_)
              clear hK KK
              try simp only [Act.put, List.setIfInBounds_toArray, List.set_cons_zero, List.set_cons_succ]
              refine K.takeL 10 (v := ?_) rfl (by kernel_rfl) (by kernel_rfl) (by kernel_rfl) (fun _ _ _ h => h) (Or.inl ⟨rfl, ?_⟩) (by assumption) ?_
              rotate_left
              · intro w hSw; (try dsimp only at hSw); first | (go_simp; done) | (go_simp; with_reducible rfl)
              simp only [Act.put, List.setIfInBounds_toArray, List.set_cons_zero, List.set_cons_succ]
              refine K.takeL 11 (v := ?_) rfl (by kernel_rfl) (by kernel_rfl) (by kernel_rfl) (fun _ _ _ h => h) (Or.inl ⟨rfl, ?_⟩) (by assumption) ?_
              rotate_left
              · intro w hSw; (try dsimp only at hSw); first | (go_simp; done) | (go_simp; with_reducible rfl)
              simp only [Act.put, List.setIfInBounds_toArray, List.set_cons_zero, List.set_cons_succ]
              refine wpAnyH_done (by kernel_rfl) ?_ _
              have h3s := bb5a.size
              go_wp2_with fail
              refine (HY.out _).mono ?_
              rintro e w5 ⟨rfl, b5⟩
              have bb5 := bb5a.trans (b5.mono (by first | omega | (simp at h3s ⊢; omega)))
              go_wp2_with fail
              go_roundw
              case rel => exact ⟨k + 1, _, by omega, by go_num, rfl, Lib.hid (by rw [HJ2.out, HK.out]; simp [ByteArray.append_assoc]), bb5⟩
              case measure => simp [intOf]; omega
            · skip
              go_simp
              have px5 := (px.alloc (.cells #[.string ⟨#[117]⟩, .string ⟨#[108]⟩] 9)).drew
              have bb5a := (hbW.alloc hbW.size (.cells #[.string ⟨#[117]⟩, .string ⟨#[108]⟩] 9)).drew
              have ow5 := (K.Own.new W #[.string ⟨#[117]⟩, .string ⟨#[108]⟩] 9).drew
              obtain ⟨cw, cw1, fw, fw1, lw⟩ := ow5.c2
              refine hK.out _ _ ⟨K.Box.at_ (j := 0) px5 rfl, K.Box.at_ (j := 1) px5 rfl, K.Box.at_ (j := 2) px5 rfl⟩ (fun hHeld => ?_)
              clear hK KK
              try simp only [Act.put, List.setIfInBounds_toArray, List.set_cons_zero, List.set_cons_succ]
              refine K.takeL 8 (v := ?_) rfl (by kernel_rfl) (by kernel_rfl) (by kernel_rfl) (fun _ _ _ h => h) (Or.inl ⟨rfl, ?_⟩) (by assumption) ?_
              rotate_left
              · intro w hSw; (try dsimp only at hSw); first | (go_simp; done) | (go_simp; with_reducible rfl)
              simp only [Act.put, List.setIfInBounds_toArray, List.set_cons_zero, List.set_cons_succ]
              refine wpAnyH_ready (rs := [3, 9]) (by kernel_rfl) (by simp) (AllReadyH.cons (by rfl) (fun KK hK => ?_) (AllReadyH.cons (by rfl) (fun KK hK => ?_) AllReadyH.nil))
              · skip
                go_simp
                refine (HX.out _).mono ?_
                rintro e w3 ⟨rfl, b3⟩
                go_wp2_with fail
                have px3 := px5.below b3
                have bb3 := bb5a.trans (b3.mono bb5a.size)
                have ow3 := ow5.below b3
                obtain ⟨cw, cw1, fw, fw1, lw⟩ := ow3.c2
                refine hK.out _ _ ⟨K.Box.at_ (j := 0) px3 rfl, K.Box.at_ (j := 1) px3 rfl, K.Box.at_ (j := 2) px3 rfl⟩ (fun hHeld => ?_)
                clear hK KK
                try simp only [Act.put, List.setIfInBounds_toArray, List.set_cons_zero, List.set_cons_succ]
                refine K.takeL 4 (v := ?_) rfl (by kernel_rfl) (by kernel_rfl) (by kernel_rfl) (fun _ _ _ h => h) (Or.inl ⟨rfl, ?_⟩) (by assumption) ?_
                rotate_left
                · intro w hSw; (try dsimp only at hSw); first | (go_simp; done) | (go_simp; with_reducible rfl)
                simp only [Act.put, List.setIfInBounds_toArray, List.set_cons_zero, List.set_cons_succ]
                refine K.consL 9 rfl (by kernel_rfl) (fun KK hK => ?_)
                go_simp
                skip
                refine hK.out _ _ ⟨K.Box.at_ (j := 0) px3 rfl, K.Box.at_ (j := 1) px3 rfl, K.Box.at_ (j := 2) px3 rfl⟩ (fun hHeld => ?_)
                clear hK KK
                try simp only [Act.put, List.setIfInBounds_toArray, List.set_cons_zero, List.set_cons_succ]
                refine K.takeL 10 (v := ?_) rfl (by kernel_rfl) (by kernel_rfl) (by kernel_rfl) (fun _ _ _ h => h) (Or.inl ⟨rfl, ?_⟩) (by assumption) ?_
                rotate_left
                · intro w hSw; (try dsimp only at hSw); first | (go_simp; done) | (go_simp; with_reducible rfl)
                simp only [Act.put, List.setIfInBounds_toArray, List.set_cons_zero, List.set_cons_succ]
                refine K.takeL 11 (v := ?_) rfl (by kernel_rfl) (by kernel_rfl) (by kernel_rfl) (fun _ _ _ h => h) (Or.inl ⟨rfl, ?_⟩) (by assumption) ?_
                rotate_left
                · intro w hSw; (try dsimp only at hSw); first | (go_simp; done) | (go_simp; with_reducible rfl)
                simp only [Act.put, List.setIfInBounds_toArray, List.set_cons_zero, List.set_cons_succ]
                refine wpAnyH_done (by kernel_rfl) ?_ _
                have h3s := bb3.size
                go_wp2_with fail
                refine (HY.out _).mono ?_
                rintro e w5 ⟨rfl, b5⟩
                have bb5 := bb3.trans (b5.mono (by first | omega | (simp at h3s ⊢; omega)))
                go_wp2_with fail
                go_roundw
                case rel => exact ⟨k + 1, _, by omega, by go_num, rfl, Lib.hid (by rw [HJ2.out, HK.out]; simp [ByteArray.append_assoc]), bb5⟩
                case measure => simp [intOf]; omega
              · skip
                go_simp
                skip
                refine hK.out _ _ ⟨K.Box.at_ (j := 0) px5 rfl, K.Box.at_ (j := 1) px5 rfl, K.Box.at_ (j := 2) px5 rfl⟩ (fun hHeld => ?_)
                clear hK KK
                try simp only [Act.put, List.setIfInBounds_toArray, List.set_cons_zero, List.set_cons_succ]
                refine K.consL 3 rfl (by kernel_rfl) (fun KK hK => ?_)
                go_simp
                refine (HX.out _).mono ?_
                rintro e w3 ⟨rfl, b3⟩
                go_wp2_with fail
                have px3 := px5.below b3
                have bb3 := bb5a.trans (b3.mono bb5a.size)
                have ow3 := ow5.below b3
                obtain ⟨cw, cw1, fw, fw1, lw⟩ := ow3.c2
                refine hK.out _ _ ⟨K.Box.at_ (j := 0) px3 rfl, K.Box.at_ (j := 1) px3 rfl, K.Box.at_ (j := 2) px3 rfl⟩ (fun hHeld => ?_)
                clear hK KK
                try simp only [Act.put, List.setIfInBounds_toArray, List.set_cons_zero, List.set_cons_succ]
                refine K.takeL 4 (v := ?_) rfl (by kernel_rfl) (by kernel_rfl) (by kernel_rfl) (fun _ _ _ h => h) (Or.inl ⟨rfl, ?_⟩) (by assumption) ?_
                rotate_left
                · intro w hSw; (try dsimp only at hSw); first | (go_simp; done) | (go_simp; with_reducible rfl)
                simp only [Act.put, List.setIfInBounds_toArray, List.set_cons_zero, List.set_cons_succ]
                refine K.takeL 10 (v := ?_) rfl (by kernel_rfl) (by kernel_rfl) (by kernel_rfl) (fun _ _ _ h => h) (Or.inl ⟨rfl, ?_⟩) (by assumption) ?_
                rotate_left
                · intro w hSw; (try dsimp only at hSw); first | (go_simp; done) | (go_simp; with_reducible rfl)
                simp only [Act.put, List.setIfInBounds_toArray, List.set_cons_zero, List.set_cons_succ]
                refine K.takeL 11 (v := ?_) rfl (by kernel_rfl) (by kernel_rfl) (by kernel_rfl) (fun _ _ _ h => h) (Or.inl ⟨rfl, ?_⟩) (by assumption) ?_
                rotate_left
                · intro w hSw; (try dsimp only at hSw); first | (go_simp; done) | (go_simp; with_reducible rfl)
                simp only [Act.put, List.setIfInBounds_toArray, List.set_cons_zero, List.set_cons_succ]
                refine wpAnyH_done (by kernel_rfl) ?_ _
                have h3s := bb3.size
                go_wp2_with fail
                refine (HY.out _).mono ?_
                rintro e w5 ⟨rfl, b5⟩
                have bb5 := bb3.trans (b5.mono (by first | omega | (simp at h3s ⊢; omega)))
                go_wp2_with fail
                go_roundw
                case rel => exact ⟨k + 1, _, by omega, by go_num, rfl, Lib.hid (by rw [HJ2.out, HK.out]; simp [ByteArray.append_assoc]), bb5⟩
                case measure => simp [intOf]; omega
          · have hzz : decide (0 < z) = true := decide_eq_true (by omega)
            have HK := Lib.hid (show T = M.txt x ++ ⟨#[117]⟩ ++ (⟨#[43]⟩ ++ M.txt z) by
              rw [HM.out]; unfold M.prt M.byt; rw [if_pos rfl]; rw [if_pos (by omega)])
            generalize hTX : M.txt x = tx at *
            generalize hTY : M.txt z = ty at *
            clear hTX hTY HM HZ hz
            have q1 : t.size + 1 ≤ 9223372036854775807 := by omega
            have q2 : ¬ (9223372036854775806 < t.size) := by omega
            have q3 : ¬ (9223372036854775805 < t.size) := by omega
            have q4 : ¬ (9223372036854775804 < t.size) := by omega
            have q5 : ¬ (9223372036854775807 < t.size + 1) := by omega
            have q6 : ¬ (9223372036854775807 < t.size + 1 + 1) := by omega
            have q7 : ¬ (9223372036854775807 < t.size + 1 + 1 + 1) := by omega
            go_upto_region 8 with fail
            obtain ⟨W, hW⟩ : ∃ W, W = wr.alloc (.cells #[.int .i64 x, .int .i64 0, .int .i64 z] 25) := ⟨_, rfl⟩
            have hgW : wr.heap.size < W.heap.size := by rw [hW]; simp
            have hbW := HB1.out
            rw [← hW] at px hbW ⊢
            clear hW p0 p1 p2 HB HB1
            generalize wr.heap.size = G at *
            obtain ⟨p0, p1, p2⟩ := px.c3
            have pxd := px.drew
            have bbd := hbW.drew
            refine wp_region_held_drew (S := fun w' => w'.cell? ⟨G, 0, none⟩ = some (.int .i64 x) ∧ w'.cell? ⟨G, 1, none⟩ = some (.int .i64 0) ∧ w'.cell? ⟨G, 2, none⟩ = some (.int .i64 z)) (by kernel_rfl) ⟨K.Box.at_ (j := 0) pxd rfl, K.Box.at_ (j := 1) pxd rfl, K.Box.at_ (j := 2) pxd rfl⟩ (fun hHeld => ?_)
            refine K.takeL 0 (v := ?_) rfl (by kernel_rfl) (by kernel_rfl) (by kernel_rfl) (fun _ _ _ h => h) (Or.inl ⟨rfl, ?_⟩) (by assumption) ?_
            rotate_left
            · intro w hSw; (try dsimp only at hSw); first | (go_simp; done) | (go_simp; with_reducible rfl)
            simp only [Act.put, List.setIfInBounds_toArray, List.set_cons_zero, List.set_cons_succ]
            refine K.takeL 1 (v := ?_) rfl (by kernel_rfl) (by kernel_rfl) (by kernel_rfl) (fun _ _ _ h => h) (Or.inl ⟨rfl, ?_⟩) (by assumption) ?_
            rotate_left
            · intro w hSw; (try dsimp only at hSw); first | (go_simp; done) | (go_simp; with_reducible rfl)
            simp only [Act.put, List.setIfInBounds_toArray, List.set_cons_zero, List.set_cons_succ]
            refine K.takeL 2 (v := ?_) rfl (by kernel_rfl) (by kernel_rfl) (by kernel_rfl) (fun _ _ _ h => h) (Or.inl ⟨rfl, ?_⟩) (by assumption) ?_
            rotate_left
            · intro w hSw; (try dsimp only at hSw); first | (go_simp; done) | (go_simp; with_reducible rfl)
            simp only [Act.put, List.setIfInBounds_toArray, List.set_cons_zero, List.set_cons_succ]
            refine K.takeL 6 (v := ?_) rfl (by kernel_rfl) (by kernel_rfl) (by kernel_rfl) (fun _ _ _ h => h) (Or.inl ⟨rfl, ?_⟩) (by assumption) ?_
            rotate_left
            · intro w hSw; (try dsimp only at hSw); first | (go_simp; done) | (go_simp; with_reducible rfl)
            simp only [Act.put, List.setIfInBounds_toArray, List.set_cons_zero, List.set_cons_succ]
            refine K.takeL 7 (v := ?_) rfl (by kernel_rfl) (by kernel_rfl) (by kernel_rfl) (fun _ _ _ h => h) (Or.inl ⟨rfl, ?_⟩) (by assumption) ?_
            rotate_left
            · intro w hSw; (try dsimp only at hSw); first | (go_simp; done) | (go_simp; with_reducible rfl)
            simp only [Act.put, List.setIfInBounds_toArray, List.set_cons_zero, List.set_cons_succ]
            refine wpAnyH_ready (rs := [3, 5]) (by kernel_rfl) (by simp) (AllReadyH.cons (by rfl) (fun KK hK => ?_) (AllReadyH.cons (by rfl) (fun KK hK => ?_) AllReadyH.nil))
            · skip
              go_simp
              refine (HX.out _).mono ?_
              rintro e w3 ⟨rfl, b3⟩
              go_wp2_with fail
              have px3 := pxd.below b3
              have bb3 := bbd.trans (b3.mono bbd.size)
              refine hK.out _ _ ⟨K.Box.at_ (j := 0) px3 rfl, K.Box.at_ (j := 1) px3 rfl, K.Box.at_ (j := 2) px3 rfl⟩ (fun hHeld => ?_)
              clear hK KK
              try simp only [Act.put, List.setIfInBounds_toArray, List.set_cons_zero, List.set_cons_succ]
              refine K.takeL 4 (v := ?_) rfl (by kernel_rfl) (by kernel_rfl) (by kernel_rfl) (fun _ _ _ h => h) (Or.inl ⟨rfl, ?_⟩) (by assumption) ?_
              rotate_left
              · intro w hSw; (try dsimp only at hSw); first | (go_simp; done) | (go_simp; with_reducible rfl)
              simp only [Act.put, List.setIfInBounds_toArray, List.set_cons_zero, List.set_cons_succ]
              refine K.consL 5 rfl (by kernel_rfl) (fun KK hK => ?_)
              go_simp
              have px5 := px3.alloc (.cells #[.string ⟨#[117]⟩, .string ⟨#[108]⟩] 9)
              have bb5a := bb3.alloc bb3.size (.cells #[.string ⟨#[117]⟩, .string ⟨#[108]⟩] 9)
              have ow5 := K.Own.new w3 #[.string ⟨#[117]⟩, .string ⟨#[108]⟩] 9
              obtain ⟨cw, cw1, fw, fw1, lw⟩ := ow5.c2
              refine hK.out _ _ ⟨K.Box.at_ (j := 0) px5 rfl, K.Box.at_ (j := 1) px5 rfl, K.Box.at_ (j := 2) px5 rfl⟩ (fun hHeld => ?_)
              clear hK KK
              try simp only [Act.put, List.setIfInBounds_toArray, List.set_cons_zero, List.set_cons_succ]
              refine K.takeL 8 (v := ?_) rfl (by kernel_rfl) (by kernel_rfl) (by kernel_rfl) (fun _ _ _ h => h) (Or.inl ⟨rfl, ?_⟩) (by assumption) ?_
              rotate_left
              · intro w hSw; (try dsimp only at hSw); first | (go_simp; done) | (go_simp; with_reducible rfl)
              simp only [Act.put, List.setIfInBounds_toArray, List.set_cons_zero, List.set_cons_succ]
              refine K.consL 9 rfl (by kernel_rfl) (fun KK hK => ?_)
              go_simp
              skip
              refine hK.out _ _ ⟨K.Box.at_ (j := 0) px5 rfl, K.Box.at_ (j := 1) px5 rfl, K.Box.at_ (j := 2) px5 rfl⟩ (fun hHeld => ?_)
              clear hK KK
              try simp only [Act.put, List.setIfInBounds_toArray, List.set_cons_zero, List.set_cons_succ]
              refine K.takeL 10 (v := ?_) rfl (by kernel_rfl) (by kernel_rfl) (by kernel_rfl) (fun _ _ _ h => h) (Or.inl ⟨rfl, ?_⟩) (by assumption) ?_
              rotate_left
              · intro w hSw; (try dsimp only at hSw); first | (go_simp; done) | (go_simp; with_reducible rfl)
              simp only [Act.put, List.setIfInBounds_toArray, List.set_cons_zero, List.set_cons_succ]
              refine K.takeL 11 (v := ?_) rfl (by kernel_rfl) (by kernel_rfl) (by kernel_rfl) (fun _ _ _ h => h) (Or.inl ⟨rfl, ?_⟩) (by assumption) ?_
              rotate_left
              · intro w hSw; (try dsimp only at hSw); first | (go_simp; done) | (go_simp; with_reducible rfl)
              simp only [Act.put, List.setIfInBounds_toArray, List.set_cons_zero, List.set_cons_succ]
              refine wpAnyH_done (by kernel_rfl) ?_ _
              have h3s := bb5a.size
              go_wp2_with fail
              refine (HY.out _).mono ?_
              rintro e w5 ⟨rfl, b5⟩
              have bb5 := bb5a.trans (b5.mono (by first | omega | (simp at h3s ⊢; omega)))
              go_wp2_with fail
              go_roundw
              case rel => exact ⟨k + 1, _, by omega, by go_num, rfl, Lib.hid (by rw [HJ2.out, HK.out]; simp [ByteArray.append_assoc]), bb5⟩
              case measure => simp [intOf]; omega
            · skip
              go_simp
              have px5 := (px.alloc (.cells #[.string ⟨#[117]⟩, .string ⟨#[108]⟩] 9)).drew
              have bb5a := (hbW.alloc hbW.size (.cells #[.string ⟨#[117]⟩, .string ⟨#[108]⟩] 9)).drew
              have ow5 := (K.Own.new W #[.string ⟨#[117]⟩, .string ⟨#[108]⟩] 9).drew
              obtain ⟨cw, cw1, fw, fw1, lw⟩ := ow5.c2
              refine hK.out _ _ ⟨K.Box.at_ (j := 0) px5 rfl, K.Box.at_ (j := 1) px5 rfl, K.Box.at_ (j := 2) px5 rfl⟩ (fun hHeld => ?_)
              clear hK KK
              try simp only [Act.put, List.setIfInBounds_toArray, List.set_cons_zero, List.set_cons_succ]
              refine K.takeL 8 (v := ?_) rfl (by kernel_rfl) (by kernel_rfl) (by kernel_rfl) (fun _ _ _ h => h) (Or.inl ⟨rfl, ?_⟩) (by assumption) ?_
              rotate_left
              · intro w hSw; (try dsimp only at hSw); first | (go_simp; done) | (go_simp; with_reducible rfl)
              simp only [Act.put, List.setIfInBounds_toArray, List.set_cons_zero, List.set_cons_succ]
              refine wpAnyH_ready (rs := [3, 9]) (by kernel_rfl) (by simp) (AllReadyH.cons (by rfl) (fun KK hK => ?_) (AllReadyH.cons (by rfl) (fun KK hK => ?_) AllReadyH.nil))
              · skip
                go_simp
                refine (HX.out _).mono ?_
                rintro e w3 ⟨rfl, b3⟩
                go_wp2_with fail
                have px3 := px5.below b3
                have bb3 := bb5a.trans (b3.mono bb5a.size)
                have ow3 := ow5.below b3
                obtain ⟨cw, cw1, fw, fw1, lw⟩ := ow3.c2
                refine hK.out _ _ ⟨K.Box.at_ (j := 0) px3 rfl, K.Box.at_ (j := 1) px3 rfl, K.Box.at_ (j := 2) px3 rfl⟩ (fun hHeld => ?_)
                clear hK KK
                try simp only [Act.put, List.setIfInBounds_toArray, List.set_cons_zero, List.set_cons_succ]
                refine K.takeL 4 (v := ?_) rfl (by kernel_rfl) (by kernel_rfl) (by kernel_rfl) (fun _ _ _ h => h) (Or.inl ⟨rfl, ?_⟩) (by assumption) ?_
                rotate_left
                · intro w hSw; (try dsimp only at hSw); first | (go_simp; done) | (go_simp; with_reducible rfl)
                simp only [Act.put, List.setIfInBounds_toArray, List.set_cons_zero, List.set_cons_succ]
                refine K.consL 9 rfl (by kernel_rfl) (fun KK hK => ?_)
                go_simp
                skip
                refine hK.out _ _ ⟨K.Box.at_ (j := 0) px3 rfl, K.Box.at_ (j := 1) px3 rfl, K.Box.at_ (j := 2) px3 rfl⟩ (fun hHeld => ?_)
                clear hK KK
                try simp only [Act.put, List.setIfInBounds_toArray, List.set_cons_zero, List.set_cons_succ]
                refine K.takeL 10 (v := ?_) rfl (by kernel_rfl) (by kernel_rfl) (by kernel_rfl) (fun _ _ _ h => h) (Or.inl ⟨rfl, ?_⟩) (by assumption) ?_
                rotate_left
                · intro w hSw; (try dsimp only at hSw); first | (go_simp; done) | (go_simp; with_reducible rfl)
                simp only [Act.put, List.setIfInBounds_toArray, List.set_cons_zero, List.set_cons_succ]
                refine K.takeL 11 (v := ?_) rfl (by kernel_rfl) (by kernel_rfl) (by kernel_rfl) (fun _ _ _ h => h) (Or.inl ⟨rfl, ?_⟩) (by assumption) ?_
                rotate_left
                · intro w hSw; (try dsimp only at hSw); first | (go_simp; done) | (go_simp; with_reducible rfl)
                simp only [Act.put, List.setIfInBounds_toArray, List.set_cons_zero, List.set_cons_succ]
                refine wpAnyH_done (by kernel_rfl) ?_ _
                have h3s := bb3.size
                go_wp2_with fail
                refine (HY.out _).mono ?_
                rintro e w5 ⟨rfl, b5⟩
                have bb5 := bb3.trans (b5.mono (by first | omega | (simp at h3s ⊢; omega)))
                go_wp2_with fail
                go_roundw
                case rel => exact ⟨k + 1, _, by omega, by go_num, rfl, Lib.hid (by rw [HJ2.out, HK.out]; simp [ByteArray.append_assoc]), bb5⟩
                case measure => simp [intOf]; omega
              · skip
                go_simp
                skip
                refine hK.out _ _ ⟨K.Box.at_ (j := 0) px5 rfl, K.Box.at_ (j := 1) px5 rfl, K.Box.at_ (j := 2) px5 rfl⟩ (fun hHeld => ?_)
                clear hK KK
                try simp only [Act.put, List.setIfInBounds_toArray, List.set_cons_zero, List.set_cons_succ]
                refine K.consL 3 rfl (by kernel_rfl) (fun KK hK => ?_)
                go_simp
                refine (HX.out _).mono ?_
                rintro e w3 ⟨rfl, b3⟩
                go_wp2_with fail
                have px3 := px5.below b3
                have bb3 := bb5a.trans (b3.mono bb5a.size)
                have ow3 := ow5.below b3
                obtain ⟨cw, cw1, fw, fw1, lw⟩ := ow3.c2
                refine hK.out _ _ ⟨K.Box.at_ (j := 0) px3 rfl, K.Box.at_ (j := 1) px3 rfl, K.Box.at_ (j := 2) px3 rfl⟩ (fun hHeld => ?_)
                clear hK KK
                try simp only [Act.put, List.setIfInBounds_toArray, List.set_cons_zero, List.set_cons_succ]
                refine K.takeL 4 (v := ?_) rfl (by kernel_rfl) (by kernel_rfl) (by kernel_rfl) (fun _ _ _ h => h) (Or.inl ⟨rfl, ?_⟩) (by assumption) ?_
                rotate_left
                · intro w hSw; (try dsimp only at hSw); first | (go_simp; done) | (go_simp; with_reducible rfl)
                simp only [Act.put, List.setIfInBounds_toArray, List.set_cons_zero, List.set_cons_succ]
                refine K.takeL 10 (v := ?_) rfl (by kernel_rfl) (by kernel_rfl) (by kernel_rfl) (fun _ _ _ h => h) (Or.inl ⟨rfl, ?_⟩) (by assumption) ?_
                rotate_left
                · intro w hSw; (try dsimp only at hSw); first | (go_simp; done) | (go_simp; with_reducible rfl)
                simp only [Act.put, List.setIfInBounds_toArray, List.set_cons_zero, List.set_cons_succ]
                refine K.takeL 11 (v := ?_) rfl (by kernel_rfl) (by kernel_rfl) (by kernel_rfl) (fun _ _ _ h => h) (Or.inl ⟨rfl, ?_⟩) (by assumption) ?_
                rotate_left
                · intro w hSw; (try dsimp only at hSw); first | (go_simp; done) | (go_simp; with_reducible rfl)
                simp only [Act.put, List.setIfInBounds_toArray, List.set_cons_zero, List.set_cons_succ]
                refine wpAnyH_done (by kernel_rfl) ?_ _
                have h3s := bb3.size
                go_wp2_with fail
                refine (HY.out _).mono ?_
                rintro e w5 ⟨rfl, b5⟩
                have bb5 := bb3.trans (b5.mono (by first | omega | (simp at h3s ⊢; omega)))
                go_wp2_with fail
                go_roundw
                case rel => exact ⟨k + 1, _, by omega, by go_num, rfl, Lib.hid (by rw [HJ2.out, HK.out]; simp [ByteArray.append_assoc]), bb5⟩
                case measure => simp [intOf]; omega
        · obtain rfl : y = 1 := by omega
          by_cases hz : z < 0
          · have hzz : decide (0 < z) = false := decide_eq_false (by omega)
            have HK := Lib.hid (show T = M.txt x ++ ⟨#[108]⟩ ++ M.txt z by
              rw [HM.out]; unfold M.prt M.byt; rw [if_neg (by omega)]; rw [if_neg (by omega)])
            generalize hTX : M.txt x = tx at *
            generalize hTY : M.txt z = ty at *
            clear hTX hTY HM HZ hz
            have q1 : t.size + 1 ≤ 9223372036854775807 := by omega
            have q2 : ¬ (9223372036854775806 < t.size) := by omega
            have q3 : ¬ (9223372036854775805 < t.size) := by omega
            have q4 : ¬ (9223372036854775804 < t.size) := by omega
            have q5 : ¬ (9223372036854775807 < t.size + 1) := by omega
            have q6 : ¬ (9223372036854775807 < t.size + 1 + 1) := by omega
            have q7 : ¬ (9223372036854775807 < t.size + 1 + 1 + 1) := by omega
            go_upto_region 8 with fail
            obtain ⟨W, hW⟩ : ∃ W, W = wr.alloc (.cells #[.int .i64 x, .int .i64 1, .int .i64 z] 25) := ⟨_, rfl⟩
            have hgW : wr.heap.size < W.heap.size := by rw [hW]; simp
            have hbW := HB1.out
            rw [← hW] at px hbW ⊢
            clear hW p0 p1 p2 HB HB1
            generalize wr.heap.size = G at *
            obtain ⟨p0, p1, p2⟩ := px.c3
            have pxd := px.drew
            have bbd := hbW.drew
            refine wp_region_held_drew (S := fun w' => w'.cell? ⟨G, 0, none⟩ = some (.int .i64 x) ∧ w'.cell? ⟨G, 1, none⟩ = some (.int .i64 1) ∧ w'.cell? ⟨G, 2, none⟩ = some (.int .i64 z)) (by kernel_rfl) ⟨K.Box.at_ (j := 0) pxd rfl, K.Box.at_ (j := 1) pxd rfl, K.Box.at_ (j := 2) pxd rfl⟩ (fun hHeld => ?_)
            refine K.takeL 0 (v := ?_) rfl (by kernel_rfl) (by kernel_rfl) (by kernel_rfl) (fun _ _ _ h => h) (Or.inl ⟨rfl, ?_⟩) (by assumption) ?_
            rotate_left
            · intro w hSw; (try dsimp only at hSw); first | (go_simp; done) | (go_simp; with_reducible rfl)
            simp only [Act.put, List.setIfInBounds_toArray, List.set_cons_zero, List.set_cons_succ]
            refine K.takeL 1 (v := ?_) rfl (by kernel_rfl) (by kernel_rfl) (by kernel_rfl) (fun _ _ _ h => h) (Or.inl ⟨rfl, ?_⟩) (by assumption) ?_
            rotate_left
            · intro w hSw; (try dsimp only at hSw); first | (go_simp; done) | (go_simp; with_reducible rfl)
            simp only [Act.put, List.setIfInBounds_toArray, List.set_cons_zero, List.set_cons_succ]
            refine K.takeL 2 (v := ?_) rfl (by kernel_rfl) (by kernel_rfl) (by kernel_rfl) (fun _ _ _ h => h) (Or.inl ⟨rfl, ?_⟩) (by assumption) ?_
            rotate_left
            · intro w hSw; (try dsimp only at hSw); first | (go_simp; done) | (go_simp; with_reducible rfl)
            simp only [Act.put, List.setIfInBounds_toArray, List.set_cons_zero, List.set_cons_succ]
            refine K.takeL 6 (v := ?_) rfl (by kernel_rfl) (by kernel_rfl) (by kernel_rfl) (fun _ _ _ h => h) (Or.inl ⟨rfl, ?_⟩) (by assumption) ?_
            rotate_left
            · intro w hSw; (try dsimp only at hSw); first | (go_simp; done) | (go_simp; with_reducible rfl)
            simp only [Act.put, List.setIfInBounds_toArray, List.set_cons_zero, List.set_cons_succ]
            refine K.takeL 7 (v := ?_) rfl (by kernel_rfl) (by kernel_rfl) (by kernel_rfl) (fun _ _ _ h => h) (Or.inl ⟨rfl, ?_⟩) (by assumption) ?_
            rotate_left
            · intro w hSw; (try dsimp only at hSw); first | (go_simp; done) | (go_simp; with_reducible rfl)
            simp only [Act.put, List.setIfInBounds_toArray, List.set_cons_zero, List.set_cons_succ]
            refine wpAnyH_ready (rs := [3, 5]) (by kernel_rfl) (by simp) (AllReadyH.cons (by rfl) (fun KK hK => ?_) (AllReadyH.cons (by rfl) (fun KK hK => ?_) AllReadyH.nil))
            · skip
              go_simp
              refine (HX.out _).mono ?_
              rintro e w3 ⟨rfl, b3⟩
              go_wp2_with fail
              have px3 := pxd.below b3
              have bb3 := bbd.trans (b3.mono bbd.size)
              refine hK.out _ _ ⟨K.Box.at_ (j := 0) px3 rfl, K.Box.at_ (j := 1) px3 rfl, K.Box.at_ (j := 2) px3 rfl⟩ (fun hHeld => ?_)
              clear hK KK
              try simp only [Act.put, List.setIfInBounds_toArray, List.set_cons_zero, List.set_cons_succ]
              refine K.takeL 4 (v := ?_) rfl (by kernel_rfl) (by kernel_rfl) (by kernel_rfl) (fun _ _ _ h => h) (Or.inl ⟨rfl, ?_⟩) (by assumption) ?_
              rotate_left
              · intro w hSw; (try dsimp only at hSw); first | (go_simp; done) | (go_simp; with_reducible rfl)
              simp only [Act.put, List.setIfInBounds_toArray, List.set_cons_zero, List.set_cons_succ]
              refine K.consL 5 rfl (by kernel_rfl) (fun KK hK => ?_)
              go_simp
              have px5 := px3.alloc (.cells #[.string ⟨#[117]⟩, .string ⟨#[108]⟩] 9)
              have bb5a := bb3.alloc bb3.size (.cells #[.string ⟨#[117]⟩, .string ⟨#[108]⟩] 9)
              have ow5 := K.Own.new w3 #[.string ⟨#[117]⟩, .string ⟨#[108]⟩] 9
              obtain ⟨cw, cw1, fw, fw1, lw⟩ := ow5.c2
              refine hK.out _ _ ⟨K.Box.at_ (j := 0) px5 rfl, K.Box.at_ (j := 1) px5 rfl, K.Box.at_ (j := 2) px5 rfl⟩ (fun hHeld => ?_)
              clear hK KK
              try simp only [Act.put, List.setIfInBounds_toArray, List.set_cons_zero, List.set_cons_succ]
              refine K.takeL 8 (v := ?_) rfl (by kernel_rfl) (by kernel_rfl) (by kernel_rfl) (fun _ _ _ h => h) (Or.inl ⟨rfl, ?_⟩) (by assumption) ?_
              rotate_left
              · intro w hSw; (try dsimp only at hSw); first | (go_simp; done) | (go_simp; with_reducible rfl)
              simp only [Act.put, List.setIfInBounds_toArray, List.set_cons_zero, List.set_cons_succ]
              refine K.consL 9 rfl (by kernel_rfl) (fun KK hK => ?_)
              go_simp
              skip
              refine hK.out _ _ ⟨K.Box.at_ (j := 0) px5 rfl, K.Box.at_ (j := 1) px5 rfl, K.Box.at_ (j := 2) px5 rfl⟩ (fun hHeld => ?_)
              clear hK KK
              try simp only [Act.put, List.setIfInBounds_toArray, List.set_cons_zero, List.set_cons_succ]
              refine K.takeL 10 (v := ?_) rfl (by kernel_rfl) (by kernel_rfl) (by kernel_rfl) (fun _ _ _ h => h) (Or.inl ⟨rfl, ?_⟩) (by assumption) ?_
              rotate_left
              · intro w hSw; (try dsimp only at hSw); first | (go_simp; done) | (go_simp; with_reducible rfl)
              simp only [Act.put, List.setIfInBounds_toArray, List.set_cons_zero, List.set_cons_succ]
              refine K.takeL 11 (v := ?_) rfl (by kernel_rfl) (by kernel_rfl) (by kernel_rfl) (fun _ _ _ h => h) (Or.inl ⟨rfl, ?_⟩) (by assumption) ?_
              rotate_left
              · intro w hSw; (try dsimp only at hSw); first | (go_simp; done) | (go_simp; with_reducible rfl)
              simp only [Act.put, List.setIfInBounds_toArray, List.set_cons_zero, List.set_cons_succ]
              refine wpAnyH_done (by kernel_rfl) ?_ _
              have h3s := bb5a.size
              go_wp2_with fail
              refine (HY.out _).mono ?_
              rintro e w5 ⟨rfl, b5⟩
              have bb5 := bb5a.trans (b5.mono (by first | omega | (simp at h3s ⊢; omega)))
              go_wp2_with fail
              go_roundw
              case rel => exact ⟨k + 1, _, by omega, by go_num, rfl, Lib.hid (by rw [HJ2.out, HK.out]; simp [ByteArray.append_assoc]), bb5⟩
              case measure => simp [intOf]; omega
            · skip
              go_simp
              have px5 := (px.alloc (.cells #[.string ⟨#[117]⟩, .string ⟨#[108]⟩] 9)).drew
              have bb5a := (hbW.alloc hbW.size (.cells #[.string ⟨#[117]⟩, .string ⟨#[108]⟩] 9)).drew
              have ow5 := (K.Own.new W #[.string ⟨#[117]⟩, .string ⟨#[108]⟩] 9).drew
              obtain ⟨cw, cw1, fw, fw1, lw⟩ := ow5.c2
              refine hK.out _ _ ⟨K.Box.at_ (j := 0) px5 rfl, K.Box.at_ (j := 1) px5 rfl, K.Box.at_ (j := 2) px5 rfl⟩ (fun hHeld => ?_)
              clear hK KK
              try simp only [Act.put, List.setIfInBounds_toArray, List.set_cons_zero, List.set_cons_succ]
              refine K.takeL 8 (v := ?_) rfl (by kernel_rfl) (by kernel_rfl) (by kernel_rfl) (fun _ _ _ h => h) (Or.inl ⟨rfl, ?_⟩) (by assumption) ?_
              rotate_left
              · intro w hSw; (try dsimp only at hSw); first | (go_simp; done) | (go_simp; with_reducible rfl)
              simp only [Act.put, List.setIfInBounds_toArray, List.set_cons_zero, List.set_cons_succ]
              refine wpAnyH_ready (rs := [3, 9]) (by kernel_rfl) (by simp) (AllReadyH.cons (by rfl) (fun KK hK => ?_) (AllReadyH.cons (by rfl) (fun KK hK => ?_) AllReadyH.nil))
              · skip
                go_simp
                refine (HX.out _).mono ?_
                rintro e w3 ⟨rfl, b3⟩
                go_wp2_with fail
                have px3 := px5.below b3
                have bb3 := bb5a.trans (b3.mono bb5a.size)
                have ow3 := ow5.below b3
                obtain ⟨cw, cw1, fw, fw1, lw⟩ := ow3.c2
                refine hK.out _ _ ⟨K.Box.at_ (j := 0) px3 rfl, K.Box.at_ (j := 1) px3 rfl, K.Box.at_ (j := 2) px3 rfl⟩ (fun hHeld => ?_)
                clear hK KK
                try simp only [Act.put, List.setIfInBounds_toArray, List.set_cons_zero, List.set_cons_succ]
                refine K.takeL 4 (v := ?_) rfl (by kernel_rfl) (by kernel_rfl) (by kernel_rfl) (fun _ _ _ h => h) (Or.inl ⟨rfl, ?_⟩) (by assumption) ?_
                rotate_left
                · intro w hSw; (try dsimp only at hSw); first | (go_simp; done) | (go_simp; with_reducible rfl)
                simp only [Act.put, List.setIfInBounds_toArray, List.set_cons_zero, List.set_cons_succ]
                refine K.consL 9 rfl (by kernel_rfl) (fun KK hK => ?_)
                go_simp
                skip
                refine hK.out _ _ ⟨K.Box.at_ (j := 0) px3 rfl, K.Box.at_ (j := 1) px3 rfl, K.Box.at_ (j := 2) px3 rfl⟩ (fun hHeld => ?_)
                clear hK KK
                try simp only [Act.put, List.setIfInBounds_toArray, List.set_cons_zero, List.set_cons_succ]
                refine K.takeL 10 (v := ?_) rfl (by kernel_rfl) (by kernel_rfl) (by kernel_rfl) (fun _ _ _ h => h) (Or.inl ⟨rfl, ?_⟩) (by assumption) ?_
                rotate_left
                · intro w hSw; (try dsimp only at hSw); first | (go_simp; done) | (go_simp; with_reducible rfl)
                simp only [Act.put, List.setIfInBounds_toArray, List.set_cons_zero, List.set_cons_succ]
                refine K.takeL 11 (v := ?_) rfl (by kernel_rfl) (by kernel_rfl) (by kernel_rfl) (fun _ _ _ h => h) (Or.inl ⟨rfl, ?_⟩) (by assumption) ?_
                rotate_left
                · intro w hSw; (try dsimp only at hSw); first | (go_simp; done) | (go_simp; with_reducible rfl)
                simp only [Act.put, List.setIfInBounds_toArray, List.set_cons_zero, List.set_cons_succ]
                refine wpAnyH_done (by kernel_rfl) ?_ _
                have h3s := bb3.size
                go_wp2_with fail
                refine (HY.out _).mono ?_
                rintro e w5 ⟨rfl, b5⟩
                have bb5 := bb3.trans (b5.mono (by first | omega | (simp at h3s ⊢; omega)))
                go_wp2_with fail
                go_roundw
                case rel => exact ⟨k + 1, _, by omega, by go_num, rfl, Lib.hid (by rw [HJ2.out, HK.out]; simp [ByteArray.append_assoc]), bb5⟩
                case measure => simp [intOf]; omega
              · skip
                go_simp
                skip
                refine hK.out _ _ ⟨K.Box.at_ (j := 0) px5 rfl, K.Box.at_ (j := 1) px5 rfl, K.Box.at_ (j := 2) px5 rfl⟩ (fun hHeld => ?_)
                clear hK KK
                try simp only [Act.put, List.setIfInBounds_toArray, List.set_cons_zero, List.set_cons_succ]
                refine K.consL 3 rfl (by kernel_rfl) (fun KK hK => ?_)
                go_simp
                refine (HX.out _).mono ?_
                rintro e w3 ⟨rfl, b3⟩
                go_wp2_with fail
                have px3 := px5.below b3
                have bb3 := bb5a.trans (b3.mono bb5a.size)
                have ow3 := ow5.below b3
                obtain ⟨cw, cw1, fw, fw1, lw⟩ := ow3.c2
                refine hK.out _ _ ⟨K.Box.at_ (j := 0) px3 rfl, K.Box.at_ (j := 1) px3 rfl, K.Box.at_ (j := 2) px3 rfl⟩ (fun hHeld => ?_)
                clear hK KK
                try simp only [Act.put, List.setIfInBounds_toArray, List.set_cons_zero, List.set_cons_succ]
                refine K.takeL 4 (v := ?_) rfl (by kernel_rfl) (by kernel_rfl) (by kernel_rfl) (fun _ _ _ h => h) (Or.inl ⟨rfl, ?_⟩) (by assumption) ?_
                rotate_left
                · intro w hSw; (try dsimp only at hSw); first | (go_simp; done) | (go_simp; with_reducible rfl)
                simp only [Act.put, List.setIfInBounds_toArray, List.set_cons_zero, List.set_cons_succ]
                refine K.takeL 10 (v := ?_) rfl (by kernel_rfl) (by kernel_rfl) (by kernel_rfl) (fun _ _ _ h => h) (Or.inl ⟨rfl, ?_⟩) (by assumption) ?_
                rotate_left
                · intro w hSw; (try dsimp only at hSw); first | (go_simp; done) | (go_simp; with_reducible rfl)
                simp only [Act.put, List.setIfInBounds_toArray, List.set_cons_zero, List.set_cons_succ]
                refine K.takeL 11 (v := ?_) rfl (by kernel_rfl) (by kernel_rfl) (by kernel_rfl) (fun _ _ _ h => h) (Or.inl ⟨rfl, ?_⟩) (by assumption) ?_
                rotate_left
                · intro w hSw; (try dsimp only at hSw); first | (go_simp; done) | (go_simp; with_reducible rfl)
                simp only [Act.put, List.setIfInBounds_toArray, List.set_cons_zero, List.set_cons_succ]
                refine wpAnyH_done (by kernel_rfl) ?_ _
                have h3s := bb3.size
                go_wp2_with fail
                refine (HY.out _).mono ?_
                rintro e w5 ⟨rfl, b5⟩
                have bb5 := bb3.trans (b5.mono (by first | omega | (simp at h3s ⊢; omega)))
                go_wp2_with fail
                go_roundw
                case rel => exact ⟨k + 1, _, by omega, by go_num, rfl, Lib.hid (by rw [HJ2.out, HK.out]; simp [ByteArray.append_assoc]), bb5⟩
                case measure => simp [intOf]; omega
          · have hzz : decide (0 < z) = true := decide_eq_true (by omega)
            have HK := Lib.hid (show T = M.txt x ++ ⟨#[108]⟩ ++ (⟨#[43]⟩ ++ M.txt z) by
              rw [HM.out]; unfold M.prt M.byt; rw [if_neg (by omega)]; rw [if_pos (by omega)])
            generalize hTX : M.txt x = tx at *
            generalize hTY : M.txt z = ty at *
            clear hTX hTY HM HZ hz
            have q1 : t.size + 1 ≤ 9223372036854775807 := by omega
            have q2 : ¬ (9223372036854775806 < t.size) := by omega
            have q3 : ¬ (9223372036854775805 < t.size) := by omega
            have q4 : ¬ (9223372036854775804 < t.size) := by omega
            have q5 : ¬ (9223372036854775807 < t.size + 1) := by omega
            have q6 : ¬ (9223372036854775807 < t.size + 1 + 1) := by omega
            have q7 : ¬ (9223372036854775807 < t.size + 1 + 1 + 1) := by omega
            go_upto_region 8 with fail
            obtain ⟨W, hW⟩ : ∃ W, W = wr.alloc (.cells #[.int .i64 x, .int .i64 1, .int .i64 z] 25) := ⟨_, rfl⟩
            have hgW : wr.heap.size < W.heap.size := by rw [hW]; simp
            have hbW := HB1.out
            rw [← hW] at px hbW ⊢
            clear hW p0 p1 p2 HB HB1
            generalize wr.heap.size = G at *
            obtain ⟨p0, p1, p2⟩ := px.c3
            have pxd := px.drew
            have bbd := hbW.drew
            refine wp_region_held_drew (S := fun w' => w'.cell? ⟨G, 0, none⟩ = some (.int .i64 x) ∧ w'.cell? ⟨G, 1, none⟩ = some (.int .i64 1) ∧ w'.cell? ⟨G, 2, none⟩ = some (.int .i64 z)) (by kernel_rfl) ⟨K.Box.at_ (j := 0) pxd rfl, K.Box.at_ (j := 1) pxd rfl, K.Box.at_ (j := 2) pxd rfl⟩ (fun hHeld => ?_)
            refine K.takeL 0 (v := ?_) rfl (by kernel_rfl) (by kernel_rfl) (by kernel_rfl) (fun _ _ _ h => h) (Or.inl ⟨rfl, ?_⟩) (by assumption) ?_
            rotate_left
            · intro w hSw; (try dsimp only at hSw); first | (go_simp; done) | (go_simp; with_reducible rfl)
            simp only [Act.put, List.setIfInBounds_toArray, List.set_cons_zero, List.set_cons_succ]
            refine K.takeL 1 (v := ?_) rfl (by kernel_rfl) (by kernel_rfl) (by kernel_rfl) (fun _ _ _ h => h) (Or.inl ⟨rfl, ?_⟩) (by assumption) ?_
            rotate_left
            · intro w hSw; (try dsimp only at hSw); first | (go_simp; done) | (go_simp; with_reducible rfl)
            simp only [Act.put, List.setIfInBounds_toArray, List.set_cons_zero, List.set_cons_succ]
            refine K.takeL 2 (v := ?_) rfl (by kernel_rfl) (by kernel_rfl) (by kernel_rfl) (fun _ _ _ h => h) (Or.inl ⟨rfl, ?_⟩) (by assumption) ?_
            rotate_left
            · intro w hSw; (try dsimp only at hSw); first | (go_simp; done) | (go_simp; with_reducible rfl)
            simp only [Act.put, List.setIfInBounds_toArray, List.set_cons_zero, List.set_cons_succ]
            refine K.takeL 6 (v := ?_) rfl (by kernel_rfl) (by kernel_rfl) (by kernel_rfl) (fun _ _ _ h => h) (Or.inl ⟨rfl, ?_⟩) (by assumption) ?_
            rotate_left
            · intro w hSw; (try dsimp only at hSw); first | (go_simp; done) | (go_simp; with_reducible rfl)
            simp only [Act.put, List.setIfInBounds_toArray, List.set_cons_zero, List.set_cons_succ]
            refine K.takeL 7 (v := ?_) rfl (by kernel_rfl) (by kernel_rfl) (by kernel_rfl) (fun _ _ _ h => h) (Or.inl ⟨rfl, ?_⟩) (by assumption) ?_
            rotate_left
            · intro w hSw; (try dsimp only at hSw); first | (go_simp; done) | (go_simp; with_reducible rfl)
            simp only [Act.put, List.setIfInBounds_toArray, List.set_cons_zero, List.set_cons_succ]
            refine wpAnyH_ready (rs := [3, 5]) (by kernel_rfl) (by simp) (AllReadyH.cons (by rfl) (fun KK hK => ?_) (AllReadyH.cons (by rfl) (fun KK hK => ?_) AllReadyH.nil))
            · skip
              go_simp
              refine (HX.out _).mono ?_
              rintro e w3 ⟨rfl, b3⟩
              go_wp2_with fail
              have px3 := pxd.below b3
              have bb3 := bbd.trans (b3.mono bbd.size)
              refine hK.out _ _ ⟨K.Box.at_ (j := 0) px3 rfl, K.Box.at_ (j := 1) px3 rfl, K.Box.at_ (j := 2) px3 rfl⟩ (fun hHeld => ?_)
              clear hK KK
              try simp only [Act.put, List.setIfInBounds_toArray, List.set_cons_zero, List.set_cons_succ]
              refine K.takeL 4 (v := ?_) rfl (by kernel_rfl) (by kernel_rfl) (by kernel_rfl) (fun _ _ _ h => h) (Or.inl ⟨rfl, ?_⟩) (by assumption) ?_
              rotate_left
              · intro w hSw; (try dsimp only at hSw); first | (go_simp; done) | (go_simp; with_reducible rfl)
              simp only [Act.put, List.setIfInBounds_toArray, List.set_cons_zero, List.set_cons_succ]
              refine K.consL 5 rfl (by kernel_rfl) (fun KK hK => ?_)
              go_simp
              have px5 := px3.alloc (.cells #[.string ⟨#[117]⟩, .string ⟨#[108]⟩] 9)
              have bb5a := bb3.alloc bb3.size (.cells #[.string ⟨#[117]⟩, .string ⟨#[108]⟩] 9)
              have ow5 := K.Own.new w3 #[.string ⟨#[117]⟩, .string ⟨#[108]⟩] 9
              obtain ⟨cw, cw1, fw, fw1, lw⟩ := ow5.c2
              refine hK.out _ _ ⟨K.Box.at_ (j := 0) px5 rfl, K.Box.at_ (j := 1) px5 rfl, K.Box.at_ (j := 2) px5 rfl⟩ (fun hHeld => ?_)
              clear hK KK
              try simp only [Act.put, List.setIfInBounds_toArray, List.set_cons_zero, List.set_cons_succ]
              refine K.takeL 8 (v := ?_) rfl (by kernel_rfl) (by kernel_rfl) (by kernel_rfl) (fun _ _ _ h => h) (Or.inl ⟨rfl, ?_⟩) (by assumption) ?_
              rotate_left
              · intro w hSw; (try dsimp only at hSw); first | (go_simp; done) | (go_simp; with_reducible rfl)
              simp only [Act.put, List.setIfInBounds_toArray, List.set_cons_zero, List.set_cons_succ]
              refine K.consL 9 rfl (by kernel_rfl) (fun KK hK => ?_)
              go_simp
              skip
              refine hK.out _ _ ⟨K.Box.at_ (j := 0) px5 rfl, K.Box.at_ (j := 1) px5 rfl, K.Box.at_ (j := 2) px5 rfl⟩ (fun hHeld => ?_)
              clear hK KK
              try simp only [Act.put, List.setIfInBounds_toArray, List.set_cons_zero, List.set_cons_succ]
              refine K.takeL 10 (v := ?_) rfl (by kernel_rfl) (by kernel_rfl) (by kernel_rfl) (fun _ _ _ h => h) (Or.inl ⟨rfl, ?_⟩) (by assumption) ?_
              rotate_left
              · intro w hSw; (try dsimp only at hSw); first | (go_simp; done) | (go_simp; with_reducible rfl)
              simp only [Act.put, List.setIfInBounds_toArray, List.set_cons_zero, List.set_cons_succ]
              refine K.takeL 11 (v := ?_) rfl (by kernel_rfl) (by kernel_rfl) (by kernel_rfl) (fun _ _ _ h => h) (Or.inl ⟨rfl, ?_⟩) (by assumption) ?_
              rotate_left
              · intro w hSw; (try dsimp only at hSw); first | (go_simp; done) | (go_simp; with_reducible rfl)
              simp only [Act.put, List.setIfInBounds_toArray, List.set_cons_zero, List.set_cons_succ]
              refine wpAnyH_done (by kernel_rfl) ?_ _
              have h3s := bb5a.size
              go_wp2_with fail
              refine (HY.out _).mono ?_
              rintro e w5 ⟨rfl, b5⟩
              have bb5 := bb5a.trans (b5.mono (by first | omega | (simp at h3s ⊢; omega)))
              go_wp2_with fail
              go_roundw
              case rel => exact ⟨k + 1, _, by omega, by go_num, rfl, Lib.hid (by rw [HJ2.out, HK.out]; simp [ByteArray.append_assoc]), bb5⟩
              case measure => simp [intOf]; omega
            · skip
              go_simp
              have px5 := (px.alloc (.cells #[.string ⟨#[117]⟩, .string ⟨#[108]⟩] 9)).drew
              have bb5a := (hbW.alloc hbW.size (.cells #[.string ⟨#[117]⟩, .string ⟨#[108]⟩] 9)).drew
              have ow5 := (K.Own.new W #[.string ⟨#[117]⟩, .string ⟨#[108]⟩] 9).drew
              obtain ⟨cw, cw1, fw, fw1, lw⟩ := ow5.c2
              refine hK.out _ _ ⟨K.Box.at_ (j := 0) px5 rfl, K.Box.at_ (j := 1) px5 rfl, K.Box.at_ (j := 2) px5 rfl⟩ (fun hHeld => ?_)
              clear hK KK
              try simp only [Act.put, List.setIfInBounds_toArray, List.set_cons_zero, List.set_cons_succ]
              refine K.takeL 8 (v := ?_) rfl (by kernel_rfl) (by kernel_rfl) (by kernel_rfl) (fun _ _ _ h => h) (Or.inl ⟨rfl, ?_⟩) (by assumption) ?_
              rotate_left
              · intro w hSw; (try dsimp only at hSw); first | (go_simp; done) | (go_simp; with_reducible rfl)
              simp only [Act.put, List.setIfInBounds_toArray, List.set_cons_zero, List.set_cons_succ]
              refine wpAnyH_ready (rs := [3, 9]) (by kernel_rfl) (by simp) (AllReadyH.cons (by rfl) (fun KK hK => ?_) (AllReadyH.cons (by rfl) (fun KK hK => ?_) AllReadyH.nil))
              · skip
                go_simp
                refine (HX.out _).mono ?_
                rintro e w3 ⟨rfl, b3⟩
                go_wp2_with fail
                have px3 := px5.below b3
                have bb3 := bb5a.trans (b3.mono bb5a.size)
                have ow3 := ow5.below b3
                obtain ⟨cw, cw1, fw, fw1, lw⟩ := ow3.c2
                refine hK.out _ _ ⟨K.Box.at_ (j := 0) px3 rfl, K.Box.at_ (j := 1) px3 rfl, K.Box.at_ (j := 2) px3 rfl⟩ (fun hHeld => ?_)
                clear hK KK
                try simp only [Act.put, List.setIfInBounds_toArray, List.set_cons_zero, List.set_cons_succ]
                refine K.takeL 4 (v := ?_) rfl (by kernel_rfl) (by kernel_rfl) (by kernel_rfl) (fun _ _ _ h => h) (Or.inl ⟨rfl, ?_⟩) (by assumption) ?_
                rotate_left
                · intro w hSw; (try dsimp only at hSw); first | (go_simp; done) | (go_simp; with_reducible rfl)
                simp only [Act.put, List.setIfInBounds_toArray, List.set_cons_zero, List.set_cons_succ]
                refine K.consL 9 rfl (by kernel_rfl) (fun KK hK => ?_)
                go_simp
                skip
                refine hK.out _ _ ⟨K.Box.at_ (j := 0) px3 rfl, K.Box.at_ (j := 1) px3 rfl, K.Box.at_ (j := 2) px3 rfl⟩ (fun hHeld => ?_)
                clear hK KK
                try simp only [Act.put, List.setIfInBounds_toArray, List.set_cons_zero, List.set_cons_succ]
                refine K.takeL 10 (v := ?_) rfl (by kernel_rfl) (by kernel_rfl) (by kernel_rfl) (fun _ _ _ h => h) (Or.inl ⟨rfl, ?_⟩) (by assumption) ?_
                rotate_left
                · intro w hSw; (try dsimp only at hSw); first | (go_simp; done) | (go_simp; with_reducible rfl)
                simp only [Act.put, List.setIfInBounds_toArray, List.set_cons_zero, List.set_cons_succ]
                refine K.takeL 11 (v := ?_) rfl (by kernel_rfl) (by kernel_rfl) (by kernel_rfl) (fun _ _ _ h => h) (Or.inl ⟨rfl, ?_⟩) (by assumption) ?_
                rotate_left
                · intro w hSw; (try dsimp only at hSw); first | (go_simp; done) | (go_simp; with_reducible rfl)
                simp only [Act.put, List.setIfInBounds_toArray, List.set_cons_zero, List.set_cons_succ]
                refine wpAnyH_done (by kernel_rfl) ?_ _
                have h3s := bb3.size
                go_wp2_with fail
                refine (HY.out _).mono ?_
                rintro e w5 ⟨rfl, b5⟩
                have bb5 := bb3.trans (b5.mono (by first | omega | (simp at h3s ⊢; omega)))
                go_wp2_with fail
                go_roundw
                case rel => exact ⟨k + 1, _, by omega, by go_num, rfl, Lib.hid (by rw [HJ2.out, HK.out]; simp [ByteArray.append_assoc]), bb5⟩
                case measure => simp [intOf]; omega
              · skip
                go_simp
                skip
                refine hK.out _ _ ⟨K.Box.at_ (j := 0) px5 rfl, K.Box.at_ (j := 1) px5 rfl, K.Box.at_ (j := 2) px5 rfl⟩ (fun hHeld => ?_)
                clear hK KK
                try simp only [Act.put, List.setIfInBounds_toArray, List.set_cons_zero, List.set_cons_succ]
                refine K.consL 3 rfl (by kernel_rfl) (fun KK hK => ?_)
                go_simp
                refine (HX.out _).mono ?_
                rintro e w3 ⟨rfl, b3⟩
                go_wp2_with fail
                have px3 := px5.below b3
                have bb3 := bb5a.trans (b3.mono bb5a.size)
                have ow3 := ow5.below b3
                obtain ⟨cw, cw1, fw, fw1, lw⟩ := ow3.c2
                refine hK.out _ _ ⟨K.Box.at_ (j := 0) px3 rfl, K.Box.at_ (j := 1) px3 rfl, K.Box.at_ (j := 2) px3 rfl⟩ (fun hHeld => ?_)
                clear hK KK
                try simp only [Act.put, List.setIfInBounds_toArray, List.set_cons_zero, List.set_cons_succ]
                refine K.takeL 4 (v := ?_) rfl (by kernel_rfl) (by kernel_rfl) (by kernel_rfl) (fun _ _ _ h => h) (Or.inl ⟨rfl, ?_⟩) (by assumption) ?_
                rotate_left
                · intro w hSw; (try dsimp only at hSw); first | (go_simp; done) | (go_simp; with_reducible rfl)
                simp only [Act.put, List.setIfInBounds_toArray, List.set_cons_zero, List.set_cons_succ]
                refine K.takeL 10 (v := ?_) rfl (by kernel_rfl) (by kernel_rfl) (by kernel_rfl) (fun _ _ _ h => h) (Or.inl ⟨rfl, ?_⟩) (by assumption) ?_
                rotate_left
                · intro w hSw; (try dsimp only at hSw); first | (go_simp; done) | (go_simp; with_reducible rfl)
                simp only [Act.put, List.setIfInBounds_toArray, List.set_cons_zero, List.set_cons_succ]
                refine K.takeL 11 (v := ?_) rfl (by kernel_rfl) (by kernel_rfl) (by kernel_rfl) (fun _ _ _ h => h) (Or.inl ⟨rfl, ?_⟩) (by assumption) ?_
                rotate_left
                · intro w hSw; (try dsimp only at hSw); first | (go_simp; done) | (go_simp; with_reducible rfl)
                simp only [Act.put, List.setIfInBounds_toArray, List.set_cons_zero, List.set_cons_succ]
                refine wpAnyH_done (by kernel_rfl) ?_ _
                have h3s := bb3.size
                go_wp2_with fail
                refine (HY.out _).mono ?_
                rintro e w5 ⟨rfl, b5⟩
                have bb5 := bb3.trans (b5.mono (by first | omega | (simp at h3s ⊢; omega)))
                go_wp2_with fail
                go_roundw
                case rel => exact ⟨k + 1, _, by omega, by go_num, rfl, Lib.hid (by rw [HJ2.out, HK.out]; simp [ByteArray.append_assoc]), bb5⟩
                case measure => simp [intOf]; omega
    · obtain rfl : k = l.length := by omega
      rw [List.take_of_length_le (by simp)] at ht
      clear hts HZ
      go_wp2_with fail
      go_ret
      exact ⟨K.ret_str (by rw [ht.out, HE.out]), hb⟩
end Go.Proofs.Ythlkdaogmcjlbaa.MoveT
