/-
  Walks: the text of moves (printed by gen_mtext.py).
-/
import Derived.Test.YthlkdaogmcjlbaaMoveM
import Derived.Test.YthlkdaogmcjlbaaMoveN
import Derived.Test.YthlkdaogmcjlbaaNum
import Derived.Test.YthlkdaogmcjlbaaJoin
import Derived.Test.YthlkdaogmcjlbaaKit4
import Derived.Deep.RegionHeld3
set_option linter.unusedVariables false
namespace Go.Proofs.Ythlkdaogmcjlbaa.M
theorem txt1m {n : Int} (h0 : 0 ≤ n) (h1 : n ≤ 9) : (txt n).size = 1 := by
  rw [txt_nn h0, tx_lt (by omega)]; rfl
end Go.Proofs.Ythlkdaogmcjlbaa.M
namespace Go.Proofs.Ythlkdaogmcjlbaa.MoveT
open Go.RowKit
set_option maxRecDepth 100000 in
set_option maxHeartbeats 4000000 in
theorem i_txt (A : Option Addr) (c : Nat) (l : List M.Move) (w : World) (hl : l.length ≤ 60) (hok : ∀ m ∈ l, m.ok = true) (ha : K.Rd w 3 A l.length (l.flatMap M.moveCells)) :
    Calls Try.prog 79 #[.slice A l.length c] w fun e w' => e = .returned (.string (M.movesTxt l)) ∧ Below w.heap.size w w' := by
  obtain ⟨i0, hi0, hz0, hz1, hz2⟩ := info_parts Spl.infoStr
  have HZ := Lib.hid (fun k h => M.movesTxt_size hok k h)
  go_enter Try.func79, Try.ntmps79
  go_wp2_with fail
  go_loopw [10, 3] (fun i p wr => ∃ (k : Nat) (B : Option Addr) (d : Nat), k ≤ l.length ∧ i = .int .i64 k ∧ p = .slice B k d ∧ K.Row wr w.heap.size 9 1 B k d (((l.take k).map M.mvTxt).map Value.string) ∧ Below w.heap.size w wr) (fun i _ _ => l.length - (intOf i).toNat)
  case atStart => exact ⟨0, none, 0, Nat.zero_le _, rfl, rfl, K.Row.nil _ _ _ _, Below.refl _ _⟩
  case round =>
    obtain ⟨k, B, d, hk, rfl, rfl, hrow, hb⟩ := hrel
    by_cases hlt : k < l.length
    · skip
      obtain ⟨g, o, rfl, hg, c0, c1, c2⟩ := (ha.below hb).move hlt
      have h1 : (k : Int) < (l.length : Int) := by omega
      have h2 : (0 : Int) ≤ (k : Int) := by omega
      have hmk := (M.Move.ok_iff _).1 (hok l[k] (List.getElem_mem _))
      have hbs := hb.size
      have HT := Lib.hid (show (l.take (k + 1)).map M.mvTxt = (l.take k).map M.mvTxt ++ [M.mvTxt l[k]] by rw [List.take_succ_eq_append_getElem hlt, List.map_append]; rfl)
      have HM : Hid (M.mvTxt l[k] = M.txt l[k].rod ++ M.prt l[k].part ++ M.byt l[k].by_) := Lib.hid rfl
      generalize M.mvTxt l[k] = T at HT HM
      generalize l[k].rod = x at *
      generalize l[k].part = y at *
      generalize l[k].by_ = z at *
      obtain ⟨⟨x1, x2⟩, ⟨y1, y2⟩, ⟨z1, z2⟩, z3⟩ := hmk
      have hx1 := M.txt1m (n := x) x1 (by omega)
      have HX := Lib.hid (fun w => Num.i_text x w (by omega) (by omega))
      have HA := Lib.hid (fun w => MoveN.i_abs z w (by omega))
      have HY := Lib.hid (fun w => Num.i_text (M.absI z) w (by have := M.absI_bd z; omega) (by have := M.absI_bd z; omega))
      have hy1 := M.txt1m (n := M.absI z) (by have := M.absI_bd z; omega) (by have := M.absI_bd z; omega)
      have HB := Lib.hid hb
      have HR := Lib.hid hrow
      obtain ⟨ob, hob⟩ : ∃ o : Obj, o = .cells #[.int .i64 x, .int .i64 y, .int .i64 z] 25 := ⟨_, rfl⟩
      have px : K.Box (wr.alloc ob) wr.heap.size [.int .i64 x, .int .i64 y, .int .i64 z] := by rw [hob]; exact K.Box.new _ _ _
      have HB1 := Lib.hid (hb.alloc hbs ob)
      have HR1 := Lib.hid (hrow.alloc ob)
      have hz9 : (wr.alloc ob).heap.size = wr.heap.size + 1 := World.size_alloc _ _
      clear hz9
      subst hob
      have hnB : K.blk B ≠ some wr.heap.size := fun h => Nat.lt_irrefl _ (HR.out.lt _ h).2
      have p0 := px.c3
      have hj2 : k + 1 ≤ maxLen := by simp only [maxLen]; omega
      by_cases hy : y = 0
      · subst hy
        by_cases hz : z < 0
        · skip
          have HK := Lib.hid (show T = M.txt x ++ ⟨#[117]⟩ ++ ⟨#[45]⟩ ++ M.txt (M.absI z) by
            rw [HM.out]; unfold M.prt M.byt; rw [if_pos rfl]; rw [if_neg (by omega), M.absI_neg hz, M.txt_neg hz, show M.tx (-z).toNat = M.txt (-z) from (M.txt_nn (by omega)).symm]; simp [ByteArray.append_assoc])
          generalize M.absI z = za at *
          generalize hTX : M.txt x = tx at *
          generalize hTY : M.txt za = ty at *
          clear hTX hTY HM HZ
          have s1 : tx.size + (⟨#[1]⟩ : ByteArray).size ≤ 9223372036854775807 := by have : (⟨#[1]⟩ : ByteArray).size = 1 := rfl; omega
          clear s1
          go_wp2_with fail
          go_region_held3 (fun w' => w'.cell? ⟨wr.heap.size, 0, none⟩ = some (.int .i64 x) ∧ w'.cell? ⟨wr.heap.size, 2, none⟩ = some (.int .i64 z))
            (((try dsimp only); refine ⟨(by (refine K.Box.at_ (vs := [.int .i64 x, .int .i64 0, .int .i64 z]) (j := 0) ?_ rfl; (repeat (first | with_reducible assumption | (with_reducible refine K.Box.alloc ?_ _) | (with_reducible refine K.Box.drew ?_) | (with_reducible refine K.Box.setOther ?_ (by simp <;> omega) _) | (with_reducible refine K.Box.below ?_ (by with_reducible assumption)))))), (by (refine K.Box.at_ (vs := [.int .i64 x, .int .i64 0, .int .i64 z]) (j := 2) ?_ rfl; (repeat (first | with_reducible assumption | (with_reducible refine K.Box.alloc ?_ _) | (with_reducible refine K.Box.drew ?_) | (with_reducible refine K.Box.setOther ?_ (by simp <;> omega) _) | (with_reducible refine K.Box.below ?_ (by with_reducible assumption))))))⟩))
            (first | (go_at_call 108; ((with_reducible refine (HX.out _).mono ?_)); rintro e w1 ⟨rfl, b1⟩; have hB1 := Lib.hid (HB1.out.drew.trans (b1.mono HB1.out.drew.size))) | (go_at_call 107; ((with_reducible refine (HA.out _).mono ?_)); rintro e w2 ⟨rfl, rfl⟩) | (go_at_call 108; ((with_reducible refine (HY.out _).mono ?_)); rintro e w3 ⟨rfl, b3⟩; have hB3 := Lib.hid (hB1.out.trans (b3.mono hB1.out.size)); have hB4 := Lib.hid (hB3.out.alloc hB3.out.size (.cells #[.string (tx ++ ⟨#[117]⟩ ++ ⟨#[45]⟩ ++ ty)] 9)); have hR4 := Lib.hid (((HR1.out.drew.below b1).below b3).alloc (.cells #[.string (tx ++ ⟨#[117]⟩ ++ ⟨#[45]⟩ ++ ty)] 9)); have hC4 := Lib.hid (K.Rd.new w3 #[.string (tx ++ ⟨#[117]⟩ ++ ⟨#[45]⟩ ++ ty)] 9 1 1 rfl); have px4 := ((px.drew.below b1).below b3).alloc (.cells #[.string (tx ++ ⟨#[117]⟩ ++ ⟨#[45]⟩ ++ ty)] 9)) | (refine K.stepN (by rfl) (.tmp 20) (.tmp 33) _ (by rfl) w.heap.size _ i0 _ 1 16 Try.underlying83 hi0 hz0 hz1 hz2 rfl (by omega) B k d _ (by rfl) hR4.out (some ⟨w3.heap.size, 0, none⟩) 1 1 [.string (tx ++ ⟨#[117]⟩ ++ ⟨#[45]⟩ ++ ty)] (by rfl) hC4.out (by simp [Value.oneCell']) hj2 (by omega) hB4.out.size ?_; intro B4 c4 w4 hrow4 hb4 hg4 _; have px5 := px4.kept hg4 hnB))
          all_goals go_wp2_with fail
          all_goals
            go_roundw
            case rel => exact ⟨k + 1, B4, c4, by omega, by go_num, rfl, by rw [HT.out, List.map_append, HK.out]; exact hrow4, hB4.out.trans hb4⟩
            case measure => simp [intOf]; omega
        · skip
          have HK := Lib.hid (show T = M.txt x ++ ⟨#[117]⟩ ++ ⟨#[43]⟩ ++ M.txt (M.absI z) by
            rw [HM.out]; unfold M.prt M.byt; rw [if_pos rfl]; rw [if_pos (by omega), M.absI_nn hz]; simp [ByteArray.append_assoc])
          generalize M.absI z = za at *
          generalize hTX : M.txt x = tx at *
          generalize hTY : M.txt za = ty at *
          clear hTX hTY HM HZ
          have s1 : tx.size + (⟨#[1]⟩ : ByteArray).size ≤ 9223372036854775807 := by have : (⟨#[1]⟩ : ByteArray).size = 1 := rfl; omega
          clear s1
          go_wp2_with fail
          go_region_held3 (fun w' => w'.cell? ⟨wr.heap.size, 0, none⟩ = some (.int .i64 x) ∧ w'.cell? ⟨wr.heap.size, 2, none⟩ = some (.int .i64 z))
            (((try dsimp only); refine ⟨(by (refine K.Box.at_ (vs := [.int .i64 x, .int .i64 0, .int .i64 z]) (j := 0) ?_ rfl; (repeat (first | with_reducible assumption | (with_reducible refine K.Box.alloc ?_ _) | (with_reducible refine K.Box.drew ?_) | (with_reducible refine K.Box.setOther ?_ (by simp <;> omega) _) | (with_reducible refine K.Box.below ?_ (by with_reducible assumption)))))), (by (refine K.Box.at_ (vs := [.int .i64 x, .int .i64 0, .int .i64 z]) (j := 2) ?_ rfl; (repeat (first | with_reducible assumption | (with_reducible refine K.Box.alloc ?_ _) | (with_reducible refine K.Box.drew ?_) | (with_reducible refine K.Box.setOther ?_ (by simp <;> omega) _) | (with_reducible refine K.Box.below ?_ (by with_reducible assumption))))))⟩))
            (first | (go_at_call 108; ((with_reducible refine (HX.out _).mono ?_)); rintro e w1 ⟨rfl, b1⟩; have hB1 := Lib.hid (HB1.out.drew.trans (b1.mono HB1.out.drew.size))) | (go_at_call 107; ((with_reducible refine (HA.out _).mono ?_)); rintro e w2 ⟨rfl, rfl⟩) | (go_at_call 108; ((with_reducible refine (HY.out _).mono ?_)); rintro e w3 ⟨rfl, b3⟩; have hB3 := Lib.hid (hB1.out.trans (b3.mono hB1.out.size)); have hB4 := Lib.hid (hB3.out.alloc hB3.out.size (.cells #[.string (tx ++ ⟨#[117]⟩ ++ ⟨#[43]⟩ ++ ty)] 9)); have hR4 := Lib.hid (((HR1.out.drew.below b1).below b3).alloc (.cells #[.string (tx ++ ⟨#[117]⟩ ++ ⟨#[43]⟩ ++ ty)] 9)); have hC4 := Lib.hid (K.Rd.new w3 #[.string (tx ++ ⟨#[117]⟩ ++ ⟨#[43]⟩ ++ ty)] 9 1 1 rfl); have px4 := ((px.drew.below b1).below b3).alloc (.cells #[.string (tx ++ ⟨#[117]⟩ ++ ⟨#[43]⟩ ++ ty)] 9)) | (refine K.stepN (by rfl) (.tmp 20) (.tmp 33) _ (by rfl) w.heap.size _ i0 _ 1 16 Try.underlying83 hi0 hz0 hz1 hz2 rfl (by omega) B k d _ (by rfl) hR4.out (some ⟨w3.heap.size, 0, none⟩) 1 1 [.string (tx ++ ⟨#[117]⟩ ++ ⟨#[43]⟩ ++ ty)] (by rfl) hC4.out (by simp [Value.oneCell']) hj2 (by omega) hB4.out.size ?_; intro B4 c4 w4 hrow4 hb4 hg4 _; have px5 := px4.kept hg4 hnB))
          all_goals go_wp2_with fail
          all_goals
            go_roundw
            case rel => exact ⟨k + 1, B4, c4, by omega, by go_num, rfl, by rw [HT.out, List.map_append, HK.out]; exact hrow4, hB4.out.trans hb4⟩
            case measure => simp [intOf]; omega
      · obtain rfl : y = 1 := by omega
        by_cases hz : z < 0
        · skip
          have HK := Lib.hid (show T = M.txt x ++ ⟨#[108]⟩ ++ ⟨#[45]⟩ ++ M.txt (M.absI z) by
            rw [HM.out]; unfold M.prt M.byt; rw [if_neg (by omega)]; rw [if_neg (by omega), M.absI_neg hz, M.txt_neg hz, show M.tx (-z).toNat = M.txt (-z) from (M.txt_nn (by omega)).symm]; simp [ByteArray.append_assoc])
          generalize M.absI z = za at *
          generalize hTX : M.txt x = tx at *
          generalize hTY : M.txt za = ty at *
          clear hTX hTY HM HZ
          have s1 : tx.size + (⟨#[1]⟩ : ByteArray).size ≤ 9223372036854775807 := by have : (⟨#[1]⟩ : ByteArray).size = 1 := rfl; omega
          clear s1
          go_wp2_with fail
          go_region_held3 (fun w' => w'.cell? ⟨wr.heap.size, 0, none⟩ = some (.int .i64 x) ∧ w'.cell? ⟨wr.heap.size, 2, none⟩ = some (.int .i64 z))
            (((try dsimp only); refine ⟨(by (refine K.Box.at_ (vs := [.int .i64 x, .int .i64 1, .int .i64 z]) (j := 0) ?_ rfl; (repeat (first | with_reducible assumption | (with_reducible refine K.Box.alloc ?_ _) | (with_reducible refine K.Box.drew ?_) | (with_reducible refine K.Box.setOther ?_ (by simp <;> omega) _) | (with_reducible refine K.Box.below ?_ (by with_reducible assumption)))))), (by (refine K.Box.at_ (vs := [.int .i64 x, .int .i64 1, .int .i64 z]) (j := 2) ?_ rfl; (repeat (first | with_reducible assumption | (with_reducible refine K.Box.alloc ?_ _) | (with_reducible refine K.Box.drew ?_) | (with_reducible refine K.Box.setOther ?_ (by simp <;> omega) _) | (with_reducible refine K.Box.below ?_ (by with_reducible assumption))))))⟩))
            (first | (go_at_call 108; ((with_reducible refine (HX.out _).mono ?_)); rintro e w1 ⟨rfl, b1⟩; have hB1 := Lib.hid (HB1.out.drew.trans (b1.mono HB1.out.drew.size))) | (go_at_call 107; ((with_reducible refine (HA.out _).mono ?_)); rintro e w2 ⟨rfl, rfl⟩) | (go_at_call 108; ((with_reducible refine (HY.out _).mono ?_)); rintro e w3 ⟨rfl, b3⟩; have hB3 := Lib.hid (hB1.out.trans (b3.mono hB1.out.size)); have hB4 := Lib.hid (hB3.out.alloc hB3.out.size (.cells #[.string (tx ++ ⟨#[108]⟩ ++ ⟨#[45]⟩ ++ ty)] 9)); have hR4 := Lib.hid (((HR1.out.drew.below b1).below b3).alloc (.cells #[.string (tx ++ ⟨#[108]⟩ ++ ⟨#[45]⟩ ++ ty)] 9)); have hC4 := Lib.hid (K.Rd.new w3 #[.string (tx ++ ⟨#[108]⟩ ++ ⟨#[45]⟩ ++ ty)] 9 1 1 rfl); have px4 := ((px.drew.below b1).below b3).alloc (.cells #[.string (tx ++ ⟨#[108]⟩ ++ ⟨#[45]⟩ ++ ty)] 9)) | (refine K.stepN (by rfl) (.tmp 20) (.tmp 33) _ (by rfl) w.heap.size _ i0 _ 1 16 Try.underlying83 hi0 hz0 hz1 hz2 rfl (by omega) B k d _ (by rfl) hR4.out (some ⟨w3.heap.size, 0, none⟩) 1 1 [.string (tx ++ ⟨#[108]⟩ ++ ⟨#[45]⟩ ++ ty)] (by rfl) hC4.out (by simp [Value.oneCell']) hj2 (by omega) hB4.out.size ?_; intro B4 c4 w4 hrow4 hb4 hg4 _; have px5 := px4.kept hg4 hnB))
          all_goals go_wp2_with fail
          all_goals
            go_roundw
            case rel => exact ⟨k + 1, B4, c4, by omega, by go_num, rfl, by rw [HT.out, List.map_append, HK.out]; exact hrow4, hB4.out.trans hb4⟩
            case measure => simp [intOf]; omega
        · skip
          have HK := Lib.hid (show T = M.txt x ++ ⟨#[108]⟩ ++ ⟨#[43]⟩ ++ M.txt (M.absI z) by
            rw [HM.out]; unfold M.prt M.byt; rw [if_neg (by omega)]; rw [if_pos (by omega), M.absI_nn hz]; simp [ByteArray.append_assoc])
          generalize M.absI z = za at *
          generalize hTX : M.txt x = tx at *
          generalize hTY : M.txt za = ty at *
          clear hTX hTY HM HZ
          have s1 : tx.size + (⟨#[1]⟩ : ByteArray).size ≤ 9223372036854775807 := by have : (⟨#[1]⟩ : ByteArray).size = 1 := rfl; omega
          clear s1
          go_wp2_with fail
          go_region_held3 (fun w' => w'.cell? ⟨wr.heap.size, 0, none⟩ = some (.int .i64 x) ∧ w'.cell? ⟨wr.heap.size, 2, none⟩ = some (.int .i64 z))
            (((try dsimp only); refine ⟨(by (refine K.Box.at_ (vs := [.int .i64 x, .int .i64 1, .int .i64 z]) (j := 0) ?_ rfl; (repeat (first | with_reducible assumption | (with_reducible refine K.Box.alloc ?_ _) | (with_reducible refine K.Box.drew ?_) | (with_reducible refine K.Box.setOther ?_ (by simp <;> omega) _) | (with_reducible refine K.Box.below ?_ (by with_reducible assumption)))))), (by (refine K.Box.at_ (vs := [.int .i64 x, .int .i64 1, .int .i64 z]) (j := 2) ?_ rfl; (repeat (first | with_reducible assumption | (with_reducible refine K.Box.alloc ?_ _) | (with_reducible refine K.Box.drew ?_) | (with_reducible refine K.Box.setOther ?_ (by simp <;> omega) _) | (with_reducible refine K.Box.below ?_ (by with_reducible assumption))))))⟩))
            (first | (go_at_call 108; ((with_reducible refine (HX.out _).mono ?_)); rintro e w1 ⟨rfl, b1⟩; have hB1 := Lib.hid (HB1.out.drew.trans (b1.mono HB1.out.drew.size))) | (go_at_call 107; ((with_reducible refine (HA.out _).mono ?_)); rintro e w2 ⟨rfl, rfl⟩) | (go_at_call 108; ((with_reducible refine (HY.out _).mono ?_)); rintro e w3 ⟨rfl, b3⟩; have hB3 := Lib.hid (hB1.out.trans (b3.mono hB1.out.size)); have hB4 := Lib.hid (hB3.out.alloc hB3.out.size (.cells #[.string (tx ++ ⟨#[108]⟩ ++ ⟨#[43]⟩ ++ ty)] 9)); have hR4 := Lib.hid (((HR1.out.drew.below b1).below b3).alloc (.cells #[.string (tx ++ ⟨#[108]⟩ ++ ⟨#[43]⟩ ++ ty)] 9)); have hC4 := Lib.hid (K.Rd.new w3 #[.string (tx ++ ⟨#[108]⟩ ++ ⟨#[43]⟩ ++ ty)] 9 1 1 rfl); have px4 := ((px.drew.below b1).below b3).alloc (.cells #[.string (tx ++ ⟨#[108]⟩ ++ ⟨#[43]⟩ ++ ty)] 9)) | (refine K.stepN (by rfl) (.tmp 20) (.tmp 33) _ (by rfl) w.heap.size _ i0 _ 1 16 Try.underlying83 hi0 hz0 hz1 hz2 rfl (by omega) B k d _ (by rfl) hR4.out (some ⟨w3.heap.size, 0, none⟩) 1 1 [.string (tx ++ ⟨#[108]⟩ ++ ⟨#[43]⟩ ++ ty)] (by rfl) hC4.out (by simp [Value.oneCell']) hj2 (by omega) hB4.out.size ?_; intro B4 c4 w4 hrow4 hb4 hg4 _; have px5 := px4.kept hg4 hnB))
          all_goals go_wp2_with fail
          all_goals
            go_roundw
            case rel => exact ⟨k + 1, B4, c4, by omega, by go_num, rfl, by rw [HT.out, List.map_append, HK.out]; exact hrow4, hB4.out.trans hb4⟩
            case measure => simp [intOf]; omega
    · obtain rfl : k = l.length := by omega
      rw [List.take_length] at hrow
      have hz := HZ.out l.length (Nat.le_refl _)
      rw [List.take_of_length_le (by simp)] at hz
      have hml : (l.map M.mvTxt).length = l.length := by simp
      have HJ := Lib.hid (Join.i_join B d (l.map M.mvTxt) ⟨#[32]⟩ wr (by omega) (by omega) (by rw [hml]; exact hrow.rd))
      rw [hml] at HJ
      have HE : Hid (M.movesTxt l = M.jn ⟨#[32]⟩ (l.map M.mvTxt)) := Lib.hid rfl
      clear hz hml HZ
      go_wp2_with fail
      refine HJ.out.mono ?_
      rintro e w1 ⟨rfl, rfl⟩
      go_wp2_with fail
      go_ret
      exact ⟨K.ret_str HE.out.symm, hb⟩
end Go.Proofs.Ythlkdaogmcjlbaa.MoveT
