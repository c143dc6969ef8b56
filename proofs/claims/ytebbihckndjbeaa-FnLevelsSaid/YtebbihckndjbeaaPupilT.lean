/-
  Walks: the pupils with the same names.
-/
import Derived.Test.YtebbihckndjbeaaTab
import Derived.Test.YtebbihckndjbeaaPupilH
import Derived.Test.YtebbihckndjbeaaPupilM
import Derived.Deep.DeepMust
import Derived.Deep.DeepCutAuto
set_option linter.unusedVariables false
namespace Go.Proofs.Ytebbihckndjbeaa.PupilT
open Go.RowKit
theorem made0 (w : World) (lo : Nat) (t : TypeId) (h : lo ≤ w.heap.size) : K.Row (w.alloc (.cells #[] t)) lo t 1 (some ⟨w.heap.size, 0, none⟩) 0 0 [] := by
  have h0 : K.Row (w.alloc (.cells #[] t)) w.heap.size t 1 (some ⟨w.heap.size, 0, none⟩) 0 0 [] := World.ownsRow_made w #[] 0 (Nat.le_refl _) (Nat.zero_le _) rfl
  exact h0.more h
theorem bne_of_eq {a b : ByteArray} (h : (a.toList == b.toList) = true) : (a.toList != b.toList) = false := by simp only [bne, h]; rfl
theorem bne_of_ne {a b : ByteArray} (h : (a.toList == b.toList) = false) : (a.toList != b.toList) = true := by simp only [bne, h]; rfl
set_option maxRecDepth 100000 in
set_option maxHeartbeats 4000000 in
theorem i_names (A : Option Addr) (c : Nat) (l : List M.Pupil) (w : World) (hl : l.length ≤ 1048576) (hs : ∀ p ∈ l, p.name.size ≤ 9223372036854775807) (hc : l.length ≤ c) (hc2 : c ≤ 9223372036854775807) (ha : K.Rd w 5 A l.length (l.flatMap M.pupilCells)) :
    Calls Try.prog 44 #[.slice A l.length c] w (Tab.RetTabB w (M.sameNames l).1 (M.sameNames l).2) := by
  obtain ⟨i0, hi0, hz0, hz1, hz2⟩ := info_parts Tab.infoInt
  obtain ⟨j0, hj0, hy0, hy1, hy2⟩ := info_parts Tab.info
  have HS := Lib.hid (PupilG.i_are A c l w hl hs ha)
  cases hok : M.pupsOk l with
  | false =>
    rw [hok] at HS
    rw [M.sameNames_no hok]
    clear hok
    go_enter Try.func44, Try.ntmps44
    go_wp2_with fail
    refine HS.out.mono ?_
    rintro e w1 ⟨rfl, b1⟩
    go_wp2_with fail
    go_ret2
    exact ⟨none, 0, [], rfl, Lib.hid rfl, Tab.Tab.nil (K.Row.nil _ _ _ _), b1⟩
  | true =>
    rw [hok] at HS
    rw [M.sameNames_yes hok]
    have h12 : l.length ≤ 12 := ((M.pupsOk_iff l).1 hok).1
    clear hok
    have HSN := Lib.hid (fun k => M.snTo_succ l k)
    have HSL := Lib.hid (fun k => M.snTo_len l k)
    go_enter Try.func44, Try.ntmps44
    go_wp2_with fail
    refine HS.out.mono ?_
    rintro e w1 ⟨rfl, b1⟩
    have HB := Lib.hid b1
    have HT := Lib.hid (Tab.Tab.nil (K.Row.nil w1 w.heap.size 34 1) : Tab.Tab w1 w.heap.size none 0 [])
    clear b1 HS
    go_wp2_with fail
    go_loopw [18, 4] (fun i o wr => ∃ (k : Nat) (B : Option Addr) (d : Nat) (ts : Tab.TS), k ≤ l.length ∧ i = .int .i64 (k : Int) ∧ o = .slice B ts.length d ∧ Hid (ts.map (fun t => t.2.2) = M.snTo l k) ∧ Hid (Tab.Tab wr w.heap.size B d ts) ∧ Hid (Below w.heap.size w wr)) (fun i _ _ => l.length - (intOf i).toNat)
    case atStart => exact ⟨0, none, 0, [], Nat.zero_le _, rfl, rfl, Lib.hid rfl, HT, HB⟩
    case round =>
      clear HT HB
      obtain ⟨k, B, d, ts, hk, rfl, rfl, HM, HT, HB⟩ := hrel
      have hts : ts.length ≤ k := by have := HSL.out k; rw [← HM.out] at this; simpa using this
      by_cases hlt : k < l.length
      · obtain ⟨g, o, rfl, hg, c0, c1, c2, c3, c4⟩ := (ha.below HB.out).pupil hlt
        have h1 : (k : Int) < (l.length : Int) := by omega
        have h2 : (0 : Int) ≤ (k : Int) := by omega
        have h3 : k ≤ l.length := by omega
        have h4 : (k : Int) ≤ (l.length : Int) := by omega
        have h7 : k ≤ c := by omega
        have h8 : (k : Int) ≤ (c : Int) := by omega
        obtain ⟨W, hW⟩ : ∃ X, X = wr.alloc (.cells #[.int .i64 l[k].id, .string l[k].name, .int .i64 l[k].born, .int .i64 l[k].cls, .int .i64 l[k].level] 26) := ⟨_, rfl⟩
        have HTW := Lib.hid (show Tab.Tab W w.heap.size B d ts by rw [hW]; exact HT.out.alloc _)
        have HBW := Lib.hid (show Below w.heap.size w W by rw [hW]; exact HB.out.alloc HB.out.size _)
        have HX := Lib.hid (show K.Box W wr.heap.size [.int .i64 l[k].id, .string l[k].name, .int .i64 l[k].born, .int .i64 l[k].cls, .int .i64 l[k].level] by rw [hW]; exact K.Box.new _ _ _)
        have hWz : wr.heap.size + 1 ≤ W.heap.size := by rw [hW]; simp
        go_upto_region 7 with fail
        rw [← hW]
        clear hW c0 c1 c2 c3 c4
        have HON := Lib.hid (M.snOne_eq l k hlt)
        generalize hnm : l[k].name = nm at *
        clear hnm
        go_wp2_with fail
        go_loopw [27, 7] (fun jj ff wv => ∃ (j : Nat) (b : Bool), j ≤ k ∧ jj = .int .i64 (j : Int) ∧ ff = .bool b ∧ Hid (b = M.newNm l j nm) ∧ Hid (Below W.heap.size W wv)) (fun jj _ _ => k - (intOf jj).toNat)
        case atStart => exact ⟨0, true, Nat.zero_le _, rfl, rfl, Lib.hid (by simp [M.newNm]), Lib.hid (Below.refl _ _)⟩
        case round =>
          rename World => wv
          obtain ⟨j, b, hj, rfl, rfl, HN, HV⟩ := hrel
          by_cases hjk : j < k
          · have hjl : j < l.length := by omega
            have h5 : (j : Int) < (k : Int) := by omega
            have h6 : (0 : Int) ≤ (j : Int) := by omega
            obtain ⟨g2, o2, e9, hg2, d0, d1, d2, d3, d4⟩ := (ha.below (HBW.out.trans (HV.out.mono HBW.out.size))).pupil hjl
            injection e9 with e9
            injection e9 with e9 e8
            subst e9 e8
            have HNS := Lib.hid (M.newNm_succ l j hjl nm)
            have xb := (HX.out.below HV.out)
            have x1 := xb.2 1 _ rfl
            have xg := xb.1
            generalize l[j].name = n2 at *
            cases b with
            | false =>
              go_wp2_with fail
              go_roundw
              case rel => exact ⟨j + 1, false, by omega, by go_num, rfl, Lib.hid (by rw [HNS.out, ← HN.out]; rfl), Lib.hid (HV.out.alloc HV.out.size _)⟩
              case measure => simp [intOf]; omega
            | true =>
              by_cases hn : n2 = nm
              · have t1 := M.str_eq hn
                have t2 := bne_of_eq t1
                have HNN := Lib.hid hn
                clear hn
                go_wp2_with fail
                go_roundw
                case rel => exact ⟨j + 1, false, by omega, by go_num, by first | rfl | simp, Lib.hid (by rw [HNS.out, ← HN.out, HNN.out]; simp), Lib.hid (HV.out.alloc HV.out.size _)⟩
                case measure => simp [intOf]; omega
              · have t1 := M.str_ne hn
                have t2 := bne_of_ne t1
                have HNN := Lib.hid hn
                clear hn
                go_wp2_with fail
                go_roundw
                case rel => exact ⟨j + 1, true, by omega, by go_num, by first | rfl | simp, Lib.hid (by rw [HNS.out, ← HN.out]; simp [HNN.out]), Lib.hid (HV.out.alloc HV.out.size _)⟩
                case measure => simp [intOf]; omega
          · obtain rfl : j = k := by omega
            have HTV := Lib.hid (HTW.out.below HV.out)
            have HBV := Lib.hid (HBW.out.trans (HV.out.mono HBW.out.size))
            have HXV := Lib.hid (HX.out.below HV.out)
            clear HTW HBW HX HT HB
            cases b with
            | false =>
              go_wp2_with fail
              go_roundw
              case rel => exact ⟨j + 1, B, d, ts, by omega, by go_num, rfl, Lib.hid (by rw [HSN.out, HM.out, HON.out, if_neg (fun h => by rw [← HN.out] at h; exact absurd h.1 (by simp)), List.append_nil]), HTV, HBV⟩
              case measure => simp [intOf]; omega
            | true =>
              have HR0 := Lib.hid (K.Row.nil wv wv.heap.size 3 1)
              go_wp2_with fail
              go_loopw [44, 10] (fun jj o3 wu => ∃ (m : Nat) (X : Option Addr) (dx : Nat) (xs : List Int), m ≤ l.length ∧ jj = .int .i64 (m : Int) ∧ o3 = .slice X xs.length dx ∧ Hid (xs = M.idsNm (l.take m) nm) ∧ Hid (K.Row wu wv.heap.size 3 1 X xs.length dx (xs.map (Value.int .i64))) ∧ Hid (Below wv.heap.size wv wu)) (fun jj _ _ => l.length - (intOf jj).toNat)
              case atStart => exact ⟨0, none, 0, [], Nat.zero_le _, rfl, rfl, Lib.hid (by simp [M.idsNm]), HR0, Lib.hid (Below.refl _ _)⟩
              case round =>
                rename World => wu
                clear HR0
                obtain ⟨m, X, dx, xs, hm, rfl, rfl, HI, HR, HU⟩ := hrel
                have hxl : xs.length ≤ m := by rw [HI.out]; exact M.idsNm_le l nm m
                by_cases hml : m < l.length
                · have h5 : (m : Int) < (l.length : Int) := by omega
                  have h6 : (0 : Int) ≤ (m : Int) := by omega
                  obtain ⟨g2, o2, e9, hg2, d0, d1, d2, d3, d4⟩ := (ha.below (HBV.out.trans (HU.out.mono HBV.out.size))).pupil hml
                  injection e9 with e9
                  injection e9 with e9 e8
                  subst e9 e8
                  have HIS := Lib.hid (M.idsNm_take l nm m hml)
                  have xb := (HXV.out.below HU.out)
                  have x1 := xb.2 1 _ rfl
                  have xg := xb.1
                  generalize l[m].name = n2 at *
                  generalize l[m].id = id2 at *
                  generalize l[m].born = bo2 at *
                  generalize l[m].cls = cl2 at *
                  generalize l[m].level = le2 at *
                  by_cases hn : n2 = nm
                  · have t1 := M.str_eq hn
                    have HNN := Lib.hid hn
                    clear hn
                    have hj2 : xs.length + 1 ≤ maxLen := by simp only [maxLen]; omega
                    have HR1 := Lib.hid (HR.out.alloc (.cells #[.int .i64 id2, .string n2, .int .i64 bo2, .int .i64 cl2, .int .i64 le2] 26))
                    have HU1 := Lib.hid (HU.out.alloc HU.out.size (.cells #[.int .i64 id2, .string n2, .int .i64 bo2, .int .i64 cl2, .int .i64 le2] 26))
                    have hu1 := HU1.out.size
                    go_wp2_with (at_builtin; go_must (refine K.append1 rfl (.tmp 53) (.tmp 56) _ rfl wv.heap.size _ i0 _ 1 8 Try.underlying34 hi0 hz0 hz1 hz2 rfl (by omega) X xs.length dx _ rfl HR1.out #[.int .i64 id2] rfl (by simp [Value.oneCell']) (by simp [go_sem]) hj2 (by omega) hu1 ?_; intro g5 c5 w5 hrow5 hb5 _ _ _))
                    go_roundw
                    case rel => exact ⟨m + 1, some ⟨g5, 0, none⟩, c5, xs ++ [id2], by omega, by go_num, by simp, Lib.hid (by rw [HIS.out, if_pos HNN.out, HI.out]), Lib.hid (by rw [List.map_append, List.length_append]; exact hrow5), Lib.hid (HU1.out.trans hb5)⟩
                    case measure => simp [intOf]; omega
                  · have t1 := M.str_ne hn
                    have HNN := Lib.hid hn
                    clear hn
                    go_wp2_with fail
                    go_roundw
                    case rel => exact ⟨m + 1, X, dx, xs, by omega, by go_num, rfl, Lib.hid (by rw [HIS.out, if_neg HNN.out, List.append_nil, HI.out]), Lib.hid (HR.out.alloc (.cells #[.int .i64 id2, .string n2, .int .i64 bo2, .int .i64 cl2, .int .i64 le2] 26)), Lib.hid (HU.out.alloc HU.out.size (.cells #[.int .i64 id2, .string n2, .int .i64 bo2, .int .i64 cl2, .int .i64 le2] 26))⟩
                    case measure => simp [intOf]; omega
                · obtain rfl : m = l.length := by omega
                  have HIL := Lib.hid (show xs = M.idsNm l nm by have := HI.out; rwa [List.take_length] at this)
                  have HT5 := Lib.hid (HTV.out.below HU.out)
                  have HB5 := Lib.hid (HBV.out.trans (HU.out.mono HBV.out.size))
                  by_cases hx1 : 1 < xs.length
                  · have t1 : (1 : Int) < (xs.length : Int) := by omega
                    have hj2 : ts.length + 1 ≤ maxLen := by simp only [maxLen]; omega
                    have hb5s := HB5.out.size
                    have hvv := HBV.out.size
                    go_wp2_with (at_builtin; go_must (refine K.append1 rfl (.tmp 62) (.tmp 64) _ rfl w.heap.size _ j0 _ 1 24 Try.underlying50 hj0 hy0 hy1 hy2 rfl (by omega) B ts.length d _ rfl HT5.out.row #[.slice X xs.length dx] rfl (by simp [Value.oneCell']) (by simp [go_sem]) hj2 (by omega) hb5s ?_; intro g5 c5 w5 hrow5 hb5 hlo5 hat5 hg5))
                    go_roundw
                    case rel => exact ⟨j + 1, some ⟨g5, 0, none⟩, c5, ts ++ [(X, dx, xs)], by omega, by go_num, by simp, Lib.hid (by rw [HSN.out, HON.out, if_pos ⟨HN.out.symm, by rw [← HIL.out]; exact hx1⟩, List.map_append, HM.out, ← HIL.out]; rfl), Lib.hid (HT5.out.push hrow5 hg5 hat5 (HR.out.more hvv) (fun q hq e => by have h1 := (HTV.out.row.lt q hq).2; have h2 := (HR.out.lt q e).1; omega) (fun t ht q hq e => by have h1 := ((HTV.out.inn t ht).lt q hq).2; have h2 := (HR.out.lt q e).1; omega)), Lib.hid (HB5.out.trans hb5)⟩
                    case measure => simp [intOf]; omega
                  · have t1 : ¬ ((1 : Int) < (xs.length : Int)) := by omega
                    go_wp2_with fail
                    go_roundw
                    case rel => exact ⟨j + 1, B, d, ts, by omega, by go_num, rfl, Lib.hid (by rw [HSN.out, HM.out, HON.out, if_neg (fun h => by rw [← HIL.out] at h; exact hx1 h.2), List.append_nil]), HT5, HB5⟩
                    case measure => simp [intOf]; omega
      · obtain rfl : k = l.length := by omega
        go_wp2_with fail
        go_ret2
        exact ⟨B, d, ts, rfl, HM, HT.out, HB.out⟩
set_option maxRecDepth 100000 in
set_option maxHeartbeats 4000000 in
theorem s_names (A : Option Addr) (c : Nat) (l : List M.Pupil) (w : World) (hl : l.length ≤ 1048576) (hs : ∀ p ∈ l, p.name.size ≤ 9223372036854775807) (ha : K.Rd w 5 A l.length (l.flatMap M.pupilCells)) :
    Calls Try.prog 45 #[.slice A l.length c] w (Tab.RetTabB w (M.sameNames l).1 (M.sameNames l).2) := by
  obtain ⟨i0, hi0, hz0, hz1, hz2⟩ := info_parts Tab.infoInt
  obtain ⟨j0, hj0, hy0, hy1, hy2⟩ := info_parts Tab.info
  have HT0 := Lib.hid (Tab.Tab.nil (made0 w w.heap.size 34 (Nat.le_refl _)) : Tab.Tab (w.alloc (.cells #[] 34)) w.heap.size (some ⟨w.heap.size, 0, none⟩) 0 [])
  have HB0 := Lib.hid (show Below w.heap.size w (w.alloc (.cells #[] 34)) from (Below.refl _ _).alloc (Nat.le_refl _) _)
  have HS := Lib.hid (PupilG.s_good A c l _ hl hs (ha.below HB0.out))
  cases hok : M.pupsOk l with
  | false =>
    rw [hok] at HS
    rw [M.sameNames_no hok]
    clear hok
    go_enter Try.func45, Try.ntmps45
    go_wp2_with fail
    refine HS.out.mono ?_
    rintro e w1 ⟨rfl, b1⟩
    go_wp2_with fail
    go_ret2
    exact ⟨some ⟨w.heap.size, 0, none⟩, 0, [], rfl, Lib.hid rfl, HT0.out.below b1, HB0.out.trans (b1.mono HB0.out.size)⟩
  | true =>
    rw [hok] at HS
    rw [M.sameNames_yes hok]
    have h12 : l.length ≤ 12 := ((M.pupsOk_iff l).1 hok).1
    have HOK := Lib.hid hok
    clear hok
    have HSN := Lib.hid (fun k => M.snTo_succ l k)
    have HSL := Lib.hid (fun k => M.snTo_len l k)
    go_enter Try.func45, Try.ntmps45
    go_wp2_with fail
    refine HS.out.mono ?_
    rintro e w1 ⟨rfl, b1⟩
    have HB := Lib.hid (HB0.out.trans (b1.mono HB0.out.size))
    have HT := Lib.hid (HT0.out.below b1)
    clear b1 HS HT0 HB0
    go_wp2_with fail
    go_loopw [5, 4] (fun i o wr => ∃ (k : Nat) (B : Option Addr) (d : Nat) (ts : Tab.TS), k ≤ l.length ∧ i = .int .i64 (k : Int) ∧ o = .slice B ts.length d ∧ Hid (ts.map (fun t => t.2.2) = M.snTo l k) ∧ Hid (Tab.Tab wr w.heap.size B d ts) ∧ Hid (Below w.heap.size w wr)) (fun i _ _ => l.length - (intOf i).toNat)
    case atStart => exact ⟨0, _, 0, [], Nat.zero_le _, rfl, rfl, Lib.hid rfl, HT, HB⟩
    case round =>
      clear HT HB
      obtain ⟨k, B, d, ts, hk, rfl, rfl, HM, HT, HB⟩ := hrel
      have hts : ts.length ≤ k := by have := HSL.out k; rw [← HM.out] at this; simpa using this
      by_cases hlt : k < l.length
      · rename World => wv
        have h1 : (k : Int) < (l.length : Int) := by omega
        have h2 : (0 : Int) ≤ (k : Int) := by omega
        have HON := Lib.hid (M.snOne_eq l k hlt)
        have HHD := Lib.hid (fun h => M.idsNm_head HOK.out hlt h)
        obtain ⟨nm, hnm⟩ : ∃ x, x = l[k].name := ⟨_, rfl⟩
        obtain ⟨idk, hid⟩ : ∃ x, x = l[k].id := ⟨_, rfl⟩
        have HNM := Lib.hid hnm
        have HID := Lib.hid hid
        have HON := Lib.hid (show M.snOne l k = if M.newNm l k nm = true ∧ 1 < (M.idsNm l nm).length then [M.idsNm l nm] else [] by rw [hnm]; exact HON.out)
        have HHD := Lib.hid (show ∀ h : 0 < (M.idsNm l nm).length, (M.idsNm l nm)[0] = idk ↔ M.newNm l k nm = true by subst hnm hid; exact HHD.out)
        clear hnm hid
        have HR0 := Lib.hid (made0 wv wv.heap.size 3 (Nat.le_refl _))
        have HU0 := Lib.hid (show Below wv.heap.size wv (wv.alloc (.cells #[] 3)) from (Below.refl _ _).alloc (Nat.le_refl _) _)
        go_wp2_with fail
        go_loopw [7, 6] (fun jj o3 wu => ∃ (m : Nat) (X : Option Addr) (dx : Nat) (xs : List Int), m ≤ l.length ∧ jj = .int .i64 (m : Int) ∧ o3 = .slice X xs.length dx ∧ Hid (xs = M.idsNm (l.take m) nm) ∧ Hid (K.Row wu wv.heap.size 3 1 X xs.length dx (xs.map (Value.int .i64))) ∧ Hid (Below wv.heap.size wv wu)) (fun jj _ _ => l.length - (intOf jj).toNat)
        case atStart => exact ⟨0, _, 0, [], Nat.zero_le _, rfl, rfl, Lib.hid (by simp [M.idsNm]), HR0, HU0⟩
        case round =>
          rename World => wu
          clear HR0 HU0
          obtain ⟨m, X, dx, xs, hm, rfl, rfl, HI, HR, HU⟩ := hrel
          have hxl : xs.length ≤ m := by rw [HI.out]; exact M.idsNm_le l nm m
          have HBU := Lib.hid (HB.out.trans (HU.out.mono HB.out.size))
          obtain ⟨g, o, rfl, hg, c0, c1, _, _, _⟩ := (ha.below HBU.out).pupil hlt
          rw [← HNM.out] at c1
          rw [← HID.out] at c0
          by_cases hml : m < l.length
          · have h5 : (m : Int) < (l.length : Int) := by omega
            have h6 : (0 : Int) ≤ (m : Int) := by omega
            obtain ⟨g2, o2, e9, hg2, d0, d1, _, _, _⟩ := (ha.below HBU.out).pupil hml
            injection e9 with e9
            injection e9 with e9 e8
            subst e9 e8
            have HIS := Lib.hid (M.idsNm_take l nm m hml)
            generalize l[m].name = n2 at *
            generalize l[m].id = id2 at *
            by_cases hn : n2 = nm
            · have t1 := M.str_eq hn
              have HNN := Lib.hid hn
              clear hn
              have hj2 : xs.length + 1 ≤ maxLen := by simp only [maxLen]; omega
              have hu1 := HU.out.size
              go_wp2_with fail
              go_quiet (fail)
              go_wp2_with (at_builtin; go_must (refine K.append1 rfl (.tmp 37) (.tmp 43) _ rfl wv.heap.size _ i0 _ 1 8 Try.underlying34 hi0 hz0 hz1 hz2 rfl (by omega) X xs.length dx _ rfl (by exact HR.out.drewN _) #[.int .i64 id2] rfl (by simp [Value.oneCell']) (by simp [go_sem]) hj2 (by omega) (by simpa using hu1) ?_; intro g5 c5 w5 hrow5 hb5 _ _ _))
              go_roundw
              case rel => exact ⟨m + 1, some ⟨g5, 0, none⟩, c5, xs ++ [id2], by omega, by go_num, by simp, Lib.hid (by rw [HIS.out, if_pos HNN.out, HI.out]), Lib.hid (by rw [List.map_append, List.length_append]; exact hrow5), Lib.hid ((K.below_drewN HU.out _).trans hb5)⟩
              case measure => simp [intOf]; omega
            · have t1 := M.str_ne hn
              have HNN := Lib.hid hn
              clear hn
              go_wp2_with fail
              go_quiet (fail)
              go_wp2_with fail
              go_roundw
              case rel => exact ⟨m + 1, X, dx, xs, by omega, by go_num, rfl, Lib.hid (by rw [HIS.out, if_neg HNN.out, List.append_nil, HI.out]), Lib.hid (HR.out.drewN _), Lib.hid (K.below_drewN HU.out _)⟩
              case measure => simp [intOf]; omega
          · obtain rfl : m = l.length := by omega
            have HIL := Lib.hid (show xs = M.idsNm l nm by have := HI.out; rwa [List.take_length] at this)
            have HT5 := Lib.hid (HT.out.below HU.out)
            have hvv := HB.out.size
            by_cases hx1 : 1 < xs.length
            rotate_left
            · have t1 : decide ((1 : Int) < (xs.length : Int)) = false := decide_eq_false (by omega)
              go_wp2_with fail
              go_quiet (fail)
              go_wp2_with fail
              go_roundw
              case rel => exact ⟨k + 1, B, d, ts, by omega, by go_num, rfl, Lib.hid (by rw [HSN.out, HM.out, HON.out, if_neg (fun h => by rw [← HIL.out] at h; exact hx1 h.2), List.append_nil]), Lib.hid (HT5.out.drewN _), Lib.hid (K.below_drewN HBU.out _)⟩
              case measure => simp [intOf]; omega
            · have t1 : decide ((1 : Int) < (xs.length : Int)) = true := decide_eq_true (by omega)
              have t3 : (0 : Int) < (xs.length : Int) := by omega
              have t4 : 0 < xs.length := by omega
              obtain ⟨gx, eX, hgx1, hgx2, cx, fx⟩ := HR.out.int (k := 0) (by omega)
              subst eX
              have HX0 := Lib.hid (show xs[0] = idk ↔ M.newNm l k nm = true by have h := HHD.out (by rw [← HIL.out]; omega); have e := HIL.out; subst e; exact h)
              by_cases hh : xs[0] = idk
              rotate_left
              · have t2 : (xs[0] == idk) = false := by simp [hh]
                have HNH := Lib.hid (show ¬ M.newNm l k nm = true from fun h => hh (HX0.out.2 h))
                clear hh
                generalize xs[0] = v0 at *
                go_wp2_with fail
                go_quiet (fail)
                go_wp2_with fail
                go_roundw
                case rel => exact ⟨k + 1, B, d, ts, by omega, by go_num, rfl, Lib.hid (by rw [HSN.out, HM.out, HON.out, if_neg (fun h => HNH.out h.1), List.append_nil]), Lib.hid (HT5.out.drewN _), Lib.hid (K.below_drewN HBU.out _)⟩
                case measure => simp [intOf]; omega
              · have t2 : (xs[0] == idk) = true := by simp [hh]
                have HNH := Lib.hid (show M.newNm l k nm = true from HX0.out.1 hh)
                clear hh HX0
                generalize xs[0] = v0 at *
                have hj2 : ts.length + 1 ≤ maxLen := by simp only [maxLen]; omega
                have hbs := HBU.out.size
                go_wp2_with fail
                go_quiet (fail)
                go_wp2_with (at_builtin; go_must (refine K.append1 rfl (.tmp 59) (.tmp 61) _ rfl w.heap.size _ j0 _ 1 24 Try.underlying50 hj0 hy0 hy1 hy2 rfl (by omega) B ts.length d _ rfl (by exact HT5.out.row.drewN _) #[.slice (some ⟨gx, 0, none⟩) xs.length dx] rfl (by simp [Value.oneCell']) (by simp [go_sem]) hj2 (by omega) (by simpa using hbs) ?_; intro g5 c5 w5 hrow5 hb5 hlo5 hat5 hg5))
                go_roundw
                case rel => exact ⟨k + 1, some ⟨g5, 0, none⟩, c5, ts ++ [(some ⟨gx, 0, none⟩, dx, xs)], by omega, by go_num, by simp, Lib.hid (by rw [HSN.out, HON.out, if_pos ⟨HNH.out, by rw [← HIL.out]; exact hx1⟩, List.map_append, HM.out, ← HIL.out]; rfl), Lib.hid ((HT5.out.drewN _).push hrow5 hg5 hat5 ((HR.out.drewN _).more hvv) (fun q hq e => by have h1 := (HT.out.row.lt q hq).2; have h2 := (HR.out.lt q e).1; omega) (fun t ht q hq e => by have h1 := ((HT.out.inn t ht).lt q hq).2; have h2 := (HR.out.lt q e).1; omega)), Lib.hid ((K.below_drewN HBU.out _).trans hb5)⟩
                case measure => simp [intOf]; omega
      · obtain rfl : k = l.length := by omega
        go_wp2_with fail
        go_ret2
        exact ⟨B, d, ts, rfl, HM, HT.out, HB.out⟩
end Go.Proofs.Ytebbihckndjbeaa.PupilT
