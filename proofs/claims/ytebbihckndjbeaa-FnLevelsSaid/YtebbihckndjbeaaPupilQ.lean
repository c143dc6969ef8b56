/-
  Walks: placing all pupils (printed by gen_pops.py).
-/
import Derived.Test.YtebbihckndjbeaaPupilC
import Derived.Test.YtebbihckndjbeaaKit4
set_option linter.unusedVariables false
namespace Go.Proofs.Ytebbihckndjbeaa.PupilQ
open Go.RowKit
/-- a call that returns a slice of its own, a number and a bool. -/
theorem placeOne_first {l : List M.Pupil} {j n : Nat} (h0 : M.clsAt l j = 0) (he : M.clsFor l j n = []) (hw : M.pupsOk (M.withC l j ((n : Int) + 1)) = true) (hn : n < 9) : M.placeOne l j = (M.withC l j ((n : Int) + 1), 0) := by
  have e1 : M.clsFor l j (n + 1) = [(n : Int) + 1] := by rw [M.clsFor_succ, he, hw]; simp
  have key : ∀ d, ∃ r, M.clsFor l j (n + 1 + d) = ((n : Int) + 1) :: r := by
    intro d
    induction d with
    | zero => exact ⟨[], e1⟩
    | succ d ih =>
      obtain ⟨r, hr⟩ := ih
      rw [← Nat.add_assoc, M.clsFor_succ, hr]
      exact ⟨_, rfl⟩
  obtain ⟨r, hr⟩ := key (9 - (n + 1))
  rw [show n + 1 + (9 - (n + 1)) = 9 by omega] at hr
  exact M.placeOne_cons h0 hr
theorem names_place {l : List M.Pupil} (hs : ∀ p ∈ l, p.name.size ≤ 9223372036854775807) : ∀ n, ∀ p ∈ (M.placeTo l n).1, p.name.size ≤ 9223372036854775807
  | 0 => hs
  | n + 1 => by
      have ih := names_place hs n
      rw [M.placeTo]
      generalize M.placeTo l n = P at ih
      simp only
      unfold M.placeOne
      split
      · exact ih
      · split
        · exact ih
        · rename_i c r _
          intro p hp
          by_cases hk : n < P.1.length
          · exact PupilW.names_withC ih hk c p hp
          · unfold M.withC at hp
            rw [List.getElem?_eq_none (by omega)] at hp
            exact ih p hp
set_option maxRecDepth 100000 in
set_option maxHeartbeats 4000000 in
theorem i_place (A : Option Addr) (c : Nat) (l : List M.Pupil) (w : World) (hl : l.length ≤ 1048576) (hs : ∀ p ∈ l, p.name.size ≤ 9223372036854775807) (ha : K.Rd w 5 A l.length (l.flatMap M.pupilCells)) :
    Calls Try.prog 38 #[.slice A l.length c] w (K.RetRowIB w 26 5 (M.placeAll l).1.1.length ((M.placeAll l).1.1.flatMap M.pupilCells) (M.placeAll l).1.2 (M.placeAll l).2) := by
  have q0 := Lib.hid (Below.refl w.heap.size w)
  have HS := Lib.hid (fun w ha => PupilG.i_are A c l w hl hs ha)
  cases hok : M.pupsOk l with
  | false =>
    rw [hok] at HS
    rw [M.placeAll_no hok]
    clear hok
    go_enter Try.func38, Try.ntmps38
    go_wp2_with fail
    refine (HS.out _ ha).mono ?_
    rintro e w1 ⟨rfl, b1⟩
    have q1 := Lib.hid (q0.out.trans (b1.mono q0.out.size))
    have r1 := Lib.hid (ha.below q1.out)
    go_wp2_with fail
    exact bodyPost_ret (v := .tuple #[.slice none 0 0, .int .i64 (0), .bool false]) (by simp [results, Try.results38, go_sem]) rfl ⟨none, 0, rfl, K.Row.nil _ _ _ _, q1.out⟩
  | true =>
    rw [hok] at HS
    rw [M.placeAll_yes hok]
    have h12 : l.length ≤ 12 := ((M.pupsOk_iff l).1 hok).1
    have hvv := Lib.hid (fun n => M.placeTo_bd l n)
    clear hok
    go_enter Try.func38, Try.ntmps38
    go_wp2_with fail
    refine (HS.out _ ha).mono ?_
    rintro e w1 ⟨rfl, b1⟩
    have q1 := Lib.hid (q0.out.trans (b1.mono q0.out.size))
    have r1 := Lib.hid (ha.below q1.out)
    obtain ⟨i0, hi0, hz0, hz1, hz2⟩ := info_parts PupilW.infoPup
    have e0 : Hid (K.Row (w1.alloc (.cells #[] 26)) w1.heap.size 26 5 (some ⟨w1.heap.size, 0, none⟩) 0 0 []) := Lib.hid (World.ownsRow_made w1 #[] 0 (Nat.le_refl _) (Nat.zero_le _) rfl)
    have qe := Lib.hid (q1.out.alloc q1.out.size (.cells #[] 26))
    have re := Lib.hid (ha.below qe.out)
    go_wp2_with (at_builtin; refine K.appendN rfl (.tmp 14) (.tmp 15) _ rfl w1.heap.size _ i0 _ 5 48 Try.underlying31 hi0 hz0 hz1 hz2 rfl (by omega) (some ⟨w1.heap.size, 0, none⟩) 0 0 [] (by simp [go_sem]) e0.out A l.length c _ rfl re.out (PupilW.cells_one l) (by simp only [maxLen]; omega) (by omega) (by simp) ?_; intro A' c' wa hrow hba _ _; rw [Nat.zero_add, List.nil_append] at hrow; rw [Nat.zero_add]; have HROW0 := Lib.hid (hrow.more q1.out.size); have HB0 := Lib.hid (qe.out.trans (hba.mono q1.out.size)); clear hrow hba)
    go_loopw [19, 5, 6] (fun s o z wr => ∃ (j : Nat) (P : List M.Pupil) (v : Int) (B : Option Addr) (d : Nat), j ≤ l.length ∧ s = .int .i64 (j : Int) ∧ o = .slice B P.length d ∧ z = .int .i64 v ∧ (0 ≤ v ∧ v ≤ 12) ∧ Hid (M.placeTo l j = (P, v)) ∧ Hid (K.Row wr w.heap.size 26 5 B P.length d (P.flatMap M.pupilCells)) ∧ Hid (Below w.heap.size w wr)) (fun s _ _ _ => l.length - (intOf s).toNat)
    case atStart => exact ⟨0, l, 0, A', c', Nat.zero_le _, rfl, rfl, rfl, by omega, Lib.hid rfl, HROW0, HB0⟩
    case round =>
      obtain ⟨j, P, v, B, d, hj, rfl, rfl, rfl, hv, HT, HROW, HB⟩ := hrel
      have HPL := Lib.hid (show P.length = l.length by have := M.placeTo_len l j; rw [HT.out] at this; exact this)
      by_cases hlt : j < l.length
      · have hjP : j < P.length := by rw [HPL.out]; exact hlt
        have HN := Lib.hid (show ∀ p ∈ P, p.name.size ≤ 9223372036854775807 by have := names_place hs j; rw [HT.out] at this; exact this)
        have HCL := Lib.hid (M.clsAt_eq P j hjP)
        have HNX := Lib.hid (fun (x : List M.Pupil × Int) (hx : M.placeOne P j = x) => show M.placeTo l (j + 1) = (x.1, v + x.2) by rw [M.placeTo, HT.out, hx])
        have hvj := hvv.out (j + 1)
        have HW := Lib.hid (fun B d q w ha => PupilW.i_with B d P j q w (by rw [HPL.out]; exact hl) HN.out hjP ha)
        obtain ⟨gx, hA, gx1, gx2, hfz, u0, u1, u2, u3, u4⟩ := HROW.out.pupil hjP
        subst hA
        have h1 : (j : Int) < (P.length : Int) := by omega
        have h1l : (j : Int) < (l.length : Int) := by omega
        have h2 : (0 : Int) ≤ (j : Int) := by omega
        clear u0 u1 u2 u4 hfz
        generalize hx3 : P[j].cls = x3 at *
        clear hx3
        by_cases h0 : x3 = 0
        rotate_left
        · have hd : (x3 != 0) = true := by simpa using h0
          have HK := Lib.hid (HNX.out _ (M.placeOne_cls (by rw [HCL.out]; exact h0)))
          clear HNX HW h0 hvj
          go_wp2_with fail
          go_roundw
          case rel => exact ⟨j + 1, P, v, some ⟨gx, 0, none⟩, d, by omega, by go_num, rfl, rfl, hv, Lib.hid (by rw [HK.out]; simp), HROW, HB⟩
          case measure => simp [intOf]; omega
        · subst h0
          have hd : ((0 : Int) != 0) = false := by simp
          go_wp2_with fail
          go_loopw [8, 5, 6] (fun s o z wr => ∃ n : Nat, n ≤ 9 ∧ s = .int .i64 ((n : Int) + 1) ∧ o = .slice (some ⟨gx, 0, none⟩) P.length d ∧ z = .int .i64 (v + 1) ∧ Hid (M.clsFor P j n = []) ∧ Hid (K.Row wr w.heap.size 26 5 (some ⟨gx, 0, none⟩) P.length d (P.flatMap M.pupilCells)) ∧ Hid (Below w.heap.size w wr)) (fun s _ _ _ => (10 - intOf s).toNat)
          case atStart => exact ⟨0, by omega, rfl, rfl, rfl, Lib.hid rfl, HROW, HB⟩
          case round =>
            clear HROW HB u3 gx1 gx2
            obtain ⟨n, hn, rfl, rfl, rfl, HE, HROW, HB⟩ := hrel
            by_cases hnt : n < 9
            · cases hw : M.pupsOk (M.withC P j ((n : Int) + 1)) with
              | true =>
                have HK := Lib.hid (HNX.out _ (placeOne_first (by rw [HCL.out]) HE.out hw hnt))
                have HWn := Lib.hid (HW.out (some ⟨gx, 0, none⟩) d ((n : Int) + 1) _ HROW.out.rd)
                rw [hw] at HWn
                have HPL2 := Lib.hid (M.withC_len P j ((n : Int) + 1))
                generalize M.withC P j ((n : Int) + 1) = L at *
                clear hw HE HNX HW
                go_wp2_with fail
                refine HWn.out.mono ?_
                rintro e w5 ⟨X, m, rfl, row5, b5⟩
                have HB5 := Lib.hid (HB.out.trans (b5.mono HB.out.size))
                have HR5 := Lib.hid (row5.more HB.out.size)
                go_wp2_with fail
                go_roundw
                case rel => exact ⟨j + 1, L, v, X, m, by omega, by go_num, by rw [HPL2.out], by first | rfl | go_num, hv, Lib.hid (by rw [HK.out]; simp), by rw [HPL2.out]; exact HR5, HB5⟩
                case measure => simp [intOf]; omega
              | false =>
                have HK := Lib.hid (show M.clsFor P j (n + 1) = [] by rw [M.clsFor_succ, HE.out, hw]; simp)
                have HWn := Lib.hid (HW.out (some ⟨gx, 0, none⟩) d ((n : Int) + 1) _ HROW.out.rd)
                rw [hw] at HWn
                generalize M.withC P j ((n : Int) + 1) = L at *
                clear hw HE HNX HW
                go_wp2_with fail
                refine HWn.out.mono ?_
                rintro e w5 ⟨X, m, rfl, row5, b5⟩
                have HB5 := Lib.hid (HB.out.trans (b5.mono HB.out.size))
                have HR5 := Lib.hid (HROW.out.below b5)
                go_wp2_with fail
                go_roundw
                case rel => exact ⟨n + 1, by omega, by go_num, rfl, rfl, HK, HR5, HB5⟩
                case measure => simp [intOf]; omega
            · obtain rfl : n = 9 := by omega
              have HK := Lib.hid (HNX.out _ (M.placeOne_nil (by rw [HCL.out]) HE.out))
              have hv2 : v + 1 ≤ 12 := by rw [HK.out] at hvj; simp only at hvj; omega
              clear HE HNX HW hvj
              go_wp2_with fail
              go_roundw
              case rel => exact ⟨j + 1, P, v + 1, some ⟨gx, 0, none⟩, d, by omega, by go_num, rfl, rfl, by omega, HK, HROW, HB⟩
              case measure => simp [intOf]; omega
      · obtain rfl : j = l.length := by omega
        clear HPL
        go_wp2_with fail
        exact bodyPost_ret (v := .tuple #[.slice B P.length d, .int .i64 (v), .bool true]) (by simp [results, Try.results38, go_sem]) rfl ⟨B, d, by rw [HT.out], by rw [HT.out]; exact HROW.out, HB.out⟩
set_option maxRecDepth 100000 in
set_option maxHeartbeats 4000000 in
theorem s_place (A : Option Addr) (c : Nat) (l : List M.Pupil) (w : World) (hl : l.length ≤ 1048576) (hs : ∀ p ∈ l, p.name.size ≤ 9223372036854775807) (ha : K.Rd w 5 A l.length (l.flatMap M.pupilCells)) :
    Calls Try.prog 39 #[.slice A l.length c] w (K.RetRowIB w 26 5 (M.placeAll l).1.1.length ((M.placeAll l).1.1.flatMap M.pupilCells) (M.placeAll l).1.2 (M.placeAll l).2) := by
  have q0 := Lib.hid (Below.refl w.heap.size w)
  have HS := Lib.hid (fun w ha => PupilG.s_good A c l w hl hs ha)
  cases hok : M.pupsOk l with
  | false =>
    rw [hok] at HS
    rw [M.placeAll_no hok]
    clear hok
    go_enter Try.func39, Try.ntmps39
    go_wp2_with fail
    refine (HS.out _ ha).mono ?_
    rintro e w1 ⟨rfl, b1⟩
    have q1 := Lib.hid (q0.out.trans (b1.mono q0.out.size))
    have r1 := Lib.hid (ha.below q1.out)
    go_wp2_with fail
    exact bodyPost_ret (v := .tuple #[.slice (some ⟨w1.heap.size, 0, none⟩) 0 0, .int .i64 (0), .bool false]) (by simp [results, Try.results39, go_sem]) rfl ⟨some ⟨w1.heap.size, 0, none⟩, 0, rfl, World.ownsRow_made w1 #[] 0 q1.out.size (Nat.zero_le _) rfl, q1.out.alloc q1.out.size _⟩
  | true =>
    rw [hok] at HS
    rw [M.placeAll_yes hok]
    have h12 : l.length ≤ 12 := ((M.pupsOk_iff l).1 hok).1
    have hvv := Lib.hid (fun n => M.placeTo_bd l n)
    have HPO := Lib.hid (fun n => M.placeTo_ok hok n)
    clear hok
    go_enter Try.func39, Try.ntmps39
    go_wp2_with fail
    refine (HS.out _ ha).mono ?_
    rintro e w1 ⟨rfl, b1⟩
    have q1 := Lib.hid (q0.out.trans (b1.mono q0.out.size))
    have r1 := Lib.hid (ha.below q1.out)
    obtain ⟨i0, hi0, hz0, hz1, hz2⟩ := info_parts PupilW.infoPup
    have e0 : Hid (K.Row (w1.alloc (.cells #[] 26)) w1.heap.size 26 5 (some ⟨w1.heap.size, 0, none⟩) 0 0 []) := Lib.hid (World.ownsRow_made w1 #[] 0 (Nat.le_refl _) (Nat.zero_le _) rfl)
    have qe := Lib.hid (q1.out.alloc q1.out.size (.cells #[] 26))
    have re := Lib.hid (ha.below qe.out)
    go_wp2_with (at_builtin; refine K.appendN rfl (.tmp 14) (.tmp 15) _ rfl w1.heap.size _ i0 _ 5 48 Try.underlying31 hi0 hz0 hz1 hz2 rfl (by omega) (some ⟨w1.heap.size, 0, none⟩) 0 0 [] (by simp [go_sem]) e0.out A l.length c _ rfl re.out (PupilW.cells_one l) (by simp only [maxLen]; omega) (by omega) (by simp) ?_; intro A' c' wa hrow hba _ _; rw [Nat.zero_add, List.nil_append] at hrow; rw [Nat.zero_add]; have HROW0 := Lib.hid (hrow.more q1.out.size); have HB0 := Lib.hid (qe.out.trans (hba.mono q1.out.size)); clear hrow hba)
    go_loopw [7, 5, 6] (fun s o z wr => ∃ (j : Nat) (P : List M.Pupil) (v : Int) (B : Option Addr) (d : Nat), j ≤ l.length ∧ s = .int .i64 (j : Int) ∧ o = .slice B P.length d ∧ z = .int .i64 v ∧ (0 ≤ v ∧ v ≤ 12) ∧ Hid (M.placeTo l j = (P, v)) ∧ Hid (K.Row wr w.heap.size 26 5 B P.length d (P.flatMap M.pupilCells)) ∧ Hid (Below w.heap.size w wr)) (fun s _ _ _ => l.length - (intOf s).toNat)
    case atStart => exact ⟨0, l, 0, A', c', Nat.zero_le _, rfl, rfl, rfl, by omega, Lib.hid rfl, HROW0, HB0⟩
    case round =>
      obtain ⟨j, P, v, B, d, hj, rfl, rfl, rfl, hv, HT, HROW, HB⟩ := hrel
      have HPL := Lib.hid (show P.length = l.length by have := M.placeTo_len l j; rw [HT.out] at this; exact this)
      by_cases hlt : j < l.length
      · have hjP : j < P.length := by rw [HPL.out]; exact hlt
        have HN := Lib.hid (show ∀ p ∈ P, p.name.size ≤ 9223372036854775807 by have := names_place hs j; rw [HT.out] at this; exact this)
        have HCL := Lib.hid (M.clsAt_eq P j hjP)
        have HNX := Lib.hid (fun (x : List M.Pupil × Int) (hx : M.placeOne P j = x) => show M.placeTo l (j + 1) = (x.1, v + x.2) by rw [M.placeTo, HT.out, hx])
        have hvj := hvv.out (j + 1)
        have hPok : M.pupsOk P = true := by have := HPO.out j; rw [HT.out] at this; exact this
        have hcc := (M.Pupil.ok_iff _).1 (M.pupsOk_at hPok hjP)
        obtain ⟨_, _, _, ⟨hc0, hc9⟩, _⟩ := hcc
        have HC := Lib.hid (fun (B : Option Addr) (d : Nat) (w : World) (ha : K.Rd w 5 B P.length (P.flatMap M.pupilCells)) => PupilC.s_classes B d P P[j].id w (by rw [HPL.out]; exact hl) HN.out ha)
        rw [M.classesFor_yes hPok (by rw [M.pIx_self hPok hjP]; exact hjP), M.pIx_self hPok hjP] at HC
        have HW := Lib.hid (fun (q : Int) (B : Option Addr) (d : Nat) (w : World) (ha : K.Rd w 5 B P.length (P.flatMap M.pupilCells)) => PupilX.s_with B d P j q P[j].level w (by rw [HPL.out]; exact hl) hjP ha)
        have HWE := Lib.hid (fun q => M.withCL_withC P j hjP q)
        obtain ⟨gx, hA, gx1, gx2, hfz, u0, u1, u2, u3, u4⟩ := HROW.out.pupil hjP
        subst hA
        have h1 : (j : Int) < (P.length : Int) := by omega
        have h1l : (j : Int) < (l.length : Int) := by omega
        have h2 : (0 : Int) ≤ (j : Int) := by omega
        clear u1 u2 hfz hPok
        generalize P[j].cls = x3 at *
        generalize P[j].id = x0 at *
        generalize P[j].level = x4 at *
        by_cases h0 : x3 = 0
        rotate_left
        · have hd : decide (0 < x3) = true := decide_eq_true (by omega)
          have HK := Lib.hid (HNX.out _ (M.placeOne_cls (by rw [HCL.out]; exact h0)))
          clear HNX HW h0 hvj HC HWE
          go_wp2_with fail
          go_roundw
          case rel => exact ⟨j + 1, P, v, some ⟨gx, 0, none⟩, d, by omega, by go_num, rfl, rfl, hv, Lib.hid (by rw [HK.out]; simp), HROW, HB⟩
          case measure => simp [intOf]; omega
        · subst h0
          have hd : decide ((0 : Int) < 0) = false := by simp
          have HCB := Lib.hid (HC.out (some ⟨gx, 0, none⟩) d _ HROW.out.rd)
          dsimp only at HCB
          cases hcs : M.clsFor P j 9 with
          | nil =>
            rw [hcs] at HCB
            have HK := Lib.hid (HNX.out _ (M.placeOne_nil (by rw [HCL.out]) hcs))
            have hv2 : v + 1 ≤ 12 := by rw [HK.out] at hvj; simp only at hvj; omega
            clear HNX HW hvj HC HWE hcs HCL HN
            go_wp2_with fail
            refine HCB.out.mono ?_
            rintro e w2 ⟨X, n, rfl, row2, b2⟩
            have HB2 := Lib.hid (HB.out.trans (b2.mono HB.out.size))
            have HR2 := Lib.hid (HROW.out.below b2)
            clear u0 u3 u4
            go_wp2_with fail
            go_roundw
            case rel => exact ⟨j + 1, P, v + 1, some ⟨gx, 0, none⟩, d, by omega, by go_num, rfl, rfl, by omega, HK, HR2, HB2⟩
            case measure => simp [intOf]; omega
          | cons q r =>
            rw [hcs] at HCB
            have HK := Lib.hid (HNX.out _ (M.placeOne_cons (by rw [HCL.out]) hcs))
            have HWq := Lib.hid (HW.out q)
            rw [HWE.out q] at HWq
            have HPL2 := Lib.hid (M.withC_len P j q)
            generalize M.withC P j q = L at *
            have hqn : (((r.length + 1 : Nat) : Int) == 0) = false := beq_eq_false_iff_ne.2 (by omega)
            clear HNX HW hvj HC HWE hcs HCL HN
            have HQ0 := Lib.hid (fun (w : World) (lo c : Nat) (A : Option Addr) (h : K.Row w lo 3 1 A (r.length + 1) c ((q :: r).map (Value.int .i64))) => show ∃ g, A = some ⟨g, 0, none⟩ ∧ g < w.heap.size ∧ w.cell? ⟨g, 0, none⟩ = some (.int .i64 q) by obtain ⟨g, h1, _, h3, h4, _⟩ := K.Row.int (l := q :: r) h (k := 0) (by simp); exact ⟨g, h1, h3, h4⟩)
            rw [List.length_cons] at HCB
            generalize (q :: r).map (Value.int .i64) = Z at *
            generalize r.length = m at *
            go_wp2_with fail
            refine HCB.out.mono ?_
            rintro e w2 ⟨X, n, rfl, row2, b2⟩
            have HB2 := Lib.hid (HB.out.trans (b2.mono HB.out.size))
            have HR2 := Lib.hid (HROW.out.below b2)
            obtain ⟨gy, hY, gy2, hcy⟩ := HQ0.out _ _ _ _ row2
            subst hY
            have d4 := (b2.cell (p := ⟨gx, j * 5 + 4, none⟩) gx2).trans u4
            clear u0 u3 u4
            go_wp2_with fail
            go_region_held3 (fun w' => w'.cell? ⟨gy, 0, none⟩ = some (.int .i64 q) ∧ w'.cell? ⟨gx, j * 5 + 4, none⟩ = some (.int .i64 x4))
              (first | go_keep | exact ⟨(b3.cell (p := ⟨gy, 0, none⟩) gy2).trans hcy, (b3.cell (p := ⟨gx, j * 5 + 4, none⟩) (Nat.lt_of_lt_of_le gx2 b2.size)).trans d4⟩)
              ((go_at_call 72; ((with_reducible refine (HWq.out (some ⟨gx, 0, none⟩) d _ HR2.out.drew.rd).mono ?_)); rintro e w3 ⟨Y, m, rfl, row3, b3⟩))
            have HB3 := Lib.hid (HB2.out.drew.trans (b3.mono HB2.out.drew.size))
            have HR3 := Lib.hid (row3.more HB2.out.drew.size)
            clear d4
            go_wp2_with fail
            go_roundw
            case rel => exact ⟨j + 1, L, v, Y, m, by omega, by go_num, by rw [HPL2.out], rfl, hv, Lib.hid (by rw [HK.out]; simp), by rw [HPL2.out]; exact HR3, HB3⟩
            case measure => simp [intOf]; omega
      · obtain rfl : j = l.length := by omega
        have hnl : ¬ ((l.length : Int) < (P.length : Int)) := by have := HPL.out; omega
        go_wp2_with fail
        exact bodyPost_ret (v := .tuple #[.slice B P.length d, .int .i64 (v), .bool true]) (by simp [results, Try.results39, go_sem]) rfl ⟨B, d, by rw [HT.out], by rw [HT.out]; exact HROW.out, HB.out⟩
end Go.Proofs.Ytebbihckndjbeaa.PupilQ
