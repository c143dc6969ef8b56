/-
  Walks: the proper amount with a value.
-/
import Derived.Test.YtfgnmjnlhnpmoaaProperM
import Derived.Test.YtfgnmjnlhnpmoaaKit4
set_option linter.unusedVariables false
namespace Go.Proofs.Ytfgnmjnlhnpmoaa.AmountH
open Go.RowKit
/-- a call that returns an amount of its own and a bool. -/
def RetAmountB (w : World) (l : List Int) (b : Bool) (e : Ending) (w' : World) : Prop :=
  ∃ A c, e = .returned (.tuple #[.agg #[.slice A l.length c], .bool b]) ∧ K.Row w' w.heap.size 3 1 A l.length c (l.map (Value.int .i64)) ∧ Below w.heap.size w w'
end Go.Proofs.Ytfgnmjnlhnpmoaa.AmountH
namespace Go.Proofs.Ytfgnmjnlhnpmoaa.Proper
open Go.RowKit
/-- what a loop that fills an amount in the making keeps: the box H holds the slice, the block R the result under way. -/
def Fill (w wr : World) (xs : List Int) : Prop := ∃ B d, K.Row wr (w.heap.size + 1 + 1) 3 1 B xs.length d (xs.map (Value.int .i64)) ∧ wr.cell? ⟨w.heap.size + 1, 0, none⟩ = some (.slice B xs.length d) ∧ wr.frozen? ⟨w.heap.size + 1, 0, none⟩ = false ∧
  wr.cell? ⟨w.heap.size, 0, none⟩ = some (.slice none 0 0) ∧ wr.frozen? ⟨w.heap.size, 0, none⟩ = false ∧ Below w.heap.size w wr ∧ w.heap.size + 1 + 1 ≤ wr.heap.size
theorem Fill.start (w : World) (t : TypeId) : Fill w ((w.alloc (.cells #[.slice none 0 0] t)).alloc (.cells #[.slice none 0 0] t)) [] :=
  ⟨none, 0, K.Row.nil _ _ _ _, by simp [go_sem], by simp [go_sem], by simp [go_sem], by simp [go_sem], by (repeat (first | exact Below.refl _ _ | assumption | (refine K.below_drewN ?_ _) | (refine Below.drew ?_) | (refine Below.alloc ?_ (by first | (simp; done) | (simp; omega) | omega) _) | (refine Below.setCell ?_ (by first | (simp; done) | (simp; omega) | omega) _))), by simp⟩
/-- the append's store. -/
theorem Fill.next {w wr w2 : World} {xs : List Int} {x : Int} {A' : Option Addr} {c' : Nat} (hb : Below w.heap.size w wr) (hz : w.heap.size + 1 + 1 ≤ wr.heap.size) (hr : K.Row w2 (w.heap.size + 1 + 1) 3 1 A' (xs.length + 1) c' (xs.map (Value.int .i64) ++ [.int .i64 x])) (hb2 : Below (w.heap.size + 1 + 1) wr w2)
    (c0 : (wr.cell? ⟨w.heap.size + 1, 0, none⟩).isSome = true) (f0 : wr.frozen? ⟨w.heap.size + 1, 0, none⟩ = false) (c1 : wr.cell? ⟨w.heap.size, 0, none⟩ = some (.slice none 0 0)) (f1 : wr.frozen? ⟨w.heap.size, 0, none⟩ = false) :
    Fill w (w2.setCell ⟨w.heap.size + 1, 0, none⟩ (.slice A' (xs.length + 1) c')) (xs ++ [x]) := by
  have e0 := hb2.cell (p := ⟨w.heap.size + 1, 0, none⟩) (by simp)
  have e1 := hb2.cell (p := ⟨w.heap.size, 0, none⟩) (by simp; omega)
  have e2 := hb2.frozen (p := ⟨w.heap.size + 1, 0, none⟩) (by simp)
  have e3 := hb2.frozen (p := ⟨w.heap.size, 0, none⟩) (by simp; omega)
  refine ⟨A', c', ?_, ?_, ?_, ?_, ?_, ?_, ?_⟩
  · rw [List.map_append, List.length_append]; exact hr.setOther (by simp) _
  · rw [List.length_append]
    exact World.cell?_setCell_same' _ _ _ (by rw [e0]; exact c0)
  · rw [World.frozen?_setCell, e2]; exact f0
  · rw [World.cell?_setCell_other _ _ _ _ (by simp), e1]; exact c1
  · rw [World.frozen?_setCell, e3]; exact f1
  · exact (hb.trans (hb2.mono (by omega))).setCell (by simp) _
  · have := hb2.size; simp; omega
set_option maxHeartbeats 2000000 in
theorem i_proper (A : Option Addr) (c : Nat) (l : List M.Unit) (v : Int) (w : World) (hok : M.sysOk l = true) (hv : v ≤ 9223372036854775807) (ha : K.Rd w 2 A l.length (l.flatMap M.unitCells)) :
    Calls Try.prog 72 #[.slice A l.length c, .int .i64 v] w (AmountH.RetAmountB w (M.proper l v).1 (M.proper l v).2) := by
  obtain ⟨i0, hi0, hz0, hz1, hz2⟩ := info_parts SlInt.info
  by_cases hneg : v < 0
  · rw [M.proper_neg hneg]
    go_enter Try.func72, Try.ntmps72
    go_wp2
    exact bodyPost_ret (v := .tuple #[.agg #[.slice none 0 0], .bool false]) (by simp [results, Try.results72, go_sem]) rfl ⟨none, 0, rfl, K.Row.nil _ _ _ _, by (repeat (first | exact Below.refl _ _ | assumption | (refine K.below_drewN ?_ _) | (refine Below.drew ?_) | (refine Below.alloc ?_ (by first | (simp; done) | (simp; omega) | omega) _) | (refine Below.setCell ?_ (by first | (simp; done) | (simp; omega) | omega) _)))⟩
  · have h0 : 0 ≤ v := by omega
    have HL := Lib.hid (fun xs x h1 h2 h3 => M.proper_last hok h0 (xs := xs) (x := x) h1 h2 h3)
    have hlen := ((M.sysOk_iff l).1 hok).1
    have HZ := Lib.hid (M.sys_size2 hok)
    have HP : ∃ P, P = M.pd l v := ⟨_, rfl⟩
    obtain ⟨P, hP⟩ := HP
    have HP := Lib.hid hP
    rw [← hP] at HL
    generalize M.proper l v = R at HL ⊢
    clear hok hP hneg
    have hra : ∀ o1 o2, K.Rd ((w.alloc o1).alloc o2) 2 A l.length (l.flatMap M.unitCells) := fun o1 o2 => (ha.alloc o1).alloc o2
    have hF := Lib.hid (Fill.start w 40)
    have hl1 : (l.length : Int) - 1 ≤ 5 := by omega
    go_enter Try.func72, Try.ntmps72
    go_wp2
    go_loopw [13, 1] (fun i u wr => ∃ (j : Nat) (x : Int) (xs : List Int), j < l.length ∧ i = .int .i64 j ∧ u = .int .i64 x ∧ (0 ≤ x ∧ x ≤ 9223372036854775807) ∧ Hid (xs.length = j) ∧ Hid (xs ++ M.pd (l.drop j) x = P) ∧ Hid (∀ y ∈ xs, 0 ≤ y ∧ y ≤ 9999) ∧ Fill w wr xs) (fun i _ _ => l.length - (intOf i).toNat)
    case atStart => exact ⟨0, v, [], by omega, rfl, rfl, ⟨h0, hv⟩, Lib.hid rfl, Lib.hid (by rw [List.drop_zero]; exact HP.out.symm), Lib.hid (by simp), hF.out⟩
    case round =>
      obtain ⟨j, x, xs, hj, rfl, rfl, ⟨hx0, hx1⟩, hxl, hpd, hall, B, d, hrow, c0, f0, c1, f1, hb, hz⟩ := hrel
      have hlt : (j : Int) < (l.length : Int) := by omega
      have hlb := hrow.lt
      by_cases hlast : j + 1 = l.length
      · have hd : ((j : Int) == (l.length : Int) - 1) = true := beq_iff_eq.2 (by omega)
        have HX := Lib.hid (show xs ++ [x] = P by rw [← hpd.out, M.pd_last l j hlast])
        have HQ := Lib.hid (HL.out xs x HX.out hall.out hx0)
        have HN := Lib.hid (fun A' c' w2 => @Fill.next w wr w2 xs x A' c' hb hz)
        have HR := Lib.hid hrow
        have HB := Lib.hid hb
        obtain ⟨k, hk⟩ : ∃ k, k = xs.length := ⟨_, rfl⟩
        have hk6 : k + 1 ≤ 6 := by rw [hk, hxl.out]; omega
        have HK := Lib.hid hk
        clear hrow hb hpd hall hxl hlast
        have hk2 : xs.length + 1 ≤ maxLen := by rw [← HK.out]; simp only [maxLen]; omega
        have hk3 : (xs.length + 1) * 8 ≤ 140737488355328 := by rw [← HK.out]; omega
        by_cases hx9 : x ≤ 9999
        · have hR : R = (xs ++ [x], true) := by rw [HQ.out, if_pos hx9]
          subst hR
          clear hlb
          go_wp2_with (at_builtin; refine K.append1 rfl (.tmp 22) (.tmp 24) _ rfl (w.heap.size + 1 + 1) _ i0 _ 1 8 Try.underlying35 hi0 hz0 hz1 hz2 rfl (by omega) B xs.length d _ rfl HR.out #[.int .i64 x] rfl (by simp [Value.oneCell']) (by simp [go_sem]) hk2 hk3 hz ?_; intro g' c' w2 hrow1 hb1 _ _ _; have e0 := (hb1.cell (p := ⟨w.heap.size + 1, 0, none⟩) (by simp)).trans c0; have e1 := (hb1.cell (p := ⟨w.heap.size, 0, none⟩) (by simp; omega)).trans c1; have e2 := (hb1.frozen (p := ⟨w.heap.size + 1, 0, none⟩) (by simp)).trans f0; have e3 := (hb1.frozen (p := ⟨w.heap.size, 0, none⟩) (by simp; omega)).trans f1)
          refine bodyPost_ret (v := .tuple #[.agg #[.slice (some ⟨g', 0, none⟩) (xs ++ [x]).length c'], .bool true]) (by simp [results, Try.results72, go_sem, e1]) rfl ⟨some ⟨g', 0, none⟩, c', rfl, ?_, ?_⟩
          · obtain ⟨B2, d2, n1, n2, n3, n4, n5, n6, n7⟩ := HN.out (some ⟨g', 0, none⟩) c' w2 hrow1 hb1 (by rw [c0]; rfl) f0 c1 f1
            have e : B2 = some ⟨g', 0, none⟩ ∧ d2 = c' := by
              rw [World.cell?_setCell_same' _ _ _ (by rw [e0]; rfl)] at n2
              simp at n2; exact ⟨n2.1.symm, n2.2.symm⟩
            obtain ⟨rfl, rfl⟩ := e
            exact (n1.setOther (by simp; omega) _).more (by omega)
          · obtain ⟨B2, d2, n1, n2, n3, n4, n5, n6, n7⟩ := HN.out (some ⟨g', 0, none⟩) c' w2 hrow1 hb1 (by rw [c0]; rfl) f0 c1 f1
            exact n6.setCell (Nat.le_refl _) _
        · have hR : R = ([], false) := by rw [HQ.out, if_neg hx9]
          subst hR
          clear hlb
          go_wp2_with (at_builtin; refine K.append1 rfl (.tmp 22) (.tmp 24) _ rfl (w.heap.size + 1 + 1) _ i0 _ 1 8 Try.underlying35 hi0 hz0 hz1 hz2 rfl (by omega) B xs.length d _ rfl HR.out #[.int .i64 x] rfl (by simp [Value.oneCell']) (by simp [go_sem]) hk2 hk3 hz ?_; intro g' c' w2 hrow1 hb1 _ _ _; have e0 := (hb1.cell (p := ⟨w.heap.size + 1, 0, none⟩) (by simp)).trans c0; have e1 := (hb1.cell (p := ⟨w.heap.size, 0, none⟩) (by simp; omega)).trans c1; have e2 := (hb1.frozen (p := ⟨w.heap.size + 1, 0, none⟩) (by simp)).trans f0; have e3 := (hb1.frozen (p := ⟨w.heap.size, 0, none⟩) (by simp; omega)).trans f1)
          refine bodyPost_ret (v := .tuple #[.agg #[.slice none 0 0], .bool false]) (by simp [results, Try.results72, go_sem, e1]) rfl ⟨none, 0, rfl, K.Row.nil _ _ _ _, ?_⟩
          obtain ⟨B2, d2, n1, n2, n3, n4, n5, n6, n7⟩ := HN.out (some ⟨g', 0, none⟩) c' w2 hrow1 hb1 (by rw [c0]; rfl) f0 c1 f1
          exact n6.setCell (Nat.le_refl _) _
      · have hd : ((j : Int) == (l.length : Int) - 1) = false := beq_eq_false_iff_ne.2 (by omega)
        have hj1 : j + 1 < l.length := by omega
        obtain ⟨z1, z2⟩ := HZ.out j hj1
        obtain ⟨g, o, rfl, hg, q0, q1⟩ := ha.unit hj1
        have cc1 := (hb.cell (p := ⟨g, o + (j + 1) * 2 + 1, none⟩) hg).trans q1
        have hg1 : ¬ g = w.heap.size + 1 := by omega
        clear q0 q1
        have HX := Lib.hid (show (xs ++ [x % l[j + 1].size]) ++ M.pd (l.drop (j + 1)) (x / l[j + 1].size) = P by rw [← hpd.out, M.pd_step l j hj1]; simp)
        have HN := Lib.hid (fun A' c' w2 => @Fill.next w wr w2 xs (x % l[j + 1].size) A' c' hb hz)
        have HR := Lib.hid hrow
        have HB := Lib.hid hb
        generalize l[j + 1].size = s at *
        generalize l[j + 1].name = nm at *
        have hk6 : xs.length + 1 ≤ 6 := by rw [hxl.out]; omega
        have hk2 : xs.length + 1 ≤ maxLen := by simp only [maxLen]; omega
        have hk3 : (xs.length + 1) * 8 ≤ 140737488355328 := by omega
        have s1 : IntKind.i64.wrap ((j : Int) + 1) = (j : Int) + 1 := IntWalk.i64_in _ (by omega)
        have s2 : (0 : Int) ≤ (j : Int) + 1 := by omega
        have s3 : ((j : Int) + 1).toNat = j + 1 := by omega
        have s4 : (j : Int) + 1 < (l.length : Int) := by omega
        have s5 : x.tmod s = x % s := Int.tmod_eq_emod_of_nonneg hx0
        have s6 : IntKind.i64.wrap (x % s) = x % s := IntWalk.i64_in _ (by have := Int.emod_nonneg x (show s ≠ 0 by omega); have := Int.emod_lt_of_pos x (show 0 < s by omega); omega)
        have s7 : ¬ s = 0 := by omega
        clear hrow hb hpd hlast
        go_wp2_with fail
        have HA := Lib.hid (fun t => (HR.out.alloc (.cells #[.int .i64 (x % s)] t)).drew)
        have HC := Lib.hid (fun t => (K.Rd.new wr #[.int .i64 (x % s)] t 1 1 rfl).drew)
        have HBA := Lib.hid (fun t => ((Below.refl (w.heap.size + 1 + 1) wr).alloc hz (.cells #[.int .i64 (x % s)] t)).drew)
        have hz3 : (wr.alloc (.cells #[.int .i64 (x % s)] 3)).cell? ⟨w.heap.size + 1, 0, none⟩ = some (.slice B xs.length d) := ((((Below.refl (w.heap.size + 1 + 1) wr).alloc hz _).cell (p := ⟨w.heap.size + 1, 0, none⟩) (by simp)).trans c0)
        go_region_law ((refine K.stepN (by rfl) (.tmp 28) (.tmp 37) _ (by rfl) (w.heap.size + 1 + 1) _ i0 _ 1 8 Try.underlying35 hi0 hz0 hz1 hz2 rfl (by omega) B xs.length d _ (by rfl) (HA.out _) (some ⟨wr.heap.size, 0, none⟩) 1 1 [.int .i64 (x % s)] (by rfl) (HC.out _) (by simp [Value.oneCell']) hk2 hk3 (by simp; omega) ?_; intro A' c' w2 hrow1 hb0 _ _; have hb1 := (HBA.out _).trans hb0; have e0 := (hb1.cell (p := ⟨w.heap.size + 1, 0, none⟩) (by simp)).trans c0; have e1 := (hb1.cell (p := ⟨w.heap.size, 0, none⟩) (by simp; omega)).trans c1; have e2 := (hb1.frozen (p := ⟨w.heap.size + 1, 0, none⟩) (by simp)).trans f0; have e3 := (hb1.frozen (p := ⟨w.heap.size, 0, none⟩) (by simp; omega)).trans f1; have e4 := (hb1.cell (p := ⟨g, o + (j + 1) * 2 + 1, none⟩) (by simp; omega)).trans cc1; clear hb0))
        all_goals clear s1 s2 s3 s4 s5 s6 s7 hra ha hF hz3
        all_goals go_wp2_with fail
        all_goals
          have hm1 := Int.emod_nonneg x (show s ≠ 0 by omega)
          have hm2 := Int.emod_lt_of_pos x (show 0 < s by omega)
          have hm3 : 0 ≤ x / s := Int.ediv_nonneg hx0 (by omega)
          have hm4 : x / s ≤ x := Int.ediv_le_self s hx0
          go_roundw
          case rel =>
            refine ⟨j + 1, x / s, xs ++ [x % s], by omega, by go_num, rfl, ⟨hm3, by omega⟩, Lib.hid (by rw [List.length_append, hxl.out]; rfl), HX, Lib.hid ?_, HN.out A' c' w2 hrow1 hb1 (by rw [c0]; rfl) f0 c1 f1⟩
            intro y hy
            rcases List.mem_append.1 hy with h | h
            · exact hall.out y h
            · rw [List.mem_singleton.1 h]; omega
          case measure => simp [intOf]; omega
set_option maxHeartbeats 2000000 in
theorem s_proper (A : Option Addr) (c : Nat) (l : List M.Unit) (v : Int) (w : World) (hok : M.sysOk l = true) (hv : v ≤ 9223372036854775807) (hs : ∀ u ∈ l, u.name.size ≤ 9223372036854775807) (hc : l.length ≤ c) (hc2 : c ≤ 9223372036854775807) (ha : K.Rd w 2 A l.length (l.flatMap M.unitCells)) :
    Calls Try.prog 71 #[.slice A l.length c, .int .i64 v] w (AmountH.RetAmountB w (M.proper l v).1 (M.proper l v).2) := by
  obtain ⟨i0, hi0, hz0, hz1, hz2⟩ := info_parts SlInt.info
  by_cases hneg : v < 0
  · rw [M.proper_neg hneg]
    go_enter Try.func71, Try.ntmps71
    go_wp2
    exact bodyPost_ret (v := .tuple #[.agg #[.slice none 0 0], .bool false]) (by simp [results, Try.results71, go_sem]) rfl ⟨none, 0, rfl, K.Row.nil _ _ _ _, by (repeat (first | exact Below.refl _ _ | assumption | (refine K.below_drewN ?_ _) | (refine Below.drew ?_) | (refine Below.alloc ?_ (by first | (simp; done) | (simp; omega) | omega) _) | (refine Below.setCell ?_ (by first | (simp; done) | (simp; omega) | omega) _)))⟩
  · have h0 : 0 ≤ v := by omega
    have hlen := ((M.sysOk_iff l).1 hok).1
    have HZ := Lib.hid (M.sys_size2 hok)
    have HP : ∃ P, P = M.pd l v := ⟨_, rfl⟩
    obtain ⟨P, hP⟩ := HP
    have HP := Lib.hid hP
    have HY := Lib.hid (fun h : M.amtOk l P = true => show M.proper l v = (P, true) by rw [hP] at h ⊢; exact M.proper_yes h0 h)
    have HN0 := Lib.hid (fun h : M.amtOk l P = false => show M.proper l v = ([], false) by rw [hP] at h; exact M.proper_no h)
    have HPL := Lib.hid (show P.length = l.length by rw [hP, M.pd_len])
    have HA := Lib.hid (fun B d w hb hk ha => AmountF.s_amt A c l B d P w (by omega) hk hs hc hc2 ha hb)
    generalize M.proper l v = R at HY HN0 ⊢
    have HOK := Lib.hid hok
    clear hok hP hneg hs
    have hF := Lib.hid (Fill.start w 40)
    go_enter Try.func71, Try.ntmps71
    go_wp2
    go_loopw [7, 1] (fun i u wr => ∃ (j : Nat) (x : Int) (xs : List Int), j ≤ l.length ∧ i = .int .i64 j ∧ u = .int .i64 x ∧ (0 ≤ x ∧ x ≤ 9223372036854775807) ∧ Hid (xs.length = j) ∧ Hid (xs ++ M.pd (l.drop j) x = P) ∧ Fill w wr xs) (fun i _ _ => l.length - (intOf i).toNat)
    case atStart => exact ⟨0, v, [], by omega, rfl, rfl, ⟨h0, hv⟩, Lib.hid rfl, Lib.hid (by rw [List.drop_zero]; exact HP.out.symm), hF.out⟩
    case round =>
      obtain ⟨j, x, xs, hj, rfl, rfl, ⟨hx0, hx1⟩, hxl, hpd, B, d, hrow, c0, f0, c1, f1, hb, hz⟩ := hrel
      clear hF
      by_cases hlt0 : j < l.length
      · have hlt : (j : Int) < (l.length : Int) := by omega
        have hlb := hrow.lt
        have hk6 : xs.length + 1 ≤ 6 := by rw [hxl.out]; omega
        have hk2 : xs.length + 1 ≤ maxLen := by simp only [maxLen]; omega
        have hk3 : (xs.length + 1) * 8 ≤ 140737488355328 := by omega
        by_cases hlast : j + 1 = l.length
        · have hd : decide ((j : Int) + 1 < (l.length : Int)) = false := decide_eq_false (by omega)
          have HX := Lib.hid (show (xs ++ [x]) ++ M.pd (l.drop (j + 1)) x = P by rw [← hpd.out, M.pd_last l j hlast, hlast, List.drop_length]; simp [M.pd])
          have HN := Lib.hid (fun A' c' w2 => @Fill.next w wr w2 xs x A' c' hb hz)
          have HR := Lib.hid hrow
          clear hrow hb hpd hlast hlb ha
          go_wp2_with (at_builtin; refine K.append1 rfl (.tmp 42) (.tmp 44) _ rfl (w.heap.size + 1 + 1) _ i0 _ 1 8 Try.underlying35 hi0 hz0 hz1 hz2 rfl (by omega) B xs.length d _ rfl HR.out #[.int .i64 x] rfl (by simp [Value.oneCell']) (by simp [go_sem]) hk2 hk3 hz ?_; intro g' c' w2 hrow1 hb1 _ _ _; have e0 := (hb1.cell (p := ⟨w.heap.size + 1, 0, none⟩) (by simp)).trans c0; have e1 := (hb1.cell (p := ⟨w.heap.size, 0, none⟩) (by simp; omega)).trans c1; have e2 := (hb1.frozen (p := ⟨w.heap.size + 1, 0, none⟩) (by simp)).trans f0; have e3 := (hb1.frozen (p := ⟨w.heap.size, 0, none⟩) (by simp; omega)).trans f1)
          go_roundw
          case rel => exact ⟨j + 1, x, xs ++ [x], by omega, by go_num, rfl, ⟨hx0, hx1⟩, Lib.hid (by rw [List.length_append, hxl.out]; rfl), HX, HN.out (some ⟨g', 0, none⟩) c' w2 hrow1 hb1 (by rw [c0]; rfl) f0 c1 f1⟩
          case measure => simp [intOf]; omega
        · have hd : decide ((j : Int) + 1 < (l.length : Int)) = true := decide_eq_true (by omega)
          have hj1 : j + 1 < l.length := by omega
          obtain ⟨z1, z2⟩ := HZ.out j hj1
          obtain ⟨g, o, rfl, hg, q0, q1⟩ := ha.unit hj1
          have cc1 := (hb.cell (p := ⟨g, o + (j + 1) * 2 + 1, none⟩) hg).trans q1
          have hg1 : ¬ g = w.heap.size + 1 := by omega
          clear q0 q1
          have HX := Lib.hid (show (xs ++ [x % l[j + 1].size]) ++ M.pd (l.drop (j + 1)) (x / l[j + 1].size) = P by rw [← hpd.out, M.pd_step l j hj1]; simp)
          have HN := Lib.hid (fun A' c' w2 => @Fill.next w wr w2 xs (x % l[j + 1].size) A' c' hb hz)
          have HR := Lib.hid hrow
          generalize l[j + 1].size = s at *
          generalize l[j + 1].name = nm at *
          have s2 : (0 : Int) ≤ (j : Int) + 1 := by omega
          have s4 : (j : Int) + 1 < (l.length : Int) := by omega
          clear hrow hb hlast hlb ha hpd
          go_wp2_with (at_builtin; refine K.append1 rfl (.tmp 42) (.tmp 44) _ rfl (w.heap.size + 1 + 1) _ i0 _ 1 8 Try.underlying35 hi0 hz0 hz1 hz2 rfl (by omega) B xs.length d _ rfl HR.out #[.int .i64 (x % s)] rfl (by simp [Value.oneCell']) (by simp [go_sem]) hk2 hk3 hz ?_; intro g' c' w2 hrow1 hb1 _ _ _; have e0 := (hb1.cell (p := ⟨w.heap.size + 1, 0, none⟩) (by simp)).trans c0; have e1 := (hb1.cell (p := ⟨w.heap.size, 0, none⟩) (by simp; omega)).trans c1; have e2 := (hb1.frozen (p := ⟨w.heap.size + 1, 0, none⟩) (by simp)).trans f0; have e3 := (hb1.frozen (p := ⟨w.heap.size, 0, none⟩) (by simp; omega)).trans f1)
          have hm3 : 0 ≤ x / s := Int.ediv_nonneg hx0 (by omega)
          have hm4 : x / s ≤ x := Int.ediv_le_self s hx0
          go_roundw
          case rel => exact ⟨j + 1, x / s, xs ++ [x % s], by omega, by go_num, rfl, ⟨hm3, by omega⟩, Lib.hid (by rw [List.length_append, hxl.out]; rfl), HX, HN.out (some ⟨g', 0, none⟩) c' w2 hrow1 hb1 (by rw [c0]; rfl) f0 c1 f1⟩
          case measure => simp [intOf]; omega
      · obtain rfl : j = l.length := by omega
        have hx : xs = P := by
          have h := hpd.out
          rwa [List.drop_length, M.pd, List.append_nil] at h
        have r1 := ha.below hb
        subst hx
        have HAA := Lib.hid (HA.out B d wr (hrow.more (Nat.le_refl _)).rd (by rw [HPL.out]; omega) r1)
        generalize hbo : M.amtOk l xs = bo at HAA HY HN0
        clear hbo HA ha r1 hpd
        cases bo with
        | true =>
          have hR := HY.out rfl
          subst hR
          go_wp2_with fail
          refine HAA.out.mono ?_
          rintro e w2 ⟨rfl, b2⟩
          have e0 := (b2.cell (p := ⟨w.heap.size + 1, 0, none⟩) (by simp; omega)).trans c0
          have e1 := (b2.cell (p := ⟨w.heap.size, 0, none⟩) (by simp; omega)).trans c1
          have e3 := (b2.frozen (p := ⟨w.heap.size, 0, none⟩) (by simp; omega)).trans f1
          have hb2 := hb.trans (b2.mono hb.size)
          have hr2 := hrow.below b2
          clear hrow b2 hb
          go_wp2_with fail
          exact bodyPost_ret (v := .tuple #[.agg #[.slice B xs.length d], .bool true]) (by simp [results, Try.results71, go_sem, e1]) rfl ⟨B, d, rfl, (hr2.setOther (by simp; omega) _).more (by omega), hb2.setCell (Nat.le_refl _) _⟩
        | false =>
          have hR := HN0.out rfl
          subst hR
          go_wp2_with fail
          refine HAA.out.mono ?_
          rintro e w2 ⟨rfl, b2⟩
          have e0 := (b2.cell (p := ⟨w.heap.size + 1, 0, none⟩) (by simp; omega)).trans c0
          have e1 := (b2.cell (p := ⟨w.heap.size, 0, none⟩) (by simp; omega)).trans c1
          have e3 := (b2.frozen (p := ⟨w.heap.size, 0, none⟩) (by simp; omega)).trans f1
          have hb2 := hb.trans (b2.mono hb.size)
          clear hrow b2 hb
          go_wp2_with fail
          exact bodyPost_ret (v := .tuple #[.agg #[.slice none 0 0], .bool false]) (by simp [results, Try.results71, go_sem, e1]) rfl ⟨none, 0, rfl, K.Row.nil _ _ _ _, hb2.setCell (Nat.le_refl _) _⟩
end Go.Proofs.Ytfgnmjnlhnpmoaa.Proper
