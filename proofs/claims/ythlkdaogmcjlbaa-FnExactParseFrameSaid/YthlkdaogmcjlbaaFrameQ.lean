/-
  Walks: reading a frame, in the program.
-/
import Derived.Test.YthlkdaogmcjlbaaFrameP
import Derived.Test.YthlkdaogmcjlbaaFrameH
import Derived.Test.YthlkdaogmcjlbaaMoveQ
import Derived.Deep.DeepCutAuto
import Derived.Deep.RegionHeld3
set_option linter.unusedVariables false
namespace Go.Proofs.Ythlkdaogmcjlbaa.M
theorem byteAt_eq (s : ByteArray) (k : Nat) (h : k < s.size) : byteAt s k = (s[k].toNat : Int) - 48 := by
  unfold byteAt; rw [ba_getD s k h]
end Go.Proofs.Ythlkdaogmcjlbaa.M
namespace Go.Proofs.Ythlkdaogmcjlbaa.FrameQ
open Go.RowKit
/-- a call that returns a frame of its own and a bool. -/
def RetFrameB (w : World) (f : M.Frame) (ok : Bool) (e : Ending) (w' : World) : Prop :=
  ∃ A c, e = .returned (.tuple #[.agg #[.int .i64 f.upper, .int .i64 f.lower, .slice A f.rods.length c], .bool ok]) ∧ K.Row w' w.heap.size 74 2 A f.rods.length c (f.rods.flatMap M.rodCells) ∧ Below w.heap.size w w'
theorem own3 {w : World} {g : Nat} {a b c : Value} (h : K.Own w g [a, b, c]) : w.cell? ⟨g, 0, none⟩ = some a ∧ w.cell? ⟨g, 1, none⟩ = some b ∧ w.cell? ⟨g, 2, none⟩ = some c ∧ w.frozen? ⟨g, 0, none⟩ = false ∧ w.frozen? ⟨g, 1, none⟩ = false ∧ w.frozen? ⟨g, 2, none⟩ = false ∧ g < w.heap.size := ⟨h.1.c3.1, h.1.c3.2.1, h.1.c3.2.2, h.2 0 (by simp), h.2 1 (by simp), h.2 2 (by simp), h.1.1⟩
set_option maxRecDepth 100000 in
set_option maxHeartbeats 4000000 in
theorem i_parse (s : ByteArray) (w : World) (hs : s.size ≤ 1048576) :
    Calls Try.prog 59 #[.string s] w (RetFrameB w (M.parseFr s).1 (M.parseFr s).2) := by
  obtain ⟨i0, hi0, hz0, hz1, hz2⟩ := info_parts Pair.info2
  obtain ⟨oz, hoz⟩ : ∃ o : Obj, o = .cells #[.int .i64 0, .int .i64 0, .slice none 0 0] 33 := ⟨_, rfl⟩
  have res : K.Own (w.alloc oz) w.heap.size [.int .i64 0, .int .i64 0, .slice none 0 0] := by rw [hoz]; exact K.Own.new w #[.int .i64 0, .int .i64 0, .slice none 0 0] 33
  have b0 : Below w.heap.size w (w.alloc oz) := (Below.refl _ _).alloc (Nat.le_refl _) _
  have hs0 : (w.alloc oz).heap.size = w.heap.size + 1 := World.size_alloc _ _
  subst hoz
  by_cases h6 : s.size < 6
  · have t1 : decide ((s.size : Int) < 6) = true := decide_eq_true (by omega)
    rw [M.parseFr_size (.inl h6)]
    clear h6
    go_enter Try.func59, Try.ntmps59
    go_wp2_with fail
    exact bodyPost_ret (v := .tuple #[.agg #[.int .i64 0, .int .i64 0, .slice none 0 0], .bool false]) (by simp [results, Try.results59, go_sem, *]) rfl ⟨none, 0, rfl, K.Row.nil _ _ _ _, by (repeat (first | exact Below.refl _ _ | assumption | (refine K.below_drewN ?_ _) | (refine Below.drew ?_) | (refine Below.alloc ?_ (by first | (simp; done) | (simp; omega) | omega) _) | (refine Below.setCell ?_ (by first | (simp; done) | (simp; omega) | omega) _)))⟩
  have t1 : decide ((s.size : Int) < 6) = false := decide_eq_false (by omega)
  by_cases h27 : 27 < s.size
  · have t2 : decide ((27 : Int) < (s.size : Int)) = true := decide_eq_true (by omega)
    rw [M.parseFr_size (.inr (.inl h27))]
    clear h6 h27
    go_enter Try.func59, Try.ntmps59
    go_wp2_with fail
    exact bodyPost_ret (v := .tuple #[.agg #[.int .i64 0, .int .i64 0, .slice none 0 0], .bool false]) (by simp [results, Try.results59, go_sem, *]) rfl ⟨none, 0, rfl, K.Row.nil _ _ _ _, by (repeat (first | exact Below.refl _ _ | assumption | (refine K.below_drewN ?_ _) | (refine Below.drew ?_) | (refine Below.alloc ?_ (by first | (simp; done) | (simp; omega) | omega) _) | (refine Below.setCell ?_ (by first | (simp; done) | (simp; omega) | omega) _)))⟩
  have t2 : decide ((27 : Int) < (s.size : Int)) = false := decide_eq_false (by omega)
  by_cases h3 : s.size % 3 = 0
  rotate_left
  · have t3 : ((s.size : Int) % 3 != 0) = true := by rw [bne_iff_ne]; omega
    rw [M.parseFr_size (.inr (.inr h3))]
    clear h6 h27 h3
    go_enter Try.func59, Try.ntmps59
    go_wp2_with fail
    exact bodyPost_ret (v := .tuple #[.agg #[.int .i64 0, .int .i64 0, .slice none 0 0], .bool false]) (by simp [results, Try.results59, go_sem, *]) rfl ⟨none, 0, rfl, K.Row.nil _ _ _ _, by (repeat (first | exact Below.refl _ _ | assumption | (refine K.below_drewN ?_ _) | (refine Below.drew ?_) | (refine Below.alloc ?_ (by first | (simp; done) | (simp; omega) | omega) _) | (refine Below.setCell ?_ (by first | (simp; done) | (simp; omega) | omega) _)))⟩
  have t3 : ((s.size : Int) % 3 != 0) = false := by simp; omega
  obtain ⟨n, hn⟩ : ∃ n, n = s.size / 3 - 1 := ⟨_, rfl⟩
  have hn3 : s.size = 3 * n + 3 := by omega
  have hn8 : n ≤ 8 := by omega
  have p0 : 0 < s.size := by omega
  have p2 : 2 < s.size := by omega
  have k2 : (2 : Int) < (s.size : Int) := by omega
  obtain ⟨u, hu⟩ : ∃ u : Int, u = (s[0].toNat : Int) - 48 := ⟨_, rfl⟩
  obtain ⟨v, hv⟩ : ∃ v : Int, v = (s[2].toNat : Int) - 48 := ⟨_, rfl⟩
  have HDF : Hid (M.decFrame s = ⟨u, v, M.decRods s n⟩) := Lib.hid (by unfold M.decFrame; rw [M.byteAt_eq s 0 p0, M.byteAt_eq s 2 p2, hu, hv, hn])
  have HY := Lib.hid (fun h h1 => M.parseFr_yes (s := s) h h1)
  have HN := Lib.hid (fun h => M.parseFr_no (s := s) h)
  rw [HDF.out] at HY HN
  have HT := Lib.hid (fun j => M.decRods_succ s j)
  have HLN := Lib.hid (fun j => M.decRods_len s j)
  generalize M.parseFr s = RR at *
  have hn3a : s.size ≤ 3 * n + 3 := by omega
  have hn3b : 3 * n + 3 ≤ s.size := by omega
  clear h6 h27 h3 hn hn3
  obtain ⟨a0, a1⟩ := M.u8_bd s[0]
  obtain ⟨d0, d1⟩ := M.u8_bd s[2]
  have sa : IntKind.i64.wrap ((s[0].toNat : Int) - 48) = (s[0].toNat : Int) - 48 := IntWalk.i64_in _ (by omega)
  have sd : IntKind.i64.wrap ((s[2].toNat : Int) - 48) = (s[2].toNat : Int) - 48 := IntWalk.i64_in _ (by omega)
  obtain ⟨W, hW⟩ : ∃ X, X = ((w.alloc (.cells #[.int .i64 0, .int .i64 0, .slice none 0 0] 33)).alloc (.cells #[.int .i64 ((s[0].toNat : Int) - 48), .int .i64 ((s[2].toNat : Int) - 48), .slice none 0 0] 33)).drew := ⟨_, rfl⟩
  have own : K.Own W (w.heap.size + 1) [.int .i64 u, .int .i64 v, .slice none 0 0] := by rw [hW, hu, hv]; have h := K.Own.new (w.alloc (.cells #[.int .i64 0, .int .i64 0, .slice none 0 0] 33)) #[.int .i64 ((s[0].toNat : Int) - 48), .int .i64 ((s[2].toNat : Int) - 48), .slice none 0 0] 33; rw [hs0] at h; exact h
  have res1 : K.Own W w.heap.size [.int .i64 0, .int .i64 0, .slice none 0 0] := by rw [hW]; exact res.alloc _
  have b1 : Below w.heap.size w W := by rw [hW]; exact (b0.alloc b0.size _).drew
  have hws : W.heap.size = w.heap.size + 1 + 1 := by rw [hW]; simp
  have e1 : K.Row W (w.heap.size + 1 + 1) 74 2 none 0 0 [] := K.Row.nil _ _ _ _
  clear hu hv
  go_enter Try.func59, Try.ntmps59
  go_wp2_with fail
  go_region
  rw [← hW]
  clear hW sa sd a0 a1 d0 d1 res b0 hs0
  obtain ⟨q0, q1, q2, q3, q4, q5, qg⟩ := own3 own
  go_wp2_with fail
  go_loopw [5] (fun i wr => ∃ (m j : Nat) (A : Option Addr) (d : Nat), j ≤ n ∧ i = .int .i64 (m : Int) ∧ Hid (m = 3 * j + 3) ∧ Hid (K.Own wr (w.heap.size + 1) [.int .i64 u, .int .i64 v, .slice A j d]) ∧ Hid (K.Own wr w.heap.size [.int .i64 0, .int .i64 0, .slice none 0 0]) ∧ Hid (K.Row wr (w.heap.size + 1 + 1) 74 2 A j d ((M.decRods s j).flatMap M.rodCells)) ∧ Hid (Below w.heap.size w wr) ∧ w.heap.size + 1 + 1 ≤ wr.heap.size) (fun i _ => s.size - (intOf i).toNat)
  case atStart => exact ⟨3, 0, none, 0, Nat.zero_le _, rfl, Lib.hid rfl, Lib.hid own, Lib.hid res1, Lib.hid e1, Lib.hid b1, by omega⟩
  case round =>
    clear own res1 b1 e1 hws q0 q1 q2 q3 q4 q5 qg
    obtain ⟨m, j, A, d, hj, rfl, HM, HOWN, HRES, HROW, HB, hsz⟩ := hrel
    have hm := HM.out
    by_cases hlt : j < n
    · have x1 : m + 1 < s.size := by omega
      have x2 : m + 2 < s.size := by omega
      have x0 : (m : Int) < (s.size : Int) := by omega
      have k1 : (m : Int) + 1 < (s.size : Int) := by omega
      have k3 : (m : Int) + 2 < (s.size : Int) := by omega
      have y1 : (0 : Int) ≤ (m : Int) + 1 := by omega
      have y2 : (0 : Int) ≤ (m : Int) + 2 := by omega
      have w1 : IntKind.i64.wrap ((m : Int) + 1) = (m : Int) + 1 := IntWalk.i64_in _ (by omega)
      have w2 : IntKind.i64.wrap ((m : Int) + 2) = (m : Int) + 2 := IntWalk.i64_in _ (by omega)
      have n1 : ((m : Int) + 1).toNat = m + 1 := by omega
      have n2 : ((m : Int) + 2).toNat = m + 2 := by omega
      obtain ⟨a0, a1⟩ := M.u8_bd s[m + 1]
      obtain ⟨d0, d1⟩ := M.u8_bd s[m + 2]
      have sa : IntKind.i64.wrap ((s[m + 1].toNat : Int) - 48) = (s[m + 1].toNat : Int) - 48 := IntWalk.i64_in _ (by omega)
      have sd : IntKind.i64.wrap ((s[m + 2].toNat : Int) - 48) = (s[m + 2].toNat : Int) - 48 := IntWalk.i64_in _ (by omega)
      have wa : IntKind.i64.wrap (s[m + 1].toNat : Int) = (s[m + 1].toNat : Int) := IntWalk.i64_in _ (by omega)
      have wd : IntKind.i64.wrap (s[m + 2].toNat : Int) = (s[m + 2].toNat : Int) := IntWalk.i64_in _ (by omega)
      have HTJ := Lib.hid (show M.decRods s (j + 1) = M.decRods s j ++ [((s[m + 1].toNat : Int) - 48, (s[m + 2].toNat : Int) - 48)] by rw [HT.out, ← M.byteAt_eq s (m + 1) x1, ← M.byteAt_eq s (m + 2) x2, show m + 1 = 3 * j + 4 by omega, show m + 2 = 3 * j + 5 by omega])
      have hj2 : j + 1 ≤ maxLen := by simp only [maxLen]; omega
      have hj8 : j ≤ 8 := by omega
      clear hm
      go_upto_region 7 with fail
      obtain ⟨W0, hW0⟩ : ∃ X, X = wr.drew := ⟨_, rfl⟩
      have own : K.Own W0 (w.heap.size + 1) [.int .i64 u, .int .i64 v, .slice A j d] := by rw [hW0]; exact HOWN.out.drew
      have RES := Lib.hid (show K.Own W0 w.heap.size [.int .i64 0, .int .i64 0, .slice none 0 0] by rw [hW0]; exact HRES.out.drew)
      have ROW := Lib.hid (show K.Row W0 (w.heap.size + 1 + 1) 74 2 A j d ((M.decRods s j).flatMap M.rodCells) by rw [hW0]; exact HROW.out.drew)
      have BB := Lib.hid (show Below w.heap.size w W0 by rw [hW0]; exact HB.out.drew)
      have hsz0 : w.heap.size + 1 + 1 ≤ W0.heap.size := by rw [hW0]; exact hsz
      refine wp_region_held_drew (S := fun _ => True) (by kernel_rfl) trivial (fun hHeld => ?_)
      rw [← hW0]
      clear hW0 HOWN HRES HROW HB hsz
      refine K.takeL 0 (v := ?_) rfl (by kernel_rfl) (by kernel_rfl) (by kernel_rfl) (fun _ _ _ h => h) (Or.inl ⟨rfl, ?_⟩) (by assumption) ?_
      rotate_left
      · intro w hSw; (try dsimp only at hSw); first | (go_simp; done) | (go_simp; with_reducible rfl)
      simp only [Act.put, List.setIfInBounds_toArray, List.set_cons_zero, List.set_cons_succ]
      refine K.takeL 2 (v := ?_) rfl (by kernel_rfl) (by kernel_rfl) (by kernel_rfl) (fun _ _ _ h => h) (Or.inl ⟨rfl, ?_⟩) (by assumption) ?_
      rotate_left
      · intro w hSw; (try dsimp only at hSw); first | (go_simp; done) | (go_simp; with_reducible rfl)
      simp only [Act.put, List.setIfInBounds_toArray, List.set_cons_zero, List.set_cons_succ]
      refine K.takeL 3 (v := ?_) rfl (by kernel_rfl) (by kernel_rfl) (by kernel_rfl) (fun _ _ _ h => h) (Or.inl ⟨rfl, ?_⟩) (by assumption) ?_
      rotate_left
      · intro w hSw; (try dsimp only at hSw); first | (go_simp; done) | (go_simp; with_reducible rfl)
      simp only [Act.put, List.setIfInBounds_toArray, List.set_cons_zero, List.set_cons_succ]
      refine K.takeL 4 (v := ?_) rfl (by kernel_rfl) (by kernel_rfl) (by kernel_rfl) (fun _ _ _ h => h) (Or.inl ⟨rfl, ?_⟩) (by assumption) ?_
      rotate_left
      · intro w hSw; (try dsimp only at hSw); first | (go_simp; done) | (go_simp; with_reducible rfl)
      simp only [Act.put, List.setIfInBounds_toArray, List.set_cons_zero, List.set_cons_succ]
      refine K.takeL 5 (v := ?_) rfl (by kernel_rfl) (by kernel_rfl) (by kernel_rfl) (fun _ _ _ h => h) (Or.inl ⟨rfl, ?_⟩) (by assumption) ?_
      rotate_left
      · intro w hSw; (try dsimp only at hSw); first | (go_simp; done) | (go_simp; with_reducible rfl)
      simp only [Act.put, List.setIfInBounds_toArray, List.set_cons_zero, List.set_cons_succ]
      refine K.takeL 6 (v := ?_) rfl (by kernel_rfl) (by kernel_rfl) (by kernel_rfl) (fun _ _ _ h => h) (Or.inl ⟨rfl, ?_⟩) (by assumption) ?_
      rotate_left
      · intro w hSw; (try dsimp only at hSw); first | (go_simp; done) | (go_simp; with_reducible rfl)
      simp only [Act.put, List.setIfInBounds_toArray, List.set_cons_zero, List.set_cons_succ]
      refine K.takeL 7 (v := ?_) rfl (by kernel_rfl) (by kernel_rfl) (by kernel_rfl) (fun _ _ _ h => h) (Or.inl ⟨rfl, ?_⟩) (by assumption) ?_
      rotate_left
      · intro w hSw; (try dsimp only at hSw); first | (go_simp; done) | (go_simp; with_reducible rfl)
      simp only [Act.put, List.setIfInBounds_toArray, List.set_cons_zero, List.set_cons_succ]
      refine K.takeL 8 (v := ?_) rfl (by kernel_rfl) (by kernel_rfl) (by kernel_rfl) (fun _ _ _ h => h) (Or.inl ⟨rfl, ?_⟩) (by assumption) ?_
      rotate_left
      · intro w hSw; (try dsimp only at hSw); first | (go_simp; done) | (go_simp; with_reducible rfl)
      simp only [Act.put, List.setIfInBounds_toArray, List.set_cons_zero, List.set_cons_succ]
      refine K.takeL 9 (v := ?_) rfl (by kernel_rfl) (by kernel_rfl) (by kernel_rfl) (fun _ _ _ h => h) (Or.inl ⟨rfl, ?_⟩) (by assumption) ?_
      rotate_left
      · intro w hSw; (try dsimp only at hSw); first | (go_simp; done) | (go_simp; with_reducible rfl)
      simp only [Act.put, List.setIfInBounds_toArray, List.set_cons_zero, List.set_cons_succ]
      refine K.takeL 10 (v := ?_) rfl (by kernel_rfl) (by kernel_rfl) (by kernel_rfl) (fun _ _ _ h => h) (Or.inl ⟨rfl, ?_⟩) (by assumption) ?_
      rotate_left
      · intro w hSw; (try dsimp only at hSw); first | (go_simp; done) | (go_simp; with_reducible rfl)
      simp only [Act.put, List.setIfInBounds_toArray, List.set_cons_zero, List.set_cons_succ]
      refine K.takeL 11 (v := ?_) rfl (by kernel_rfl) (by kernel_rfl) (by kernel_rfl) (fun _ _ _ h => h) (Or.inl ⟨rfl, ?_⟩) (by assumption) ?_
      rotate_left
      · intro w hSw; (try dsimp only at hSw); first | (go_simp; done) | (go_simp; with_reducible rfl)
      simp only [Act.put, List.setIfInBounds_toArray, List.set_cons_zero, List.set_cons_succ]
      refine K.takeL 12 (v := ?_) rfl (by kernel_rfl) (by kernel_rfl) (by kernel_rfl) (fun _ _ _ h => h) (Or.inl ⟨rfl, ?_⟩) (by assumption) ?_
      rotate_left
      · intro w hSw; (try dsimp only at hSw); first | (go_simp; done) | (go_simp; with_reducible rfl)
      simp only [Act.put, List.setIfInBounds_toArray, List.set_cons_zero, List.set_cons_succ]
      refine K.takeL 13 (v := ?_) rfl (by kernel_rfl) (by kernel_rfl) (by kernel_rfl) (fun _ _ _ h => h) (Or.inl ⟨rfl, ?_⟩) (by assumption) ?_
      rotate_left
      · intro w hSw; (try dsimp only at hSw); first | (go_simp; done) | (go_simp; with_reducible rfl)
      simp only [Act.put, List.setIfInBounds_toArray, List.set_cons_zero, List.set_cons_succ]
      refine K.takeL 14 (v := ?_) rfl (by kernel_rfl) (by kernel_rfl) (by kernel_rfl) (fun _ _ _ h => h) (Or.inl ⟨rfl, ?_⟩) (by assumption) ?_
      rotate_left
      · intro w hSw; (try dsimp only at hSw); first | (go_simp; done) | (go_simp; with_reducible rfl)
      simp only [Act.put, List.setIfInBounds_toArray, List.set_cons_zero, List.set_cons_succ]
      refine wpAnyH_ready (rs := [1, 15]) (by kernel_rfl) (by simp) (AllReadyH.cons (by rfl) (fun KK hK => ?_) (AllReadyH.cons (by rfl) (fun KK hK => ?_) AllReadyH.nil))
      · skip
        obtain ⟨q0, q1, q2, q3, q4, q5, qg⟩ := own3 own
        go_simp
        clear q0 q1 q2 q3 q4 q5 qg
        refine hK.out _ _ trivial (fun hHeld => ?_)
        clear hK KK
        try simp only [Act.put, List.setIfInBounds_toArray, List.set_cons_zero, List.set_cons_succ]
        refine K.consL 15 rfl (by kernel_rfl) (fun KK hK => ?_)
        go_simp
        have own2 := own.alloc (.cells #[.int .i64 ((s[m + 1].toNat : Int) - 48), .int .i64 ((s[m + 2].toNat : Int) - 48)] 74)
        have RES2 := Lib.hid (RES.out.alloc (.cells #[.int .i64 ((s[m + 1].toNat : Int) - 48), .int .i64 ((s[m + 2].toNat : Int) - 48)] 74))
        have ROW2 := Lib.hid (ROW.out.alloc (.cells #[.int .i64 ((s[m + 1].toNat : Int) - 48), .int .i64 ((s[m + 2].toNat : Int) - 48)] 74))
        have BB2 := Lib.hid (BB.out.alloc BB.out.size (.cells #[.int .i64 ((s[m + 1].toNat : Int) - 48), .int .i64 ((s[m + 2].toNat : Int) - 48)] 74))
        have hsz2 : w.heap.size + 1 + 1 ≤ (W0.alloc (.cells #[.int .i64 ((s[m + 1].toNat : Int) - 48), .int .i64 ((s[m + 2].toNat : Int) - 48)] 74)).heap.size := by rw [World.size_alloc]; omega
        have rn := K.Rd.new W0 #[.int .i64 ((s[m + 1].toNat : Int) - 48), .int .i64 ((s[m + 2].toNat : Int) - 48)] 74 1 2 rfl
        refine hK.out _ _ trivial (fun hHeld => ?_)
        clear hK KK
        try simp only [Act.put, List.setIfInBounds_toArray, List.set_cons_zero, List.set_cons_succ]
        refine K.consL 16 rfl (by kernel_rfl) (fun KK hK => ?_)
        refine K.stepN (by rfl) (.tmp 37) (.tmp 51) _ (by rfl) (w.heap.size + 1 + 1) _ i0 _ 2 16 Try.underlying28 hi0 hz0 hz1 hz2 rfl (by omega) A j d _ (by rfl) ROW2.out (some ⟨W0.heap.size, 0, none⟩) 1 1 #[.int .i64 ((s[m + 1].toNat : Int) - 48), .int .i64 ((s[m + 2].toNat : Int) - 48)].toList (by rfl) rn (by simp [Value.oneCell']) hj2 (by omega) hsz2 ?_
        intro A4 c4 w4 hrow4 hb4 hgr4 hat4
        have own4 := own2.low hb4 (by omega)
        have RES4 := Lib.hid (RES2.out.low hb4 (by omega))
        have BB4 := Lib.hid (BB2.out.trans (hb4.mono (by omega)))
        have hsz4 : w.heap.size + 1 + 1 ≤ w4.heap.size := by have := hb4.size; omega
        refine hK.out _ _ trivial (fun hHeld => ?_)
        clear hK KK
        try simp only [Act.put, List.setIfInBounds_toArray, List.set_cons_zero, List.set_cons_succ]
        refine K.takeL 17 (v := ?_) rfl (by kernel_rfl) (by kernel_rfl) (by kernel_rfl) (fun _ _ _ h => h) (Or.inl ⟨rfl, ?_⟩) (by assumption) ?_
        rotate_left
        · intro w hSw; (try dsimp only at hSw); first | (go_simp; done) | (go_simp; with_reducible rfl)
        simp only [Act.put, List.setIfInBounds_toArray, List.set_cons_zero, List.set_cons_succ]
        refine K.consL 18 rfl (by kernel_rfl) (fun KK hK => ?_)
        obtain ⟨q0, q1, q2, q3, q4, q5, qg⟩ := own3 own4
        go_simp
        clear q0 q1 q2 q3 q4 q5 qg
        refine hK.out _ _ trivial (fun hHeld => ?_)
        clear hK KK
        try simp only [Act.put, List.setIfInBounds_toArray, List.set_cons_zero, List.set_cons_succ]
        refine wpAnyH_done (by kernel_rfl) ?_ _
        have HO5 := Lib.hid (own4.set_ 2 (by simp) (.slice A4 (j + 1) c4))
        have HR5 := Lib.hid (RES4.out.setOther (p := ⟨w.heap.size + 1, 2, none⟩) (by simp) (.slice A4 (j + 1) c4))
        have HW5 := Lib.hid (hrow4.setOther (p := ⟨w.heap.size + 1, 2, none⟩) (by simp) (.slice A4 (j + 1) c4))
        have HB5 := Lib.hid (BB4.out.setCell (p := ⟨w.heap.size + 1, 2, none⟩) (by simp) (.slice A4 (j + 1) c4))
        obtain ⟨W5, hW5⟩ : ∃ X, X = w4.setCell ⟨w.heap.size + 1, 2, none⟩ (.slice A4 (j + 1) c4) := ⟨_, rfl⟩
        have hsz5 : w.heap.size + 1 + 1 ≤ W5.heap.size := by rw [hW5]; simpa using hsz4
        rw [← hW5] at HO5 HR5 HW5 HB5
        try rw [← hW5]
        clear hW5 own4 RES4 BB4 hsz4 hrow4 hb4
        go_wp2_with fail
        go_roundw
        case rel => exact ⟨m + 3, j + 1, A4, c4, by omega, by go_num, Lib.hid (by have := HM.out; omega), HO5, HR5, Lib.hid (by rw [HTJ.out, List.flatMap_append]; simpa [M.rodCells] using HW5.out), HB5, hsz5⟩
        case measure => simp [intOf]; omega
      · skip
        go_simp
        have own2 := own.alloc (.cells #[.int .i64 ((s[m + 1].toNat : Int) - 48), .int .i64 ((s[m + 2].toNat : Int) - 48)] 74)
        have RES2 := Lib.hid (RES.out.alloc (.cells #[.int .i64 ((s[m + 1].toNat : Int) - 48), .int .i64 ((s[m + 2].toNat : Int) - 48)] 74))
        have ROW2 := Lib.hid (ROW.out.alloc (.cells #[.int .i64 ((s[m + 1].toNat : Int) - 48), .int .i64 ((s[m + 2].toNat : Int) - 48)] 74))
        have BB2 := Lib.hid (BB.out.alloc BB.out.size (.cells #[.int .i64 ((s[m + 1].toNat : Int) - 48), .int .i64 ((s[m + 2].toNat : Int) - 48)] 74))
        have hsz2 : w.heap.size + 1 + 1 ≤ (W0.alloc (.cells #[.int .i64 ((s[m + 1].toNat : Int) - 48), .int .i64 ((s[m + 2].toNat : Int) - 48)] 74)).heap.size := by rw [World.size_alloc]; omega
        have rn := K.Rd.new W0 #[.int .i64 ((s[m + 1].toNat : Int) - 48), .int .i64 ((s[m + 2].toNat : Int) - 48)] 74 1 2 rfl
        refine hK.out _ _ trivial (fun hHeld => ?_)
        clear hK KK
        try simp only [Act.put, List.setIfInBounds_toArray, List.set_cons_zero, List.set_cons_succ]
        refine K.consL 1 rfl (by kernel_rfl) (fun KK hK => ?_)
        obtain ⟨q0, q1, q2, q3, q4, q5, qg⟩ := own3 own2
        go_simp
        clear q0 q1 q2 q3 q4 q5 qg
        refine hK.out _ _ trivial (fun hHeld => ?_)
        clear hK KK
        try simp only [Act.put, List.setIfInBounds_toArray, List.set_cons_zero, List.set_cons_succ]
        refine K.consL 16 rfl (by kernel_rfl) (fun KK hK => ?_)
        refine K.stepN (by rfl) (.tmp 37) (.tmp 51) _ (by rfl) (w.heap.size + 1 + 1) _ i0 _ 2 16 Try.underlying28 hi0 hz0 hz1 hz2 rfl (by omega) A j d _ (by rfl) ROW2.out (some ⟨W0.heap.size, 0, none⟩) 1 1 #[.int .i64 ((s[m + 1].toNat : Int) - 48), .int .i64 ((s[m + 2].toNat : Int) - 48)].toList (by rfl) rn (by simp [Value.oneCell']) hj2 (by omega) hsz2 ?_
        intro A4 c4 w4 hrow4 hb4 hgr4 hat4
        have own4 := own2.low hb4 (by omega)
        have RES4 := Lib.hid (RES2.out.low hb4 (by omega))
        have BB4 := Lib.hid (BB2.out.trans (hb4.mono (by omega)))
        have hsz4 : w.heap.size + 1 + 1 ≤ w4.heap.size := by have := hb4.size; omega
        refine hK.out _ _ trivial (fun hHeld => ?_)
        clear hK KK
        try simp only [Act.put, List.setIfInBounds_toArray, List.set_cons_zero, List.set_cons_succ]
        refine K.takeL 17 (v := ?_) rfl (by kernel_rfl) (by kernel_rfl) (by kernel_rfl) (fun _ _ _ h => h) (Or.inl ⟨rfl, ?_⟩) (by assumption) ?_
        rotate_left
        · intro w hSw; (try dsimp only at hSw); first | (go_simp; done) | (go_simp; with_reducible rfl)
        simp only [Act.put, List.setIfInBounds_toArray, List.set_cons_zero, List.set_cons_succ]
        refine K.consL 18 rfl (by kernel_rfl) (fun KK hK => ?_)
        obtain ⟨q0, q1, q2, q3, q4, q5, qg⟩ := own3 own4
        go_simp
        clear q0 q1 q2 q3 q4 q5 qg
        refine hK.out _ _ trivial (fun hHeld => ?_)
        clear hK KK
        try simp only [Act.put, List.setIfInBounds_toArray, List.set_cons_zero, List.set_cons_succ]
        refine wpAnyH_done (by kernel_rfl) ?_ _
        have HO5 := Lib.hid (own4.set_ 2 (by simp) (.slice A4 (j + 1) c4))
        have HR5 := Lib.hid (RES4.out.setOther (p := ⟨w.heap.size + 1, 2, none⟩) (by simp) (.slice A4 (j + 1) c4))
        have HW5 := Lib.hid (hrow4.setOther (p := ⟨w.heap.size + 1, 2, none⟩) (by simp) (.slice A4 (j + 1) c4))
        have HB5 := Lib.hid (BB4.out.setCell (p := ⟨w.heap.size + 1, 2, none⟩) (by simp) (.slice A4 (j + 1) c4))
        obtain ⟨W5, hW5⟩ : ∃ X, X = w4.setCell ⟨w.heap.size + 1, 2, none⟩ (.slice A4 (j + 1) c4) := ⟨_, rfl⟩
        have hsz5 : w.heap.size + 1 + 1 ≤ W5.heap.size := by rw [hW5]; simpa using hsz4
        rw [← hW5] at HO5 HR5 HW5 HB5
        try rw [← hW5]
        clear hW5 own4 RES4 BB4 hsz4 hrow4 hb4
        go_wp2_with fail
        go_roundw
        case rel => exact ⟨m + 3, j + 1, A4, c4, by omega, by go_num, Lib.hid (by have := HM.out; omega), HO5, HR5, Lib.hid (by rw [HTJ.out, List.flatMap_append]; simpa [M.rodCells] using HW5.out), HB5, hsz5⟩
        case measure => simp [intOf]; omega
    · obtain rfl : j = n := by omega
      have x0 : (s.size : Int) ≤ (m : Int) := by omega
      clear hm
      have HL := Lib.hid (HLN.out j)
      generalize M.decRods s j = L at *
      have hLn : L.length ≤ 1048576 := by rw [HL.out]; omega
      have HG := Lib.hid (fun w h => Frame.i_isframe ⟨u, v, L⟩ A d w hLn h)
      dsimp only at HG
      rw [HL.out] at HG
      obtain ⟨q0, q1, q2, q3, q4, q5, qg⟩ := own3 HOWN.out
      cases hok : M.Frame.ok ⟨u, v, L⟩ with
      | false =>
        have HE := Lib.hid (HN.out (fun h => by rw [hok] at h; exact absurd h.1 (by simp)))
        rw [hok] at HG
        clear hok HN HY
        go_wp2_with fail
        refine (HG.out _ HROW.out.rd).mono ?_
        rintro e w3 ⟨rfl, b3⟩
        have b5 := HB.out.trans (b3.mono HB.out.size)
        have HR5 := HRES.out.below b3
        have HO5 := HOWN.out.below b3
        clear q0 q1 q2 q3 q4 q5 qg
        obtain ⟨z0, z1, z2, y0, y1, y2, zg⟩ := own3 HR5
        go_wp2_with fail
        rw [HE.out]
        exact bodyPost_ret (v := .tuple #[.agg #[.int .i64 0, .int .i64 0, .slice none 0 0], .bool false]) (by simp [results, Try.results59, go_sem, *]) rfl ⟨none, 0, rfl, K.Row.nil _ _ _ _, by (repeat (first | exact Below.refl _ _ | assumption | (refine K.below_drewN ?_ _) | (refine Below.drew ?_) | (refine Below.alloc ?_ (by first | (simp; done) | (simp; omega) | omega) _) | (refine Below.setCell ?_ (by first | (simp; done) | (simp; omega) | omega) _)))⟩
      | true =>
        have HTX := Lib.hid (fun w h => FrameT.i_txt ⟨u, v, L⟩ A d w hok h)
        dsimp only at HTX
        rw [HL.out] at HTX
        by_cases hq : M.ftext ⟨u, v, L⟩ = s
        · have HE := Lib.hid (HY.out hok hq)
          have tq := M.str_eq hq
          rw [hok] at HG
          clear hok HN HY hq
          generalize M.ftext ⟨u, v, L⟩ = S2 at *
          go_wp2_with fail
          refine (HG.out _ HROW.out.rd).mono ?_
          rintro e w3 ⟨rfl, b3⟩
          clear q0 q1 q2 q3 q4 q5 qg
          have HO3 := HOWN.out.below b3
          obtain ⟨q0, q1, q2, q3, q4, q5, qg⟩ := own3 HO3
          go_wp2_with fail
          refine (HTX.out _ (HROW.out.rd.below b3)).mono ?_
          rintro e w4 ⟨rfl, b4⟩
          clear q0 q1 q2 q3 q4 q5 qg
          have b34 := b3.trans (b4.mono b3.size)
          have b5 := HB.out.trans (b34.mono HB.out.size)
          have HR5 := HRES.out.below b34
          have HO5 := HOWN.out.below b34
          obtain ⟨q0, q1, q2, q3, q4, q5, qg⟩ := own3 HO5
          obtain ⟨z0, z1, z2, y0, y1, y2, zg⟩ := own3 HR5
          have rw5 := (HROW.out.below b34).more (lo' := w.heap.size) (by omega)
          have hlt := (HROW.out.below b34).lt
          rw [← HL.out] at rw5
          go_wp2_with fail
          rw [HE.out]
          exact bodyPost_ret (v := .tuple #[.agg #[.int .i64 u, .int .i64 v, .slice A j d], .bool true]) (by simp [results, Try.results59, go_sem, *]) rfl ⟨A, d, by rw [← HL.out], by (repeat (first | with_reducible assumption | (with_reducible refine K.Row.setNe ?_ (fun g hg => by have hq := hlt g hg; simp at hq ⊢; omega) _) | (with_reducible refine K.Row.alloc ?_ _) | (with_reducible refine K.Row.drew ?_))), by (repeat (first | exact Below.refl _ _ | assumption | (refine K.below_drewN ?_ _) | (refine Below.drew ?_) | (refine Below.alloc ?_ (by first | (simp; done) | (simp; omega) | omega) _) | (refine Below.setCell ?_ (by first | (simp; done) | (simp; omega) | omega) _)))⟩
        · have HE := Lib.hid (HN.out (fun h => hq h.2))
          have tq := M.str_ne hq
          rw [hok] at HG
          clear hok HN HY hq
          generalize M.ftext ⟨u, v, L⟩ = S2 at *
          go_wp2_with fail
          refine (HG.out _ HROW.out.rd).mono ?_
          rintro e w3 ⟨rfl, b3⟩
          clear q0 q1 q2 q3 q4 q5 qg
          have HO3 := HOWN.out.below b3
          obtain ⟨q0, q1, q2, q3, q4, q5, qg⟩ := own3 HO3
          go_wp2_with fail
          refine (HTX.out _ (HROW.out.rd.below b3)).mono ?_
          rintro e w4 ⟨rfl, b4⟩
          clear q0 q1 q2 q3 q4 q5 qg
          have b34 := b3.trans (b4.mono b3.size)
          have b5 := HB.out.trans (b34.mono HB.out.size)
          have HR5 := HRES.out.below b34
          have HO5 := HOWN.out.below b34
          obtain ⟨z0, z1, z2, y0, y1, y2, zg⟩ := own3 HR5
          go_wp2_with fail
          rw [HE.out]
          exact bodyPost_ret (v := .tuple #[.agg #[.int .i64 0, .int .i64 0, .slice none 0 0], .bool false]) (by simp [results, Try.results59, go_sem, *]) rfl ⟨none, 0, rfl, K.Row.nil _ _ _ _, by (repeat (first | exact Below.refl _ _ | assumption | (refine K.below_drewN ?_ _) | (refine Below.drew ?_) | (refine Below.alloc ?_ (by first | (simp; done) | (simp; omega) | omega) _) | (refine Below.setCell ?_ (by first | (simp; done) | (simp; omega) | omega) _)))⟩
end Go.Proofs.Ythlkdaogmcjlbaa.FrameQ
