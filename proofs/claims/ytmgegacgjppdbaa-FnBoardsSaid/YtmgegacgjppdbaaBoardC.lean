/-
  Walks: how many counters lie on a board.
-/
import Derived.Test.YtmgegacgjppdbaaBoardF
set_option linter.unusedVariables false
namespace Go.Proofs.Ytmgegacgjppdbaa.M
def isum (l : List Int) : Int := l.foldl (fun n x => n + x) 0
theorem isum_succ (l : List Int) (j : Nat) (h : j < l.length) : isum (l.take (j + 1)) = isum (l.take j) + l[j] := by
  unfold isum; rw [List.take_succ_eq_append_getElem h, List.foldl_append]; rfl
theorem isum_bd {l : List Int} (h : ∀ x ∈ l, 0 ≤ x ∧ x ≤ 30) : ∀ j, j ≤ l.length → 0 ≤ isum (l.take j) ∧ isum (l.take j) ≤ 30 * j
  | 0, _ => by simp [isum]
  | j + 1, hj => by
      have ih := isum_bd h j (by omega)
      have := h l[j] (List.getElem_mem _)
      rw [isum_succ _ _ (by omega)]; omega
def counters (l k : List Int) : Int × Bool := if bOk l k = true then (isum l + isum k, true) else (0, false)
theorem counters_yes {l k : List Int} (h : bOk l k = true) : counters l k = (isum l + isum k, true) := by simp [counters, h]
theorem counters_no {l k : List Int} (h : bOk l k = false) : counters l k = (0, false) := by simp [counters, h]
end Go.Proofs.Ytmgegacgjppdbaa.M
namespace Go.Proofs.Ytmgegacgjppdbaa.BoardC
open Go.RowKit
theorem i_sum (A : Option Addr) (c : Nat) (l : List Int) (w : World) (hl : l.length ≤ 6) (hx : ∀ x ∈ l, 0 ≤ x ∧ x ≤ 30) (ha : K.Rd w 1 A l.length (l.map (Value.int .i64))) :
    Calls Try.prog 66 #[.slice A l.length c] w fun e w' => e = .returned (.int .i64 (M.isum l)) ∧ w = w' := by
  have hb := M.isum_bd hx
  go_enter Try.func66, Try.ntmps66
  go_wp2
  go_loopw [8, 3] (fun i n wr => ∃ j : Nat, j ≤ l.length ∧ i = .int .i64 j ∧ n = .int .i64 (M.isum (l.take j)) ∧ w = wr) (fun i _ _ => l.length - (intOf i).toNat)
  case atStart => exact ⟨0, Nat.zero_le _, rfl, by simp [M.isum], by simp⟩
  case round =>
    obtain ⟨j, hj, rfl, rfl, rfl⟩ := hrel
    by_cases hlt : j < l.length
    · obtain ⟨g, o, rfl, hc⟩ := ha.int hlt
      have h1 : (j : Int) < (l.length : Int) := by omega
      have h2 : (0 : Int) ≤ (j : Int) := by omega
      have HS := Lib.hid (M.isum_succ l j hlt)
      obtain ⟨b1, b2⟩ := hb j hj
      obtain ⟨x1, x2⟩ := hx l[j] (List.getElem_mem _)
      clear hx hb
      generalize l[j] = x at *
      generalize M.isum (l.take j) = n at *
      go_wp2
      go_roundw
      case rel => exact ⟨j + 1, by omega, by go_num, by rw [HS.out], trivial⟩
      case measure => simp [intOf]; omega
    · obtain rfl : j = l.length := by omega
      rw [List.take_length]
      go_wp2
      go_ret
      exact ⟨rfl, rfl⟩
set_option maxHeartbeats 1000000 in
theorem i_counters (A : Option Addr) (c : Nat) (l : List Int) (B : Option Addr) (d : Nat) (k : List Int) (w : World) (hl : l.length ≤ 1048576) (hk : k.length ≤ 1048576) (ha : K.Rd w 1 A l.length (l.map (Value.int .i64))) (hb : K.Rd w 1 B k.length (k.map (Value.int .i64))) :
    Calls Try.prog 28 #[.agg #[.slice A l.length c, .slice B k.length d]] w fun e w' => e = .returned (.tuple #[.int .i64 (M.counters l k).1, .bool (M.counters l k).2]) ∧ Below w.heap.size w w' := by
  obtain ⟨o, ho⟩ : ∃ o : Obj, o = .cells #[.slice A l.length c, .slice B k.length d] 27 := ⟨_, rfl⟩
  have r0 := ha.alloc o
  have t0 := hb.alloc o
  have x0 : K.Box (w.alloc o) w.heap.size [.slice A l.length c, .slice B k.length d] := by rw [ho]; exact K.Box.new _ _ _
  have b0 : Below w.heap.size w (w.alloc o) := (Below.refl w.heap.size w).alloc (Nat.le_refl _) _
  subst ho
  have HS := Lib.hid (BoardF.i_board A c l B d k _ hl hk r0 t0)
  cases hok : M.bOk l k with
  | false =>
    rw [hok] at HS
    rw [M.counters_no hok]
    clear hok
    go_enter Try.func28, Try.ntmps28
    go_wp2_with fail
    refine HS.out.mono ?_
    rintro e w1 ⟨rfl, b1⟩
    have hbb := b0.trans (b1.mono b0.size)
    clear b0 b1
    go_wp2_with fail
    go_ret2
    exact ⟨rfl, hbb⟩
  | true =>
    rw [hok] at HS
    rw [M.counters_yes hok]
    obtain ⟨⟨hl1, hl6⟩, he, hx, hy⟩ := (M.bOk_iff l k).1 hok
    have hk6 : k.length ≤ 6 := by omega
    have HL := Lib.hid (fun w h => i_sum A c l w hl6 hx h)
    have HK := Lib.hid (fun w h => i_sum B d k w hk6 hy h)
    have hbx := M.isum_bd hx l.length (Nat.le_refl _)
    have hby := M.isum_bd hy k.length (Nat.le_refl _)
    rw [List.take_length] at hbx hby
    obtain ⟨x1, x2⟩ := hbx
    obtain ⟨y1, y2⟩ := hby
    generalize M.isum l = a at *
    generalize M.isum k = b at *
    have q : IntKind.i64.wrap (a + b) = a + b := IntWalk.i64_in _ (by omega)
    clear hok he hx hy
    go_enter Try.func28, Try.ntmps28
    go_wp2_with fail
    refine HS.out.mono ?_
    rintro e w1 ⟨rfl, b1⟩
    have hbb := b0.trans (b1.mono b0.size)
    have x1 := x0.below b1
    have r1 := r0.below b1
    have t1 := t0.below b1
    obtain ⟨q0, q1⟩ := x1.c2
    have xg := x1.1
    clear b0 b1 x0 r0 t0 ha hb
    go_wp2_with fail
    go_quiet ((go_at_call 66; first | (with_reducible exact K.quiet_l (HL.out _ (r1.drewN _))) | (with_reducible exact K.quiet_l (HK.out _ (t1.drewN _)))))
    clear q
    go_wp2_with fail
    go_ret2
    exact ⟨rfl, K.below_drewN hbb _⟩
set_option maxHeartbeats 2000000 in
theorem s_counters (A : Option Addr) (c : Nat) (l : List Int) (B : Option Addr) (d : Nat) (k : List Int) (w : World) (hl : l.length ≤ 1048576) (hk : k.length ≤ 1048576) (ha : K.Rd w 1 A l.length (l.map (Value.int .i64))) (hb : K.Rd w 1 B k.length (k.map (Value.int .i64))) :
    Calls Try.prog 27 #[.agg #[.slice A l.length c, .slice B k.length d]] w fun e w' => e = .returned (.tuple #[.int .i64 (M.counters l k).1, .bool (M.counters l k).2]) ∧ Below w.heap.size w w' := by
  obtain ⟨o, ho⟩ : ∃ o : Obj, o = .cells #[.slice A l.length c, .slice B k.length d] 27 := ⟨_, rfl⟩
  have r0 := ha.alloc o
  have t0 := hb.alloc o
  have x0 : K.Box (w.alloc o) w.heap.size [.slice A l.length c, .slice B k.length d] := by rw [ho]; exact K.Box.new _ _ _
  have b0 : Below w.heap.size w (w.alloc o) := (Below.refl w.heap.size w).alloc (Nat.le_refl _) _
  subst ho
  have HS := Lib.hid (BoardF.s_good A c l B d k _ hl hk r0 t0)
  cases hok : M.bOk l k with
  | false =>
    rw [hok] at HS
    rw [M.counters_no hok]
    clear hok
    go_enter Try.func27, Try.ntmps27
    go_wp2_with fail
    refine HS.out.mono ?_
    rintro e w1 ⟨rfl, b1⟩
    have hbb := b0.trans (b1.mono b0.size)
    clear b0 b1
    go_wp2_with fail
    go_ret2
    exact ⟨rfl, hbb⟩
  | true =>
    rw [hok] at HS
    rw [M.counters_yes hok]
    obtain ⟨⟨hl1, hl6⟩, he, hx, hy⟩ := (M.bOk_iff l k).1 hok
    have he1 : l.length ≤ k.length := by omega
    have HE := Lib.hid he
    have hbx := M.isum_bd hx
    have hby := M.isum_bd hy
    clear hok he
    go_enter Try.func27, Try.ntmps27
    go_wp2_with fail
    refine HS.out.mono ?_
    rintro e w1 ⟨rfl, b1⟩
    have hbb := b0.trans (b1.mono b0.size)
    have x1 := x0.below b1
    have r1 := r0.below b1
    have t1 := t0.below b1
    obtain ⟨q0, q1⟩ := x1.c2
    have xg := x1.1
    clear b0 b1 x0 r0 t0 ha hb HS
    go_wp2_with fail
    go_loopw [5, 4] (fun i n wr => ∃ j : Nat, j ≤ l.length ∧ i = .int .i64 j ∧ n = .int .i64 (M.isum (l.take j) + M.isum (k.take j)) ∧ K.Qt w1 wr) (fun i _ _ => l.length - (intOf i).toNat)
    case atStart => exact ⟨0, Nat.zero_le _, rfl, by simp [M.isum], K.Qt.refl _⟩
    case round =>
      obtain ⟨j, hj, rfl, rfl, hq⟩ := hrel
      have x2 := x1.qt hq
      obtain ⟨p0, p1⟩ := x2.c2
      have pg := x2.1
      by_cases hlt : j < l.length
      · have hlt2 : j < k.length := by omega
        obtain ⟨g, o, rfl, hc⟩ := (hq.rd r1).int hlt
        obtain ⟨g', o', rfl, hc'⟩ := (hq.rd t1).int hlt2
        have h1 : (j : Int) < (l.length : Int) := by omega
        have h1' : (j : Int) < (k.length : Int) := by omega
        have h2 : (0 : Int) ≤ (j : Int) := by omega
        have HA := Lib.hid (M.isum_succ l j hlt)
        have HB := Lib.hid (M.isum_succ k j hlt2)
        obtain ⟨a1, a2⟩ := hbx j hj
        obtain ⟨e1, e2⟩ := hby j (by omega)
        obtain ⟨u1, u2⟩ := hx l[j] (List.getElem_mem _)
        obtain ⟨v1, v2⟩ := hy k[j] (List.getElem_mem _)
        generalize l[j] = x at *
        generalize k[j] = y at *
        generalize M.isum (l.take j) = a at *
        generalize M.isum (k.take j) = b at *
        have z1 : IntKind.i64.wrap (a + b + x) = a + b + x := IntWalk.i64_in _ (by omega)
        have z2 : IntKind.i64.wrap (a + b + x + y) = a + b + x + y := IntWalk.i64_in _ (by omega)
        clear x1 x2 r1 t1 q0 q1 xg hx hy hbx hby
        go_wp2_with fail
        go_quiet (fail)
        clear z1 z2
        go_wp2_with fail
        go_roundw
        case rel => exact ⟨j + 1, by omega, by go_num, by rw [HA.out, HB.out]; congr 1; omega, hq.then_ _⟩
        case measure => simp [intOf]; omega
      · obtain rfl : j = l.length := by omega
        have hfin : M.isum (l.take l.length) + M.isum (k.take l.length) = M.isum l + M.isum k := by rw [List.take_length, ← HE.out, List.take_length]
        rw [hfin]
        go_wp2
        go_ret2
        exact ⟨rfl, hbb.trans (hq.below _)⟩
end Go.Proofs.Ytmgegacgjppdbaa.BoardC
