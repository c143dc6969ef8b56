/-
  Walks: the moves between two frames, as the two packages offer it.
-/
import Derived.Test.YthlkdaogmcjlbaaMoveBI
import Derived.Test.YthlkdaogmcjlbaaMoveBS
import Derived.Test.YthlkdaogmcjlbaaMoveAS
set_option linter.unusedVariables false
namespace Go.Proofs.Ythlkdaogmcjlbaa.M
theorem alikeF_iff (f g : Frame) : alikeF f g = true ↔ f.upper = g.upper ∧ f.lower = g.lower ∧ f.rods.length = g.rods.length := by simp [alikeF]
theorem rods_bd {f : Frame} (h : f.ok = true) : f.rods.length ≤ 8 ∧ ∀ k (hk : k < f.rods.length), (-10 ≤ f.rods[k].1 ∧ f.rods[k].1 ≤ 10) ∧ -10 ≤ f.rods[k].2 ∧ f.rods[k].2 ≤ 10 := by
  obtain ⟨a, b, c, d⟩ := (Frame.ok_iff f).1 h
  refine ⟨by omega, fun k hk => ?_⟩
  have := d f.rods[k] (List.getElem_mem _)
  omega
end Go.Proofs.Ythlkdaogmcjlbaa.M
namespace Go.Proofs.Ythlkdaogmcjlbaa.MoveBB
open Go.RowKit
theorem row_made (w : World) (lo : Nat) (h : lo ≤ w.heap.size) : K.Row (w.alloc (.cells #[] 25)) lo 25 3 (some ⟨w.heap.size, 0, none⟩) 0 0 [] := by
  have h0 : K.Row (w.alloc (.cells #[] 25)) w.heap.size 25 3 (some ⟨w.heap.size, 0, none⟩) 0 0 [] := World.ownsRow_made w #[] 0 (Nat.le_refl _) (Nat.zero_le _) rfl
  exact h0.more h
set_option maxHeartbeats 2000000 in
theorem i_between (f g : M.Frame) (A B : Option Addr) (c d : Nat) (w : World) (hl : f.rods.length ≤ 1048576) (hm : g.rods.length ≤ 1048576) (ha : K.Rd w 2 A f.rods.length (f.rods.flatMap M.rodCells)) (hb : K.Rd w 2 B g.rods.length (g.rods.flatMap M.rodCells)) :
    Calls Try.prog 63 #[.agg #[.int .i64 f.upper, .int .i64 f.lower, .slice A f.rods.length c], .agg #[.int .i64 g.upper, .int .i64 g.lower, .slice B g.rods.length d]] w (K.RetRowB w 25 3 (M.between f g).1.length ((M.between f g).1.flatMap M.moveCells) (M.between f g).2) := by
  obtain ⟨o1, ho1⟩ : ∃ o : Obj, o = .cells #[.int .i64 f.upper, .int .i64 f.lower, .slice A f.rods.length c] 33 := ⟨_, rfl⟩
  obtain ⟨o2, ho2⟩ : ∃ o : Obj, o = .cells #[.int .i64 g.upper, .int .i64 g.lower, .slice B g.rods.length d] 33 := ⟨_, rfl⟩
  have p1 : K.Box ((w.alloc o1).alloc o2) w.heap.size [.int .i64 f.upper, .int .i64 f.lower, .slice A f.rods.length c] := by have h := K.Box.new w #[.int .i64 f.upper, .int .i64 f.lower, .slice A f.rods.length c] 33; rw [← ho1] at h; exact h.alloc o2
  have p2 : K.Box ((w.alloc o1).alloc o2) (w.heap.size + 1) [.int .i64 g.upper, .int .i64 g.lower, .slice B g.rods.length d] := by have h := K.Box.new (w.alloc o1) #[.int .i64 g.upper, .int .i64 g.lower, .slice B g.rods.length d] 33; rw [World.size_alloc, ← ho2] at h; exact h
  have bb : Below w.heap.size w ((w.alloc o1).alloc o2) := ((Below.refl _ _).alloc (Nat.le_refl _) o1).alloc (by simp) o2
  have r1 := (ha.alloc o1).alloc o2
  have r2 := (hb.alloc o1).alloc o2
  clear ha hb
  subst ho1 ho2
  have HS1 := Lib.hid (fun w h => Frame.i_isframe f A c w hl h)
  have HS2 := Lib.hid (fun w h => Frame.i_isframe g B d w hm h)
  have HA := Lib.hid (fun w => MoveA.i_alike f g A B c d w hl hm)
  by_cases h1 : f.ok = true ∧ g.ok = true ∧ M.alikeF f g = true
  · have hy := (M.alikeF_iff f g).1 h1.2.2
    rw [M.between_yes ⟨h1.1, h1.2.1, hy⟩]
    have HT := Lib.hid (fun w h h2 => MoveBI.i_btw f.upper f.lower g.upper g.lower A B c d f.rods g.rods w (M.rods_bd h1.1).1 hy.2.2 (M.rods_bd h1.1).2 (M.rods_bd h1.2.1).2 h h2)
    rw [h1.1] at HS1
    rw [h1.2.1] at HS2
    rw [h1.2.2] at HA
    clear h1 hy
    generalize M.btTo f.rods g.rods f.rods.length = RR at *
    go_enter Try.func63, Try.ntmps63
    obtain ⟨x0, x1, x2⟩ := p1.c3
    obtain ⟨y0, y1, y2⟩ := p2.c3
    have gx := p1.1
    have gy := p2.1
    go_wp2_with fail
    refine (HS1.out _ r1).mono ?_
    rintro e wq ⟨rfl, q⟩
    clear x0 x1 x2 y0 y1 y2 gx gy
    replace p1 := p1.below q
    replace p2 := p2.below q
    replace r1 := r1.below q
    replace r2 := r2.below q
    replace bb := bb.trans (q.mono bb.size)
    clear q
    obtain ⟨x0, x1, x2⟩ := p1.c3
    obtain ⟨y0, y1, y2⟩ := p2.c3
    have gx := p1.1
    have gy := p2.1
    go_wp2_with fail
    refine (HS2.out _ r2).mono ?_
    rintro e wq ⟨rfl, q⟩
    clear x0 x1 x2 y0 y1 y2 gx gy
    replace p1 := p1.below q
    replace p2 := p2.below q
    replace r1 := r1.below q
    replace r2 := r2.below q
    replace bb := bb.trans (q.mono bb.size)
    clear q
    obtain ⟨x0, x1, x2⟩ := p1.c3
    obtain ⟨y0, y1, y2⟩ := p2.c3
    have gx := p1.1
    have gy := p2.1
    go_wp2_with fail
    refine (HA.out _).mono ?_
    rintro e wq ⟨rfl, q⟩
    clear x0 x1 x2 y0 y1 y2 gx gy
    replace p1 := p1.below q
    replace p2 := p2.below q
    replace r1 := r1.below q
    replace r2 := r2.below q
    replace bb := bb.trans (q.mono bb.size)
    clear q
    obtain ⟨x0, x1, x2⟩ := p1.c3
    obtain ⟨y0, y1, y2⟩ := p2.c3
    have gx := p1.1
    have gy := p2.1
    go_wp2_with fail
    refine (HT.out _ r1 r2).mono ?_
    rintro e w4 ⟨B4, c4, rfl, row4, b4⟩
    go_wp2_with fail
    go_ret2
    exact ⟨B4, c4, rfl, row4.more bb.size, bb.trans (b4.mono bb.size)⟩
  · rw [M.between_no (fun h => h1 ⟨h.1, h.2.1, (M.alikeF_iff f g).2 h.2.2⟩)]
    cases h2 : f.ok with
    | false =>
      rw [h2] at HS1
      clear h1 h2
      go_enter Try.func63, Try.ntmps63
      obtain ⟨x0, x1, x2⟩ := p1.c3
      obtain ⟨y0, y1, y2⟩ := p2.c3
      have gx := p1.1
      have gy := p2.1
      go_wp2_with fail
      refine (HS1.out _ r1).mono ?_
      rintro e wq ⟨rfl, q⟩
      clear x0 x1 x2 y0 y1 y2 gx gy
      replace p1 := p1.below q
      replace p2 := p2.below q
      replace r1 := r1.below q
      replace r2 := r2.below q
      replace bb := bb.trans (q.mono bb.size)
      clear q
      obtain ⟨x0, x1, x2⟩ := p1.c3
      obtain ⟨y0, y1, y2⟩ := p2.c3
      have gx := p1.1
      have gy := p2.1
      go_wp2_with fail
      go_ret2
      exact ⟨none, 0, rfl, K.Row.nil _ _ _ _, bb⟩
    | true =>
      rw [h2] at HS1
      cases h3 : g.ok with
      | false =>
        rw [h3] at HS2
        clear h1 h2 h3
        go_enter Try.func63, Try.ntmps63
        obtain ⟨x0, x1, x2⟩ := p1.c3
        obtain ⟨y0, y1, y2⟩ := p2.c3
        have gx := p1.1
        have gy := p2.1
        go_wp2_with fail
        refine (HS1.out _ r1).mono ?_
        rintro e wq ⟨rfl, q⟩
        clear x0 x1 x2 y0 y1 y2 gx gy
        replace p1 := p1.below q
        replace p2 := p2.below q
        replace r1 := r1.below q
        replace r2 := r2.below q
        replace bb := bb.trans (q.mono bb.size)
        clear q
        obtain ⟨x0, x1, x2⟩ := p1.c3
        obtain ⟨y0, y1, y2⟩ := p2.c3
        have gx := p1.1
        have gy := p2.1
        go_wp2_with fail
        refine (HS2.out _ r2).mono ?_
        rintro e wq ⟨rfl, q⟩
        clear x0 x1 x2 y0 y1 y2 gx gy
        replace p1 := p1.below q
        replace p2 := p2.below q
        replace r1 := r1.below q
        replace r2 := r2.below q
        replace bb := bb.trans (q.mono bb.size)
        clear q
        obtain ⟨x0, x1, x2⟩ := p1.c3
        obtain ⟨y0, y1, y2⟩ := p2.c3
        have gx := p1.1
        have gy := p2.1
        go_wp2_with fail
        go_ret2
        exact ⟨none, 0, rfl, K.Row.nil _ _ _ _, bb⟩
      | true =>
        rw [h3] at HS2
        have h4 : M.alikeF f g = false := by cases h : M.alikeF f g with | false => rfl | true => exact absurd ⟨h2, h3, h⟩ h1
        rw [h4] at HA
        clear h1 h2 h3 h4
        go_enter Try.func63, Try.ntmps63
        obtain ⟨x0, x1, x2⟩ := p1.c3
        obtain ⟨y0, y1, y2⟩ := p2.c3
        have gx := p1.1
        have gy := p2.1
        go_wp2_with fail
        refine (HS1.out _ r1).mono ?_
        rintro e wq ⟨rfl, q⟩
        clear x0 x1 x2 y0 y1 y2 gx gy
        replace p1 := p1.below q
        replace p2 := p2.below q
        replace r1 := r1.below q
        replace r2 := r2.below q
        replace bb := bb.trans (q.mono bb.size)
        clear q
        obtain ⟨x0, x1, x2⟩ := p1.c3
        obtain ⟨y0, y1, y2⟩ := p2.c3
        have gx := p1.1
        have gy := p2.1
        go_wp2_with fail
        refine (HS2.out _ r2).mono ?_
        rintro e wq ⟨rfl, q⟩
        clear x0 x1 x2 y0 y1 y2 gx gy
        replace p1 := p1.below q
        replace p2 := p2.below q
        replace r1 := r1.below q
        replace r2 := r2.below q
        replace bb := bb.trans (q.mono bb.size)
        clear q
        obtain ⟨x0, x1, x2⟩ := p1.c3
        obtain ⟨y0, y1, y2⟩ := p2.c3
        have gx := p1.1
        have gy := p2.1
        go_wp2_with fail
        refine (HA.out _).mono ?_
        rintro e wq ⟨rfl, q⟩
        clear x0 x1 x2 y0 y1 y2 gx gy
        replace p1 := p1.below q
        replace p2 := p2.below q
        replace r1 := r1.below q
        replace r2 := r2.below q
        replace bb := bb.trans (q.mono bb.size)
        clear q
        obtain ⟨x0, x1, x2⟩ := p1.c3
        obtain ⟨y0, y1, y2⟩ := p2.c3
        have gx := p1.1
        have gy := p2.1
        go_wp2_with fail
        go_ret2
        exact ⟨none, 0, rfl, K.Row.nil _ _ _ _, bb⟩
set_option maxHeartbeats 2000000 in
theorem s_between (f g : M.Frame) (A B : Option Addr) (c d : Nat) (w : World) (hl : f.rods.length ≤ 1048576) (hm : g.rods.length ≤ 1048576) (ha : K.Rd w 2 A f.rods.length (f.rods.flatMap M.rodCells)) (hb : K.Rd w 2 B g.rods.length (g.rods.flatMap M.rodCells)) :
    Calls Try.prog 62 #[.agg #[.int .i64 f.upper, .int .i64 f.lower, .slice A f.rods.length c], .agg #[.int .i64 g.upper, .int .i64 g.lower, .slice B g.rods.length d]] w (K.RetRowB w 25 3 (M.between f g).1.length ((M.between f g).1.flatMap M.moveCells) (M.between f g).2) := by
  obtain ⟨o1, ho1⟩ : ∃ o : Obj, o = .cells #[.int .i64 f.upper, .int .i64 f.lower, .slice A f.rods.length c] 33 := ⟨_, rfl⟩
  obtain ⟨o2, ho2⟩ : ∃ o : Obj, o = .cells #[.int .i64 g.upper, .int .i64 g.lower, .slice B g.rods.length d] 33 := ⟨_, rfl⟩
  have p1 : K.Box ((w.alloc o1).alloc o2) w.heap.size [.int .i64 f.upper, .int .i64 f.lower, .slice A f.rods.length c] := by have h := K.Box.new w #[.int .i64 f.upper, .int .i64 f.lower, .slice A f.rods.length c] 33; rw [← ho1] at h; exact h.alloc o2
  have p2 : K.Box ((w.alloc o1).alloc o2) (w.heap.size + 1) [.int .i64 g.upper, .int .i64 g.lower, .slice B g.rods.length d] := by have h := K.Box.new (w.alloc o1) #[.int .i64 g.upper, .int .i64 g.lower, .slice B g.rods.length d] 33; rw [World.size_alloc, ← ho2] at h; exact h
  have bb : Below w.heap.size w ((w.alloc o1).alloc o2) := ((Below.refl _ _).alloc (Nat.le_refl _) o1).alloc (by simp) o2
  have r1 := (ha.alloc o1).alloc o2
  have r2 := (hb.alloc o1).alloc o2
  clear ha hb
  subst ho1 ho2
  have HS := Lib.hid (fun w h h2 => MoveA.s_alike f g A B c d w hl hm h h2)
  by_cases h1 : f.ok = true ∧ g.ok = true ∧ M.alikeF f g = true
  · have hy := (M.alikeF_iff f g).1 h1.2.2
    rw [M.between_yes ⟨h1.1, h1.2.1, hy⟩]
    have HT := Lib.hid (fun w h h2 => MoveBS.s_btw f.upper f.lower g.upper g.lower A B c d f.rods g.rods w (M.rods_bd h1.1).1 hy.2.2 (M.rods_bd h1.1).2 (M.rods_bd h1.2.1).2 h h2)
    rw [show (f.ok && (g.ok && M.alikeF f g)) = true by rw [h1.1, h1.2.1, h1.2.2]; rfl] at HS
    clear h1 hy
    generalize M.btTo f.rods g.rods f.rods.length = RR at *
    go_enter Try.func62, Try.ntmps62
    obtain ⟨x0, x1, x2⟩ := p1.c3
    obtain ⟨y0, y1, y2⟩ := p2.c3
    have gx := p1.1
    have gy := p2.1
    go_wp2_with fail
    refine (HS.out _ r1 r2).mono ?_
    rintro e wq ⟨rfl, q⟩
    clear x0 x1 x2 y0 y1 y2 gx gy
    replace p1 := p1.below q
    replace p2 := p2.below q
    replace r1 := r1.below q
    replace r2 := r2.below q
    replace bb := bb.trans (q.mono bb.size)
    clear q
    obtain ⟨x0, x1, x2⟩ := p1.c3
    obtain ⟨y0, y1, y2⟩ := p2.c3
    have gx := p1.1
    have gy := p2.1
    go_wp2_with fail
    refine (HT.out _ r1 r2).mono ?_
    rintro e w4 ⟨B4, c4, rfl, row4, b4⟩
    go_wp2_with fail
    go_ret2
    exact ⟨B4, c4, rfl, row4.more bb.size, bb.trans (b4.mono bb.size)⟩
  · rw [M.between_no (fun h => h1 ⟨h.1, h.2.1, (M.alikeF_iff f g).2 h.2.2⟩)]
    rw [show (f.ok && (g.ok && M.alikeF f g)) = false by cases h : (f.ok && (g.ok && M.alikeF f g)) with | false => rfl | true => exact absurd (by simpa using h) h1] at HS
    clear h1
    go_enter Try.func62, Try.ntmps62
    obtain ⟨x0, x1, x2⟩ := p1.c3
    obtain ⟨y0, y1, y2⟩ := p2.c3
    have gx := p1.1
    have gy := p2.1
    go_wp2_with fail
    refine (HS.out _ r1 r2).mono ?_
    rintro e wq ⟨rfl, q⟩
    clear x0 x1 x2 y0 y1 y2 gx gy
    replace p1 := p1.below q
    replace p2 := p2.below q
    replace r1 := r1.below q
    replace r2 := r2.below q
    replace bb := bb.trans (q.mono bb.size)
    clear q
    obtain ⟨x0, x1, x2⟩ := p1.c3
    obtain ⟨y0, y1, y2⟩ := p2.c3
    have gx := p1.1
    have gy := p2.1
    go_wp2_with fail
    go_ret2
    exact ⟨_, 0, rfl, row_made _ _ bb.size, bb.alloc bb.size _⟩
end Go.Proofs.Ythlkdaogmcjlbaa.MoveBB
