/-
  Walks: the text of a frame.
-/
import Derived.Test.YthlkdaogmcjlbaaFrameN
import Derived.Test.YthlkdaogmcjlbaaNum
import Derived.Test.YthlkdaogmcjlbaaKit2
import Derived.Deep.RegionHeld3
set_option linter.unusedVariables false
namespace Go.Proofs.Ythlkdaogmcjlbaa.K
open Go.RowKit
/-- inside a region that draws: a callee that only draws. -/
theorem quiet_d {P : Program} {f : FuncId} {args : Array Value} {w : World} {n : Nat} {v : Value}
    (h : Calls P f args (w.drewN n) fun e w' => e = .returned v ∧ ∃ m, w' = (w.drewN n).drewN m) : Calls P f args (w.drewN n) fun e w'' => e = .returned v ∧ ∃ m, w'' = w.drewN m :=
  h.mono fun _ _ ⟨he, m, hm⟩ => ⟨he, n + m, by rw [hm, World.drewN_drewN]⟩
end Go.Proofs.Ythlkdaogmcjlbaa.K
namespace Go.Proofs.Ythlkdaogmcjlbaa.M
def ftHead (u lo : Int) : ByteArray := txt u ++ ⟨#[47]⟩ ++ txt lo
def ftStep (s : ByteArray) (r : Int × Int) : ByteArray := s ++ ⟨#[32]⟩ ++ txt r.1 ++ txt r.2
def ftext (f : Frame) : ByteArray := f.rods.foldl ftStep (ftHead f.upper f.lower)
theorem ft_succ (l : List (Int × Int)) (s : ByteArray) (k : Nat) (h : k < l.length) : (l.take (k + 1)).foldl ftStep s = (l.take k).foldl ftStep s ++ ⟨#[32]⟩ ++ txt l[k].1 ++ txt l[k].2 := by
  rw [List.take_succ_eq_append_getElem h, List.foldl_append]; rfl
def frameText (f : Frame) : ByteArray × Bool := if f.ok = true then (ftext f, true) else (ByteArray.empty, false)
theorem frameText_yes {f : Frame} (h : f.ok = true) : frameText f = (ftext f, true) := by simp [frameText, h]
theorem frameText_no {f : Frame} (h : f.ok = false) : frameText f = (ByteArray.empty, false) := by simp [frameText, h]
theorem txt1 {n : Int} (h0 : 0 ≤ n) (h1 : n ≤ 9) : (txt n).size = 1 := by
  rw [txt_nn h0, tx_lt (by omega)]; rfl
theorem ft_size {f : Frame} (h : f.ok = true) : ∀ k, k ≤ f.rods.length → ((f.rods.take k).foldl ftStep (ftHead f.upper f.lower)).size = 3 + 3 * k
  | 0, _ => by
      obtain ⟨⟨a, b⟩, ⟨c, d⟩, -⟩ := (Frame.ok_iff f).1 h
      have h1 := txt1 (n := f.upper) (by omega) (by omega)
      have h2 := txt1 (n := f.lower) (by omega) (by omega)
      have h3 : (⟨#[47]⟩ : ByteArray).size = 1 := rfl
      simp only [List.take_zero, List.foldl_nil, ftHead, ByteArray.size_append]
      omega
  | k + 1, hk => by
      have ih := ft_size h k (by omega)
      obtain ⟨⟨a, b⟩, ⟨c, d⟩, -, e⟩ := (Frame.ok_iff f).1 h
      obtain ⟨⟨e1, e2⟩, e3, e4⟩ := e f.rods[k] (List.getElem_mem _)
      have h1 := txt1 (n := f.rods[k].1) (by omega) (by omega)
      have h2 := txt1 (n := f.rods[k].2) (by omega) (by omega)
      have h3 : (⟨#[32]⟩ : ByteArray).size = 1 := rfl
      rw [ft_succ _ _ _ (by omega)]
      simp only [ByteArray.size_append]
      omega
end Go.Proofs.Ythlkdaogmcjlbaa.M
namespace Go.Proofs.Ythlkdaogmcjlbaa.FrameT
open Go.RowKit
set_option maxHeartbeats 2000000 in
theorem s_txt (f : M.Frame) (A : Option Addr) (c : Nat) (w : World) (hok : f.ok = true) (ha : K.Rd w 2 A f.rods.length (f.rods.flatMap M.rodCells)) :
    Calls Try.prog 96 #[.agg #[.int .i64 f.upper, .int .i64 f.lower, .slice A f.rods.length c]] w fun e w' => e = .returned (.string (M.ftext f)) ∧ Below w.heap.size w w' := by
  obtain ⟨⟨u1, u2⟩, ⟨l1, l2⟩, ⟨n1, n2⟩, hr⟩ := (M.Frame.ok_iff f).1 hok
  have hsz := @M.ft_size f hok
  obtain ⟨u, lo, l⟩ := f
  dsimp only at *
  have HF : Hid (M.ftext ⟨u, lo, l⟩ = l.foldl M.ftStep (M.ftHead u lo)) := rfl
  generalize M.ftext ⟨u, lo, l⟩ = R at HF ⊢
  have HH : Hid (M.ftHead u lo = M.txt u ++ ⟨#[47]⟩ ++ M.txt lo) := rfl
  have HU := Lib.hid (fun w => Num.s_num u w (by omega) (by omega))
  have HL := Lib.hid (fun w => Num.s_num lo w (by omega) (by omega))
  have hsu := M.txt1 (n := u) (by omega) (by omega)
  have hslo := M.txt1 (n := lo) (by omega) (by omega)
  generalize M.txt u = tu at *
  generalize M.txt lo = tl at *
  clear hok
  have x0 : K.Box (w.alloc (.cells #[.int .i64 u, .int .i64 lo, .slice A l.length c] 33)) w.heap.size [.int .i64 u, .int .i64 lo, .slice A l.length c] := K.Box.new _ _ _
  have r0 := ha.alloc (.cells #[.int .i64 u, .int .i64 lo, .slice A l.length c] 33)
  have b0 : Below w.heap.size w (w.alloc (.cells #[.int .i64 u, .int .i64 lo, .slice A l.length c] 33)) := (Below.refl w.heap.size w).alloc (Nat.le_refl _) _
  go_enter Try.func96, Try.ntmps96
  go_wp2_with fail
  go_quiet ((go_at_call 110; first | (with_reducible exact K.quiet_d (HU.out _)) | (with_reducible exact K.quiet_d (HL.out _))))
  go_wp2_with fail
  go_loopw [4, 3] (fun i s wr => ∃ (k : Nat) (t : ByteArray), k ≤ l.length ∧ i = .int .i64 k ∧ s = .string t ∧ Hid (t = (l.take k).foldl M.ftStep (M.ftHead u lo)) ∧ K.Qt (w.alloc (.cells #[.int .i64 u, .int .i64 lo, .slice A l.length c] 33)) wr) (fun i _ _ => l.length - (intOf i).toNat)
  case atStart => exact ⟨0, _, Nat.zero_le _, rfl, rfl, Lib.hid (by rw [List.take_zero, List.foldl_nil, HH.out]), K.Qt.then_ (K.Qt.refl _) _⟩
  case round =>
    obtain ⟨k, t, hk, rfl, rfl, ht, hq⟩ := hrel
    have x1 := x0.qt hq
    obtain ⟨p0, p1, p2⟩ := x1.c3
    have pg := x1.1
    have hts : t.size = 3 + 3 * k := by rw [ht.out]; exact hsz k hk
    have hts1 : t.size ≤ 100 := by omega
    clear hts
    by_cases hlt : k < l.length
    · obtain ⟨g, o, rfl, hg, c0, c1⟩ := (hq.rd r0).rod hlt
      have h1 : (k : Int) < (l.length : Int) := by omega
      have h2 : (0 : Int) ≤ (k : Int) := by omega
      have HS := Lib.hid (M.ft_succ l (M.ftHead u lo) k hlt)
      obtain ⟨⟨e1, e2⟩, e3, e4⟩ := hr l[k] (List.getElem_mem _)
      generalize l[k].1 = x at *
      generalize l[k].2 = y at *
      have HX := Lib.hid (fun w => Num.s_num x w (by omega) (by omega))
      have HY := Lib.hid (fun w => Num.s_num y w (by omega) (by omega))
      have hsx := M.txt1 (n := x) (by omega) (by omega)
      have hsy := M.txt1 (n := y) (by omega) (by omega)
      generalize M.txt x = tx at *
      generalize M.txt y = ty at *
      clear hr hsz
      go_wp2_with fail
      go_quiet ((go_at_call 110; first | (with_reducible exact K.quiet_d (HX.out _)) | (with_reducible exact K.quiet_d (HY.out _))))
      go_wp2_with fail
      go_roundw
      case rel => exact ⟨k + 1, _, by omega, by go_num, rfl, Lib.hid (by rw [HS.out, ← ht.out]), hq.then_ _⟩
      case measure => simp [intOf]; omega
    · obtain rfl : k = l.length := by omega
      have hx := ht.out
      rw [List.take_length, ← HF.out] at hx
      have HK := Lib.hid hx
      clear hx ht
      go_wp2_with fail
      go_ret
      exact ⟨K.ret_str HK.out, b0.trans (hq.below _)⟩
set_option maxHeartbeats 2000000 in
theorem i_txt (f : M.Frame) (A : Option Addr) (c : Nat) (w : World) (hok : f.ok = true) (ha : K.Rd w 2 A f.rods.length (f.rods.flatMap M.rodCells)) :
    Calls Try.prog 97 #[.agg #[.int .i64 f.upper, .int .i64 f.lower, .slice A f.rods.length c]] w fun e w' => e = .returned (.string (M.ftext f)) ∧ Below w.heap.size w w' := by
  obtain ⟨⟨u1, u2⟩, ⟨l1, l2⟩, ⟨n1, n2⟩, hr⟩ := (M.Frame.ok_iff f).1 hok
  have hsz := @M.ft_size f hok
  obtain ⟨u, lo, l⟩ := f
  dsimp only at *
  have HF : Hid (M.ftext ⟨u, lo, l⟩ = l.foldl M.ftStep (M.ftHead u lo)) := rfl
  generalize M.ftext ⟨u, lo, l⟩ = R at HF ⊢
  have HH : Hid (M.ftHead u lo = M.txt u ++ ⟨#[47]⟩ ++ M.txt lo) := rfl
  have HU := Lib.hid (fun w => Num.i_text u w (by omega) (by omega))
  have HL := Lib.hid (fun w => Num.i_text lo w (by omega) (by omega))
  have hsu := M.txt1 (n := u) (by omega) (by omega)
  have hslo := M.txt1 (n := lo) (by omega) (by omega)
  generalize M.txt u = tu at *
  generalize M.txt lo = tl at *
  clear hok
  have x0 : K.Box (w.alloc (.cells #[.int .i64 u, .int .i64 lo, .slice A l.length c] 33)) w.heap.size [.int .i64 u, .int .i64 lo, .slice A l.length c] := K.Box.new _ _ _
  have r0 := ha.alloc (.cells #[.int .i64 u, .int .i64 lo, .slice A l.length c] 33)
  have b0 : Below w.heap.size w (w.alloc (.cells #[.int .i64 u, .int .i64 lo, .slice A l.length c] 33)) := (Below.refl w.heap.size w).alloc (Nat.le_refl _) _
  go_enter Try.func97, Try.ntmps97
  go_wp2_with fail
  have x0d := x0.drew
  go_region_held3 (fun w' => w'.cell? ⟨w.heap.size, 0, none⟩ = some (.int .i64 u) ∧ w'.cell? ⟨w.heap.size, 1, none⟩ = some (.int .i64 lo))
    (first | go_keep | exact ⟨(x0d.below b1).2 0 _ rfl, (x0d.below b1).2 1 _ rfl⟩ | exact ⟨((x0d.below b1).below b2).2 0 _ rfl, ((x0d.below b1).below b2).2 1 _ rfl⟩)
    (first | (go_at_call 108; with_reducible refine (HU.out _).mono ?_; rintro e w1 ⟨rfl, b1⟩) | (go_at_call 108; with_reducible refine (HL.out _).mono ?_; rintro e w2 ⟨rfl, b2⟩))
  have bb := b0.drew.trans (b1.mono b0.drew.size)
  replace bb := bb.trans (b2.mono bb.size)
  have x1 := (x0d.below b1).below b2
  have r1 := (r0.drew.below b1).below b2
  clear b1 b2 x0 r0 x0d
  obtain ⟨p0, p1, p2⟩ := x1.c3
  have pg := x1.1
  go_wp2_with fail
  go_loopw [17, 3] (fun i s wr => ∃ (k : Nat) (t : ByteArray), k ≤ l.length ∧ i = .int .i64 k ∧ s = .string t ∧ Hid (t = (l.take k).foldl M.ftStep (M.ftHead u lo)) ∧ Below w2.heap.size w2 wr) (fun i _ _ => l.length - (intOf i).toNat)
  case atStart => exact ⟨0, _, Nat.zero_le _, rfl, rfl, Lib.hid (by rw [List.take_zero, List.foldl_nil, HH.out]), Below.refl _ _⟩
  case round =>
    obtain ⟨k, t, hk, rfl, rfl, ht, hb⟩ := hrel
    have hts : t.size = 3 + 3 * k := by rw [ht.out]; exact hsz k hk
    have hts1 : t.size ≤ 100 := by omega
    clear hts p0 p1 p2 pg
    by_cases hlt : k < l.length
    · obtain ⟨g, o, rfl, hg, c0, c1⟩ := (r1.below hb).rod hlt
      have h1 : (k : Int) < (l.length : Int) := by omega
      have h2 : (0 : Int) ≤ (k : Int) := by omega
      have HS := Lib.hid (M.ft_succ l (M.ftHead u lo) k hlt)
      obtain ⟨⟨e1, e2⟩, e3, e4⟩ := hr l[k] (List.getElem_mem _)
      generalize l[k].1 = x at *
      generalize l[k].2 = y at *
      have HX := Lib.hid (fun w => Num.i_text x w (by omega) (by omega))
      have HY := Lib.hid (fun w => Num.i_text y w (by omega) (by omega))
      have hsx := M.txt1 (n := x) (by omega) (by omega)
      have hsy := M.txt1 (n := y) (by omega) (by omega)
      generalize M.txt x = tx at *
      generalize M.txt y = ty at *
      clear hr hsz
      have y0 : K.Box (wr.alloc (.cells #[.int .i64 x, .int .i64 y] 74)) wr.heap.size [.int .i64 x, .int .i64 y] := K.Box.new _ _ _
      have hb2 := hb.alloc hb.size (.cells #[.int .i64 x, .int .i64 y] 74)
      have y0d := y0.drew
      have HB2 := Lib.hid hb2
      clear hb2
      have z1 : t.size ≤ 9223372036854775804 := by omega
      have z2 : t.size + 3 ≤ 9223372036854775807 := by omega
      have z3 : t.size + ((⟨#[32]⟩ : ByteArray) ++ tx ++ ty).size ≤ 9223372036854775807 := by simp only [ByteArray.size_append, hsx, hsy, show (⟨#[32]⟩ : ByteArray).size = 1 from rfl]; omega
      have z4 : t.size + ((⟨#[32]⟩ : ByteArray).size + tx.size + ty.size) ≤ 9223372036854775807 := by simp only [hsx, hsy, show (⟨#[32]⟩ : ByteArray).size = 1 from rfl]; omega
      have z5 : t.size + (1 + 1 + 1) ≤ 9223372036854775807 := by omega
      have hrun : ∀ w, (Op.stringOp .add t ((⟨#[32]⟩ : ByteArray) ++ tx ++ ty)).run Try.prog w = .ok (.string (t ++ ((⟨#[32]⟩ : ByteArray) ++ tx ++ ty))) w := fun w => run_string_add_sum w _ _ z3
      have z6 : ¬ (9223372036854775807 < t.size + ((⟨#[32]⟩ : ByteArray) ++ tx ++ ty).size) := by omega
      have z7 : ¬ (9223372036854775807 < t.size + 3) := by omega
      have z8 : ¬ (9223372036854775804 < t.size) := by omega
      have z9 : ¬ (9223372036854775807 < t.size + (1 + 1 + 1)) := by omega
      go_wp2_with fail
      go_region_held3 (fun w' => w'.cell? ⟨wr.heap.size, 0, none⟩ = some (.int .i64 x) ∧ w'.cell? ⟨wr.heap.size, 1, none⟩ = some (.int .i64 y))
        (first | go_keep | exact ⟨(y0d.below b1).2 0 _ rfl, (y0d.below b1).2 1 _ rfl⟩ | exact ⟨((y0d.below b1).below b2).2 0 _ rfl, ((y0d.below b1).below b2).2 1 _ rfl⟩)
        (first | (go_at_call 108; with_reducible refine (HX.out _).mono ?_; rintro e w3 ⟨rfl, b1⟩) | (go_at_call 108; with_reducible refine (HY.out _).mono ?_; rintro e w4 ⟨rfl, b2⟩))
      all_goals (try go_wp2)
      all_goals
        have hb3 := HB2.out.drew.trans (b1.mono HB2.out.drew.size)
        replace hb3 := hb3.trans (b2.mono hb3.size)
        exact ⟨⟨k + 1, _, by omega, by go_num, rfl, Lib.hid (by rw [HS.out, ← ht.out]; simp [ByteArray.append_assoc]), hb3⟩, by simp [intOf]; omega⟩
    · obtain rfl : k = l.length := by omega
      have hx := ht.out
      rw [List.take_length, ← HF.out] at hx
      have HK := Lib.hid hx
      clear hx ht
      go_wp2_with fail
      go_ret
      exact ⟨K.ret_str HK.out, bb.trans (hb.mono bb.size)⟩
--@@ one frame
theorem s_text (f : M.Frame) (A : Option Addr) (c : Nat) (w : World) (hl : f.rods.length ≤ 1048576) (ha : K.Rd w 2 A f.rods.length (f.rods.flatMap M.rodCells)) :
    Calls Try.prog 56 #[.agg #[.int .i64 f.upper, .int .i64 f.lower, .slice A f.rods.length c]] w fun e w' => e = .returned (.tuple #[.string (M.frameText f).1, .bool (M.frameText f).2]) ∧ Below w.heap.size w w' := by
  obtain ⟨o, ho⟩ : ∃ o : Obj, o = .cells #[.int .i64 f.upper, .int .i64 f.lower, .slice A f.rods.length c] 33 := ⟨_, rfl⟩
  have r0 := ha.alloc o
  have x0 : K.Box (w.alloc o) w.heap.size [.int .i64 f.upper, .int .i64 f.lower, .slice A f.rods.length c] := by rw [ho]; exact K.Box.new _ _ _
  have b0 : Below w.heap.size w (w.alloc o) := (Below.refl w.heap.size w).alloc (Nat.le_refl _) _
  subst ho
  cases hok : f.ok with
  | false =>
    have HS := Lib.hid (Frame.s_good f A c _ hl r0)
    rw [hok] at HS
    rw [M.frameText_no hok]
    clear hok
    go_enter Try.func56, Try.ntmps56
    go_wp2_with fail
    refine HS.out.mono ?_
    rintro e w1 ⟨rfl, b1⟩
    have hb := b0.trans (b1.mono b0.size)
    clear b0 b1
    go_wp2_with fail
    go_ret2
    exact ⟨rfl, hb⟩
  | true =>
    have HS := Lib.hid (Frame.s_good f A c _ hl r0)
    rw [hok] at HS
    have HN := Lib.hid (fun w h => s_txt f A c w hok h)
    rw [M.frameText_yes hok]
    clear hok
    go_enter Try.func56, Try.ntmps56
    go_wp2_with fail
    refine HS.out.mono ?_
    rintro e w1 ⟨rfl, b1⟩
    have hb := b0.trans (b1.mono b0.size)
    have x1 := x0.below b1
    have r1 := r0.below b1
    obtain ⟨q0, q1, q2⟩ := x1.c3
    have xg := x1.1
    clear b0 b1 x0 r0
    go_wp2_with fail
    refine (HN.out _ r1).mono ?_
    rintro e w2 ⟨rfl, b2⟩
    have hb2 := hb.trans (b2.mono hb.size)
    clear hb b2
    go_wp2_with fail
    go_ret2
    exact ⟨rfl, hb2⟩
theorem i_text (f : M.Frame) (A : Option Addr) (c : Nat) (w : World) (hl : f.rods.length ≤ 1048576) (ha : K.Rd w 2 A f.rods.length (f.rods.flatMap M.rodCells)) :
    Calls Try.prog 57 #[.agg #[.int .i64 f.upper, .int .i64 f.lower, .slice A f.rods.length c]] w fun e w' => e = .returned (.tuple #[.string (M.frameText f).1, .bool (M.frameText f).2]) ∧ Below w.heap.size w w' := by
  obtain ⟨o, ho⟩ : ∃ o : Obj, o = .cells #[.int .i64 f.upper, .int .i64 f.lower, .slice A f.rods.length c] 33 := ⟨_, rfl⟩
  have r0 := ha.alloc o
  have x0 : K.Box (w.alloc o) w.heap.size [.int .i64 f.upper, .int .i64 f.lower, .slice A f.rods.length c] := by rw [ho]; exact K.Box.new _ _ _
  have b0 : Below w.heap.size w (w.alloc o) := (Below.refl w.heap.size w).alloc (Nat.le_refl _) _
  subst ho
  cases hok : f.ok with
  | false =>
    have HS := Lib.hid (Frame.i_isframe f A c _ hl r0)
    rw [hok] at HS
    rw [M.frameText_no hok]
    clear hok
    go_enter Try.func57, Try.ntmps57
    go_wp2_with fail
    refine HS.out.mono ?_
    rintro e w1 ⟨rfl, b1⟩
    have hb := b0.trans (b1.mono b0.size)
    clear b0 b1
    go_wp2_with fail
    go_ret2
    exact ⟨rfl, hb⟩
  | true =>
    have HS := Lib.hid (Frame.i_isframe f A c _ hl r0)
    rw [hok] at HS
    have HN := Lib.hid (fun w h => i_txt f A c w hok h)
    rw [M.frameText_yes hok]
    clear hok
    go_enter Try.func57, Try.ntmps57
    go_wp2_with fail
    refine HS.out.mono ?_
    rintro e w1 ⟨rfl, b1⟩
    have hb := b0.trans (b1.mono b0.size)
    have x1 := x0.below b1
    have r1 := r0.below b1
    obtain ⟨q0, q1, q2⟩ := x1.c3
    have xg := x1.1
    clear b0 b1 x0 r0
    go_wp2_with fail
    refine (HN.out _ r1).mono ?_
    rintro e w2 ⟨rfl, b2⟩
    have hb2 := hb.trans (b2.mono hb.size)
    clear hb b2
    go_wp2_with fail
    go_ret2
    exact ⟨rfl, hb2⟩
--@@ end
end Go.Proofs.Ythlkdaogmcjlbaa.FrameT
