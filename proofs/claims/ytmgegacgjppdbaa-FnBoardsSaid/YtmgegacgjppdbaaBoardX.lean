/-
  Walks: a board's text (printed by gen_btext.py).
-/
import Derived.Test.YtmgegacgjppdbaaBoardTM
import Derived.Test.YtmgegacgjppdbaaBoardH
import Derived.Test.YtmgegacgjppdbaaNum
import Derived.Test.YtmgegacgjppdbaaJoin
import Derived.Test.YtmgegacgjppdbaaKit5
import Derived.Deep.RegionHeld3
set_option linter.unusedVariables false
namespace Go.Proofs.Ytmgegacgjppdbaa.BoardX
open Go.RowKit
set_option maxRecDepth 100000 in
set_option maxHeartbeats 4000000 in
theorem i_text (A : Option Addr) (c : Nat) (l : List Int) (B : Option Addr) (d : Nat) (k : List Int) (w : World) (hl : l.length ≤ 1048576) (hk : k.length ≤ 1048576) (ha : K.Rd w 1 A l.length (l.map (Value.int .i64))) (hb : K.Rd w 1 B k.length (k.map (Value.int .i64))) :
    Calls Try.prog 32 #[.agg #[.slice A l.length c, .slice B k.length d]] w fun e w' => e = .returned (.tuple #[.string (M.boardText l k).1, .bool (M.boardText l k).2]) ∧ Below w.heap.size w w' := by
  obtain ⟨i0, hi0, hz0, hz1, hz2⟩ := info_parts Spl.infoStr
  obtain ⟨o, ho⟩ : ∃ o : Obj, o = .cells #[.slice A l.length c, .slice B k.length d] 27 := ⟨_, rfl⟩
  have x : K.Box (w.alloc o) w.heap.size [.slice A l.length c, .slice B k.length d] := by rw [ho]; exact K.Box.new _ _ _
  have r := ha.alloc o
  have t := hb.alloc o
  have bb : Below w.heap.size w (w.alloc o) := by (repeat (first | exact Below.refl _ _ | assumption | (refine K.below_drewN ?_ _) | (refine Below.drew ?_) | (refine Below.alloc ?_ (by first | (simp; done) | (simp; omega) | omega) _) | (refine Below.setCell ?_ (by first | (simp; done) | (simp; omega) | omega) _)))
  subst ho
  have HS := Lib.hid (BoardF.i_board A c l B d k _ hl hk r t)
  cases hok : M.bOk l k with
  | false =>
    rw [hok] at HS
    rw [M.boardText_no hok]
    clear hok
    go_enter Try.func32, Try.ntmps32
    have p0 := x.c2
    have pg := x.1
    go_wp2_with fail
    refine HS.out.mono ?_
    rintro e w1 ⟨rfl, b1⟩
    clear p0 pg
    go_wp2_with fail
    go_ret2
    exact ⟨rfl, bb.trans (b1.mono bb.size)⟩
  | true =>
    rw [hok] at HS
    rw [M.boardText_yes hok]
    obtain ⟨hl16, hkl, hlx, hkx⟩ := (M.bOk_iff l k).1 hok
    have HZ := Lib.hid (fun j h => M.bd_size hok j h)
    have HN := Lib.hid (fun n j h => M.bdParts_len l k hkl n j h)
    have HKL := Lib.hid hkl
    clear hok hkl
    go_enter Try.func32, Try.ntmps32
    have p0 := x.c2
    have pg := x.1
    go_wp2_with fail
    refine HS.out.mono ?_
    rintro e w1 ⟨rfl, b1⟩
    clear p0 pg
    have BX := Lib.hid (x.below b1)
    have BB := Lib.hid (bb.trans (b1.mono bb.size))
    have hs1 := b1.size
    simp at hs1
    clear x r t bb b1
    have pp := BX.out.c2
    have pgg := BX.out.1
    go_wp2_with fail
    clear pp pgg
    have hlo : w.heap.size + 1 ≤ w1.heap.size := by omega
    go_loopw [5, 4] (fun i p wr => ∃ (n : Nat) (P : List ByteArray) (C : Option Addr) (q : Nat), n ≤ l.length ∧ i = .int .i64 ((n : Int) - 1) ∧ p = .slice C P.length q ∧ w.heap.size + 1 ≤ wr.heap.size ∧ Hid (P = M.bdParts (l.drop n) (k.drop n)) ∧ Hid (K.Row wr (w.heap.size + 1) 9 1 C P.length q (P.map Value.string)) ∧ Hid (K.Box wr w.heap.size [.slice A l.length c, .slice B k.length d]) ∧ Hid (Below w.heap.size w wr)) (fun i _ _ => (intOf i + 1).toNat)
    case atStart => exact ⟨l.length, [], none, 0, Nat.le_refl _, rfl, rfl, hlo, Lib.hid (M.bdParts_end l k).symm, Lib.hid (K.Row.nil _ _ _ _), BX, BB⟩
    case round =>
      clear BX BB hlo
      obtain ⟨n, P, C, q, hn, rfl, rfl, hlo, HP, HROW, HBX, HB⟩ := hrel
      have hPl := HN.out (l.length - n) n (by omega)
      rw [← HP.out] at hPl
      have hPl' : P.length ≤ 6 := by omega
      clear hPl
      have px := HBX.out.c2
      have pg := HBX.out.1
      cases n with
      | succ m =>
        have hml : m < l.length := by omega
        have hmk : m < k.length := by rw [HKL.out]; exact hml
        obtain ⟨gl, ol, hAl, hgl, hcl⟩ := ha.intB hml
        subst hAl
        obtain ⟨gk, ok, hAk, hgk, hck⟩ := hb.intB hmk
        subst hAk
        obtain ⟨px0, px1⟩ := px
        have a0 : K.At wr ⟨w.heap.size, 0, none⟩ (.slice (some ⟨gl, ol, none⟩) l.length c) := K.At.of pg px0
        have a3 : K.At wr ⟨w.heap.size, 1, none⟩ (.slice (some ⟨gk, ok, none⟩) k.length d) := K.At.of pg px1
        have a1 : K.At wr ⟨gl, ol + m, none⟩ (.int .i64 l[m]) := (K.At.of hgl hcl).below HB.out
        have a2 : K.At wr ⟨gk, ok + m, none⟩ (.int .i64 k[m]) := (K.At.of hgk hck).below HB.out
        have c1 := a1.cell
        have c2 := a2.cell
        clear hcl hck
        rw [show ((m + 1 : Nat) : Int) - 1 = m by omega]
        have h1 : (m : Int) < (l.length : Int) := by omega
        have h2 : (0 : Int) ≤ (m : Int) := by omega
        have h3 : (m : Int) < (k.length : Int) := by omega
        have HD := Lib.hid (M.bdParts_drop l k m hml hmk)
        have HO : Hid (M.bdOne l[m] k[m] = M.txt k[m] ++ ⟨#[47]⟩ ++ M.txt l[m]) := Lib.hid rfl
        rw [HO.out] at HD
        clear HO
        obtain ⟨hx0, hx9⟩ := hkx k[m] (List.getElem_mem _)
        obtain ⟨hy0, hy9⟩ := hlx l[m] (List.getElem_mem _)
        have hnx : (M.txt k[m]).size ≤ 2 := (M.txt2 hx0 (by omega)).2
        have hny : (M.txt l[m]).size ≤ 2 := (M.txt2 hy0 (by omega)).2
        generalize k[m] = v at *
        generalize l[m] = u at *
        have HX := Lib.hid (fun w => Num.i_text v w (by omega) (by omega))
        have HY := Lib.hid (fun w => Num.i_text u w (by omega) (by omega))
        rw [← HP.out] at HD
        generalize M.txt v = tx at *
        generalize M.txt u = ty at *
        clear HP
        have hj2 : P.length + 1 ≤ maxLen := by simp only [maxLen]; omega
        have y1 : ¬ (9223372036854775807 < tx.size + 1) := by omega
        have y2 : ¬ (9223372036854775806 < tx.size) := by omega
        have y3 : ¬ (9223372036854775807 < tx.size + 1 + ty.size) := by omega
        have y4 : tx.size + 1 ≤ 9223372036854775807 := by omega
        have y5 : tx.size + 1 + ty.size ≤ 9223372036854775807 := by omega
        have hnC : ∀ g, K.blk C = some g → w.heap.size + 1 ≤ g := fun g hg => (HROW.out.lt g hg).1
        go_wp2_with fail
        clear px0 px1 pg
        go_region_held3 (fun w' => w'.cell? ⟨w.heap.size, 1, none⟩ = some (.slice (some ⟨gk, ok, none⟩) k.length d) ∧ w'.cell? ⟨gk, ok + m, none⟩ = some (.int .i64 v) ∧ w'.cell? ⟨w.heap.size, 0, none⟩ = some (.slice (some ⟨gl, ol, none⟩) l.length c) ∧ w'.cell? ⟨gl, ol + m, none⟩ = some (.int .i64 u))
          (((try dsimp only); refine ⟨(by (refine K.At.cell ?_; (repeat (first | with_reducible assumption | (with_reducible refine K.At.alloc ?_ _) | (with_reducible refine K.At.drew ?_) | (with_reducible refine K.At.below ?_ (by with_reducible assumption)))))), (by (refine K.At.cell ?_; (repeat (first | with_reducible assumption | (with_reducible refine K.At.alloc ?_ _) | (with_reducible refine K.At.drew ?_) | (with_reducible refine K.At.below ?_ (by with_reducible assumption)))))), (by (refine K.At.cell ?_; (repeat (first | with_reducible assumption | (with_reducible refine K.At.alloc ?_ _) | (with_reducible refine K.At.drew ?_) | (with_reducible refine K.At.below ?_ (by with_reducible assumption)))))), (by (refine K.At.cell ?_; (repeat (first | with_reducible assumption | (with_reducible refine K.At.alloc ?_ _) | (with_reducible refine K.At.drew ?_) | (with_reducible refine K.At.below ?_ (by with_reducible assumption))))))⟩))
          (first | (go_at_call 70; ((with_reducible refine (HX.out _).mono ?_)); rintro e w2 ⟨rfl, b2⟩; have s2 := b2.size; (try simp at s2); have hB2 := Lib.hid (HB.out.drew.trans (b2.mono HB.out.drew.size))) | (go_at_call 70; ((with_reducible refine (HY.out _).mono ?_)); rintro e w3 ⟨rfl, b3⟩; have s3 := b3.size; (try simp at s3); have hB3 := Lib.hid (hB2.out.trans (b3.mono hB2.out.size)); have hB4 := Lib.hid (hB3.out.alloc hB3.out.size (.cells #[.string (tx ++ ⟨#[47]⟩ ++ ty)] 9)); have hR4 := Lib.hid (((HROW.out.drew.below b2).below b3).alloc (.cells #[.string (tx ++ ⟨#[47]⟩ ++ ty)] 9)); have hC4 := Lib.hid (K.Rd.new w3 #[.string (tx ++ ⟨#[47]⟩ ++ ty)] 9 1 1 rfl); have hBX4 := Lib.hid (((HBX.out.drew.below b2).below b3).alloc (.cells #[.string (tx ++ ⟨#[47]⟩ ++ ty)] 9)); have a04 := ((a0.drew.below b2).below b3).alloc (.cells #[.string (tx ++ ⟨#[47]⟩ ++ ty)] 9); have a14 := ((a1.drew.below b2).below b3).alloc (.cells #[.string (tx ++ ⟨#[47]⟩ ++ ty)] 9); have a24 := ((a2.drew.below b2).below b3).alloc (.cells #[.string (tx ++ ⟨#[47]⟩ ++ ty)] 9); have a34 := ((a3.drew.below b2).below b3).alloc (.cells #[.string (tx ++ ⟨#[47]⟩ ++ ty)] 9); have hz4 : w.heap.size + 1 ≤ (w3.alloc (.cells #[.string (tx ++ ⟨#[47]⟩ ++ ty)] 9)).heap.size := (by simp; omega)) | (refine K.stepN (by rfl) (.tmp 17) (.tmp 32) _ (by rfl) (w.heap.size + 1) _ i0 _ 1 16 Try.underlying65 hi0 hz0 hz1 hz2 rfl (by omega) C P.length q _ (by rfl) hR4.out (some ⟨w3.heap.size, 0, none⟩) 1 1 [.string (tx ++ ⟨#[47]⟩ ++ ty)] (by rfl) hC4.out (by simp [Value.oneCell']) hj2 (by omega) hz4 ?_; intro C4 q4 w4 hrow4 hb4 _ _; have a05 := a04.low hb4 (by simp); have a35 := a34.low hb4 (by simp); have a15 := a14.low hb4 (by simp; omega); have a25 := a24.low hb4 (by simp; omega); have hB5 := Lib.hid (hB4.out.trans (hb4.mono (by omega))); have hBX5 := Lib.hid (hBX4.out.low hb4 (by omega)); have hz5 : w.heap.size + 1 ≤ w4.heap.size := Nat.le_trans hz4 hb4.size))
        all_goals go_wp2_with fail
        all_goals
          go_roundw
          case rel => exact ⟨m, P ++ [(tx ++ ⟨#[47]⟩ ++ ty)], C4, q4, by omega, by first | rfl | go_num, by simp, hz5, Lib.hid HD.out.symm, Lib.hid (by simpa using hrow4), hBX5, hB5⟩
          case measure => simp [intOf]
      | zero =>
        rw [List.drop_zero, List.drop_zero] at HP
        have hz := HZ.out 0 (Nat.zero_le _)
        rw [List.drop_zero, List.drop_zero, ← HP.out] at hz
        have HT := Lib.hid (show M.bdTxt l k = M.jn ⟨#[32]⟩ P by unfold M.bdTxt; rw [← HP.out])
        have HJ := Lib.hid (Join.i_join C q P ⟨#[32]⟩ wr (by omega) (by omega) HROW.out.rd)
        clear hz
        go_wp2_with fail
        refine HJ.out.mono ?_
        rintro e w5 ⟨rfl, rfl⟩
        go_wp2_with fail
        go_ret2
        exact ⟨by rw [HT.out]; rfl, HB.out⟩
set_option maxRecDepth 100000 in
set_option maxHeartbeats 4000000 in
theorem s_text (A : Option Addr) (c : Nat) (l : List Int) (B : Option Addr) (d : Nat) (k : List Int) (w : World) (hl : l.length ≤ 1048576) (hk : k.length ≤ 1048576) (ha : K.Rd w 1 A l.length (l.map (Value.int .i64))) (hb : K.Rd w 1 B k.length (k.map (Value.int .i64))) :
    Calls Try.prog 31 #[.agg #[.slice A l.length c, .slice B k.length d]] w fun e w' => e = .returned (.tuple #[.string (M.boardText l k).1, .bool (M.boardText l k).2]) ∧ Below w.heap.size w w' := by
  obtain ⟨o, ho⟩ : ∃ o : Obj, o = .cells #[.slice A l.length c, .slice B k.length d] 27 := ⟨_, rfl⟩
  have x : K.Box (w.alloc o) w.heap.size [.slice A l.length c, .slice B k.length d] := by rw [ho]; exact K.Box.new _ _ _
  have r := ha.alloc o
  have t := hb.alloc o
  have bb : Below w.heap.size w (w.alloc o) := by (repeat (first | exact Below.refl _ _ | assumption | (refine K.below_drewN ?_ _) | (refine Below.drew ?_) | (refine Below.alloc ?_ (by first | (simp; done) | (simp; omega) | omega) _) | (refine Below.setCell ?_ (by first | (simp; done) | (simp; omega) | omega) _)))
  subst ho
  have HS := Lib.hid (BoardF.s_good A c l B d k _ hl hk r t)
  cases hok : M.bOk l k with
  | false =>
    rw [hok] at HS
    rw [M.boardText_no hok]
    clear hok
    go_enter Try.func31, Try.ntmps31
    have p0 := x.c2
    have pg := x.1
    go_wp2_with fail
    refine HS.out.mono ?_
    rintro e w1 ⟨rfl, b1⟩
    clear p0 pg
    go_wp2_with fail
    go_ret2
    exact ⟨rfl, bb.trans (b1.mono bb.size)⟩
  | true =>
    rw [hok] at HS
    rw [M.boardText_yes hok]
    obtain ⟨hl16, hkl, hlx, hkx⟩ := (M.bOk_iff l k).1 hok
    have HZ := Lib.hid (fun j h => M.bd_size hok j h)
    have HN := Lib.hid (fun n j h => M.bdParts_len l k hkl n j h)
    have HKL := Lib.hid hkl
    clear hok hkl
    go_enter Try.func31, Try.ntmps31
    have p0 := x.c2
    have pg := x.1
    go_wp2_with fail
    refine HS.out.mono ?_
    rintro e w1 ⟨rfl, b1⟩
    clear p0 pg
    have BX := Lib.hid (x.below b1)
    have BB := Lib.hid (bb.trans (b1.mono bb.size))
    have hs1 := b1.size
    simp at hs1
    clear x r t bb b1
    have pp := BX.out.c2
    have pgg := BX.out.1
    go_wp2_with fail
    clear pp pgg
    go_loopw [5, 4] (fun i p wr => ∃ (n : Nat) (S : ByteArray), n ≤ l.length ∧ i = .int .i64 ((n : Int) - 1) ∧ p = .string S ∧ Hid (S = if n = 0 ∨ n = l.length then M.jn ⟨#[32]⟩ (M.bdParts (l.drop n) (k.drop n)) else M.jn ⟨#[32]⟩ (M.bdParts (l.drop n) (k.drop n)) ++ ⟨#[32]⟩) ∧ Hid (K.Box wr w.heap.size [.slice A l.length c, .slice B k.length d]) ∧ Hid (Below w.heap.size w wr)) (fun i _ _ => (intOf i + 1).toNat)
    case atStart => exact ⟨l.length, ByteArray.empty, Nat.le_refl _, rfl, rfl, Lib.hid (by rw [if_pos (Or.inr rfl), M.bdParts_end]; rfl), BX, BB⟩
    case round =>
      clear BX BB
      obtain ⟨n, S, hn, rfl, rfl, HP, HBX, HB⟩ := hrel
      have hSz : S.size ≤ 37 := by
        have := HZ.out n hn
        rw [HP.out]
        split
        · omega
        · rw [ByteArray.size_append, show (⟨#[32]⟩ : ByteArray).size = 1 from rfl]; omega
      have px := HBX.out.c2
      have pg := HBX.out.1
      cases n with
      | succ m =>
        have hml : m < l.length := by omega
        have hmk : m < k.length := by rw [HKL.out]; exact hml
        obtain ⟨gl, ol, hAl, hgl, hcl⟩ := ha.intB hml
        subst hAl
        obtain ⟨gk, ok, hAk, hgk, hck⟩ := hb.intB hmk
        subst hAk
        obtain ⟨px0, px1⟩ := px
        have a0 : K.At wr ⟨w.heap.size, 0, none⟩ (.slice (some ⟨gl, ol, none⟩) l.length c) := K.At.of pg px0
        have a3 : K.At wr ⟨w.heap.size, 1, none⟩ (.slice (some ⟨gk, ok, none⟩) k.length d) := K.At.of pg px1
        have a1 : K.At wr ⟨gl, ol + m, none⟩ (.int .i64 l[m]) := (K.At.of hgl hcl).below HB.out
        have a2 : K.At wr ⟨gk, ok + m, none⟩ (.int .i64 k[m]) := (K.At.of hgk hck).below HB.out
        have c1 := a1.cell
        have c2 := a2.cell
        clear hcl hck
        rw [show ((m + 1 : Nat) : Int) - 1 = m by omega]
        have h1 : (m : Int) < (l.length : Int) := by omega
        have h2 : (0 : Int) ≤ (m : Int) := by omega
        have h3 : (m : Int) < (k.length : Int) := by omega
        have HD := Lib.hid (M.bdParts_drop l k m hml hmk)
        have HO : Hid (M.bdOne l[m] k[m] = M.txt k[m] ++ ⟨#[47]⟩ ++ M.txt l[m]) := Lib.hid rfl
        rw [HO.out] at HD
        clear HO
        obtain ⟨hx0, hx9⟩ := hkx k[m] (List.getElem_mem _)
        obtain ⟨hy0, hy9⟩ := hlx l[m] (List.getElem_mem _)
        have hnx : (M.txt k[m]).size ≤ 2 := (M.txt2 hx0 (by omega)).2
        have hny : (M.txt l[m]).size ≤ 2 := (M.txt2 hy0 (by omega)).2
        generalize k[m] = v at *
        generalize l[m] = u at *
        have HX := Lib.hid (fun w => Num.s_num v w (by omega) (by omega))
        have HY := Lib.hid (fun w => Num.s_num u w (by omega) (by omega))
        have HJ := Lib.hid (show S ++ M.txt v ++ ⟨#[47]⟩ ++ M.txt u = M.jn ⟨#[32]⟩ (M.bdParts (l.drop m) (k.drop m)) by
          rw [HD.out, HP.out]
          by_cases hm1 : m + 1 = l.length
          · rw [if_pos (Or.inr hm1), hm1, M.bdParts_end, List.nil_append, M.jn_one, M.jn_nil]; simp [ByteArray.append_assoc]
          · rw [if_neg (by omega), M.jn_snoc _ _ _ (fun h => by have := HN.out (l.length - (m + 1)) (m + 1) (by omega); rw [h] at this; simp at this; omega)]; simp [ByteArray.append_assoc])
        generalize M.txt v = tx at *
        generalize M.txt u = ty at *
        clear HP HD
        by_cases h0 : m = 0
        · skip
          have hd : decide ((0 : Int) < (m : Int)) = false := decide_eq_false (by omega)
          have hd2 : decide (0 < m) = false := decide_eq_false (by omega)
          have HK := Lib.hid (show S ++ tx ++ ⟨#[47]⟩ ++ ty = if m = 0 ∨ m = l.length then M.jn ⟨#[32]⟩ (M.bdParts (l.drop m) (k.drop m)) else M.jn ⟨#[32]⟩ (M.bdParts (l.drop m) (k.drop m)) ++ ⟨#[32]⟩ by rw [if_pos (Or.inl h0), HJ.out])
          clear h0
          clear HJ
          go_wp2_with fail
          go_quiet (first | (go_at_call 69; with_reducible exact Calls.quiet_of (HX.out _)) | (go_at_call 69; with_reducible exact Calls.quiet_of (HY.out _)))
          go_wp2_with fail
          go_roundw
          case rel => exact ⟨m, _, by omega, by first | rfl | go_num, rfl, HK, HBX, Lib.hid (K.below_drewN HB.out _)⟩
          case measure => simp [intOf]
        · skip
          have hd : decide ((0 : Int) < (m : Int)) = true := decide_eq_true (by omega)
          have hd2 : decide (0 < m) = true := decide_eq_true (by omega)
          have HK := Lib.hid (show S ++ tx ++ ⟨#[47]⟩ ++ ty ++ ⟨#[32]⟩ = if m = 0 ∨ m = l.length then M.jn ⟨#[32]⟩ (M.bdParts (l.drop m) (k.drop m)) else M.jn ⟨#[32]⟩ (M.bdParts (l.drop m) (k.drop m)) ++ ⟨#[32]⟩ by rw [if_neg (by omega), HJ.out])
          clear HJ
          go_wp2_with fail
          go_quiet (first | (go_at_call 69; with_reducible exact Calls.quiet_of (HX.out _)) | (go_at_call 69; with_reducible exact Calls.quiet_of (HY.out _)))
          go_wp2_with fail
          go_roundw
          case rel => exact ⟨m, _, by omega, by first | rfl | go_num, rfl, HK, HBX, Lib.hid (K.below_drewN HB.out _)⟩
          case measure => simp [intOf]
      | zero =>
        rw [if_pos (Or.inl rfl), List.drop_zero, List.drop_zero] at HP
        have HT := Lib.hid (show M.bdTxt l k = S from HP.out.symm)
        clear HP
        go_wp2_with fail
        go_ret2
        exact ⟨by rw [HT.out]; rfl, HB.out⟩
end Go.Proofs.Ytmgegacgjppdbaa.BoardX
