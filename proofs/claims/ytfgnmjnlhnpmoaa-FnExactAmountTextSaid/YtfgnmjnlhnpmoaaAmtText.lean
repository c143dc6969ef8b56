/-
  Walks: an amount's text.
-/
import Derived.Test.YtfgnmjnlhnpmoaaAmountTM
import Derived.Test.YtfgnmjnlhnpmoaaValue
import Derived.Test.YtfgnmjnlhnpmoaaNum
import Derived.Test.YtfgnmjnlhnpmoaaJoin
import Derived.Test.YtfgnmjnlhnpmoaaKit5
import Derived.Deep.RegionHeld3
set_option linter.unusedVariables false
namespace Go.Proofs.Ytfgnmjnlhnpmoaa.AmtText
open Go.RowKit
theorem one_eq (u : M.Unit) (x : Int) : M.amtOne u x = M.txt x ++ ⟨#[32]⟩ ++ u.name := by unfold M.amtOne; rw [ByteArray.append_assoc]
set_option maxRecDepth 100000 in
set_option maxHeartbeats 4000000 in
theorem i_text (A : Option Addr) (c : Nat) (l : List M.Unit) (B : Option Addr) (d : Nat) (k : List Int) (w : World) (hl : l.length ≤ 1048576) (hk : k.length ≤ 1048576) (hs : ∀ u ∈ l, u.name.size ≤ 9223372036854775807) (hc : l.length ≤ c) (hcc : c ≤ 9223372036854775807) (ha : K.Rd w 2 A l.length (l.flatMap M.unitCells)) (hb : K.Rd w 1 B k.length (k.map (Value.int .i64))) :
    Calls Try.prog 37 #[.slice A l.length c, .agg #[.slice B k.length d]] w fun e w' => e = .returned (.tuple #[.string (M.amountText l k).1, .bool (M.amountText l k).2]) ∧ Below w.heap.size w w' := by
  obtain ⟨i0, hi0, hz0, hz1, hz2⟩ := info_parts Spl.infoStr
  obtain ⟨o, ho⟩ : ∃ o : Obj, o = .cells #[.slice B k.length d] 40 := ⟨_, rfl⟩
  have x : K.Box (w.alloc o) w.heap.size [.slice B k.length d] := by rw [ho]; exact K.Box.new _ _ _
  have r := ha.alloc o
  have t := hb.alloc o
  have bb : Below w.heap.size w (w.alloc o) := by (repeat (first | exact Below.refl _ _ | assumption | (refine K.below_drewN ?_ _) | (refine Below.drew ?_) | (refine Below.alloc ?_ (by first | (simp; done) | (simp; omega) | omega) _) | (refine Below.setCell ?_ (by first | (simp; done) | (simp; omega) | omega) _)))
  subst ho
  have HS := Lib.hid (AmountF.i_amount A c l B d k _ hl hk hs hc hcc r t)
  cases hok : M.amtOk l k with
  | false =>
    rw [hok] at HS
    rw [M.amountText_no hok]
    clear hok
    go_enter Try.func37, Try.ntmps37
    have p0 := x.c1
    have pg := x.1
    go_wp2_with fail
    refine HS.out.mono ?_
    rintro e w1 ⟨rfl, b1⟩
    clear p0 pg
    go_wp2_with fail
    go_ret2
    exact ⟨rfl, bb.trans (b1.mono bb.size)⟩
  | true =>
    rw [hok] at HS
    rw [M.amountText_yes hok]
    obtain ⟨hsys, hkl, hkx⟩ := (M.amtOk_iff l k).1 hok
    have hl16 := ((M.sysOk_iff l).1 hsys).1
    have HZ := Lib.hid (fun j h => M.amt_size hok j h)
    have HF := Lib.hid (fun n j h => M.amtParts_facts hok n j h)
    have HNM := Lib.hid (fun i hi => M.sys_name hsys i hi)
    have HKL := Lib.hid hkl
    clear hok hsys hkl
    go_enter Try.func37, Try.ntmps37
    have p0 := x.c1
    have pg := x.1
    go_wp2_with fail
    refine HS.out.mono ?_
    rintro e w1 ⟨rfl, b1⟩
    clear p0 pg
    have BX := Lib.hid (x.below b1)
    have R := Lib.hid (r.below b1)
    have T := Lib.hid (t.below b1)
    have BB := Lib.hid (bb.trans (b1.mono bb.size))
    have hs1 := b1.size
    simp at hs1
    clear x r t bb b1
    go_wp2_with fail
    have hlo : w.heap.size + 1 ≤ w1.heap.size := by omega
    go_loopw [7, 6] (fun i p wr => ∃ (n : Nat) (P : List ByteArray) (C : Option Addr) (q : Nat), n ≤ l.length ∧ i = .int .i64 ((n : Int) - 1) ∧ p = .slice C P.length q ∧ w.heap.size + 1 ≤ wr.heap.size ∧ Hid (P = M.amtParts (l.drop n) (k.drop n)) ∧ Hid (K.Row wr (w.heap.size + 1) 9 1 C P.length q (P.map Value.string)) ∧ Hid (K.Box wr w.heap.size [.slice B k.length d]) ∧ Hid (Below w.heap.size w wr)) (fun i _ _ => (intOf i + 1).toNat)
    case atStart => exact ⟨l.length, [], none, 0, Nat.le_refl _, rfl, rfl, hlo, Lib.hid (M.amtParts_end l k).symm, Lib.hid (K.Row.nil _ _ _ _), BX, BB⟩
    case round =>
      clear BX BB R T hlo
      obtain ⟨n, P, C, q, hn, rfl, rfl, hlo, HP, HROW, HBX, HB⟩ := hrel
      have hPF := HF.out (l.length - n) n (by omega)
      rw [← HP.out] at hPF
      have HPS := Lib.hid hPF.2
      have hPl := hPF.1
      clear hPF
      have px := HBX.out.c1
      have pg := HBX.out.1
      cases n with
      | succ m =>
        have hml : m < l.length := by omega
        have hmk : m < k.length := by rw [HKL.out]; exact hml
        obtain ⟨gu, ou, hAu, hgu, u0, u1⟩ := ha.unit hml
        subst hAu
        obtain ⟨gk, ok, hAk, hgk, hck⟩ := hb.intB hmk
        subst hAk
        have a0 : K.At wr ⟨w.heap.size, 0, none⟩ (.slice (some ⟨gk, ok, none⟩) k.length d) := K.At.of pg px
        have a1 : K.At wr ⟨gk, ok + m, none⟩ (.int .i64 k[m]) := (K.At.of hgk hck).below HB.out
        have a2 : K.At wr ⟨gu, ou + m * 2, none⟩ (.string l[m].name) := (K.At.of hgu u0).below HB.out
        have c1 := a1.cell
        have c2 := a2.cell
        clear u0 u1 hck
        rw [show ((m + 1 : Nat) : Int) - 1 = m by omega]
        have h1 : (m : Int) < (l.length : Int) := by omega
        have h2 : (0 : Int) ≤ (m : Int) := by omega
        have h3 : (m : Int) < (k.length : Int) := by omega
        have HD := Lib.hid (M.amtParts_drop l k m hml hmk)
        rw [← HP.out, one_eq] at HD
        have hnm := HNM.out m hml
        obtain ⟨hx0, hx9⟩ := hkx k[m] (List.getElem_mem _)
        generalize l[m].name = nm at *
        generalize l[m].size = sz at *
        generalize k[m] = v at *
        by_cases hv : v = 0
        · subst hv
          have hd : ((0 : Int) != 0) = false := by simp
          have HK := Lib.hid (show P = M.amtParts (l.drop m) (k.drop m) by rw [HD.out]; simp)
          clear HD HP
          go_wp2_with fail
          go_roundw
          case rel => exact ⟨m, P, C, q, by omega, by first | rfl | go_num, rfl, hlo, HK, HROW, HBX, HB⟩
          case measure => simp [intOf]
        · have hd : (v != 0) = true := by simpa using hv
          have HK := Lib.hid (show P ++ [M.txt v ++ ⟨#[32]⟩ ++ nm] = M.amtParts (l.drop m) (k.drop m) by rw [HD.out, if_neg hv])
          clear HD HP
          have hts := M.txt4 hx0 hx9
          have HX := Lib.hid (fun w => Num.i_text v w (by omega) (by omega))
          generalize M.txt v = tx at *
          have hj2 : P.length + 1 ≤ maxLen := by simp only [maxLen]; omega
          have y1 : ¬ (9223372036854775807 < tx.size + 1) := by omega
          have y2 : ¬ (9223372036854775806 < tx.size) := by omega
          have y3 : ¬ (9223372036854775807 < tx.size + 1 + nm.size) := by omega
          have y4 : tx.size + 1 ≤ 9223372036854775807 := by omega
          have y5 : tx.size + 1 + nm.size ≤ 9223372036854775807 := by omega
          have hnC : ∀ g, K.blk C = some g → w.heap.size + 1 ≤ g := fun g hg => (HROW.out.lt g hg).1
          go_wp2_with fail
          clear px pg
          go_region_held3 (fun w' => w'.cell? ⟨w.heap.size, 0, none⟩ = some (.slice (some ⟨gk, ok, none⟩) k.length d) ∧ w'.cell? ⟨gk, ok + m, none⟩ = some (.int .i64 v) ∧ w'.cell? ⟨gu, ou + m * 2, none⟩ = some (.string nm))
            (((try dsimp only); refine ⟨(by (refine K.At.cell ?_; (repeat (first | with_reducible assumption | (with_reducible refine K.At.alloc ?_ _) | (with_reducible refine K.At.drew ?_) | (with_reducible refine K.At.below ?_ (by with_reducible assumption)))))), (by (refine K.At.cell ?_; (repeat (first | with_reducible assumption | (with_reducible refine K.At.alloc ?_ _) | (with_reducible refine K.At.drew ?_) | (with_reducible refine K.At.below ?_ (by with_reducible assumption)))))), (by (refine K.At.cell ?_; (repeat (first | with_reducible assumption | (with_reducible refine K.At.alloc ?_ _) | (with_reducible refine K.At.drew ?_) | (with_reducible refine K.At.below ?_ (by with_reducible assumption))))))⟩))
            (first | (go_at_call 77; ((with_reducible refine (HX.out _).mono ?_)); rintro e w3 ⟨rfl, b3⟩; have s3 := b3.size; (try simp at s3); have hB3 := Lib.hid (HB.out.drew.trans (b3.mono HB.out.drew.size)); have hB4 := Lib.hid (hB3.out.alloc hB3.out.size (.cells #[.string (tx ++ ⟨#[32]⟩ ++ nm)] 9)); have hR4 := Lib.hid ((HROW.out.drew.below b3).alloc (.cells #[.string (tx ++ ⟨#[32]⟩ ++ nm)] 9)); have hC4 := Lib.hid (K.Rd.new w3 #[.string (tx ++ ⟨#[32]⟩ ++ nm)] 9 1 1 rfl); have hBX4 := Lib.hid ((HBX.out.drew.below b3).alloc (.cells #[.string (tx ++ ⟨#[32]⟩ ++ nm)] 9)); have a04 := (a0.drew.below b3).alloc (.cells #[.string (tx ++ ⟨#[32]⟩ ++ nm)] 9); have a14 := (a1.drew.below b3).alloc (.cells #[.string (tx ++ ⟨#[32]⟩ ++ nm)] 9); have a24 := (a2.drew.below b3).alloc (.cells #[.string (tx ++ ⟨#[32]⟩ ++ nm)] 9); have hz4 : w.heap.size + 1 ≤ (w3.alloc (.cells #[.string (tx ++ ⟨#[32]⟩ ++ nm)] 9)).heap.size := (by simp; omega)) | (refine K.stepN (by rfl) (.tmp 25) (.tmp 39) _ (by rfl) (w.heap.size + 1) _ i0 _ 1 16 Try.underlying70 hi0 hz0 hz1 hz2 rfl (by omega) C P.length q _ (by rfl) hR4.out (some ⟨w3.heap.size, 0, none⟩) 1 1 [.string (tx ++ ⟨#[32]⟩ ++ nm)] (by rfl) hC4.out (by simp [Value.oneCell']) hj2 (by omega) hz4 ?_; intro C4 q4 w4 hrow4 hb4 _ _; have a05 := a04.low hb4 (by simp); have a15 := a14.low hb4 (by simp; omega); have a25 := a24.low hb4 (by simp; omega); have hB5 := Lib.hid (hB4.out.trans (hb4.mono (by omega))); have hBX5 := Lib.hid (hBX4.out.low hb4 (by omega)); have hz5 : w.heap.size + 1 ≤ w4.heap.size := Nat.le_trans hz4 hb4.size))
          all_goals go_wp2_with fail
          all_goals
            go_roundw
            case rel => exact ⟨m, P ++ [tx ++ ⟨#[32]⟩ ++ nm], C4, q4, by omega, by first | rfl | go_num, by simp, hz5, HK, Lib.hid (by simpa using hrow4), hBX5, hB5⟩
            case measure => simp [intOf]
      | zero =>
        rw [List.drop_zero, List.drop_zero] at HP
        have hz := HZ.out 0 (Nat.zero_le _)
        rw [List.drop_zero, List.drop_zero, ← HP.out] at hz
        by_cases hp : P.length = 0
        · have HT := Lib.hid (show M.amtTxt l k = ⟨#[48, 32]⟩ ++ M.name0 l by unfold M.amtTxt; rw [← HP.out, if_pos hp])
          have h0l : 0 < l.length := by omega
          obtain ⟨gu, ou, hAu, hgu, u0, u1⟩ := (ha.below HB.out).unit h0l
          subst hAu
          have u2 : wr.cell? ⟨gu, ou, none⟩ = some (.string l[0].name) := by simpa using u0
          clear u0
          have hN := Lib.hid (show M.name0 l = l[0].name by cases l with | nil => simp at h0l | cons => rfl)
          have hnm := HNM.out 0 h0l
          generalize l[0].name = nm at *
          have hd : ((P.length : Int) == 0) = true := by simp [hp]
          have hd0 : decide (0 < l.length) = true := decide_eq_true h0l
          clear hp hz u1
          go_wp2_with fail
          go_ret2
          exact ⟨by rw [HT.out, hN.out]; rfl, HB.out⟩
        · have HT := Lib.hid (show M.amtTxt l k = M.jn ⟨#[44, 32]⟩ P by unfold M.amtTxt; rw [← HP.out, if_neg hp])
          have hd : ((P.length : Int) == 0) = false := beq_eq_false_iff_ne.2 (by omega)
          have HJ := Lib.hid (Join.i_join C q P ⟨#[44, 32]⟩ wr (by omega) (by omega) HROW.out.rd)
          clear hp hz
          go_wp2_with fail
          refine HJ.out.mono ?_
          rintro e w5 ⟨rfl, rfl⟩
          go_wp2_with fail
          go_ret2
          exact ⟨by rw [HT.out]; rfl, HB.out⟩
set_option maxRecDepth 100000 in
set_option maxHeartbeats 4000000 in
theorem s_text (A : Option Addr) (c : Nat) (l : List M.Unit) (B : Option Addr) (d : Nat) (k : List Int) (w : World) (hl : l.length ≤ 1048576) (hk : k.length ≤ 1048576) (hs : ∀ u ∈ l, u.name.size ≤ 9223372036854775807) (hc : l.length ≤ c) (hcc : c ≤ 9223372036854775807) (ha : K.Rd w 2 A l.length (l.flatMap M.unitCells)) (hb : K.Rd w 1 B k.length (k.map (Value.int .i64))) :
    Calls Try.prog 36 #[.slice A l.length c, .agg #[.slice B k.length d]] w fun e w' => e = .returned (.tuple #[.string (M.amountText l k).1, .bool (M.amountText l k).2]) ∧ Below w.heap.size w w' := by
  obtain ⟨o, ho⟩ : ∃ o : Obj, o = .cells #[.slice B k.length d] 40 := ⟨_, rfl⟩
  have x : K.Box (w.alloc o) w.heap.size [.slice B k.length d] := by rw [ho]; exact K.Box.new _ _ _
  have r := ha.alloc o
  have t := hb.alloc o
  have bb : Below w.heap.size w (w.alloc o) := by (repeat (first | exact Below.refl _ _ | assumption | (refine K.below_drewN ?_ _) | (refine Below.drew ?_) | (refine Below.alloc ?_ (by first | (simp; done) | (simp; omega) | omega) _) | (refine Below.setCell ?_ (by first | (simp; done) | (simp; omega) | omega) _)))
  subst ho
  have HS := Lib.hid (AmountF.s_amt A c l B d k _ hl hk hs hc hcc r t)
  cases hok : M.amtOk l k with
  | false =>
    rw [hok] at HS
    rw [M.amountText_no hok]
    clear hok
    go_enter Try.func36, Try.ntmps36
    have p0 := x.c1
    have pg := x.1
    go_wp2_with fail
    refine HS.out.mono ?_
    rintro e w1 ⟨rfl, b1⟩
    clear p0 pg
    go_wp2_with fail
    go_ret2
    exact ⟨rfl, bb.trans (b1.mono bb.size)⟩
  | true =>
    rw [hok] at HS
    rw [M.amountText_yes hok]
    obtain ⟨hsys, hkl, hkx⟩ := (M.amtOk_iff l k).1 hok
    have hl16 := ((M.sysOk_iff l).1 hsys).1
    have HZ := Lib.hid (fun j h => M.amt_size hok j h)
    have HF := Lib.hid (fun n j h => M.amtParts_facts hok n j h)
    have HNM := Lib.hid (fun i hi => M.sys_name hsys i hi)
    have HKL := Lib.hid hkl
    clear hok hsys hkl
    go_enter Try.func36, Try.ntmps36
    have p0 := x.c1
    have pg := x.1
    go_wp2_with fail
    refine HS.out.mono ?_
    rintro e w1 ⟨rfl, b1⟩
    clear p0 pg
    have BX := Lib.hid (x.below b1)
    have R := Lib.hid (r.below b1)
    have T := Lib.hid (t.below b1)
    have BB := Lib.hid (bb.trans (b1.mono bb.size))
    have hs1 := b1.size
    simp at hs1
    clear x r t bb b1
    go_wp2_with fail
    have hlo : w.heap.size + 1 ≤ w1.heap.size := by omega
    go_loopw [7, 6] (fun i p wr => ∃ (n : Nat) (S : ByteArray), n ≤ l.length ∧ i = .int .i64 ((n : Int) - 1) ∧ p = .string S ∧ Hid (S = M.jn ⟨#[44, 32]⟩ (M.amtParts (l.drop n) (k.drop n))) ∧ Hid (K.Box wr w.heap.size [.slice B k.length d]) ∧ Hid (Below w.heap.size w wr)) (fun i _ _ => (intOf i + 1).toNat)
    case atStart => exact ⟨l.length, ByteArray.empty, Nat.le_refl _, rfl, rfl, Lib.hid (by rw [M.amtParts_end]; rfl), BX, BB⟩
    case round =>
      clear BX BB R T hlo
      obtain ⟨n, S, hn, rfl, rfl, HP, HBX, HB⟩ := hrel
      have hSz : S.size ≤ 102 := by rw [HP.out]; exact HZ.out n hn
      have px := HBX.out.c1
      have pg := HBX.out.1
      cases n with
      | succ m =>
        have hml : m < l.length := by omega
        have hmk : m < k.length := by rw [HKL.out]; exact hml
        obtain ⟨gu, ou, hAu, hgu, u0, u1⟩ := ha.unit hml
        subst hAu
        obtain ⟨gk, ok, hAk, hgk, hck⟩ := hb.intB hmk
        subst hAk
        have a0 : K.At wr ⟨w.heap.size, 0, none⟩ (.slice (some ⟨gk, ok, none⟩) k.length d) := K.At.of pg px
        have a1 : K.At wr ⟨gk, ok + m, none⟩ (.int .i64 k[m]) := (K.At.of hgk hck).below HB.out
        have a2 : K.At wr ⟨gu, ou + m * 2, none⟩ (.string l[m].name) := (K.At.of hgu u0).below HB.out
        have c1 := a1.cell
        have c2 := a2.cell
        clear u0 u1 hck
        rw [show ((m + 1 : Nat) : Int) - 1 = m by omega]
        have h1 : (m : Int) < (l.length : Int) := by omega
        have h2 : (0 : Int) ≤ (m : Int) := by omega
        have h3 : (m : Int) < (k.length : Int) := by omega
        have HD := Lib.hid (M.amtParts_drop l k m hml hmk)
        rw [one_eq] at HD
        have hPF := Lib.hid (HF.out (l.length - (m + 1)) (m + 1) (by omega)).2
        have hnm := HNM.out m hml
        obtain ⟨hx0, hx9⟩ := hkx k[m] (List.getElem_mem _)
        generalize l[m].name = nm at *
        generalize l[m].size = sz at *
        generalize k[m] = v at *
        generalize M.amtParts (l.drop (m + 1)) (k.drop (m + 1)) = P at *
        by_cases hv : v = 0
        · subst hv
          have hd : ((0 : Int) == 0) = true := by simp
          have HK := Lib.hid (show S = M.jn ⟨#[44, 32]⟩ (M.amtParts (l.drop m) (k.drop m)) by rw [HD.out, HP.out]; simp)
          clear HD HP
          go_wp2_with fail
          go_roundw
          case rel => exact ⟨m, S, by omega, by first | rfl | go_num, rfl, HK, HBX, HB⟩
          case measure => simp [intOf]
        · have hd : (v == 0) = false := by simpa using hv
          have hts := M.txt4 hx0 hx9
          have HX := Lib.hid (fun w => Num.s_num v w (by omega) (by omega))
          by_cases hP0 : P = []
          · have HK := Lib.hid (show ByteArray.empty ++ M.txt v ++ ⟨#[32]⟩ ++ nm = M.jn ⟨#[44, 32]⟩ (M.amtParts (l.drop m) (k.drop m)) by rw [HD.out, if_neg hv, hP0, List.nil_append, M.jn_one]; simp [ByteArray.append_assoc])
            have hS0 : S = ByteArray.empty := by rw [HP.out, hP0]; rfl
            subst hS0
            clear HP HD hSz hP0 hPF
            generalize M.txt v = tx at *
            have y1 : ¬ (9223372036854775807 < tx.size + 1) := by omega
            have y3 : ¬ (9223372036854775807 < tx.size + 1 + nm.size) := by omega
            have y4 : tx.size + 1 ≤ 9223372036854775807 := by omega
            have y5 : tx.size + 1 + nm.size ≤ 9223372036854775807 := by omega
            go_wp2_with fail
            go_quiet ((go_at_call 76; exact Calls.quiet_of (HX.out _)))
            go_wp2_with fail
            go_roundw
            case rel => exact ⟨m, _, by omega, by first | rfl | go_num, rfl, HK, HBX, Lib.hid (K.below_drewN HB.out _)⟩
            case measure => simp [intOf]
          · have HK := Lib.hid (show S ++ ⟨#[44, 32]⟩ ++ M.txt v ++ ⟨#[32]⟩ ++ nm = M.jn ⟨#[44, 32]⟩ (M.amtParts (l.drop m) (k.drop m)) by rw [HD.out, if_neg hv, M.jn_snoc _ _ _ hP0, HP.out]; simp [ByteArray.append_assoc])
            have hS0 : ¬ S = ByteArray.empty := fun e => by
              have := M.jn_pos ⟨#[44, 32]⟩ P hP0 (fun x hx => (hPF.out x hx).1)
              rw [← HP.out, e] at this
              simp at this
            have hSe : S.toList.isEmpty = false := by
              cases h : S.toList with
              | nil => have := M.str_ne hS0; rw [h] at this; simp at this
              | cons => rfl
            clear HP HD hP0 hPF
            generalize M.txt v = tx at *
            go_wp2_with fail
            go_quiet ((go_at_call 76; exact Calls.quiet_of (HX.out _)))
            go_wp2_with fail
            go_roundw
            case rel => exact ⟨m, _, by omega, by first | rfl | go_num, rfl, HK, HBX, Lib.hid (K.below_drewN HB.out _)⟩
            case measure => simp [intOf]
      | zero =>
        rw [List.drop_zero, List.drop_zero] at HP
        by_cases hp : (M.amtParts l k).length = 0
        · have HT := Lib.hid (show M.amtTxt l k = ⟨#[48, 32]⟩ ++ M.name0 l by unfold M.amtTxt; rw [if_pos hp])
          have h0l : 0 < l.length := by omega
          obtain ⟨gu, ou, hAu, hgu, u0, u1⟩ := (ha.below HB.out).unit h0l
          subst hAu
          have u2 : wr.cell? ⟨gu, ou, none⟩ = some (.string l[0].name) := by simpa using u0
          clear u0
          have hN := Lib.hid (show M.name0 l = l[0].name by cases l with | nil => simp at h0l | cons => rfl)
          have hnm := HNM.out 0 h0l
          generalize l[0].name = nm at *
          have hS0 : S = ByteArray.empty := by rw [HP.out, List.eq_nil_of_length_eq_zero hp]; rfl
          subst hS0
          have hd0 : decide (0 < l.length) = true := decide_eq_true h0l
          clear hp HP u1
          go_wp2_with fail
          go_ret2
          exact ⟨by rw [HT.out, hN.out]; rfl, HB.out⟩
        · have HT := Lib.hid (show M.amtTxt l k = S by unfold M.amtTxt; rw [if_neg hp, HP.out])
          have hS0 : ¬ S = ByteArray.empty := fun e => by
            have hPF := (HF.out l.length 0 (by omega)).2
            rw [List.drop_zero, List.drop_zero] at hPF
            have := M.jn_pos ⟨#[44, 32]⟩ (M.amtParts l k) (fun h => hp (by rw [h]; rfl)) (fun x hx => (hPF x hx).1)
            rw [← HP.out, e] at this
            simp at this
          have hSe : S.toList.isEmpty = false := by
            cases h : S.toList with
            | nil => have := M.str_ne hS0; rw [h] at this; simp at this
            | cons => rfl
          clear hp HP
          go_wp2_with fail
          go_ret2
          exact ⟨by rw [HT.out]; rfl, HB.out⟩
end Go.Proofs.Ytfgnmjnlhnpmoaa.AmtText
