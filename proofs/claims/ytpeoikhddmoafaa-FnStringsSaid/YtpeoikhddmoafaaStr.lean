/-
  Walks: checksums and numbers' texts as the two packages offer them.
-/
import Derived.Test.YtpeoikhddmoafaaSplit
import Derived.Test.YtpeoikhddmoafaaNum
import Derived.Test.YtpeoikhddmoafaaBase
set_option linter.unusedVariables false
namespace Go.Proofs.Ytpeoikhddmoafaa.Str
open Go.RowKit

/-- a call that returns a text and a bool; nothing that was there has turned. -/
def RetStrB (w : World) (s : ByteArray) (ok : Bool) (e : Ending) (w' : World) : Prop := e = .returned (.tuple #[.string s, .bool ok]) ∧ Below w.heap.size w w'

set_option maxHeartbeats 400000 in
theorem s_l1Sum (s : ByteArray) (w : World) (hs : s.size ≤ 1048576) :
    Calls Try.prog 43 #[.string s] w fun e w' => e = .returned (.int .i64 (M.ck s.data.toList)) ∧ w = w' := by
  go_enter Try.func43, Try.ntmps43
  go_wp2
  go_loop [3, 4] (fun n i => ∃ k : Nat, k ≤ s.size ∧ i = .int .i64 k ∧ n = .int .i64 (M.ck (s.data.toList.take k))) (fun _ i => s.size - (intOf i).toNat)
  case atStart => exact ⟨0, Nat.zero_le _, rfl, rfl⟩
  case round =>
    obtain ⟨k, hk, rfl, rfl⟩ := hrel
    obtain ⟨hd0, hd1⟩ := M.ck_bd (s.data.toList.take k)
    by_cases hlt : k < s.size
    · have HS := Lib.hid (show M.ck (s.data.toList.take (k + 1)) = (41 * M.ck (s.data.toList.take k) + (s[k].toNat : Int) + 1) % 999979 by rw [M.take_snoc s k hlt, M.ck_snoc]; rfl)
      have hb : (s[k].toNat : Int) ≤ 255 := by have := s[k].toNat_lt; omega
      generalize M.ck (s.data.toList.take k) = h at *
      go_wp2
      go_round
      case rel => exact ⟨k + 1, by omega, by go_num, by rw [HS.out]⟩
      case measure => simp [intOf]; omega
    · go_wp2
      go_ret
      exact ⟨K.ret_int (by rw [List.take_of_length_le (by simp; omega)]), rfl⟩
set_option maxHeartbeats 400000 in
theorem i_cksum (s : ByteArray) (w : World) (hs : s.size ≤ 1048576) :
    Calls Try.prog 17 #[.string s] w fun e w' => e = .returned (.tuple #[.int .i64 (M.cksum s).1, .bool (M.cksum s).2]) ∧ w = w' := by
  by_cases h4 : s.size ≤ 4000
  · rw [show M.cksum s = (M.ck s.data.toList, true) by simp [M.cksum, h4]]
    have hd : decide ((4000 : Int) < s.size) = false := by simp; omega
    go_enter Try.func17, Try.ntmps17
    go_wp2
    go_loop [4, 5] (fun n i => ∃ k : Nat, k ≤ s.size ∧ i = .int .i64 k ∧ n = .int .i64 (M.ck (s.data.toList.take k))) (fun _ i => s.size - (intOf i).toNat)
    case atStart => exact ⟨0, Nat.zero_le _, rfl, rfl⟩
    case round =>
      obtain ⟨k, hk, rfl, rfl⟩ := hrel
      obtain ⟨hd0, hd1⟩ := M.ck_bd (s.data.toList.take k)
      by_cases hlt : k < s.size
      · have HS := Lib.hid (show M.ck (s.data.toList.take (k + 1)) = (41 * M.ck (s.data.toList.take k) + (s[k].toNat : Int) + 1) % 999979 by rw [M.take_snoc s k hlt, M.ck_snoc]; rfl)
        have hb : (s[k].toNat : Int) ≤ 255 := by have := s[k].toNat_lt; omega
        generalize M.ck (s.data.toList.take k) = h at *
        go_wp2
        go_round
        case rel => exact ⟨k + 1, by omega, by go_num, by rw [HS.out]⟩
        case measure => simp [intOf]; omega
      · have hl := Lib.hid (show s.data.toList.take k = s.data.toList from List.take_of_length_le (by simp; omega))
        go_wp2
        go_ret2
        exact ⟨by rw [hl.out]; rfl, rfl⟩
  · rw [show M.cksum s = (0, false) by simp [M.cksum, h4]]
    have hd : decide ((4000 : Int) < s.size) = true := by simp; omega
    go_enter Try.func17, Try.ntmps17
    go_wp2
    go_ret2
    exact ⟨rfl, rfl⟩
theorem s_cksum (s : ByteArray) (w : World) (hs : s.size ≤ 1048576) :
    Calls Try.prog 16 #[.string s] w fun e w' => e = .returned (.tuple #[.int .i64 (M.cksum s).1, .bool (M.cksum s).2]) ∧ w = w' := by
  by_cases h4 : s.size ≤ 4000
  · rw [show M.cksum s = (M.ck s.data.toList, true) by simp [M.cksum, h4]]
    have hd : decide ((4000 : Int) < s.size) = false := by simp; omega
    go_enter Try.func16, Try.ntmps16
    go_wp2_with fail
    refine (s_l1Sum s _ hs).mono ?_
    rintro e w1 ⟨rfl, rfl⟩
    go_wp2
    go_ret2
    exact ⟨rfl, rfl⟩
  · rw [show M.cksum s = (0, false) by simp [M.cksum, h4]]
    have hd : decide ((4000 : Int) < s.size) = true := by simp; omega
    go_enter Try.func16, Try.ntmps16
    go_wp2
    go_ret2
    exact ⟨rfl, rfl⟩
theorem i_fmt (n : Int) (w : World) : Calls Try.prog 19 #[.int .i64 n] w (RetStrB w (M.fmtInt n).1 (M.fmtInt n).2) := by
  by_cases h : -999999 ≤ n ∧ n ≤ 999999
  · rw [M.fmtInt_yes h]
    obtain ⟨h1, h2⟩ := h
    go_enter Try.func19, Try.ntmps19
    go_wp2_with fail
    refine (Base.i_within_yes _ _ _ _ h1 h2).mono ?_
    rintro e w1 ⟨rfl, rfl⟩
    go_wp2_with fail
    refine (Num.i_text n _ (by omega) (by omega)).mono ?_
    rintro e w1 ⟨rfl, hb⟩
    go_wp2
    go_ret2
    exact ⟨rfl, hb⟩
  · have h' : n < -999999 ∨ 999999 < n := by omega
    rw [M.fmtInt_no h']
    go_enter Try.func19, Try.ntmps19
    go_wp2_with fail
    refine (Base.i_within_no _ _ _ _ h').mono ?_
    rintro e w1 ⟨rfl, rfl⟩
    go_wp2
    go_ret2
    exact ⟨rfl, Below.refl _ _⟩
theorem s_fmt (n : Int) (w : World) : Calls Try.prog 18 #[.int .i64 n] w (RetStrB w (M.fmtInt n).1 (M.fmtInt n).2) := by
  by_cases h : -999999 ≤ n ∧ n ≤ 999999
  · rw [M.fmtInt_yes h]
    obtain ⟨h1, h2⟩ := h
    go_enter Try.func18, Try.ntmps18
    go_wp2_with fail
    refine (Base.s_in_yes _ _ _ _ h1 h2).mono ?_
    rintro e w1 ⟨rfl, rfl⟩
    go_wp2_with fail
    refine (Num.s_num n _ (by omega) (by omega)).mono ?_
    rintro e w1 ⟨rfl, m, rfl⟩
    go_wp2
    go_ret2
    exact ⟨rfl, K.below_drewN (Below.refl _ _) m⟩
  · have h' : n < -999999 ∨ 999999 < n := by omega
    rw [M.fmtInt_no h']
    go_enter Try.func18, Try.ntmps18
    go_wp2_with fail
    refine (Base.s_in_no _ _ _ _ h').mono ?_
    rintro e w1 ⟨rfl, rfl⟩
    go_wp2
    go_ret2
    exact ⟨rfl, Below.refl _ _⟩
theorem s_seal (s : ByteArray) (w : World) (hs : s.size ≤ 1048576) :
    Calls Try.prog 54 #[.string s] w fun e w' => e = .returned (.string (M.seal_ s)) ∧ Below w.heap.size w w' := by
  obtain ⟨h0, h1⟩ := M.ck_bd s.data.toList
  have hx := Lib.hid (show M.seal_ s = s ++ ⟨#[35]⟩ ++ M.txt (M.ck s.data.toList) by rw [M.txt_nn h0]; rfl)
  have hsz := M.txt_size20 (n := M.ck s.data.toList) (by omega) (by omega)
  have hc := Lib.hid (fun W => s_l1Sum s W hs)
  generalize M.ck s.data.toList = c at *
  go_enter Try.func54, Try.ntmps54
  go_wp2_with fail
  refine (hc.out _).mono ?_
  rintro e w1 ⟨rfl, rfl⟩
  go_wp2_with fail
  refine (Num.s_num c _ (by omega) (by omega)).mono ?_
  rintro e w1 ⟨rfl, m, rfl⟩
  go_wp2
  go_ret
  exact ⟨K.ret_str (by rw [hx.out]), K.below_drewN (Below.refl _ _) m⟩
set_option maxHeartbeats 400000 in
theorem s_append (s : ByteArray) (w : World) (hs : s.size ≤ 1048576) :
    Calls Try.prog 27 #[.string s] w (RetStrB w (M.sealed s).1 (M.sealed s).2) := by
  by_cases h4 : s.size ≤ 4000
  · have hd : decide ((4000 : Int) < s.size) = false := by simp; omega
    cases hst : M.stands s.data.toList 35
    · have hS := fun W => Base.s_stands s 35 W hs
      rw [hst] at hS
      have HS := Lib.hid hS
      clear hS
      by_cases hz : (M.seal_ s).size ≤ 4000
      · have hf := Lib.hid (M.sealed_yes h4 hst hz)
        have hd2 : decide ((4000 : Int) < (M.seal_ s).size) = false := by simp; omega
        have HC := Lib.hid (fun W => s_seal s W hs)
        clear hst
        generalize M.seal_ s = S at *
        go_enter Try.func27, Try.ntmps27
        go_wp2_with fail
        refine (HS.out _).mono ?_
        rintro e w1 ⟨rfl, rfl⟩
        go_wp2_with fail
        refine (HC.out _).mono ?_
        rintro e w1 ⟨rfl, hb⟩
        go_wp2_with fail
        refine (HC.out _).mono ?_
        rintro e w2 ⟨rfl, hb2⟩
        go_wp2
        go_ret2
        rw [hf.out]
        exact ⟨rfl, hb.trans (hb2.mono hb.size)⟩
      · have hf := Lib.hid (M.sealed_no (s := s) (fun h => hz h.2.2))
        have hd2 : decide ((4000 : Int) < (M.seal_ s).size) = true := by simp; omega
        have HC := Lib.hid (fun W => s_seal s W hs)
        clear hst
        generalize M.seal_ s = S at *
        go_enter Try.func27, Try.ntmps27
        go_wp2_with fail
        refine (HS.out _).mono ?_
        rintro e w1 ⟨rfl, rfl⟩
        go_wp2_with fail
        refine (HC.out _).mono ?_
        rintro e w1 ⟨rfl, hb⟩
        go_wp2
        go_ret2
        rw [hf.out]
        exact ⟨rfl, hb⟩
    · have hS := fun W => Base.s_stands s 35 W hs
      rw [hst] at hS
      have HS := Lib.hid hS
      have hf := Lib.hid (M.sealed_no (s := s) (fun h => by rw [hst] at h; exact absurd h.2.1 (by simp)))
      clear hS hst
      go_enter Try.func27, Try.ntmps27
      go_wp2_with fail
      refine (HS.out _).mono ?_
      rintro e w1 ⟨rfl, rfl⟩
      go_wp2
      go_ret2
      rw [hf.out]
      exact ⟨rfl, Below.refl _ _⟩
  · have hd : decide ((4000 : Int) < s.size) = true := by simp; omega
    have hf := Lib.hid (M.sealed_no (s := s) (fun h => h4 h.1))
    go_enter Try.func27, Try.ntmps27
    go_wp2_with fail
    go_ret2
    rw [hf.out]
    exact ⟨rfl, Below.refl _ _⟩
set_option maxHeartbeats 400000 in
theorem i_append (s : ByteArray) (w : World) (hs : s.size ≤ 1048576) :
    Calls Try.prog 28 #[.string s] w (RetStrB w (M.sealed s).1 (M.sealed s).2) := by
  by_cases h4 : s.size ≤ 4000
  · obtain ⟨h0, h1⟩ := M.ck_bd s.data.toList
    have hC := fun W => i_cksum s W hs
    rw [show M.cksum s = (M.ck s.data.toList, true) by simp [M.cksum, h4]] at hC
    dsimp only at hC
    have HC := Lib.hid hC
    clear hC
    have hx : M.seal_ s = s ++ ⟨#[35]⟩ ++ M.txt (M.ck s.data.toList) := by rw [M.txt_nn h0]; rfl
    have hsz := M.txt_size20 (n := M.ck s.data.toList) (by omega) (by omega)
    have hsp := M.spl_one s 35
    have hpos := M.spl_pos s 35
    have hxs : (M.seal_ s).size = s.size + 1 + (M.txt (M.ck s.data.toList)).size := by rw [hx, ByteArray.size_append, ByteArray.size_append]; rfl
    have HT := Lib.hid (fun W => Num.i_text (M.ck s.data.toList) W (by omega) (by omega))
    cases hst : M.stands s.data.toList 35
    · have hl : decide ((1 : Int) < (M.spl s 35).length) = false := by simp; have := hsp.2 hst; omega
      by_cases hz : (M.seal_ s).size ≤ 4000
      · rw [M.sealed_yes h4 hst hz, hx]
        have hd2 : decide ((4000 : Int) < (s.size : Int) + 1 + ((M.txt (M.ck s.data.toList)).size : Int)) = false := by simp; omega
        clear hst hsp hx hxs hz
        generalize M.txt (M.ck s.data.toList) = T at *
        generalize M.ck s.data.toList = c at *
        go_enter Try.func28, Try.ntmps28
        go_wp2_with fail
        refine (HC.out _).mono ?_
        rintro e w1 ⟨rfl, rfl⟩
        go_wp2_with fail
        refine (HT.out _).mono ?_
        rintro e w1 ⟨rfl, hb⟩
        go_wp2_with fail
        refine (Spl.i_split s 35 _ hs).mono ?_
        rintro e w2 ⟨A, cc, rfl, hrow, hb2⟩
        go_wp2
        go_ret2
        exact ⟨rfl, hb.trans (hb2.mono hb.size)⟩
      · rw [M.sealed_no (fun h => hz h.2.2)]
        have hd2 : decide ((4000 : Int) < (s.size : Int) + 1 + ((M.txt (M.ck s.data.toList)).size : Int)) = true := by simp; omega
        clear hst hsp hx hxs hz
        generalize M.txt (M.ck s.data.toList) = T at *
        generalize M.ck s.data.toList = c at *
        go_enter Try.func28, Try.ntmps28
        go_wp2_with fail
        refine (HC.out _).mono ?_
        rintro e w1 ⟨rfl, rfl⟩
        go_wp2_with fail
        refine (HT.out _).mono ?_
        rintro e w1 ⟨rfl, hb⟩
        go_wp2_with fail
        refine (Spl.i_split s 35 _ hs).mono ?_
        rintro e w2 ⟨A, cc, rfl, hrow, hb2⟩
        go_wp2
        go_ret2
        exact ⟨rfl, hb.trans (hb2.mono hb.size)⟩
    · have hl : decide ((1 : Int) < (M.spl s 35).length) = true := by
        simp
        have : ¬ (M.spl s 35).length = 1 := fun h => by rw [hsp.1 h] at hst; cases hst
        omega
      rw [M.sealed_no (fun h => by rw [hst] at h; exact absurd h.2.1 (by simp))]
      clear hst hsp hx hxs
      generalize M.txt (M.ck s.data.toList) = T at *
      generalize M.ck s.data.toList = c at *
      go_enter Try.func28, Try.ntmps28
      go_wp2_with fail
      refine (HC.out _).mono ?_
      rintro e w1 ⟨rfl, rfl⟩
      go_wp2_with fail
      refine (HT.out _).mono ?_
      rintro e w1 ⟨rfl, hb⟩
      go_wp2_with fail
      refine (Spl.i_split s 35 _ hs).mono ?_
      rintro e w2 ⟨A, cc, rfl, hrow, hb2⟩
      go_wp2
      go_ret2
      exact ⟨rfl, hb.trans (hb2.mono hb.size)⟩
  · rw [M.sealed_no (fun h => h4 h.1)]
    have hC := fun W => i_cksum s W hs
    rw [show M.cksum s = (0, false) by simp [M.cksum, h4]] at hC
    dsimp only at hC
    have HC := Lib.hid hC
    clear hC
    have hsz := M.txt_size20 (n := 0) (by omega) (by omega)
    have HT := Lib.hid (fun W => Num.i_text 0 W (by omega) (by omega))
    generalize M.txt 0 = T at *
    go_enter Try.func28, Try.ntmps28
    go_wp2_with fail
    refine (HC.out _).mono ?_
    rintro e w1 ⟨rfl, rfl⟩
    go_wp2_with fail
    refine (HT.out _).mono ?_
    rintro e w1 ⟨rfl, hb⟩
    go_wp2_with fail
    go_ret2
    exact ⟨rfl, hb⟩
theorem verify_sealed {s : ByteArray} (h : s.size ≤ 4000) (he : M.seal_ (M.ahead s) = s) : M.sealed (M.ahead s) = (s, true) := by
  rw [M.sealed_yes (Nat.le_trans (M.ahead_size s) h) (M.ahead_stands s) (by rw [he]; exact h), he]
theorem verify_other {s : ByteArray} (h : s.size ≤ 4000) (he : ¬ M.seal_ (M.ahead s) = s) : (M.sealed (M.ahead s)).2 = false ∨ ((M.sealed (M.ahead s)).2 = true ∧ ¬ (M.sealed (M.ahead s)).1 = s) := by
  unfold M.sealed
  split
  · exact .inr ⟨rfl, he⟩
  · exact .inl rfl
set_option maxHeartbeats 400000 in
theorem i_verify (s : ByteArray) (w : World) (hs : s.size ≤ 1048576) :
    Calls Try.prog 30 #[.string s] w (RetStrB w (M.verify s).1 (M.verify s).2) := by
  by_cases h4 : s.size ≤ 4000
  · have hd : decide ((4000 : Int) < s.size) = false := by simp; omega
    have has := M.ahead_size s
    have HA := Lib.hid (fun W => i_append (M.ahead s) W (by omega))
    have HE := Lib.hid (verify_sealed (s := s) h4)
    have HO := Lib.hid (verify_other (s := s) h4)
    have HY := Lib.hid (M.verify_yes (s := s) h4)
    have HN := Lib.hid (M.verify_no (s := s))
    have HC := Lib.hid (fun W => Spl.i_split s 35 W hs)
    obtain ⟨x, r, hx⟩ := M.spl_cons s 35
    have hxa : M.ahead s = x := by unfold M.ahead; rw [hx]; rfl
    rw [hx] at HC
    rw [hxa] at HA HE HO HY HN has
    clear hx hxa
    generalize hV : M.verify s = V at *
    have HV := Lib.hid hV
    clear hV
    generalize hS : M.sealed x = S at *
    obtain ⟨S1, S2⟩ := S
    clear hS
    go_enter Try.func30, Try.ntmps30
    go_wp2_with fail
    refine (HC.out _).mono ?_
    rintro e w1 ⟨A, c, rfl, hrow, hb⟩
    obtain ⟨g, u, rfl, hlo, hgs, hu, hc, hf⟩ := hrow.at_ (j := 0) (by simp)
    obtain rfl := Option.some.inj hu
    clear hu hf
    go_wp2_with fail
    refine (HA.out _).mono ?_
    rintro e w2 ⟨rfl, hb2⟩
    have hbb := hb.trans (hb2.mono hb.size)
    clear hc hrow hb hb2
    by_cases he : M.seal_ x = s
    · have h1 := HE.out he
      have h2 := HY.out he
      injection h1 with h1a h1b
      subst h1a h1b
      have hv : V = (x, true) := h2
      clear HE HO HY HN h2 he HA HC
      subst hv
      go_wp2
      go_ret2
      exact ⟨rfl, hbb⟩
    · have h2 : V = (ByteArray.empty, false) := HN.out (fun h => he h.2)
      subst h2
      rcases HO.out he with h1 | ⟨h1, h3⟩
      · subst h1
        clear HE HO HY HN he HA HC
        go_wp2
        go_ret2
        exact ⟨rfl, hbb⟩
      · subst h1
        have hne := M.str_ne h3
        clear HE HO HY HN he HA HC h3
        go_wp2
        go_ret2
        exact ⟨rfl, hbb⟩
  · rw [M.verify_no (fun h => h4 h.1)]
    have hd : decide ((4000 : Int) < s.size) = true := by simp; omega
    go_enter Try.func30, Try.ntmps30
    go_wp2_with fail
    go_ret2
    exact ⟨rfl, Below.refl _ _⟩
set_option maxHeartbeats 400000 in
theorem s_verify (s : ByteArray) (w : World) (hs : s.size ≤ 1048576) :
    Calls Try.prog 29 #[.string s] w (RetStrB w (M.verify s).1 (M.verify s).2) := by
  by_cases h4 : s.size ≤ 4000
  · have hd : decide ((4000 : Int) < s.size) = false := decide_eq_false (by omega)
    have has := M.ahead_size s
    have HA := Lib.hid (fun W => s_seal (M.ahead s) W (by omega))
    have HY := Lib.hid (M.verify_yes (s := s) h4)
    have HN := Lib.hid (M.verify_no (s := s))
    have HC := Lib.hid (fun W => Spl.s_split s 35 W hs)
    obtain ⟨x, r, hx⟩ := M.spl_cons s 35
    have hxa : M.ahead s = x := by unfold M.ahead; rw [hx]; rfl
    rw [hx] at HC
    rw [hxa] at HA HY HN has
    clear hx hxa
    generalize hV : M.verify s = V at HY HN ⊢
    clear hV
    generalize M.seal_ x = S at *
    go_enter Try.func29, Try.ntmps29
    go_wp2_with fail
    refine (HC.out _).mono ?_
    rintro e w1 ⟨A, c, rfl, hrow, hb⟩
    obtain ⟨g, u, rfl, hlo, hgs, hu, hc, hf⟩ := hrow.at_ (j := 0) (by simp)
    obtain rfl := Option.some.inj hu
    clear hu hf
    go_wp2_with fail
    refine (HA.out _).mono ?_
    rintro e w2 ⟨rfl, hb2⟩
    have hbb := hb.trans (hb2.mono hb.size)
    clear hc hrow hb hb2
    by_cases he : S = s
    · have hv := HY.out he
      have heq := M.str_eq he
      subst hv
      clear HY HN he HA HC
      go_wp2
      go_ret2
      exact ⟨rfl, hbb⟩
    · have hv := HN.out (fun h => he h.2)
      have hne := M.str_ne he
      subst hv
      clear HY HN he HA HC
      go_wp2
      go_ret2
      exact ⟨rfl, hbb⟩
  · rw [M.verify_no (fun h => h4 h.1)]
    have hd : decide ((4000 : Int) < s.size) = true := decide_eq_true (by omega)
    go_enter Try.func29, Try.ntmps29
    go_wp2_with fail
    go_ret2
    exact ⟨rfl, Below.refl _ _⟩
end Go.Proofs.Ytpeoikhddmoafaa.Str
