/-
  Walks: texts put together, in the program and in the reference.
-/
import Derived.Test.YtpeoikhddmoafaaSplit
import Derived.Test.YtpeoikhddmoafaaBase
import Derived.Deep.RegionHeld3
set_option linter.unusedVariables false
namespace Go.Proofs.Ytpeoikhddmoafaa.Join
open Go.RowKit

set_option maxHeartbeats 1000000 in
theorem i_join (A : Option Addr) (c : Nat) (l : List ByteArray) (sep : ByteArray) (w : World) (hl : l.length ≤ 1048576) (hz : (M.jn sep l).size ≤ 4611686018427387904) (ha : K.Rd w 1 A l.length (l.map Value.string)) :
    Calls Try.prog 55 #[.slice A l.length c, .string sep] w fun e w' => e = .returned (.string (M.jn sep l)) ∧ w = w' := by
  have HZ := Lib.hid (fun k (h : k ≤ l.length) => Nat.le_trans (M.jn_le sep l k h) hz)
  have HE := Lib.hid (show l.take l.length = l from List.take_length)
  clear hz
  go_enter Try.func55, Try.ntmps55
  go_wp2_with fail
  go_loop [5, 10] (fun o i => ∃ k : Nat, k ≤ l.length ∧ i = .int .i64 k ∧ o = .string (M.jn sep (l.take k))) (fun _ i => l.length - (intOf i).toNat)
  case atStart => exact ⟨0, Nat.zero_le _, rfl, by simp [M.jn_nil]; rfl⟩
  case round =>
    obtain ⟨k, hk, rfl, rfl⟩ := hrel
    by_cases hlt : k < l.length
    · obtain ⟨g, o, rfl, hc⟩ := ha.str hlt
      have hs := HZ.out (k + 1) (by omega)
      have hj := M.jn_take sep l k hlt
      have h1 : (k : Int) < (l.length : Int) := by omega
      have h2 : (0 : Int) ≤ (k : Int) := by omega
      by_cases h0 : k = 0
      · have hd : decide (0 < k) = false := decide_eq_false (by omega)
        rw [if_pos h0] at hj
        rw [hj, ByteArray.size_append] at hs
        have HJ := Lib.hid hj
        clear hj h0
        generalize M.jn sep (l.take k) = T at *
        go_wp2
        go_round
        case rel => exact ⟨k + 1, by omega, by go_num, by rw [HJ.out]⟩
        case measure => simp [intOf]; omega
      · have hd : decide (0 < k) = true := decide_eq_true (by omega)
        rw [if_neg h0] at hj
        rw [hj, ByteArray.size_append, ByteArray.size_append] at hs
        have HJ := Lib.hid hj
        clear hj h0
        generalize M.jn sep (l.take k) = T at *
        go_wp2
        go_round
        case rel => exact ⟨k + 1, by omega, by go_num, by rw [HJ.out]⟩
        case measure => simp [intOf]; omega
    · obtain rfl : k = l.length := by omega
      rw [HE.out]
      go_wp2
      go_ret
      exact ⟨rfl, rfl⟩

def RetStrB (w : World) (s : ByteArray) (ok : Bool) (e : Ending) (w' : World) : Prop := e = .returned (.tuple #[.string s, .bool ok]) ∧ Below w.heap.size w w'
set_option maxHeartbeats 2000000 in
theorem i_joins (A : Option Addr) (c : Nat) (l : List ByteArray) (sep : ByteArray) (w : World) (hl : l.length ≤ 1048576) (hss : ∀ x ∈ l, x.size ≤ 1048576) (hsep : sep.size ≤ 1048576) (ha : K.Rd w 1 A l.length (l.map Value.string)) :
    Calls Try.prog 34 #[.slice A l.length c, .string sep] w (RetStrB w (M.joinR l sep).1 (M.joinR l sep).2) := by
  by_cases h0 : l.length = 0
  · have e0 : ((l.length : Int) == 0) = true := beq_iff_eq.2 (by omega)
    rw [M.joinR_no0 (fun h => h.1 (List.eq_nil_of_length_eq_zero h0))]
    clear h0 hss
    go_enter Try.func34, Try.ntmps34
    go_wp2
    go_ret2
    exact ⟨rfl, Below.refl _ _⟩
  · have e0 : ((l.length : Int) == 0) = false := beq_eq_false_iff_ne.2 (by omega)
    by_cases h1 : sep.size = 1
    · have e1 : ((sep.size : Int) != 1) = false := by rw [bne_eq_false_iff_eq]; omega
      have hp : 0 < sep.size := by omega
      have hne : l ≠ [] := fun e => h0 (by rw [e]; rfl)
      have hlenB := Lib.hid (fun k h => M.lenK_bd l 1048576 hss k h)
      have hS := Lib.hid (fun x (hx : x ∈ l) (h3 : M.stands x.data.toList (sep[0]'hp).toNat = true) => show M.joinR l sep = (ByteArray.empty, false) from M.joinR_no1 hp hx h3)
      have hJ := Lib.hid (show M.jnLen l = (M.jn sep l).size from M.jnLen_eq sep h1 l hne)
      have hY := Lib.hid (fun h3 h4 => show M.joinR l sep = (M.jn sep l, true) from M.joinR_yes hne hp h1 h3 h4)
      have hN := Lib.hid (fun h4 => show M.joinR l sep = (ByteArray.empty, false) from M.joinR_no2 h4)
      generalize hR : M.joinR l sep = R at hS hY hN ⊢
      have HSS := Lib.hid hss
      clear hR h0 hss hne
      go_enter Try.func34, Try.ntmps34
      go_wp2_with fail
      go_loopw [6, 22] (fun n i wr => ∃ k : Nat, k ≤ l.length ∧ i = .int .i64 k ∧ n = .int .i64 (M.lenK l k) ∧ Hid (∀ x ∈ l.take k, M.stands x.data.toList (sep[0]'hp).toNat = false) ∧ Below w.heap.size w wr) (fun _ i _ => l.length - (intOf i).toNat)
      case atStart => exact ⟨0, Nat.zero_le _, rfl, by simp [M.lenK], Lib.hid (by simp), Below.refl _ _⟩
      case round =>
        obtain ⟨k, hk, rfl, rfl, hno, hb⟩ := hrel
        obtain ⟨hb1, hb2⟩ := hlenB.out k hk
        have hbs := hb.size
        by_cases hlt : k < l.length
        · obtain ⟨g, o, rfl, hc⟩ := (ha.below hb).str hlt
          have hm := List.getElem_mem hlt
          have hsz := HSS.out _ hm
          have hx := M.lenK_succ l k hlt
          have HX := Lib.hid hx
          have h1' : (k : Int) < (l.length : Int) := by omega
          have h2' : (0 : Int) ≤ (k : Int) := by omega
          have hsp := M.spl_one l[k] (sep[0]'hp).toNat
          have hpos := M.spl_pos l[k] (sep[0]'hp).toNat
          have HC := Lib.hid (fun W => Spl.i_split l[k] (sep[0]'hp).toNat W hsz)
          have HM := Lib.hid hm
          clear hx hm
          generalize M.lenK l k = L at *
          by_cases hst : M.stands l[k].data.toList (sep[0]'hp).toNat = false
          · have hd : decide ((1 : Int) < (M.spl l[k] (sep[0]'hp).toNat).length) = false := decide_eq_false (by have := hsp.2 hst; omega)
            have HST := Lib.hid hst
            clear hsp hst
            go_wp2_with fail
            refine (HC.out _).mono ?_
            rintro e w1 ⟨B, d, rfl, hrow, hb3⟩
            go_wp2
            go_roundw
            case rel =>
              refine ⟨k + 1, by omega, by go_num, by rw [HX.out], Lib.hid (fun x hx => ?_), hb.trans (hb3.mono hbs)⟩
              rw [List.take_succ_eq_append_getElem hlt] at hx
              rcases List.mem_append.1 hx with h | h
              · exact hno.out x h
              · rw [List.mem_singleton.1 h]; exact HST.out
            case measure => simp [intOf]; omega
          · have hst' : M.stands l[k].data.toList (sep[0]'hp).toNat = true := by simpa using hst
            have hd : decide ((1 : Int) < (M.spl l[k] (sep[0]'hp).toNat).length) = true := decide_eq_true (by
              have : ¬ (M.spl l[k] (sep[0]'hp).toNat).length = 1 := fun h => hst (hsp.1 h)
              omega)
            have hf := hS.out _ HM.out hst'
            subst hf
            clear hsp hst hst'
            go_wp2_with fail
            refine (HC.out _).mono ?_
            rintro e w1 ⟨B, d, rfl, hrow, hb3⟩
            go_wp2
            go_ret2
            exact ⟨rfl, hb.trans (hb3.mono hbs)⟩
        · obtain rfl : k = l.length := by omega
          have hno' : ∀ x ∈ l, M.stands x.data.toList (sep[0]'hp).toNat = false := by have := hno.out; rwa [List.take_length] at this
          rw [M.lenK_all] at *
          rw [hJ.out] at *
          by_cases h4 : (M.jn sep l).size ≤ 4000
          · have hd : decide ((4000 : Int) < (M.jn sep l).size) = false := decide_eq_false (by omega)
            have hf := hY.out hno' h4
            subst hf
            clear hno' hno hS hY hN
            have HC := Lib.hid (fun W h => i_join A c l sep W hl (by omega) h)
            generalize M.jn sep l = T at *
            go_wp2_with fail
            refine (HC.out _ (ha.below hb)).mono ?_
            rintro e w1 ⟨rfl, rfl⟩
            go_wp2
            go_ret2
            exact ⟨rfl, hb⟩
          · have hd : decide ((4000 : Int) < (M.jn sep l).size) = true := decide_eq_true (by omega)
            have hf := hN.out h4
            subst hf
            clear hno' hno hS hY hN
            generalize M.jn sep l = T at *
            go_wp2
            go_ret2
            exact ⟨rfl, hb⟩
    · have e1 : ((sep.size : Int) != 1) = true := by rw [bne_iff_ne]; omega
      rw [M.joinR_no0 (fun h => h1 h.2)]
      clear h0 hss
      go_enter Try.func34, Try.ntmps34
      go_wp2
      go_ret2
      exact ⟨rfl, Below.refl _ _⟩
set_option maxHeartbeats 2000000 in
theorem s_joins (A : Option Addr) (c : Nat) (l : List ByteArray) (sep : ByteArray) (w : World) (hl : l.length ≤ 1048576) (hss : ∀ x ∈ l, x.size ≤ 1048576) (hsep : sep.size ≤ 1048576) (ha : K.Rd w 1 A l.length (l.map Value.string)) :
    Calls Try.prog 32 #[.slice A l.length c, .string sep] w (RetStrB w (M.joinR l sep).1 (M.joinR l sep).2) := by
  by_cases h1 : sep.size = 1
  · have e1 : ((sep.size : Int) != 1) = false := by rw [bne_eq_false_iff_eq]; omega
    by_cases h0 : l.length = 0
    · have e0 : ((l.length : Int) == 0) = true := beq_iff_eq.2 (by omega)
      rw [M.joinR_no0 (fun h => h.1 (List.eq_nil_of_length_eq_zero h0))]
      clear h0 hss
      go_enter Try.func32, Try.ntmps32
      go_wp2
      go_ret2
      exact ⟨rfl, Below.refl _ _⟩
    · have e0 : ((l.length : Int) == 0) = false := beq_eq_false_iff_ne.2 (by omega)
      have hp : 0 < sep.size := by omega
      have hne : l ≠ [] := fun e => h0 (by rw [e]; rfl)
      have hS := Lib.hid (fun x (hx : x ∈ l) (h3 : M.stands x.data.toList (sep[0]'hp).toNat = true) => show M.joinR l sep = (ByteArray.empty, false) from M.joinR_no1 hp hx h3)
      have hY := Lib.hid (fun h3 h4 => show M.joinR l sep = (M.jn sep l, true) from M.joinR_yes hne hp h1 h3 h4)
      have hN := Lib.hid (fun h4 => show M.joinR l sep = (ByteArray.empty, false) from M.joinR_no2 h4)
      have HLE := Lib.hid (fun k (h : k ≤ l.length) => M.jn_le sep l k h)
      generalize hR : M.joinR l sep = R at hS hY hN ⊢
      have HSS := Lib.hid hss
      clear hR h0 hss hne
      have hp0 : (0 : Int) < (sep.size : Int) := by omega
      go_enter Try.func32, Try.ntmps32
      go_wp2_with fail
      go_loopw [6, 7] (fun o i wr => ∃ k : Nat, k ≤ l.length ∧ i = .int .i64 k ∧ o = .string (M.jn sep (l.take k)) ∧ (M.jn sep (l.take k)).size ≤ 4000 ∧ Hid (∀ x ∈ l.take k, M.stands x.data.toList (sep[0]'hp).toNat = false) ∧ K.Qt w wr) (fun _ i _ => l.length - (intOf i).toNat)
      case atStart => exact ⟨0, Nat.zero_le _, rfl, by simp [M.jn_nil]; rfl, by simp [M.jn_nil], Lib.hid (by simp), K.Qt.refl _⟩
      case round =>
        obtain ⟨k, hk, rfl, rfl, hjs, hno, hq⟩ := hrel
        by_cases hlt : k < l.length
        · obtain ⟨g, o, rfl, hc⟩ := (hq.rd ha).str hlt
          have hm := List.getElem_mem hlt
          have hsz := HSS.out _ hm
          have h1' : (k : Int) < (l.length : Int) := by omega
          have h2' : (0 : Int) ≤ (k : Int) := by omega
          have hC := fun W => Base.s_stands l[k] (sep[0]'hp).toNat W hsz
          have HM := Lib.hid hm
          clear hm
          by_cases hst : M.stands l[k].data.toList (sep[0]'hp).toNat = false
          · rw [hst] at hC
            have HC := Lib.hid hC
            have HST := Lib.hid hst
            have hj := M.jn_take sep l k hlt
            have hle := HLE.out (k + 1) (by omega)
            have HNO := Lib.hid (show ∀ x ∈ l.take (k + 1), M.stands x.data.toList (sep[0]'hp).toNat = false from fun x hx => by
              rw [List.take_succ_eq_append_getElem hlt] at hx
              rcases List.mem_append.1 hx with h | h
              · exact hno.out x h
              · rw [List.mem_singleton.1 h]; exact HST.out)
            clear hC hst
            by_cases h0 : k = 0
            case' pos =>
              have hd : decide (0 < k) = false := decide_eq_false (by omega)
              rw [if_pos h0] at hj
              have hj2 : (M.jn sep (l.take (k + 1))).size = (M.jn sep (l.take k)).size + l[k].size := by rw [hj, ByteArray.size_append]
            case' neg =>
              have hd : decide (0 < k) = true := decide_eq_true (by omega)
              have hd' : 0 < k := by omega
              rw [if_neg h0] at hj
              have hj2 : (M.jn sep (l.take (k + 1))).size = (M.jn sep (l.take k)).size + sep.size + l[k].size := by rw [hj, ByteArray.size_append, ByteArray.size_append]
            all_goals
              have HJ := Lib.hid hj
              have HN' := Lib.hid (fun h : 4000 < (M.jn sep (l.take (k + 1))).size => hN.out (by omega))
              rw [hj2] at hle HN'
              clear hj hj2 h0
              generalize M.jn sep (l.take k) = T at *
              go_wp2_with fail
              go_quiet ((go_at_call 53; exact K.quiet_l (HC.out _)))
            · by_cases h4 : T.size + sep.size + l[k].size ≤ 4000
              · have hd4 : decide ((4000 : Int) < (T.size : Int) + 1 + (l[k].size : Int)) = false := decide_eq_false (by omega)
                go_wp2
                go_roundw
                case rel => exact ⟨k + 1, by omega, by go_num, by rw [HJ.out], by rw [HJ.out, ByteArray.size_append, ByteArray.size_append]; omega, HNO, hq.then_ _⟩
                case measure => simp [intOf]; omega
              · have hd4 : decide ((4000 : Int) < (T.size : Int) + 1 + (l[k].size : Int)) = true := decide_eq_true (by omega)
                have hf := HN'.out (by omega)
                subst hf
                go_wp2
                go_ret2
                exact ⟨rfl, K.below_drewN (hq.below _) _⟩
            · by_cases h4 : T.size + l[k].size ≤ 4000
              · have hd4 : decide ((4000 : Int) < (T.size : Int) + (l[k].size : Int)) = false := decide_eq_false (by omega)
                go_wp2
                go_roundw
                case rel => exact ⟨k + 1, by omega, by go_num, by rw [HJ.out], by rw [HJ.out, ByteArray.size_append]; omega, HNO, hq.then_ _⟩
                case measure => simp [intOf]; omega
              · have hd4 : decide ((4000 : Int) < (T.size : Int) + (l[k].size : Int)) = true := decide_eq_true (by omega)
                have hf := HN'.out (by omega)
                subst hf
                go_wp2
                go_ret2
                exact ⟨rfl, K.below_drewN (hq.below _) _⟩
          · have hst' : M.stands l[k].data.toList (sep[0]'hp).toNat = true := by simpa using hst
            rw [hst'] at hC
            have HC := Lib.hid hC
            have hf := hS.out _ HM.out hst'
            subst hf
            clear hC hst hst'
            generalize M.jn sep (l.take k) = T at *
            go_wp2_with fail
            go_quiet ((go_at_call 53; exact K.quiet_l (HC.out _)))
            go_wp2
            go_ret2
            exact ⟨rfl, K.below_drewN (hq.below _) _⟩
        · obtain rfl : k = l.length := by omega
          have hno' : ∀ x ∈ l, M.stands x.data.toList (sep[0]'hp).toNat = false := by have := hno.out; rwa [List.take_length] at this
          rw [List.take_length] at *
          have hf := hY.out hno' hjs
          subst hf
          clear hno' hno hS hY hN
          generalize M.jn sep l = T at *
          go_wp2
          go_ret2
          exact ⟨rfl, hq.below _⟩
  · have e1 : ((sep.size : Int) != 1) = true := by rw [bne_iff_ne]; omega
    rw [M.joinR_no0 (fun h => h1 h.2)]
    clear hss
    go_enter Try.func32, Try.ntmps32
    go_wp2
    go_ret2
    exact ⟨rfl, Below.refl _ _⟩
end Go.Proofs.Ytpeoikhddmoafaa.Join
