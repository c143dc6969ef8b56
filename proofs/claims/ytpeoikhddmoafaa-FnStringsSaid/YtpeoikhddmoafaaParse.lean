/-
  Walks: a text read as a number, in the program and in the reference.
-/
import Derived.Test.YtpeoikhddmoafaaNum
import Derived.Test.YtpeoikhddmoafaaBase
import Derived.Test.YtpeoikhddmoafaaParseM
set_option linter.unusedVariables false
namespace Go.Proofs.Ytpeoikhddmoafaa.Parse
open Go.RowKit

set_option maxHeartbeats 1000000 in
theorem number_mid (s : ByteArray) (w : World) (h1 : 1 ≤ s.size) (h2 : s.size ≤ 9) (h3 : M.lead s.data.toList = true) :
    Calls Try.prog 49 #[.string s] w fun e w' => e = .returned (.tuple #[.int .i64 (M.numR s).1, .bool (M.numR s).2]) ∧ w = w' := by
  have hp : 0 < s.size := by omega
  have e0 : ((s.size : Int) == 0) = false := beq_eq_false_iff_ne.2 (by omega)
  have e9 : decide ((9 : Int) < s.size) = false := by simp; omega
  have hy := Lib.hid (fun h4 : s.data.toList.all M.isDg = true => show M.numR s = (M.val s.data.toList, true) from M.numR_yes ⟨h1, h2, (M.lead_iff _).1 h3, h4⟩)
  have hn := Lib.hid (fun h4 : s.data.toList.all M.isDg = false => show M.numR s = (0, false) from M.numR_no fun k => by have := k.2.2.2; rw [h4] at this; cases this)
  rw [M.lead_of s hp] at h3
  generalize hR : M.numR s = R at hy hn ⊢
  clear hR
  by_cases h48 : (s[0].toNat : Int) = 48
  case' pos =>
    have b48 : ((s[0].toNat : Int) == 48) = true := beq_iff_eq.2 h48
    have b1 : decide ((1 : Int) < s.size) = false := by rw [b48] at h3; simpa using h3
    clear h48 h3
  case' neg =>
    have b48 : ((s[0].toNat : Int) == 48) = false := beq_eq_false_iff_ne.2 h48
    clear h48 h3
  all_goals
    go_enter Try.func49, Try.ntmps49
    go_wp2_with fail
    go_loop [4, 5] (fun n i => ∃ k : Nat, k ≤ s.size ∧ i = .int .i64 k ∧ n = .int .i64 (M.val (s.data.toList.take k)) ∧ Hid ((s.data.toList.take k).all M.isDg = true)) (fun _ i => s.size - (intOf i).toNat)
    case atStart => exact ⟨0, Nat.zero_le _, rfl, by simp [M.val], Lib.hid (by simp)⟩
    case round =>
      obtain ⟨k, hk, rfl, rfl, hall⟩ := hrel
      obtain ⟨hv0, hv1⟩ := M.val_bd _ hall.out (by rw [List.length_take, M.ba_len]; omega)
      by_cases hlt : k < s.size
      · have HV := Lib.hid (M.val_take s k hlt)
        have HD := Lib.hid (M.dg_take s k hlt)
        have hb : (s[k].toNat : Int) ≤ 255 := by have := s[k].toNat_lt; omega
        generalize M.val (s.data.toList.take k) = v at *
        by_cases hlo : (s[k].toNat : Int) < 48
        · have hf := hn.out (M.dg_false (k := k + 1) (by rw [HD.out, hall.out]; simp [M.isDg]; omega))
          subst hf
          clear hy hn
          go_wp2
          go_ret2
          exact ⟨rfl, rfl⟩
        · have blo : decide ((s[k].toNat : Int) < 48) = false := by simp; omega
          by_cases hhi : 57 < (s[k].toNat : Int)
          · have hf := hn.out (M.dg_false (k := k + 1) (by rw [HD.out, hall.out]; simp [M.isDg]; omega))
            subst hf
            clear hy hn
            go_wp2
            go_ret2
            exact ⟨rfl, rfl⟩
          · have HA := Lib.hid (show (s.data.toList.take (k + 1)).all M.isDg = true by rw [HD.out, hall.out]; simp [M.isDg]; omega)
            have hlo' : 48 ≤ (s[k].toNat : Int) := by omega
            go_wp2
            go_round
            case rel => exact ⟨k + 1, by omega, by go_num, by rw [HV.out], HA⟩
            case measure => simp [intOf]; omega
      · obtain rfl : k = s.size := by omega
        have e := M.take_all s
        have hf := hy.out (by rw [← e]; exact hall.out)
        subst hf
        have HE := Lib.hid e
        clear e hy hn
        go_wp2
        go_ret2
        exact ⟨by rw [HE.out]; rfl, rfl⟩
theorem number_any (s : ByteArray) (w : World) (hs : s.size ≤ 1048576) :
    Calls Try.prog 49 #[.string s] w fun e w' => e = .returned (.tuple #[.int .i64 (M.numR s).1, .bool (M.numR s).2]) ∧ w = w' := by
  by_cases h1 : 1 ≤ s.size
  · by_cases h2 : s.size ≤ 9
    · cases h3 : M.lead s.data.toList
      · rw [M.numR_no fun k => by have := (M.lead_iff _).2 k.2.2.1; rw [h3] at this; cases this]
        have hp : 0 < s.size := h1
        have e0 : ((s.size : Int) == 0) = false := beq_eq_false_iff_ne.2 (by omega)
        have e9 : decide ((9 : Int) < s.size) = false := by simp; omega
        rw [M.lead_of s hp] at h3
        have h4 : (((s[0].toNat : Int) == 48) && decide ((1 : Int) < s.size)) = true := by simpa using h3
        obtain ⟨b48, b1⟩ := Bool.and_eq_true_iff.1 h4
        clear h3 h4
        go_enter Try.func49, Try.ntmps49
        go_wp2
        go_ret2
        exact ⟨rfl, rfl⟩
      · exact number_mid s w h1 h2 h3
    · rw [M.numR_no fun k => by have := k.2.1; omega]
      have e0 : ((s.size : Int) == 0) = false := beq_eq_false_iff_ne.2 (by omega)
      have e9 : decide ((9 : Int) < s.size) = true := by simp; omega
      go_enter Try.func49, Try.ntmps49
      go_wp2
      go_ret2
      exact ⟨rfl, rfl⟩
  · rw [M.numR_no fun k => by have := k.1; omega]
    have e0 : ((s.size : Int) == 0) = true := beq_iff_eq.2 (by omega)
    go_enter Try.func49, Try.ntmps49
    go_wp2
    go_ret2
    exact ⟨rfl, rfl⟩

/-- a call that reads a text as a number. -/
def RetP (s : ByteArray) (w : World) (e : Ending) (w' : World) : Prop := ∃ n ok, e = .returned (.tuple #[.int .i64 n, .bool ok]) ∧ M.Parses s n ok ∧ Below w.heap.size w w'
set_option maxHeartbeats 1000000 in
theorem i_parse (s : ByteArray) (w : World) (hs : s.size ≤ 1048576) : Calls Try.prog 21 #[.string s] w (RetP s w) := by
  by_cases hp : 0 < s.size
  · have g0 : decide ((0 : Int) < s.size) = true := by simp; omega
    by_cases h45 : (s[0].toNat : Int) = 45
    · have b45 : ((s[0].toNat : Int) == 45) = true := beq_iff_eq.2 h45
      have hm := Lib.hid (M.parses_minus (M.tail_toList s hp h45))
      have hsz : (s.extract 1 s.size).size = s.size - 1 := by rw [ByteArray.size_extract]; omega
      have HN := Lib.hid (fun W => number_any (s.extract 1 s.size) W (by omega))
      clear h45 hsz
      by_cases hok : M.NumOk (s.extract 1 s.size)
      · have hv0 := M.val_bd _ hok.2.2.2 (by rw [M.ba_len]; exact hok.2.1)
        obtain ⟨hva, hvb⟩ := hv0
        rw [M.numR_yes hok] at HN
        by_cases hv : M.val (s.extract 1 s.size).data.toList ≤ 999999
        · by_cases hz : M.val (s.extract 1 s.size).data.toList = 0
          · have hr := hm.out.2 (fun k => k.2.2 hz)
            have bz : (M.val (s.extract 1 s.size).data.toList == 0) = true := beq_iff_eq.2 hz
            have HR := Lib.hid hr
            clear hm hr hz hok
            generalize M.val (s.extract 1 s.size).data.toList = v at *
            go_enter Try.func21, Try.ntmps21
            go_wp2_with fail
            refine (HN.out _).mono ?_
            rintro e w1 ⟨rfl, rfl⟩
            go_wp2
            go_ret2
            exact ⟨_, _, rfl, HR.out, Below.refl _ _⟩
          · have hr := hm.out.1 ⟨hok, hv, hz⟩
            have bz : (M.val (s.extract 1 s.size).data.toList == 0) = false := beq_eq_false_iff_ne.2 hz
            have HR := Lib.hid hr
            clear hm hr hz hok
            generalize M.val (s.extract 1 s.size).data.toList = v at *
            go_enter Try.func21, Try.ntmps21
            go_wp2_with fail
            refine (HN.out _).mono ?_
            rintro e w1 ⟨rfl, rfl⟩
            go_wp2
            go_ret2
            exact ⟨_, _, rfl, (by simpa using HR.out), Below.refl _ _⟩
        · have hr := hm.out.2 (fun k => hv k.2.1)
          have HR := Lib.hid hr
          clear hm hr hok
          generalize M.val (s.extract 1 s.size).data.toList = v at *
          go_enter Try.func21, Try.ntmps21
          go_wp2_with fail
          refine (HN.out _).mono ?_
          rintro e w1 ⟨rfl, rfl⟩
          go_wp2
          go_ret2
          exact ⟨_, _, rfl, HR.out, Below.refl _ _⟩
      · have hr := hm.out.2 (fun k => hok k.1)
        rw [M.numR_no hok] at HN
        have HR := Lib.hid hr
        clear hm hr hok
        go_enter Try.func21, Try.ntmps21
        go_wp2_with fail
        refine (HN.out _).mono ?_
        rintro e w1 ⟨rfl, rfl⟩
        go_wp2
        go_ret2
        exact ⟨_, _, rfl, HR.out, Below.refl _ _⟩
    · have b45 : ((s[0].toNat : Int) == 45) = false := beq_eq_false_iff_ne.2 h45
      have hm := Lib.hid (M.parses_plain (M.first_ne s (fun _ => h45)))
      have HN := Lib.hid (fun W => number_any s W hs)
      clear h45
      by_cases hok : M.NumOk s
      · have hv0 := M.val_bd _ hok.2.2.2 (by rw [M.ba_len]; exact hok.2.1)
        obtain ⟨hva, hvb⟩ := hv0
        rw [M.numR_yes hok] at HN
        by_cases hv : M.val s.data.toList ≤ 999999
        · have hr := hm.out.1 ⟨hok, hv⟩
          have HR := Lib.hid hr
          clear hm hr hok
          generalize M.val s.data.toList = v at *
          go_enter Try.func21, Try.ntmps21
          go_wp2_with fail
          refine (HN.out _).mono ?_
          rintro e w1 ⟨rfl, rfl⟩
          by_cases hz : v = 0
          · have bz : (v == 0) = true := beq_iff_eq.2 hz
            clear hz
            go_wp2
            go_ret2
            exact ⟨_, _, rfl, (by simpa using HR.out), Below.refl _ _⟩
          · have bz : (v == 0) = false := beq_eq_false_iff_ne.2 hz
            clear hz
            go_wp2
            go_ret2
            exact ⟨_, _, rfl, (by simpa using HR.out), Below.refl _ _⟩
        · have hr := hm.out.2 (fun k => hv k.2)
          have HR := Lib.hid hr
          clear hm hr hok
          generalize M.val s.data.toList = v at *
          go_enter Try.func21, Try.ntmps21
          go_wp2_with fail
          refine (HN.out _).mono ?_
          rintro e w1 ⟨rfl, rfl⟩
          go_wp2
          go_ret2
          exact ⟨_, _, rfl, HR.out, Below.refl _ _⟩
      · have hr := hm.out.2 (fun k => hok k.1)
        rw [M.numR_no hok] at HN
        have HR := Lib.hid hr
        clear hm hr hok
        go_enter Try.func21, Try.ntmps21
        go_wp2_with fail
        refine (HN.out _).mono ?_
        rintro e w1 ⟨rfl, rfl⟩
        go_wp2
        go_ret2
        exact ⟨_, _, rfl, HR.out, Below.refl _ _⟩
  · have g0 : decide ((0 : Int) < s.size) = false := decide_eq_false (by omega)
    have hm := Lib.hid (M.parses_plain (M.first_ne s (fun h => absurd h hp)))
    have HN := Lib.hid (fun W => number_any s W hs)
    have hok : ¬ M.NumOk s := fun k => by have := k.1; omega
    have hr := hm.out.2 (fun k => hok k.1)
    rw [M.numR_no hok] at HN
    have HR := Lib.hid hr
    clear hm hr hok
    go_enter Try.func21, Try.ntmps21
    go_wp2_with fail
    refine (HN.out _).mono ?_
    rintro e w1 ⟨rfl, rfl⟩
    go_wp2
    go_ret2
    exact ⟨_, _, rfl, HR.out, Below.refl _ _⟩

/-- the reference's reading, with what is left behind the sign: t, of at most six signs. -/
def Tail (s t : ByteArray) : Prop := (t = s ∧ (s.data.toList = [] ∨ ∀ c r, s.data.toList = c :: r → c ≠ 45 ∨ r = [])) ∨ (s.data.toList = 45 :: t.data.toList ∧ t.data.toList ≠ [])
theorem tail_bad {s t : ByteArray} (ht : Tail s t) (h : ¬ (1 ≤ t.size ∧ t.size ≤ 6 ∧ t.data.toList.all M.isDg = true)) : M.Parses s 0 false := by
  refine .inr ⟨rfl, rfl, fun m h1 h2 e => ?_⟩
  rcases ht with ⟨rfl, hc⟩ | ⟨hs, hne⟩
  · by_cases hm : m < 0
    · have h' := congrArg (fun x => x.data.toList) e
      simp only [M.txt_neg_toList hm] at h'
      rcases hc with hc | hc
      · rw [hc] at h'; cases h'
      · rcases hc _ _ h'.symm with hc | hc
        · exact hc rfl
        · obtain ⟨c, r, e2, _⟩ := M.tx_first (-m).toNat
          rw [e2] at hc; cases hc
    · rw [M.txt_nn (by omega)] at e
      subst e
      exact h ⟨M.tx_pos _, M.tx_size 5 _ (by omega), M.dl_dg _⟩
  · by_cases hm : m < 0
    · have h' := congrArg (fun x => x.data.toList) e
      simp only [M.txt_neg_toList hm] at h'
      rw [hs] at h'
      injection h' with _ h'
      have e2 := M.ba_ext h'
      subst e2
      exact h ⟨M.tx_pos _, M.tx_size 5 _ (by omega), M.dl_dg _⟩
    · have h' := congrArg (fun x => x.data.toList) e
      simp only [M.txt_nn (show 0 ≤ m by omega)] at h'
      obtain ⟨c, r, hc, h48⟩ := M.tx_first m.toNat
      rw [hc, hs] at h'
      injection h' with e1 _
      subst e1
      exact absurd h48 (by decide)
/-- where t is all digits the number that is tried is the only one. -/
theorem tail_val {s t : ByteArray} (ht : Tail s t) {m : Int} (e : M.txt m = s) (hd : t.data.toList.all M.isDg = true) : m = if t.size < s.size then -M.val t.data.toList else M.val t.data.toList := by
  rcases ht with ⟨rfl, hc⟩ | ⟨hs, hne⟩
  · rw [if_neg (by omega)]
    by_cases hm : m < 0
    · have h' := congrArg (fun x => x.data.toList) e
      simp only [M.txt_neg_toList hm] at h'
      rw [← h', List.all_cons] at hd
      simp [M.isDg] at hd
    · rw [M.txt_nn (by omega)] at e
      subst e
      have := M.dl_val m.toNat
      unfold M.dl at this
      omega
  · have h1 := M.ba_len s
    have h2 := M.ba_len t
    rw [hs] at h1
    simp only [List.length_cons] at h1
    rw [if_pos (by omega)]
    by_cases hm : m < 0
    · have h' := congrArg (fun x => x.data.toList) e
      simp only [M.txt_neg_toList hm] at h'
      rw [hs] at h'
      injection h' with _ h'
      have e2 := M.ba_ext h'
      subst e2
      have := M.dl_val (-m).toNat
      unfold M.dl at this
      omega
    · have h' := congrArg (fun x => x.data.toList) e
      simp only [M.txt_nn (show 0 ≤ m by omega)] at h'
      obtain ⟨c, r, hc, h48⟩ := M.tx_first m.toNat
      rw [hc, hs] at h'
      injection h' with e1 _
      subst e1
      exact absurd h48 (by decide)
/-- what the reference returns at the end. -/
theorem tail_end {s t : ByteArray} (ht : Tail s t) (hd : t.data.toList.all M.isDg = true) (hl : t.size ≤ 6) (n : Int) (hn : n = if t.size < s.size then -M.val t.data.toList else M.val t.data.toList) :
    (M.txt n = s → M.Parses s n true) ∧ (¬ M.txt n = s → M.Parses s 0 false) := by
  have hv := M.val_bd6 _ hd (by rw [M.ba_len]; exact hl)
  refine ⟨fun e => .inl ⟨rfl, ?_, ?_, e⟩, fun e => .inr ⟨rfl, rfl, fun m h1 h2 e2 => e (by rw [hn, ← tail_val ht e2 hd]; exact e2)⟩⟩
  · rw [hn]; split <;> omega
  · rw [hn]; split <;> omega
set_option maxHeartbeats 2000000 in
theorem s_read (s : ByteArray) (w : World) (hs : s.size ≤ 1048576) : Calls Try.prog 48 #[.string s] w (RetP s w) := by
  by_cases hp : 1 < s.size
  · have g1 : decide ((1 : Int) < s.size) = true := decide_eq_true (by omega)
    by_cases h45 : (s[0].toNat : Int) = 45
    · have b45 : ((s[0].toNat : Int) == 45) = true := beq_iff_eq.2 h45
      have hsz : (s.extract 1 s.size).size = s.size - 1 := by rw [ByteArray.size_extract]; omega
      have HT := Lib.hid (show Tail s (s.extract 1 s.size) from .inr ⟨M.tail_toList s (by omega) h45, fun e => by have := M.ba_len (s.extract 1 s.size); rw [e] at this; simp at this; omega⟩)
      have HZ := Lib.hid hsz
      clear h45 hsz
      go_enter Try.func48, Try.ntmps48
      go_wp2_with fail
      rw [← HZ.out]
      have hsz := HZ.out
      clear HZ
      generalize s.extract 1 s.size = t at *
      have hts : t.size + 1 = s.size := by omega
      have htl : decide ((t.size : Int) < s.size) = true := decide_eq_true (by omega)
      clear hsz
      by_cases hr : 1 ≤ t.size ∧ t.size ≤ 6
      · obtain ⟨hr1, hr2⟩ := hr
        refine (Base.s_in_yes _ _ _ _ (by omega) (by omega)).mono ?_
        rintro e w1 ⟨rfl, rfl⟩
        go_wp2_with fail
        go_loop [5, 6] (fun n i => ∃ k : Nat, k ≤ t.size ∧ i = .int .i64 k ∧ n = .int .i64 (M.val (t.data.toList.take k)) ∧ Hid ((t.data.toList.take k).all M.isDg = true)) (fun _ i => t.size - (intOf i).toNat)
        case atStart => exact ⟨0, Nat.zero_le _, rfl, by simp [M.val], Lib.hid (by simp)⟩
        case round =>
          obtain ⟨k, hk, rfl, rfl, hall⟩ := hrel
          obtain ⟨hv0, hv1⟩ := M.val_bd _ hall.out (by rw [List.length_take, M.ba_len]; omega)
          by_cases hlt : k < t.size
          · have HV := Lib.hid (M.val_take t k hlt)
            have HD := Lib.hid (M.dg_take t k hlt)
            have hb : (t[k].toNat : Int) ≤ 255 := by have := t[k].toNat_lt; omega
            generalize M.val (t.data.toList.take k) = v at *
            by_cases hlo : (t[k].toNat : Int) < 48
            · have HF := Lib.hid (tail_bad HT.out (fun h => by have := M.dg_false (s := t) (k := k + 1) (by rw [HD.out, hall.out]; simp [M.isDg]; omega); rw [this] at h; exact absurd h.2.2 (by simp)))
              go_wp2
              go_ret2
              exact ⟨_, _, rfl, HF.out, Below.refl _ _⟩
            · have blo : decide ((t[k].toNat : Int) < 48) = false := decide_eq_false hlo
              by_cases hhi : 57 < (t[k].toNat : Int)
              · have HF := Lib.hid (tail_bad HT.out (fun h => by have := M.dg_false (s := t) (k := k + 1) (by rw [HD.out, hall.out]; simp [M.isDg]; omega); rw [this] at h; exact absurd h.2.2 (by simp)))
                go_wp2
                go_ret2
                exact ⟨_, _, rfl, HF.out, Below.refl _ _⟩
              · have HA := Lib.hid (show (t.data.toList.take (k + 1)).all M.isDg = true by rw [HD.out, hall.out]; simp [M.isDg]; omega)
                have hlo' : 48 ≤ (t[k].toNat : Int) := by omega
                go_wp2
                go_round
                case rel => exact ⟨k + 1, by omega, by go_num, by rw [HV.out], HA⟩
                case measure => simp [intOf]; omega
          · obtain rfl : k = t.size := by omega
            rw [M.take_all] at *
            obtain ⟨hy, hn⟩ := tail_end HT.out hall.out hr2 _ rfl
            rw [if_pos (by omega)] at hy hn
            have HY := Lib.hid hy
            have HN := Lib.hid hn
            clear hy hn
            generalize M.val t.data.toList = v at *
            go_wp2_with fail
            have HC := Lib.hid (fun W => Num.s_num (-v) W (by omega) (by omega))
            refine (HC.out _).mono ?_
            rintro e w1 ⟨rfl, m, rfl⟩
            by_cases he : M.txt (-v) = s
            · have heq := M.str_eq he
              have HR := Lib.hid (HY.out he)
              clear he
              go_wp2
              go_ret2
              exact ⟨_, _, rfl, HR.out, K.below_drewN (Below.refl _ _) m⟩
            · have hne := M.str_ne he
              have HR := Lib.hid (HN.out he)
              clear he
              go_wp2
              go_ret2
              exact ⟨_, _, rfl, HR.out, K.below_drewN (Below.refl _ _) m⟩
      · have HF := Lib.hid (tail_bad HT.out (fun h => hr ⟨h.1, h.2.1⟩))
        refine (Base.s_in_no _ _ _ _ (by omega)).mono ?_
        rintro e w1 ⟨rfl, rfl⟩
        go_wp2
        go_ret2
        exact ⟨_, _, rfl, HF.out, Below.refl _ _⟩
    · have b45 : ((s[0].toNat : Int) == 45) = false := beq_eq_false_iff_ne.2 h45
      have HT := Lib.hid (show Tail s s from .inl ⟨rfl, .inr fun c r hc => .inl (M.first_ne s (fun _ => h45) c r hc)⟩)
      have htl : decide ((s.size : Int) < s.size) = false := decide_eq_false (by omega)
      clear h45
      go_enter Try.func48, Try.ntmps48
      go_wp2_with fail
      by_cases hr : 1 ≤ s.size ∧ s.size ≤ 6
      · obtain ⟨hr1, hr2⟩ := hr
        refine (Base.s_in_yes _ _ _ _ (by omega) (by omega)).mono ?_
        rintro e w1 ⟨rfl, rfl⟩
        go_wp2_with fail
        go_loop [5, 6] (fun n i => ∃ k : Nat, k ≤ s.size ∧ i = .int .i64 k ∧ n = .int .i64 (M.val (s.data.toList.take k)) ∧ Hid ((s.data.toList.take k).all M.isDg = true)) (fun _ i => s.size - (intOf i).toNat)
        case atStart => exact ⟨0, Nat.zero_le _, rfl, by simp [M.val], Lib.hid (by simp)⟩
        case round =>
          obtain ⟨k, hk, rfl, rfl, hall⟩ := hrel
          obtain ⟨hv0, hv1⟩ := M.val_bd _ hall.out (by rw [List.length_take, M.ba_len]; omega)
          by_cases hlt : k < s.size
          · have HV := Lib.hid (M.val_take s k hlt)
            have HD := Lib.hid (M.dg_take s k hlt)
            have hb : (s[k].toNat : Int) ≤ 255 := by have := s[k].toNat_lt; omega
            generalize M.val (s.data.toList.take k) = v at *
            by_cases hlo : (s[k].toNat : Int) < 48
            · have HF := Lib.hid (tail_bad HT.out (fun h => by have := M.dg_false (s := s) (k := k + 1) (by rw [HD.out, hall.out]; simp [M.isDg]; omega); rw [this] at h; exact absurd h.2.2 (by simp)))
              go_wp2
              go_ret2
              exact ⟨_, _, rfl, HF.out, Below.refl _ _⟩
            · have blo : decide ((s[k].toNat : Int) < 48) = false := decide_eq_false hlo
              by_cases hhi : 57 < (s[k].toNat : Int)
              · have HF := Lib.hid (tail_bad HT.out (fun h => by have := M.dg_false (s := s) (k := k + 1) (by rw [HD.out, hall.out]; simp [M.isDg]; omega); rw [this] at h; exact absurd h.2.2 (by simp)))
                go_wp2
                go_ret2
                exact ⟨_, _, rfl, HF.out, Below.refl _ _⟩
              · have HA := Lib.hid (show (s.data.toList.take (k + 1)).all M.isDg = true by rw [HD.out, hall.out]; simp [M.isDg]; omega)
                have hlo' : 48 ≤ (s[k].toNat : Int) := by omega
                go_wp2
                go_round
                case rel => exact ⟨k + 1, by omega, by go_num, by rw [HV.out], HA⟩
                case measure => simp [intOf]; omega
          · obtain rfl : k = s.size := by omega
            rw [M.take_all] at *
            obtain ⟨hy, hn⟩ := tail_end HT.out hall.out hr2 _ rfl
            rw [if_neg (by omega)] at hy hn
            have HY := Lib.hid hy
            have HN := Lib.hid hn
            clear hy hn
            generalize M.val s.data.toList = v at *
            go_wp2_with fail
            have HC := Lib.hid (fun W => Num.s_num (v) W (by omega) (by omega))
            refine (HC.out _).mono ?_
            rintro e w1 ⟨rfl, m, rfl⟩
            by_cases he : M.txt (v) = s
            · have heq := M.str_eq he
              have HR := Lib.hid (HY.out he)
              clear he
              go_wp2
              go_ret2
              exact ⟨_, _, rfl, HR.out, K.below_drewN (Below.refl _ _) m⟩
            · have hne := M.str_ne he
              have HR := Lib.hid (HN.out he)
              clear he
              go_wp2
              go_ret2
              exact ⟨_, _, rfl, HR.out, K.below_drewN (Below.refl _ _) m⟩
      · have HF := Lib.hid (tail_bad HT.out (fun h => hr ⟨h.1, h.2.1⟩))
        refine (Base.s_in_no _ _ _ _ (by omega)).mono ?_
        rintro e w1 ⟨rfl, rfl⟩
        go_wp2
        go_ret2
        exact ⟨_, _, rfl, HF.out, Below.refl _ _⟩
  · have g1 : decide ((1 : Int) < s.size) = false := decide_eq_false (by omega)
    have HT := Lib.hid (show Tail s s from .inl ⟨rfl, by
      have hl := M.ba_len s
      cases hc : s.data.toList with
      | nil => exact .inl rfl
      | cons c r =>
        rw [hc] at hl
        simp only [List.length_cons] at hl
        exact .inr fun c' r' e => .inr (by injection e with _ e2; rw [← e2]; exact List.eq_nil_of_length_eq_zero (by omega))⟩)
    have htl : decide ((s.size : Int) < s.size) = false := decide_eq_false (by omega)
    go_enter Try.func48, Try.ntmps48
    go_wp2_with fail
    by_cases hr : 1 ≤ s.size ∧ s.size ≤ 6
    · obtain ⟨hr1, hr2⟩ := hr
      refine (Base.s_in_yes _ _ _ _ (by omega) (by omega)).mono ?_
      rintro e w1 ⟨rfl, rfl⟩
      go_wp2_with fail
      go_loop [5, 6] (fun n i => ∃ k : Nat, k ≤ s.size ∧ i = .int .i64 k ∧ n = .int .i64 (M.val (s.data.toList.take k)) ∧ Hid ((s.data.toList.take k).all M.isDg = true)) (fun _ i => s.size - (intOf i).toNat)
      case atStart => exact ⟨0, Nat.zero_le _, rfl, by simp [M.val], Lib.hid (by simp)⟩
      case round =>
        obtain ⟨k, hk, rfl, rfl, hall⟩ := hrel
        obtain ⟨hv0, hv1⟩ := M.val_bd _ hall.out (by rw [List.length_take, M.ba_len]; omega)
        by_cases hlt : k < s.size
        · have HV := Lib.hid (M.val_take s k hlt)
          have HD := Lib.hid (M.dg_take s k hlt)
          have hb : (s[k].toNat : Int) ≤ 255 := by have := s[k].toNat_lt; omega
          generalize M.val (s.data.toList.take k) = v at *
          by_cases hlo : (s[k].toNat : Int) < 48
          · have HF := Lib.hid (tail_bad HT.out (fun h => by have := M.dg_false (s := s) (k := k + 1) (by rw [HD.out, hall.out]; simp [M.isDg]; omega); rw [this] at h; exact absurd h.2.2 (by simp)))
            go_wp2
            go_ret2
            exact ⟨_, _, rfl, HF.out, Below.refl _ _⟩
          · have blo : decide ((s[k].toNat : Int) < 48) = false := decide_eq_false hlo
            by_cases hhi : 57 < (s[k].toNat : Int)
            · have HF := Lib.hid (tail_bad HT.out (fun h => by have := M.dg_false (s := s) (k := k + 1) (by rw [HD.out, hall.out]; simp [M.isDg]; omega); rw [this] at h; exact absurd h.2.2 (by simp)))
              go_wp2
              go_ret2
              exact ⟨_, _, rfl, HF.out, Below.refl _ _⟩
            · have HA := Lib.hid (show (s.data.toList.take (k + 1)).all M.isDg = true by rw [HD.out, hall.out]; simp [M.isDg]; omega)
              have hlo' : 48 ≤ (s[k].toNat : Int) := by omega
              go_wp2
              go_round
              case rel => exact ⟨k + 1, by omega, by go_num, by rw [HV.out], HA⟩
              case measure => simp [intOf]; omega
        · obtain rfl : k = s.size := by omega
          rw [M.take_all] at *
          obtain ⟨hy, hn⟩ := tail_end HT.out hall.out hr2 _ rfl
          rw [if_neg (by omega)] at hy hn
          have HY := Lib.hid hy
          have HN := Lib.hid hn
          clear hy hn
          generalize M.val s.data.toList = v at *
          go_wp2_with fail
          have HC := Lib.hid (fun W => Num.s_num (v) W (by omega) (by omega))
          refine (HC.out _).mono ?_
          rintro e w1 ⟨rfl, m, rfl⟩
          by_cases he : M.txt (v) = s
          · have heq := M.str_eq he
            have HR := Lib.hid (HY.out he)
            clear he
            go_wp2
            go_ret2
            exact ⟨_, _, rfl, HR.out, K.below_drewN (Below.refl _ _) m⟩
          · have hne := M.str_ne he
            have HR := Lib.hid (HN.out he)
            clear he
            go_wp2
            go_ret2
            exact ⟨_, _, rfl, HR.out, K.below_drewN (Below.refl _ _) m⟩
    · have HF := Lib.hid (tail_bad HT.out (fun h => hr ⟨h.1, h.2.1⟩))
      refine (Base.s_in_no _ _ _ _ (by omega)).mono ?_
      rintro e w1 ⟨rfl, rfl⟩
      go_wp2
      go_ret2
      exact ⟨_, _, rfl, HF.out, Below.refl _ _⟩
theorem s_parse (s : ByteArray) (w : World) (hs : s.size ≤ 1048576) : Calls Try.prog 20 #[.string s] w (RetP s w) := by
  go_enter Try.func20, Try.ntmps20
  go_wp2_with fail
  refine (s_read s _ hs).mono ?_
  rintro e w1 ⟨n, ok, rfl, hP, hb⟩
  go_wp2
  go_ret2
  exact ⟨n, ok, rfl, hP, hb⟩
end Go.Proofs.Ytpeoikhddmoafaa.Parse
