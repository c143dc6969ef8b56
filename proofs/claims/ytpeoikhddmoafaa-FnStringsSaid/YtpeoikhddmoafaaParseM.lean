/-
  Plain facts on numbers' texts: which texts are numbers' texts, and of which number.
-/
import Derived.Test.YtpeoikhddmoafaaMath
set_option linter.unusedVariables false
namespace Go.Proofs.Ytpeoikhddmoafaa.M

/-- the digits of a number, as a list of signs. -/
def dl (n : Nat) : List UInt8 := (tx n).data.toList
theorem dl_lt {n : Nat} (h : n < 10) : dl n = [48 + UInt8.ofNat n] := by unfold dl; rw [tx_lt h]; rfl
theorem dl_ge {n : Nat} (h : 10 ≤ n) : dl n = dl (n / 10) ++ [48 + UInt8.ofNat (n % 10)] := by
  unfold dl; rw [tx_ge h, ByteArray.data_append, Array.toList_append]; rfl
theorem dgt (d : Nat) (h : d < 10) : ((48 + UInt8.ofNat d).toNat : Int) = 48 + d := by
  rw [UInt8.toNat_add, UInt8.toNat_ofNat']
  simp; omega
def isDg (c : UInt8) : Bool := decide (48 ≤ (c.toNat : Int) ∧ (c.toNat : Int) ≤ 57)
def val (l : List UInt8) : Int := l.foldl (fun n c => 10 * n + ((c.toNat : Int) - 48)) 0
theorem val_snoc (l : List UInt8) (c : UInt8) : val (l ++ [c]) = 10 * val l + ((c.toNat : Int) - 48) := by simp [val]
theorem isDg_dgt (d : Nat) (h : d < 10) : isDg (48 + UInt8.ofNat d) = true := by
  have := dgt d h
  simp only [isDg, decide_eq_true_eq]; omega
theorem dl_val (n : Nat) : val (dl n) = n := by
  induction n using Nat.strongRecOn with
  | _ n ih =>
    by_cases h : n < 10
    · rw [dl_lt h]
      have := dgt n h
      simp only [val, List.foldl_cons, List.foldl_nil]; omega
    · rw [dl_ge (by omega), val_snoc, ih (n / 10) (by omega), dgt _ (by omega)]; omega
theorem dl_dg (n : Nat) : (dl n).all isDg = true := by
  induction n using Nat.strongRecOn with
  | _ n ih =>
    by_cases h : n < 10
    · rw [dl_lt h]; simp [isDg_dgt n h]
    · rw [dl_ge (by omega), List.all_append, ih (n / 10) (by omega)]; simp [isDg_dgt (n % 10) (by omega)]
theorem dl_ne (n : Nat) : dl n ≠ [] := by
  intro h
  have := tx_pos n
  unfold dl at h
  have h2 : (tx n).size = 0 := by show (tx n).data.size = 0; rw [← Array.length_toList, h]; rfl
  omega
theorem dl_head (n : Nat) (h : 0 < n) : ∃ c r, dl n = c :: r ∧ c ≠ 48 := by
  induction n using Nat.strongRecOn with
  | _ n ih =>
    by_cases h10 : n < 10
    · refine ⟨48 + UInt8.ofNat n, [], dl_lt h10, fun e => ?_⟩
      have := dgt n h10
      rw [e] at this
      have e2 : ((48 : UInt8).toNat : Int) = 48 := rfl
      omega
    · obtain ⟨c, r, e, hc⟩ := ih (n / 10) (by omega) (by omega)
      exact ⟨c, r ++ [48 + UInt8.ofNat (n % 10)], by rw [dl_ge (by omega), e]; rfl, hc⟩
theorem val_nn (l : List UInt8) (h : l.all isDg = true) : 0 ≤ val l := by
  rcases List.eq_nil_or_concat l with rfl | ⟨l', c, rfl⟩
  · simp [val]
  · rw [List.concat_eq_append] at *
    rw [List.all_append] at h
    simp [isDg] at h
    have := val_nn l' (by simpa [isDg] using h.1)
    rw [val_snoc]; omega
termination_by l.length
decreasing_by simp_all
theorem val_lt (l : List UInt8) (h : l.all isDg = true) : val l < 10 ^ l.length := by
  rcases List.eq_nil_or_concat l with rfl | ⟨l', c, rfl⟩
  · simp [val]
  · rw [List.concat_eq_append] at *
    rw [List.all_append] at h
    simp [isDg] at h
    have := val_lt l' (by simpa [isDg] using h.1)
    rw [val_snoc, List.length_append, List.length_singleton, Int.pow_succ]; omega
termination_by l.length
decreasing_by simp_all
theorem foldl_ge (l : List UInt8) (h : l.all isDg = true) : ∀ x : Int, 0 ≤ x → x ≤ l.foldl (fun n c => 10 * n + ((c.toNat : Int) - 48)) x := by
  induction l with
  | nil => intro x _; exact Int.le_refl _
  | cons c l ih =>
    intro x hx
    rw [List.all_cons] at h
    have h2 := (Bool.and_eq_true_iff.1 h).1
    simp only [isDg, decide_eq_true_eq] at h2
    have := ih (Bool.and_eq_true_iff.1 h).2 (10 * x + ((c.toNat : Int) - 48)) (by omega)
    rw [List.foldl_cons]
    omega
theorem val_pos (l : List UInt8) (h : l.all isDg = true) (c : UInt8) (r : List UInt8) (hl : l = c :: r) (hc : c ≠ 48) : 0 < val l := by
  subst hl
  rw [List.all_cons] at h
  have h2 := (Bool.and_eq_true_iff.1 h).1
  simp only [isDg, decide_eq_true_eq] at h2
  have : ¬ (c.toNat : Int) = 48 := fun e => hc (UInt8.toNat.inj (by have e2 : (48 : UInt8).toNat = 48 := rfl; omega))
  have := foldl_ge r (Bool.and_eq_true_iff.1 h).2 (10 * 0 + ((c.toNat : Int) - 48)) (by omega)
  simp only [val, List.foldl_cons]
  omega
/-- digits without a needless 0 ahead are the digits of their value. -/
theorem dl_of (l : List UInt8) (h : l.all isDg = true) (hn : l ≠ []) (h0 : ∀ c r, l = c :: r → r ≠ [] → c ≠ 48) : dl (val l).toNat = l := by
  rcases List.eq_nil_or_concat l with rfl | ⟨l', d, rfl⟩
  · exact absurd rfl hn
  · rw [List.concat_eq_append] at *
    rw [List.all_append] at h
    have h1 : l'.all isDg = true := (Bool.and_eq_true_iff.1 h).1
    have h2 : isDg d = true := by simpa using (Bool.and_eq_true_iff.1 h).2
    simp only [isDg, decide_eq_true_eq] at h2
    have hd : 48 + UInt8.ofNat (d.toNat - 48) = d := by
      apply UInt8.toNat.inj
      have := dgt (d.toNat - 48) (by omega)
      omega
    rw [val_snoc]
    have hv := val_nn l' h1
    cases l' with
    | nil =>
      rw [show (10 * val [] + ((d.toNat : Int) - 48)).toNat = d.toNat - 48 by simp [val]; omega, dl_lt (by omega), hd]
      rfl
    | cons x l'' =>
      have hx := h0 x (l'' ++ [d]) rfl (by simp)
      have hp := val_pos (x :: l'') h1 x l'' rfl hx
      have ih := dl_of (x :: l'') h1 (by simp) (fun c r e hr => by injection e with e1 e2; subst e1; exact hx)
      rw [dl_ge (by omega), show (10 * val (x :: l'') + ((d.toNat : Int) - 48)).toNat / 10 = (val (x :: l'')).toNat by omega,
        show (10 * val (x :: l'') + ((d.toNat : Int) - 48)).toNat % 10 = d.toNat - 48 by omega, ih, hd]
termination_by l.length
decreasing_by simp_all
theorem ba_ext {a b : ByteArray} (h : a.data.toList = b.data.toList) : a = b := by cases a; cases b; simpa using h
theorem ba_len (a : ByteArray) : a.data.toList.length = a.size := by simp
theorem tx_inj {a b : Nat} (h : tx a = tx b) : a = b := by
  have h1 := dl_val a
  have h2 := dl_val b
  unfold dl at h1 h2
  rw [h] at h1
  omega
/-- the first sign of a number's digits is a digit. -/
theorem tx_first (n : Nat) : ∃ c r, (tx n).data.toList = c :: r ∧ 48 ≤ (c.toNat : Int) := by
  have h := dl_dg n
  cases hl : dl n with
  | nil => exact absurd hl (dl_ne n)
  | cons c r =>
    rw [hl] at h
    simp [isDg] at h
    exact ⟨c, r, hl, by omega⟩
theorem txt_neg_toList {n : Int} (h : n < 0) : (txt n).data.toList = 45 :: (tx (-n).toNat).data.toList := by
  rw [txt_neg h, ByteArray.data_append, Array.toList_append]; rfl

/-- what a text is read as: n and true where it is n's text, n at most 999999 away from 0; else 0 and false. -/
def Parses (s : ByteArray) (n : Int) (ok : Bool) : Prop := (ok = true ∧ -999999 ≤ n ∧ n ≤ 999999 ∧ txt n = s) ∨ (ok = false ∧ n = 0 ∧ ∀ m, -999999 ≤ m → m ≤ 999999 → ¬ txt m = s)
theorem txt_inj {a b : Int} (h : txt a = txt b) : a = b := by
  by_cases ha : a < 0 <;> by_cases hb : b < 0
  · have h' := congrArg (fun x => x.data.toList) h
    simp only [txt_neg_toList ha, txt_neg_toList hb] at h'
    injection h' with _ h'
    have := tx_inj (ba_ext h')
    omega
  · have h' := congrArg (fun x => x.data.toList) h
    simp only [txt_neg_toList ha, txt_nn (show 0 ≤ b by omega)] at h'
    obtain ⟨c, r, hc, h48⟩ := tx_first b.toNat
    rw [hc] at h'
    injection h' with e _
    subst e
    exact absurd h48 (by decide)
  · have h' := congrArg (fun x => x.data.toList) h
    simp only [txt_neg_toList hb, txt_nn (show 0 ≤ a by omega)] at h'
    obtain ⟨c, r, hc, h48⟩ := tx_first a.toNat
    rw [hc] at h'
    injection h' with e _
    subst e
    exact absurd h48 (by decide)
  · rw [txt_nn (by omega), txt_nn (by omega)] at h
    have := tx_inj h
    omega
theorem Parses.uniq {s : ByteArray} {n m : Int} {a b : Bool} (h : Parses s n a) (k : Parses s m b) : n = m ∧ a = b := by
  rcases h with ⟨ha, h1, h2, h3⟩ | ⟨ha, h1, h2⟩ <;> rcases k with ⟨kb, k1, k2, k3⟩ | ⟨kb, k1, k2⟩
  · exact ⟨txt_inj (h3.trans k3.symm), by rw [ha, kb]⟩
  · exact absurd h3 (k2 n h1 h2)
  · exact absurd k3 (h2 m k1 k2)
  · exact ⟨by rw [h1, k1], by rw [ha, kb]⟩

/-! ### the program's 'number' -/
/-- at most nine digits, no needless 0 ahead. -/
def NumOk (s : ByteArray) : Prop := 1 ≤ s.size ∧ s.size ≤ 9 ∧ (∀ c r, s.data.toList = c :: r → r ≠ [] → c ≠ 48) ∧ s.data.toList.all isDg = true
theorem NumOk.tx {s : ByteArray} (h : NumOk s) : tx (val s.data.toList).toNat = s := by
  obtain ⟨h1, h2, h3, h4⟩ := h
  refine ba_ext (dl_of _ h4 (fun e => ?_) h3)
  have := ba_len s
  rw [e] at this; simp at this; omega
theorem numOk_tx {n : Nat} (h : n ≤ 999999) : NumOk (M.tx n) := by
  refine ⟨tx_pos n, Nat.le_trans (tx_size 5 n (by omega)) (by omega), fun c r hc hr => ?_, dl_dg n⟩
  rcases Nat.eq_zero_or_pos n with rfl | h0
  · have e : dl 0 = [48] := dl_lt (by omega)
    have hc' : dl 0 = c :: r := hc
    rw [e] at hc'
    injection hc' with _ e2
    exact absurd e2.symm hr
  · obtain ⟨c', r', e, hne⟩ := dl_head n h0
    have hc' : dl n = c :: r := hc
    rw [e] at hc'
    injection hc' with e1 _
    rw [← e1]; exact hne
/-- a text without a sign ahead: read. -/
theorem parses_plain {s : ByteArray} (h45 : ∀ c r, s.data.toList = c :: r → c ≠ 45) :
    (NumOk s ∧ val s.data.toList ≤ 999999 → Parses s (val s.data.toList) true) ∧ (¬ (NumOk s ∧ val s.data.toList ≤ 999999) → Parses s 0 false) := by
  refine ⟨fun ⟨h, hv⟩ => ?_, fun h => .inr ⟨rfl, rfl, fun m h1 h2 e => ?_⟩⟩
  · have hnn := val_nn _ h.2.2.2
    exact .inl ⟨rfl, by omega, hv, by rw [txt_nn hnn]; exact h.tx⟩
  · by_cases hm : m < 0
    · have h' := congrArg (fun x => x.data.toList) e
      simp only [txt_neg_toList hm] at h'
      exact h45 _ _ h'.symm rfl
    · rw [txt_nn (by omega)] at e
      subst e
      refine h ⟨numOk_tx (by omega), ?_⟩
      have := dl_val m.toNat
      unfold dl at this
      omega
/-- a text with the sign '-' ahead: read. -/
theorem parses_minus {s t : ByteArray} (hs : s.data.toList = 45 :: t.data.toList) :
    (NumOk t ∧ val t.data.toList ≤ 999999 ∧ val t.data.toList ≠ 0 → Parses s (-val t.data.toList) true) ∧ (¬ (NumOk t ∧ val t.data.toList ≤ 999999 ∧ val t.data.toList ≠ 0) → Parses s 0 false) := by
  refine ⟨fun ⟨h, hv, h0⟩ => ?_, fun h => .inr ⟨rfl, rfl, fun m h1 h2 e => ?_⟩⟩
  · have hnn := val_nn _ h.2.2.2
    refine .inl ⟨rfl, by omega, by omega, ba_ext ?_⟩
    rw [txt_neg_toList (by omega), hs, show (-(-val t.data.toList)).toNat = (val t.data.toList).toNat by omega, h.tx]
  · by_cases hm : m < 0
    · have h' := congrArg (fun x => x.data.toList) e
      simp only [txt_neg_toList hm] at h'
      rw [hs] at h'
      injection h' with _ h'
      have e2 := ba_ext h'
      subst e2
      have hv := dl_val (-m).toNat
      unfold dl at hv
      exact h ⟨numOk_tx (by omega), by omega, by omega⟩
    · have h' := congrArg (fun x => x.data.toList) e
      simp only [txt_nn (show 0 ≤ m by omega)] at h'
      obtain ⟨c, r, hc, h48⟩ := tx_first m.toNat
      rw [hc, hs] at h'
      injection h' with e1 _
      subst e1
      exact absurd h48 (by decide)

theorem val_bd (l : List UInt8) (h : l.all isDg = true) (hl : l.length ≤ 9) : 0 ≤ val l ∧ val l < 1000000000 := by
  refine ⟨val_nn l h, Int.lt_of_lt_of_le (val_lt l h) ?_⟩
  have h1 : (10 : Nat) ^ l.length ≤ 1000000000 := Nat.le_trans (Nat.pow_le_pow_right (by omega) hl) (by decide)
  have h2 : ((10 ^ l.length : Nat) : Int) = (10 : Int) ^ l.length := by simp
  rw [← h2]
  generalize 10 ^ l.length = p at *
  omega
theorem val_bd6 (l : List UInt8) (h : l.all isDg = true) (hl : l.length ≤ 6) : 0 ≤ val l ∧ val l < 1000000 := by
  refine ⟨val_nn l h, Int.lt_of_lt_of_le (val_lt l h) ?_⟩
  have h1 : (10 : Nat) ^ l.length ≤ 1000000 := Nat.le_trans (Nat.pow_le_pow_right (by omega) hl) (by decide)
  have h2 : ((10 ^ l.length : Nat) : Int) = (10 : Int) ^ l.length := by simp
  rw [← h2]
  generalize 10 ^ l.length = p at *
  omega
theorem dg_take (s : ByteArray) (k : Nat) (h : k < s.size) : (s.data.toList.take (k + 1)).all isDg = ((s.data.toList.take k).all isDg && isDg s[k]) := by
  rw [take_snoc s k h]; simp [List.all_append]
theorem val_take (s : ByteArray) (k : Nat) (h : k < s.size) : val (s.data.toList.take (k + 1)) = 10 * val (s.data.toList.take k) + ((s[k].toNat : Int) - 48) := by
  rw [take_snoc s k h, val_snoc]
theorem take_all (s : ByteArray) : s.data.toList.take s.size = s.data.toList := List.take_of_length_le (by simp)
theorem dg_false {s : ByteArray} {k : Nat} (h : (s.data.toList.take k).all isDg = false) : s.data.toList.all isDg = false := by
  cases h2 : s.data.toList.all isDg
  · rfl
  · rw [← List.take_append_drop k s.data.toList, List.all_append, h] at h2; simp at h2
theorem ba_first (s : ByteArray) (h : 0 < s.size) : ∃ r, s.data.toList = s[0] :: r ∧ (r ≠ [] ↔ 1 < s.size) := by
  have hl := ba_len s
  cases hs : s.data.toList with
  | nil => rw [hs] at hl; simp at hl; omega
  | cons c r =>
    have h0 : s[0] = c := by
      have e : s[0] = s.data.toList[0]'(by rw [hl]; exact h) := rfl
      rw [e]; simp [hs]
    refine ⟨r, by rw [h0], ?_⟩
    rw [hs] at hl
    cases r with
    | nil => simp at hl ⊢; omega
    | cons _ _ => simp at hl ⊢; omega
theorem u8_48 {c : UInt8} : c ≠ 48 ↔ ¬ (c.toNat : Int) = 48 := by
  refine ⟨fun h e => h (UInt8.toNat.inj (by have e2 : (48 : UInt8).toNat = 48 := rfl; omega)), fun h e => h (by subst e; rfl)⟩
theorem u8_45 {c : UInt8} : c ≠ 45 ↔ ¬ (c.toNat : Int) = 45 := by
  refine ⟨fun h e => h (UInt8.toNat.inj (by have e2 : (45 : UInt8).toNat = 45 := rfl; omega)), fun h e => h (by subst e; rfl)⟩

/-- what 'number' returns. -/
def lead : List UInt8 → Bool
  | c :: _ :: _ => c != 48
  | _ => true
def numR (s : ByteArray) : Int × Bool := if 1 ≤ s.size ∧ s.size ≤ 9 ∧ lead s.data.toList = true ∧ s.data.toList.all isDg = true then (val s.data.toList, true) else (0, false)
theorem lead_iff (l : List UInt8) : lead l = true ↔ ∀ c r, l = c :: r → r ≠ [] → c ≠ 48 := by
  match l with
  | [] => simp [lead]
  | [c] => simp [lead]
  | c :: d :: r => simp [lead]
theorem numR_yes {s : ByteArray} (h : NumOk s) : numR s = (val s.data.toList, true) := by
  unfold numR; rw [if_pos ⟨h.1, h.2.1, (lead_iff _).2 h.2.2.1, h.2.2.2⟩]
theorem numR_no {s : ByteArray} (h : ¬ NumOk s) : numR s = (0, false) := by
  unfold numR; rw [if_neg (fun k => h ⟨k.1, k.2.1, (lead_iff _).1 k.2.2.1, k.2.2.2⟩)]
theorem lead_of (s : ByteArray) (h : 0 < s.size) : lead s.data.toList = !(((s[0].toNat : Int) == 48) && decide ((1 : Int) < s.size)) := by
  obtain ⟨r, hr, hrr⟩ := ba_first s h
  rw [hr]
  cases r with
  | nil =>
    have : ¬ 1 < s.size := fun hh => (hrr.2 hh) rfl
    have e : decide ((1 : Int) < s.size) = false := by simp; omega
    rw [e]; simp [lead]
  | cons d r =>
    have : 1 < s.size := hrr.1 (by simp)
    have e : decide ((1 : Int) < s.size) = true := by simp; omega
    rw [e]
    simp only [lead, Bool.and_true]
    by_cases h48 : s[0] = 48
    · rw [h48]; rfl
    · have := u8_48.1 h48
      have e1 : ((s[0].toNat : Int) == 48) = false := beq_eq_false_iff_ne.2 this
      rw [e1]; simpa using h48

theorem tail_toList (s : ByteArray) (h : 0 < s.size) (h45 : (s[0].toNat : Int) = 45) : s.data.toList = 45 :: (s.extract 1 s.size).data.toList := by
  obtain ⟨r, hr, _⟩ := ba_first s h
  have e : s[0] = 45 := UInt8.toNat.inj (by have e2 : (45 : UInt8).toNat = 45 := rfl; omega)
  have hl := ba_len s
  rw [hr] at hl
  simp only [List.length_cons] at hl
  rw [ByteArray.data_extract, Array.toList_extract, hr, e]
  simp only [List.extract, List.drop_succ_cons, List.drop_zero]
  rw [List.take_of_length_le (by omega)]
theorem first_ne (s : ByteArray) (h45 : ∀ h : 0 < s.size, ¬ (s[0].toNat : Int) = 45) : ∀ c r, s.data.toList = c :: r → c ≠ 45 := by
  intro c r hc
  have hl := ba_len s
  rw [hc] at hl
  simp only [List.length_cons] at hl
  obtain ⟨r', hr, _⟩ := ba_first s (by omega)
  rw [hr] at hc
  injection hc with e _
  rw [← e]
  exact u8_45.2 (h45 (by omega))
end Go.Proofs.Ytpeoikhddmoafaa.M
