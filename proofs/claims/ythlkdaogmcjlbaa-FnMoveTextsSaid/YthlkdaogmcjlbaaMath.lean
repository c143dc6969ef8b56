/-
  Plain functions that the walks of this seat speak of, and small facts on them. Nothing of the program stands here.
-/
import Derived.WalkKit
import Derived.Laws.Concat
import Derived.Laws.Strings
namespace Go.Proofs.Ythlkdaogmcjlbaa.M

/-! ### the checksum -/
theorem nil_or_snoc {α : Type} (l : List α) : l = [] ∨ ∃ l0 x, l = l0 ++ [x] := by
  rcases List.eq_nil_or_concat l with h | ⟨l0, x, h⟩
  · exact .inl h
  · exact .inr ⟨l0, x, by rw [h, List.concat_eq_append]⟩
def ckStep (h : Int) (c : UInt8) : Int := (41 * h + (c.toNat : Int) + 1) % 999979
def ck (l : List UInt8) : Int := l.foldl ckStep 7
theorem ckStep_bd (h : Int) (c : UInt8) : 0 ≤ ckStep h c ∧ ckStep h c < 999979 := by unfold ckStep; omega
theorem ck_snoc (l : List UInt8) (c : UInt8) : ck (l ++ [c]) = ckStep (ck l) c := by simp [ck]
theorem ck_bd (l : List UInt8) : 0 ≤ ck l ∧ ck l < 999979 := by
  rcases List.eq_nil_or_concat l with rfl | ⟨l', c, rfl⟩
  · simp [ck]
  · rw [List.concat_eq_append, ck_snoc]; exact ckStep_bd _ _
theorem take_snoc (s : ByteArray) (k : Nat) (h : k < s.size) : s.data.toList.take (k + 1) = s.data.toList.take k ++ [s[k]] := by
  rw [List.take_succ_eq_append_getElem (by simpa using h)]; rfl

/-! ### numbers as texts -/
/-- the sign of a digit. -/
def dg (n : Nat) : ByteArray := ⟨#[48 + UInt8.ofNat n]⟩
/-- the digits of a number, with fuel. -/
def txf : Nat → Nat → ByteArray
  | 0, _ => ByteArray.empty
  | f + 1, n => if n < 10 then dg n else txf f (n / 10) ++ dg (n % 10)
/-- the digits of a number. -/
def tx (n : Nat) : ByteArray := txf (n + 1) n
theorem txf_eq (f n : Nat) (h : n < f) : txf f n = tx n := by
  induction f using Nat.strongRecOn generalizing n with
  | _ f ih =>
    cases f with
    | zero => omega
    | succ f =>
      unfold tx
      simp only [txf]
      by_cases hn : n < 10
      · simp [hn]
      · simp only [hn, if_false]
        by_cases hf : n = f
        · subst hf; rfl
        · rw [ih f (by omega) (n / 10) (by omega), ih n (by omega) (n / 10) (by omega)]
theorem tx_lt {n : Nat} (h : n < 10) : tx n = dg n := by simp [tx, txf, h]
theorem tx_ge {n : Nat} (h : 10 ≤ n) : tx n = tx (n / 10) ++ dg (n % 10) := by
  have : ¬ n < 10 := by omega
  simp only [tx, txf, this, if_false]
  rw [txf_eq n (n / 10) (by omega)]; rfl
/-- a number as a text, with a sign where it is less than 0. -/
def txt (n : Int) : ByteArray := if n < 0 then ⟨#[45]⟩ ++ tx (-n).toNat else tx n.toNat
theorem txt_neg {n : Int} (h : n < 0) : txt n = ⟨#[45]⟩ ++ tx (-n).toNat := by simp [txt, h]
theorem txt_nn {n : Int} (h : 0 ≤ n) : txt n = tx n.toNat := by simp [txt]; omega
theorem dg_size (n : Nat) : (dg n).size = 1 := rfl
theorem tx_size (k : Nat) : ∀ n : Nat, n < 10 ^ (k + 1) → (tx n).size ≤ k + 1 := by
  induction k with
  | zero => intro n hn; rw [tx_lt (by omega)]; exact Nat.le_refl _
  | succ k ih =>
    intro n hn
    by_cases h : n < 10
    · rw [tx_lt h, dg_size]; omega
    · rw [tx_ge (by omega), ByteArray.size_append, dg_size]
      have := ih (n / 10) (by rw [Nat.pow_succ] at hn; omega)
      omega
theorem tx_pos (n : Nat) : 1 ≤ (tx n).size := by
  by_cases h : n < 10
  · rw [tx_lt h, dg_size]; omega
  · rw [tx_ge (by omega), ByteArray.size_append, dg_size]; omega
theorem tx_size19 {n : Nat} (h : n < 4611686018427387904) : (tx n).size ≤ 19 := tx_size 18 n (by omega)
theorem txt_size20 {n : Int} (h : -4611686018427387904 < n) (h' : n < 4611686018427387904) : (txt n).size ≤ 20 := by
  unfold txt
  split
  · rw [ByteArray.size_append]
    have := tx_size19 (n := (-n).toNat) (by omega)
    have e : (ByteArray.mk #[45]).size = 1 := rfl
    omega
  · have := tx_size19 (n := n.toNat) (by omega)
    omega

/-! ### a text cut at a byte -/
/-- after i bytes: the parts so far, and where the next one begins. -/
def splSt (s : ByteArray) (b : Int) : Nat → List ByteArray × Nat
  | 0 => ([], 0)
  | i + 1 => if h : i < s.size then if (s[i].toNat : Int) = b then ((splSt s b i).1 ++ [s.extract (splSt s b i).2 i], i + 1) else splSt s b i else splSt s b i
/-- the parts of a text between the bytes b. -/
def spl (s : ByteArray) (b : Int) : List ByteArray := (splSt s b s.size).1 ++ [s.extract (splSt s b s.size).2 s.size]
theorem splSt_yes {s : ByteArray} {b : Int} {i : Nat} (h : i < s.size) (hb : (s[i].toNat : Int) = b) : splSt s b (i + 1) = ((splSt s b i).1 ++ [s.extract (splSt s b i).2 i], i + 1) := by
  simp [splSt, h, hb]
theorem splSt_no {s : ByteArray} {b : Int} {i : Nat} (h : i < s.size) (hb : ¬ (s[i].toNat : Int) = b) : splSt s b (i + 1) = splSt s b i := by
  simp [splSt, h, hb]
theorem splSt_bd (s : ByteArray) (b : Int) (i : Nat) : (splSt s b i).1.length ≤ i ∧ (splSt s b i).2 ≤ i := by
  induction i with
  | zero => exact ⟨Nat.le_refl _, Nat.le_refl _⟩
  | succ i ih =>
    by_cases h : i < s.size
    · by_cases hb : (s[i].toNat : Int) = b
      · rw [splSt_yes h hb]; simp; omega
      · rw [splSt_no h hb]; omega
    · simp [splSt, h]; omega
theorem spl_pos (s : ByteArray) (b : Int) : 1 ≤ (spl s b).length := by simp [spl]
theorem spl_le (s : ByteArray) (b : Int) : (spl s b).length ≤ s.size + 1 := by
  have := splSt_bd s b s.size
  simp [spl]; omega
/-- does a byte stand in a text? -/
def stands (l : List UInt8) (b : Int) : Bool := l.any fun c => (c.toNat : Int) == b
theorem stands_snoc (l : List UInt8) (c : UInt8) (b : Int) : stands (l ++ [c]) b = (stands l b || ((c.toNat : Int) == b)) := by simp [stands]
theorem splSt_none (s : ByteArray) (b : Int) (i : Nat) (h : i ≤ s.size) : (splSt s b i).1 = [] ↔ stands (s.data.toList.take i) b = false := by
  induction i with
  | zero => simp [splSt, stands]
  | succ i ih =>
    have hi : i < s.size := by omega
    rw [take_snoc s i hi, stands_snoc]
    by_cases hb : (s[i].toNat : Int) = b
    · rw [splSt_yes hi hb]; simp [hb]
    · rw [splSt_no hi hb, ih (by omega)]; simp [hb]
theorem spl_one (s : ByteArray) (b : Int) : (spl s b).length = 1 ↔ stands s.data.toList b = false := by
  have h := splSt_none s b s.size (Nat.le_refl _)
  rw [List.take_of_length_le (by simp)] at h
  rw [← h]
  simp [spl]
theorem stands_of_take {l : List UInt8} {b : Int} {k : Nat} (h : stands (l.take k) b = true) : stands l b = true := by
  unfold stands at *
  rw [List.any_eq_true] at *
  obtain ⟨c, hc, hb⟩ := h
  exact ⟨c, List.mem_of_mem_take hc, hb⟩

/-! ### ranges -/
def inR (n lo hi : Int) : Bool := decide (lo ≤ n ∧ n ≤ hi)
theorem inR_yes {n lo hi : Int} (h1 : lo ≤ n) (h2 : n ≤ hi) : inR n lo hi = true := by simp [inR, h1, h2]
theorem inR_no {n lo hi : Int} (h : n < lo ∨ hi < n) : inR n lo hi = false := by simp [inR]; omega
theorem inR_iff {n lo hi : Int} : inR n lo hi = true ↔ lo ≤ n ∧ n ≤ hi := by simp [inR]
theorem inR_niff {n lo hi : Int} : inR n lo hi = false ↔ n < lo ∨ hi < n := by simp [inR]; omega

/-- a sign out of the ten digits. -/
def digits : ByteArray := ⟨#[48, 49, 50, 51, 52, 53, 54, 55, 56, 57]⟩
theorem digits_at : ∀ n : Nat, n < 10 → digits.extract n (n + 1) = dg n := by decide +kernel

/-- the text that marks a place: the letter m and a number's digits. -/
def mk (n : Nat) : ByteArray := ⟨#[109]⟩ ++ tx n

/-! ### a text cut at a separator of one byte -/
def splitStr (s sep : ByteArray) : List ByteArray × Bool := if h : s.size ≤ 4000 ∧ sep.size = 1 then (spl s (sep[0]'(by omega)).toNat, true) else ([], false)
theorem splitStr_yes {s sep : ByteArray} (h : s.size ≤ 4000) (h1 : 0 < sep.size) (h2 : sep.size = 1) : splitStr s sep = (spl s (sep[0]'h1).toNat, true) := by
  unfold splitStr; rw [dif_pos ⟨h, h2⟩]
theorem splitStr_no {s sep : ByteArray} (h : 4000 < s.size ∨ sep.size ≠ 1) : splitStr s sep = ([], false) := by
  unfold splitStr; rw [dif_neg (by omega)]
theorem splitStr_le (s sep : ByteArray) : (splitStr s sep).1.length ≤ 4001 := by
  unfold splitStr
  split
  · have := spl_le s (sep[0]'(by omega)).toNat; simp only; omega
  · simp

/-! ### the functions on texts -/
def cksum (s : ByteArray) : Int × Bool := if s.size ≤ 4000 then (ck s.data.toList, true) else (0, false)
def fmtInt (n : Int) : ByteArray × Bool := if -999999 ≤ n ∧ n ≤ 999999 then (txt n, true) else (ByteArray.empty, false)
theorem fmtInt_yes {n : Int} (h : -999999 ≤ n ∧ n ≤ 999999) : fmtInt n = (txt n, true) := by simp [fmtInt, h]
theorem fmtInt_no {n : Int} (h : n < -999999 ∨ 999999 < n) : fmtInt n = (ByteArray.empty, false) := by unfold fmtInt; rw [if_neg (by omega)]
/-- a text with its checksum behind it. -/
def seal_ (s : ByteArray) : ByteArray := s ++ ⟨#[35]⟩ ++ tx (ck s.data.toList).toNat
theorem seal_size (s : ByteArray) : s.size + 2 ≤ (seal_ s).size ∧ (seal_ s).size ≤ s.size + 20 := by
  have h := ck_bd s.data.toList
  have h1 := tx_size19 (n := (ck s.data.toList).toNat) (by omega)
  have h2 := tx_pos (ck s.data.toList).toNat
  unfold seal_
  rw [ByteArray.size_append, ByteArray.size_append]
  have e : (ByteArray.mk #[35]).size = 1 := rfl
  omega
def sealed (s : ByteArray) : ByteArray × Bool := if s.size ≤ 4000 ∧ stands s.data.toList 35 = false ∧ (seal_ s).size ≤ 4000 then (seal_ s, true) else (ByteArray.empty, false)
theorem sealed_yes {s : ByteArray} (h : s.size ≤ 4000) (h1 : stands s.data.toList 35 = false) (h2 : (seal_ s).size ≤ 4000) : sealed s = (seal_ s, true) := by simp [sealed, h, h1, h2]
theorem sealed_no {s : ByteArray} (h : ¬ (s.size ≤ 4000 ∧ stands s.data.toList 35 = false ∧ (seal_ s).size ≤ 4000)) : sealed s = (ByteArray.empty, false) := by unfold sealed; rw [if_neg h]
/-- the text ahead of the first sign '#'. -/
def ahead (s : ByteArray) : ByteArray := (spl s 35).headD ByteArray.empty
def verify (s : ByteArray) : ByteArray × Bool := if s.size ≤ 4000 ∧ seal_ (ahead s) = s then (ahead s, true) else (ByteArray.empty, false)
theorem verify_yes {s : ByteArray} (h : s.size ≤ 4000) (h1 : seal_ (ahead s) = s) : verify s = (ahead s, true) := by unfold verify; rw [if_pos ⟨h, h1⟩]
theorem verify_no {s : ByteArray} (h : ¬ (s.size ≤ 4000 ∧ seal_ (ahead s) = s)) : verify s = (ByteArray.empty, false) := by unfold verify; rw [if_neg h]
/-- the first part: what stands ahead of the first byte b. -/
theorem splSt_head (s : ByteArray) (b : Int) (i : Nat) (hi : i ≤ s.size) : (splSt s b i).1 = [] ∧ (splSt s b i).2 = 0 ∧ stands (s.data.toList.take i) b = false ∨
    ∃ k r, k < i ∧ (splSt s b i).1 = s.extract 0 k :: r ∧ stands (s.data.toList.take k) b = false ∧ ∃ h : k < s.size, (s[k].toNat : Int) = b := by
  induction i with
  | zero => exact .inl ⟨rfl, rfl, by simp [stands]⟩
  | succ i ih =>
    have hlt : i < s.size := by omega
    rcases ih (by omega) with ⟨h1, h2, h3⟩ | ⟨k, r, hk, h1, h2, h3⟩
    · by_cases hb : (s[i].toNat : Int) = b
      · exact .inr ⟨i, [], by omega, by rw [splSt_yes hlt hb, h1, h2]; rfl, h3, hlt, hb⟩
      · exact .inl ⟨by rw [splSt_no hlt hb, h1], by rw [splSt_no hlt hb, h2], by rw [take_snoc s i hlt, stands_snoc, h3]; simp [hb]⟩
    · by_cases hb : (s[i].toNat : Int) = b
      · exact .inr ⟨k, r ++ [s.extract (splSt s b i).2 i], by omega, by rw [splSt_yes hlt hb, h1]; rfl, h2, h3⟩
      · exact .inr ⟨k, r, by omega, by rw [splSt_no hlt hb, h1], h2, h3⟩
theorem spl_head (s : ByteArray) (b : Int) : (spl s b = [s] ∧ stands s.data.toList b = false) ∨
    ∃ k r, (∃ h : k < s.size, (s[k].toNat : Int) = b) ∧ spl s b = s.extract 0 k :: r ∧ stands (s.data.toList.take k) b = false := by
  rcases splSt_head s b s.size (Nat.le_refl _) with ⟨h1, h2, h3⟩ | ⟨k, r, hk, h1, h2, h3⟩
  · left
    rw [List.take_of_length_le (by simp)] at h3
    refine ⟨?_, h3⟩
    unfold spl
    rw [h1, h2]
    simp [ByteArray.extract_zero_size]
  · exact .inr ⟨k, r ++ [s.extract (splSt s b s.size).2 s.size], h3, by unfold spl; rw [h1]; rfl, h2⟩
theorem extract_toList (s : ByteArray) (k : Nat) : (s.extract 0 k).data.toList = s.data.toList.take k := by simp [ByteArray.data_extract]
theorem ahead_stands (s : ByteArray) : stands (ahead s).data.toList 35 = false := by
  unfold ahead
  rcases spl_head s 35 with ⟨h1, h2⟩ | ⟨k, r, _, h1, h2⟩
  · rw [h1]; exact h2
  · rw [h1]; show stands (s.extract 0 k).data.toList 35 = false; rw [extract_toList]; exact h2
theorem ahead_size (s : ByteArray) : (ahead s).size ≤ s.size := by
  unfold ahead
  rcases spl_head s 35 with ⟨h1, h2⟩ | ⟨k, r, ⟨h, _⟩, h1, h2⟩
  · rw [h1]; exact Nat.le_refl _
  · rw [h1]; show (s.extract 0 k).size ≤ _; rw [ByteArray.size_extract]; omega
theorem spl_cons (s : ByteArray) (b : Int) : ∃ x r, spl s b = x :: r := by
  cases h : spl s b with
  | nil => have := spl_pos s b; rw [h] at this; simp at this
  | cons x r => exact ⟨x, r, rfl⟩

/-! ### equality of texts, as the walk spells it -/
theorem str_ne {a b : ByteArray} (h : ¬ a = b) : (a.toList == b.toList) = false := by
  rw [beq_eq_false_iff_ne]
  intro hh
  rw [ByteArray.toList_eq, ByteArray.toList_eq] at hh
  exact h (by cases a; cases b; simpa using hh)
theorem str_eq {a b : ByteArray} (h : a = b) : (a.toList == b.toList) = true := by subst h; simp

/-! ### texts put together -/
def jnStep (sep : ByteArray) (acc : ByteArray × Bool) (x : ByteArray) : ByteArray × Bool := (if acc.2 then acc.1 ++ sep ++ x else acc.1 ++ x, true)
def jn (sep : ByteArray) (l : List ByteArray) : ByteArray := (l.foldl (jnStep sep) (ByteArray.empty, false)).1
theorem jn_flag (sep : ByteArray) (l : List ByteArray) (h : l ≠ []) : (l.foldl (jnStep sep) (ByteArray.empty, false)).2 = true := by
  rcases List.eq_nil_or_concat l with rfl | ⟨l', x, rfl⟩
  · exact absurd rfl h
  · simp [jnStep]
theorem jn_nil (sep : ByteArray) : jn sep [] = ByteArray.empty := rfl
theorem jn_one (sep x : ByteArray) : jn sep [x] = ByteArray.empty ++ x := rfl
theorem jn_snoc (sep : ByteArray) (l : List ByteArray) (x : ByteArray) (h : l ≠ []) : jn sep (l ++ [x]) = jn sep l ++ sep ++ x := by
  have := jn_flag sep l h
  unfold jn
  rw [List.foldl_append]
  simp [jnStep, this]
theorem jn_take (sep : ByteArray) (l : List ByteArray) (k : Nat) (h : k < l.length) : jn sep (l.take (k + 1)) = if k = 0 then jn sep (l.take k) ++ l[k] else jn sep (l.take k) ++ sep ++ l[k] := by
  rw [List.take_succ_eq_append_getElem h]
  by_cases hk : k = 0
  · subst hk; simp [jn_one, jn_nil]
  · rw [if_neg hk, jn_snoc]
    intro e
    have := congrArg List.length e
    rw [List.length_take, List.length_nil] at this
    omega
theorem jn_mono (sep : ByteArray) (l : List ByteArray) (j : Nat) : ∀ k, j ≤ k → k ≤ l.length → (jn sep (l.take j)).size ≤ (jn sep (l.take k)).size := by
  intro k hjk
  induction k with
  | zero => intro _; have : j = 0 := by omega
            subst this; exact Nat.le_refl _
  | succ k ih =>
    intro hk
    by_cases e : j = k + 1
    · subst e; exact Nat.le_refl _
    · refine Nat.le_trans (ih (by omega) (by omega)) ?_
      rw [jn_take sep l k (by omega)]
      split
      · rw [ByteArray.size_append]; omega
      · rw [ByteArray.size_append, ByteArray.size_append]; omega
theorem jn_le (sep : ByteArray) (l : List ByteArray) (k : Nat) (h : k ≤ l.length) : (jn sep (l.take k)).size ≤ (jn sep l).size := by
  have := jn_mono sep l k l.length h (Nat.le_refl _)
  rwa [List.take_length] at this
/-- the size of texts put together, as the program counts it. -/
def jnLen (l : List ByteArray) : Int := l.foldl (fun n x => n + (x.size : Int)) ((l.length : Int) - 1)
theorem foldl_size (l : List ByteArray) (n : Int) : l.foldl (fun n x => n + (x.size : Int)) n = n + l.foldl (fun n x => n + (x.size : Int)) 0 := by
  induction l generalizing n with
  | nil => simp
  | cons x l ih => rw [List.foldl_cons, List.foldl_cons, ih, ih (0 + (x.size : Int))]; omega
theorem sum_take (l : List ByteArray) (k : Nat) (hk : k < l.length) : (l.take (k + 1)).foldl (fun n x => n + (x.size : Int)) 0 = (l.take k).foldl (fun n x => n + (x.size : Int)) 0 + l[k].size := by
  rw [List.take_succ_eq_append_getElem hk, List.foldl_append]; rfl
theorem jn_size (sep : ByteArray) (hs : sep.size = 1) (l : List ByteArray) (k : Nat) (hk : k ≤ l.length) : ((jn sep (l.take k)).size : Int) = (l.take k).foldl (fun n x => n + (x.size : Int)) 0 + (if k = 0 then 0 else (k : Int) - 1) := by
  induction k with
  | zero => simp [jn_nil]
  | succ k ih =>
    have h := ih (by omega)
    rw [jn_take sep l k (by omega), sum_take l k (by omega)]
    by_cases h0 : k = 0
    · rw [if_pos h0] at h ⊢
      rw [if_neg (by omega), ByteArray.size_append]; omega
    · rw [if_neg h0] at h ⊢
      rw [if_neg (by omega), ByteArray.size_append, ByteArray.size_append, hs]; omega
theorem jnLen_eq (sep : ByteArray) (hs : sep.size = 1) (l : List ByteArray) (h : l ≠ []) : jnLen l = (jn sep l).size := by
  have := jn_size sep hs l l.length (Nat.le_refl _)
  rw [List.take_length] at this
  have hl : l.length ≠ 0 := fun e => h (List.eq_nil_of_length_eq_zero e)
  rw [if_neg hl] at this
  unfold jnLen
  rw [foldl_size]; omega
/-- what JoinStrings returns. -/
def joinR (l : List ByteArray) (sep : ByteArray) : ByteArray × Bool :=
  if h : l ≠ [] ∧ sep.size = 1 then if (∀ x ∈ l, stands x.data.toList (sep[0]'(by omega)).toNat = false) ∧ (jn sep l).size ≤ 4000 then (jn sep l, true) else (ByteArray.empty, false) else (ByteArray.empty, false)
theorem joinR_yes {l : List ByteArray} {sep : ByteArray} (h : l ≠ []) (h1 : 0 < sep.size) (h2 : sep.size = 1) (h3 : ∀ x ∈ l, stands x.data.toList (sep[0]'h1).toNat = false) (h4 : (jn sep l).size ≤ 4000) : joinR l sep = (jn sep l, true) := by
  unfold joinR; rw [dif_pos ⟨h, h2⟩, if_pos ⟨h3, h4⟩]
theorem joinR_no0 {l : List ByteArray} {sep : ByteArray} (h : ¬ (l ≠ [] ∧ sep.size = 1)) : joinR l sep = (ByteArray.empty, false) := by
  unfold joinR; rw [dif_neg h]
theorem joinR_no1 {l : List ByteArray} {sep : ByteArray} (h1 : 0 < sep.size) {x : ByteArray} (hx : x ∈ l) (h3 : stands x.data.toList (sep[0]'h1).toNat = true) : joinR l sep = (ByteArray.empty, false) := by
  unfold joinR
  split
  · rw [if_neg]
    intro h
    have := h.1 x hx
    rw [h3] at this; cases this
  · rfl
theorem joinR_no2 {l : List ByteArray} {sep : ByteArray} (h4 : ¬ (jn sep l).size ≤ 4000) : joinR l sep = (ByteArray.empty, false) := by
  unfold joinR
  split
  · rw [if_neg (fun h => h4 h.2)]
  · rfl

def lenK (l : List ByteArray) (k : Nat) : Int := (l.take k).foldl (fun n x => n + (x.size : Int)) ((l.length : Int) - 1)
theorem lenK_succ (l : List ByteArray) (k : Nat) (h : k < l.length) : lenK l (k + 1) = lenK l k + l[k].size := by
  unfold lenK
  rw [List.take_succ_eq_append_getElem h, List.foldl_append]; rfl
theorem lenK_bd (l : List ByteArray) (B : Nat) (hs : ∀ x ∈ l, x.size ≤ B) (k : Nat) (h : k ≤ l.length) : (l.length : Int) - 1 ≤ lenK l k ∧ lenK l k ≤ (l.length : Int) - 1 + (k : Int) * B := by
  induction k with
  | zero => simp [lenK]
  | succ k ih =>
    have h1 := ih (by omega)
    have h2 := hs _ (List.getElem_mem (show k < l.length by omega))
    rw [lenK_succ l k (by omega), Int.natCast_succ, Int.add_mul]
    omega
theorem lenK_all (l : List ByteArray) : lenK l l.length = jnLen l := by unfold lenK jnLen; rw [List.take_length]

/-! ### records and their cells -/
def i64 (x : Int) : Prop := -9223372036854775808 ≤ x ∧ x ≤ 9223372036854775807
def rodCells (r : Int × Int) : List Value := [.int .i64 r.1, .int .i64 r.2]
theorem rodCells_len (r : Int × Int) : (rodCells r).length = 2 := rfl
structure Frame where
  upper : Int
  lower : Int
  rods : List (Int × Int)
def Frame.wf (f : Frame) : Prop := i64 f.upper ∧ i64 f.lower ∧ f.rods.length ≤ 9223372036854775807 ∧ ∀ r ∈ f.rods, i64 r.1 ∧ i64 r.2
structure Move where
  rod : Int
  part : Int
  by_ : Int
def Move.wf (m : Move) : Prop := i64 m.rod ∧ i64 m.part ∧ i64 m.by_
def moveCells (m : Move) : List Value := [.int .i64 m.rod, .int .i64 m.part, .int .i64 m.by_]
theorem moveCells_len (m : Move) : (moveCells m).length = 3 := rfl
structure Pupil where
  id : Int
  name : ByteArray
  born : Int
  cls : Int
  level : Int
def Pupil.wf (p : Pupil) : Prop := i64 p.id ∧ p.name.size ≤ 9223372036854775807 ∧ i64 p.born ∧ i64 p.cls ∧ i64 p.level
def pupilCells (p : Pupil) : List Value := [.int .i64 p.id, .string p.name, .int .i64 p.born, .int .i64 p.cls, .int .i64 p.level]
theorem pupilCells_len (p : Pupil) : (pupilCells p).length = 5 := rfl
structure Unit where
  name : ByteArray
  size : Int
def Unit.wf (u : Unit) : Prop := u.name.size ≤ 9223372036854775807 ∧ i64 u.size
def unitCells (u : Unit) : List Value := [.string u.name, .int .i64 u.size]
theorem unitCells_len (u : Unit) : (unitCells u).length = 2 := rfl
/-! ### the marks that the law file lays into a record's fields -/
def markRods (k n : Nat) : List (Int × Int) := (List.range n).map fun (i : Nat) => ((k : Int) + 2 * i, (k : Int) + 2 * i + 1)
theorem markRods_succ (k n : Nat) : markRods k (n + 1) = markRods k n ++ [((k : Int) + 2 * n, (k : Int) + 2 * n + 1)] := by simp [markRods, List.range_succ]
theorem markRods_len (k n : Nat) : (markRods k n).length = n := by simp [markRods]
theorem markRods_at (k n i : Nat) (h : i < (markRods k n).length) : (markRods k n)[i] = ((k : Int) + 2 * i, (k : Int) + 2 * i + 1) := by simp [markRods]
def markMoves (k n : Nat) : List Move := (List.range n).map fun (i : Nat) => ⟨(k : Int) + 3 * i, (k : Int) + 3 * i + 1, (k : Int) + 3 * i + 2⟩
theorem markMoves_succ (k n : Nat) : markMoves k (n + 1) = markMoves k n ++ [⟨(k : Int) + 3 * n, (k : Int) + 3 * n + 1, (k : Int) + 3 * n + 2⟩] := by simp [markMoves, List.range_succ]
theorem markMoves_len (k n : Nat) : (markMoves k n).length = n := by simp [markMoves]
theorem markMoves_at (k n i : Nat) (h : i < (markMoves k n).length) : (markMoves k n)[i] = ⟨(k : Int) + 3 * i, (k : Int) + 3 * i + 1, (k : Int) + 3 * i + 2⟩ := by simp [markMoves]

/-- what is left of a bound behind a list of texts; less than 0: nothing. -/
def szf (l : List ByteArray) (left : Int) : Int := l.foldl (fun r s => r - s.size) (left - l.length)
theorem szf_snoc (l : List ByteArray) (s : ByteArray) (r : Int) : (l ++ [s]).foldl (fun r s => r - (s.size : Int)) r = l.foldl (fun r s => r - (s.size : Int)) r - s.size := by simp
theorem foldl_le (l : List ByteArray) (r : Int) : l.foldl (fun r s => r - (s.size : Int)) r ≤ r := by
  induction l generalizing r with
  | nil => simp
  | cons s l ih => have := ih (r - s.size); simp; omega
theorem foldl_take (l : List ByteArray) (r : Int) (k : Nat) : l.foldl (fun r s => r - (s.size : Int)) r ≤ (l.take k).foldl (fun r s => r - (s.size : Int)) r := by
  conv => lhs; rw [← List.take_append_drop k l, List.foldl_append]
  exact foldl_le _ _
theorem foldl_mem (l : List ByteArray) (r : Int) (s : ByteArray) (hs : s ∈ l) : l.foldl (fun r s => r - (s.size : Int)) r ≤ r - s.size := by
  induction l generalizing r with
  | nil => simp at hs
  | cons t l ih =>
    simp only [List.foldl_cons]
    rcases List.mem_cons.1 hs with rfl | h
    · exact foldl_le _ _
    · have := ih (r - t.size) h; omega
/-- where the size is within the bound, so is each part. -/
theorem szf_len {l : List ByteArray} {left : Int} (h : 0 ≤ szf l left) : (l.length : Int) ≤ left ∧ ∀ s ∈ l, (s.size : Int) ≤ left := by
  unfold szf at h
  refine ⟨?_, fun s hs => ?_⟩
  · have := foldl_le l (left - l.length); omega
  · have := foldl_mem l (left - l.length) s hs; omega
def markPupils (k n : Nat) : List Pupil := (List.range n).map fun (i : Nat) => ⟨(k : Int) + 5 * i, mk (k + 5 * i + 1), (k : Int) + 5 * i + 2, (k : Int) + 5 * i + 3, (k : Int) + 5 * i + 4⟩
theorem markPupils_succ (k n : Nat) : markPupils k (n + 1) = markPupils k n ++ [⟨(k : Int) + 5 * n, mk (k + 5 * n + 1), (k : Int) + 5 * n + 2, (k : Int) + 5 * n + 3, (k : Int) + 5 * n + 4⟩] := by simp [markPupils, List.range_succ]
theorem markPupils_len (k n : Nat) : (markPupils k n).length = n := by simp [markPupils]
theorem markPupils_at (k n i : Nat) (h : i < (markPupils k n).length) : (markPupils k n)[i] = ⟨(k : Int) + 5 * i, mk (k + 5 * i + 1), (k : Int) + 5 * i + 2, (k : Int) + 5 * i + 3, (k : Int) + 5 * i + 4⟩ := by simp [markPupils]
def markUnits (k n : Nat) : List Unit := (List.range n).map fun (i : Nat) => ⟨mk (k + 2 * i), (k : Int) + 2 * i + 1⟩
theorem markUnits_succ (k n : Nat) : markUnits k (n + 1) = markUnits k n ++ [⟨mk (k + 2 * n), (k : Int) + 2 * n + 1⟩] := by simp [markUnits, List.range_succ]
theorem markUnits_len (k n : Nat) : (markUnits k n).length = n := by simp [markUnits]
theorem markUnits_at (k n i : Nat) (h : i < (markUnits k n).length) : (markUnits k n)[i] = ⟨mk (k + 2 * i), (k : Int) + 2 * i + 1⟩ := by simp [markUnits]

/-! ### frames -/
def rodOk (u l : Int) (r : Int × Int) : Bool := inR r.1 0 u && inR r.2 0 l
def Frame.ok (f : Frame) : Bool := inR f.upper 1 2 && inR f.lower 4 5 && inR f.rods.length 1 8 && f.rods.all (rodOk f.upper f.lower)
theorem Frame.ok_iff (f : Frame) : f.ok = true ↔ (1 ≤ f.upper ∧ f.upper ≤ 2) ∧ (4 ≤ f.lower ∧ f.lower ≤ 5) ∧ (1 ≤ f.rods.length ∧ f.rods.length ≤ 8) ∧ ∀ r ∈ f.rods, (0 ≤ r.1 ∧ r.1 ≤ f.upper) ∧ (0 ≤ r.2 ∧ r.2 ≤ f.lower) := by
  unfold Frame.ok rodOk
  simp only [Bool.and_eq_true, List.all_eq_true, inR_iff, and_assoc]
  constructor
  · rintro ⟨h1, h2, h3, h4, h5, h6, h7⟩; exact ⟨h1, h2, h3, h4, by omega, by omega, h7⟩
  · rintro ⟨h1, h2, h3, h4, h5, h6, h7⟩; exact ⟨h1, h2, h3, h4, by omega, by omega, h7⟩
theorem all_take_succ {α : Type} (p : α → Bool) (l : List α) (k : Nat) (h : k < l.length) : (l.take (k + 1)).all p = ((l.take k).all p && p l[k]) := by
  rw [List.take_succ_eq_append_getElem h, List.all_append]; simp
theorem all_take_false {α : Type} {p : α → Bool} {l : List α} {k : Nat} (h : (l.take k).all p = false) : l.all p = false := by
  cases h2 : l.all p
  · rfl
  · rw [← List.take_append_drop k l, List.all_append, h] at h2; simp at h2
end Go.Proofs.Ythlkdaogmcjlbaa.M
