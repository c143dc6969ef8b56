/-
  Plain functions that the walks of this seat speak of, and small facts on them. Nothing of the program stands here.
-/
import Derived.WalkKit
import Derived.Laws.Concat
namespace Go.Proofs.Ytpeoikhddmoafaa.M

/-! ### the checksum -/
def ckStep (h : Int) (c : UInt8) : Int := (41 * h + (c.toNat : Int) + 1) % 999979
def ck (l : List UInt8) : Int := l.foldl ckStep 7
theorem ckStep_bd (h : Int) (c : UInt8) : 0 ≤ ckStep h c ∧ ckStep h c < 999979 := by unfold ckStep; omega
theorem ck_snoc (l : List UInt8) (c : UInt8) : ck (l ++ [c]) = ckStep (ck l) c := by simp [ck]
theorem ck_bd (l : List UInt8) : 0 ≤ ck l ∧ ck l < 999979 := by
  rcases List.eq_nil_or_concat l with rfl | ⟨l', c, rfl⟩
  · simp [ck]
  · rw [List.concat_eq_append, ck_snoc]; exact ckStep_bd _ _
theorem take_snoc (s : ByteArray) (k : Nat) (h : k < s.size) : s.data.toList.take (k + 1) = s.data.toList.take k ++ [s[k]] := by
  rw [List.take_succ_eq_append_getElem (by simpa using h)]; rfl

/-! ### numbers as texts -/
/-- the sign of a digit. -/
def dg (n : Nat) : ByteArray := ⟨#[48 + UInt8.ofNat n]⟩
/-- the digits of a number, with fuel. -/
def txf : Nat → Nat → ByteArray
  | 0, _ => ByteArray.empty
  | f + 1, n => if n < 10 then dg n else txf f (n / 10) ++ dg (n % 10)
/-- the digits of a number. -/
def tx (n : Nat) : ByteArray := txf (n + 1) n
theorem txf_eq (f n : Nat) (h : n < f) : txf f n = tx n := by
  induction f using Nat.strongRecOn generalizing n with
  | _ f ih =>
    cases f with
    | zero => omega
    | succ f =>
      unfold tx
      simp only [txf]
      by_cases hn : n < 10
      · simp [hn]
      · simp only [hn, if_false]
        by_cases hf : n = f
        · subst hf; rfl
        · rw [ih f (by omega) (n / 10) (by omega), ih n (by omega) (n / 10) (by omega)]
theorem tx_lt {n : Nat} (h : n < 10) : tx n = dg n := by simp [tx, txf, h]
theorem tx_ge {n : Nat} (h : 10 ≤ n) : tx n = tx (n / 10) ++ dg (n % 10) := by
  have : ¬ n < 10 := by omega
  simp only [tx, txf, this, if_false]
  rw [txf_eq n (n / 10) (by omega)]; rfl
/-- a number as a text, with a sign where it is less than 0. -/
def txt (n : Int) : ByteArray := if n < 0 then ⟨#[45]⟩ ++ tx (-n).toNat else tx n.toNat
theorem txt_neg {n : Int} (h : n < 0) : txt n = ⟨#[45]⟩ ++ tx (-n).toNat := by simp [txt, h]
theorem txt_nn {n : Int} (h : 0 ≤ n) : txt n = tx n.toNat := by simp [txt]; omega
theorem dg_size (n : Nat) : (dg n).size = 1 := rfl
theorem tx_size (k : Nat) : ∀ n : Nat, n < 10 ^ (k + 1) → (tx n).size ≤ k + 1 := by
  induction k with
  | zero => intro n hn; rw [tx_lt (by omega)]; exact Nat.le_refl _
  | succ k ih =>
    intro n hn
    by_cases h : n < 10
    · rw [tx_lt h, dg_size]; omega
    · rw [tx_ge (by omega), ByteArray.size_append, dg_size]
      have := ih (n / 10) (by rw [Nat.pow_succ] at hn; omega)
      omega
theorem tx_pos (n : Nat) : 1 ≤ (tx n).size := by
  by_cases h : n < 10
  · rw [tx_lt h, dg_size]; omega
  · rw [tx_ge (by omega), ByteArray.size_append, dg_size]; omega
theorem tx_size19 {n : Nat} (h : n < 4611686018427387904) : (tx n).size ≤ 19 := tx_size 18 n (by omega)
theorem txt_size20 {n : Int} (h : -4611686018427387904 < n) (h' : n < 4611686018427387904) : (txt n).size ≤ 20 := by
  unfold txt
  split
  · rw [ByteArray.size_append]
    have := tx_size19 (n := (-n).toNat) (by omega)
    have e : (ByteArray.mk #[45]).size = 1 := rfl
    omega
  · have := tx_size19 (n := n.toNat) (by omega)
    omega

/-! ### a text cut at a byte -/
/-- after i bytes: the parts so far, and where the next one begins. -/
def splSt (s : ByteArray) (b : Int) : Nat → List ByteArray × Nat
  | 0 => ([], 0)
  | i + 1 => if h : i < s.size then if (s[i].toNat : Int) = b then ((splSt s b i).1 ++ [s.extract (splSt s b i).2 i], i + 1) else splSt s b i else splSt s b i
/-- the parts of a text between the bytes b. -/
def spl (s : ByteArray) (b : Int) : List ByteArray := (splSt s b s.size).1 ++ [s.extract (splSt s b s.size).2 s.size]
theorem splSt_yes {s : ByteArray} {b : Int} {i : Nat} (h : i < s.size) (hb : (s[i].toNat : Int) = b) : splSt s b (i + 1) = ((splSt s b i).1 ++ [s.extract (splSt s b i).2 i], i + 1) := by
  simp [splSt, h, hb]
theorem splSt_no {s : ByteArray} {b : Int} {i : Nat} (h : i < s.size) (hb : ¬ (s[i].toNat : Int) = b) : splSt s b (i + 1) = splSt s b i := by
  simp [splSt, h, hb]
theorem splSt_bd (s : ByteArray) (b : Int) (i : Nat) : (splSt s b i).1.length ≤ i ∧ (splSt s b i).2 ≤ i := by
  induction i with
  | zero => exact ⟨Nat.le_refl _, Nat.le_refl _⟩
  | succ i ih =>
    by_cases h : i < s.size
    · by_cases hb : (s[i].toNat : Int) = b
      · rw [splSt_yes h hb]; simp; omega
      · rw [splSt_no h hb]; omega
    · simp [splSt, h]; omega
theorem spl_pos (s : ByteArray) (b : Int) : 1 ≤ (spl s b).length := by simp [spl]
theorem spl_le (s : ByteArray) (b : Int) : (spl s b).length ≤ s.size + 1 := by
  have := splSt_bd s b s.size
  simp [spl]; omega
/-- does a byte stand in a text? -/
def stands (l : List UInt8) (b : Int) : Bool := l.any fun c => (c.toNat : Int) == b
theorem stands_snoc (l : List UInt8) (c : UInt8) (b : Int) : stands (l ++ [c]) b = (stands l b || ((c.toNat : Int) == b)) := by simp [stands]
theorem splSt_none (s : ByteArray) (b : Int) (i : Nat) (h : i ≤ s.size) : (splSt s b i).1 = [] ↔ stands (s.data.toList.take i) b = false := by
  induction i with
  | zero => simp [splSt, stands]
  | succ i ih =>
    have hi : i < s.size := by omega
    rw [take_snoc s i hi, stands_snoc]
    by_cases hb : (s[i].toNat : Int) = b
    · rw [splSt_yes hi hb]; simp [hb]
    · rw [splSt_no hi hb, ih (by omega)]; simp [hb]
theorem spl_one (s : ByteArray) (b : Int) : (spl s b).length = 1 ↔ stands s.data.toList b = false := by
  have h := splSt_none s b s.size (Nat.le_refl _)
  rw [List.take_of_length_le (by simp)] at h
  rw [← h]
  simp [spl]
theorem stands_of_take {l : List UInt8} {b : Int} {k : Nat} (h : stands (l.take k) b = true) : stands l b = true := by
  unfold stands at *
  rw [List.any_eq_true] at *
  obtain ⟨c, hc, hb⟩ := h
  exact ⟨c, List.mem_of_mem_take hc, hb⟩

/-! ### ranges -/
def inR (n lo hi : Int) : Bool := decide (lo ≤ n ∧ n ≤ hi)
theorem inR_yes {n lo hi : Int} (h1 : lo ≤ n) (h2 : n ≤ hi) : inR n lo hi = true := by simp [inR, h1, h2]
theorem inR_no {n lo hi : Int} (h : n < lo ∨ hi < n) : inR n lo hi = false := by simp [inR]; omega
theorem inR_iff {n lo hi : Int} : inR n lo hi = true ↔ lo ≤ n ∧ n ≤ hi := by simp [inR]
theorem inR_niff {n lo hi : Int} : inR n lo hi = false ↔ n < lo ∨ hi < n := by simp [inR]; omega

/-- a sign out of the ten digits. -/
def digits : ByteArray := ⟨#[48, 49, 50, 51, 52, 53, 54, 55, 56, 57]⟩
theorem digits_at : ∀ n : Nat, n < 10 → digits.extract n (n + 1) = dg n := by decide +kernel

/-- the text that marks a place: the letter m and a number's digits. -/
def mk (n : Nat) : ByteArray := ⟨#[109]⟩ ++ tx n

/-! ### a text cut at a separator of one byte -/
def splitStr (s sep : ByteArray) : List ByteArray × Bool := if h : s.size ≤ 4000 ∧ sep.size = 1 then (spl s (sep[0]'(by omega)).toNat, true) else ([], false)
theorem splitStr_yes {s sep : ByteArray} (h : s.size ≤ 4000) (h1 : 0 < sep.size) (h2 : sep.size = 1) : splitStr s sep = (spl s (sep[0]'h1).toNat, true) := by
  unfold splitStr; rw [dif_pos ⟨h, h2⟩]
theorem splitStr_no {s sep : ByteArray} (h : 4000 < s.size ∨ sep.size ≠ 1) : splitStr s sep = ([], false) := by
  unfold splitStr; rw [dif_neg (by omega)]
theorem splitStr_le (s sep : ByteArray) : (splitStr s sep).1.length ≤ 4001 := by
  unfold splitStr
  split
  · have := spl_le s (sep[0]'(by omega)).toNat; simp only; omega
  · simp
end Go.Proofs.Ytpeoikhddmoafaa.M
