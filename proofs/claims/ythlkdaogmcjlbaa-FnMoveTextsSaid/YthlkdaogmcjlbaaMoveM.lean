/-
  Plain laws on moves: merging, their text, and reading it.
-/
import Derived.Test.YthlkdaogmcjlbaaMoveF
import Derived.Test.YthlkdaogmcjlbaaTextM
set_option linter.unusedVariables false
namespace Go.Proofs.Ythlkdaogmcjlbaa.M
/-! merging -/
def mgOne (l : List Move) (m : Move) : Option (List Move) := match l.getLast? with
  | none => some (l ++ [m])
  | some q => if q.rod = m.rod ∧ q.part = m.part then (if q.by_ + m.by_ = 0 then some l.dropLast else if inR (q.by_ + m.by_) (-5) 5 = true then some (l.dropLast ++ [⟨q.rod, q.part, q.by_ + m.by_⟩]) else none) else some (l ++ [m])
def mgStep (o : Option (List Move)) (m : Move) : Option (List Move) := match o with | none => none | some l => mgOne l m
def mgAll (l : List Move) : Option (List Move) := l.foldl mgStep (some [])
theorem mg_none (l : List Move) : l.foldl mgStep none = none := by
  induction l with
  | nil => rfl
  | cons m l ih => exact ih
theorem mgAll_take (l : List Move) (k : Nat) (h : k < l.length) : mgAll (l.take (k + 1)) = mgStep (mgAll (l.take k)) l[k] := by
  unfold mgAll; rw [List.take_succ_eq_append_getElem h, List.foldl_append]; rfl
theorem mgAll_none {l : List Move} {k : Nat} (h : mgAll (l.take k) = none) : mgAll l = none := by
  have e : l = l.take k ++ l.drop k := (List.take_append_drop k l).symm
  rw [e]; unfold mgAll at h ⊢; rw [List.foldl_append, h, mg_none]
theorem mgOne_nil (m : Move) : mgOne [] m = some [m] := rfl
theorem mgOne_new {l : List Move} {q m : Move} (h : ¬ (q.rod = m.rod ∧ q.part = m.part)) : mgOne (l ++ [q]) m = some (l ++ [q] ++ [m]) := by
  simp [mgOne, h]
theorem mgOne_zero {l : List Move} {q m : Move} (h : q.rod = m.rod ∧ q.part = m.part) (h0 : q.by_ + m.by_ = 0) : mgOne (l ++ [q]) m = some l := by
  simp [mgOne, h, h0]
theorem mgOne_add {l : List Move} {q m : Move} (h : q.rod = m.rod ∧ q.part = m.part) (h0 : q.by_ + m.by_ ≠ 0) (h1 : inR (q.by_ + m.by_) (-5) 5 = true) : mgOne (l ++ [q]) m = some (l ++ [⟨q.rod, q.part, q.by_ + m.by_⟩]) := by
  simp [mgOne, h, h0, h1]
theorem mgOne_bad {l : List Move} {q m : Move} (h : q.rod = m.rod ∧ q.part = m.part) (h0 : q.by_ + m.by_ ≠ 0) (h1 : inR (q.by_ + m.by_) (-5) 5 = false) : mgOne (l ++ [q]) m = none := by
  simp [mgOne, h, h0, h1]
theorem mgAll_len (l : List Move) : ∀ k L, mgAll (l.take k) = some L → k ≤ l.length → L.length ≤ k
  | 0, L, h, _ => by simp [mgAll] at h; subst h; simp
  | k + 1, L, h, hk => by
      rw [mgAll_take l k (by omega)] at h
      cases e : mgAll (l.take k) with
      | none => rw [e] at h; cases h
      | some L0 =>
        have ih := mgAll_len l k L0 e (by omega)
        rw [e] at h
        simp only [mgStep, mgOne] at h
        split at h
        · injection h with h; subst h; simp; omega
        · split at h
          · split at h
            · injection h with h; subst h; simp; omega
            · split at h
              · injection h with h; subst h; simp; omega
              · cases h
          · injection h with h; subst h; simp; omega
/-- all merged moves are moves. -/
theorem mgAll_ok (l : List Move) (hl : ∀ m ∈ l, m.ok = true) : ∀ k L, mgAll (l.take k) = some L → k ≤ l.length → ∀ m ∈ L, m.ok = true
  | 0, L, h, _ => by simp [mgAll] at h; subst h; simp
  | k + 1, L, h, hk => by
      rw [mgAll_take l k (by omega)] at h
      have hm := hl l[k] (List.getElem_mem _)
      cases e : mgAll (l.take k) with
      | none => rw [e] at h; cases h
      | some L0 =>
        have ih := mgAll_ok l hl k L0 e (by omega)
        rw [e] at h
        rcases nil_or_snoc L0 with rfl | ⟨L1, q, rfl⟩
        · simp only [mgStep, mgOne_nil] at h
          injection h with h; subst h
          intro m hm'; rw [List.mem_singleton.1 hm']; exact hm
        · have hq := ih q (by simp)
          simp only [mgStep] at h
          by_cases c1 : q.rod = l[k].rod ∧ q.part = l[k].part
          · by_cases c2 : q.by_ + l[k].by_ = 0
            · rw [mgOne_zero c1 c2] at h; injection h with h; subst h
              intro m hm'; exact ih m (by simp [hm'])
            · cases c3 : inR (q.by_ + l[k].by_) (-5) 5 with
              | true =>
                rw [mgOne_add c1 c2 c3] at h; injection h with h; subst h
                intro m hm'
                rcases List.mem_append.1 hm' with h' | h'
                · exact ih m (by simp [h'])
                · rw [List.mem_singleton.1 h']
                  have a := (Move.ok_iff q).1 hq
                  exact (Move.ok_iff _).2 ⟨a.1, a.2.1, inR_iff.1 c3, c2⟩
              | false => rw [mgOne_bad c1 c2 c3] at h; cases h
          · rw [mgOne_new c1] at h; injection h with h; subst h
            intro m hm'
            rcases List.mem_append.1 hm' with h' | h'
            · exact ih m h'
            · rw [List.mem_singleton.1 h']; exact hm
def mergedMv (l : List Move) : List Move × Bool := if movesOk l = true then (match mgAll l with | none => ([], false) | some L => (L, true)) else ([], false)
theorem mergedMv_no {l : List Move} (h : movesOk l = false) : mergedMv l = ([], false) := by simp [mergedMv, h]
theorem mergedMv_none {l : List Move} (h : mgAll l = none) : mergedMv l = ([], false) := by simp [mergedMv, h]
theorem mergedMv_some {l L : List Move} (h0 : movesOk l = true) (h : mgAll l = some L) : mergedMv l = (L, true) := by simp [mergedMv, h0, h]
theorem mergedMv_le (l : List Move) : (mergedMv l).1.length ≤ 60 := by
  unfold mergedMv; split
  · rename_i h
    have h1 := ((movesOk_iff l).1 h).1
    split
    · simp
    · rename_i L e
      have := mgAll_len l l.length L (by rw [List.take_length]; exact e) (Nat.le_refl _)
      simp only; omega
  · simp
/-! the text of moves -/
def prt (p : Int) : ByteArray := if p = 0 then ⟨#[117]⟩ else ⟨#[108]⟩
def byt (b : Int) : ByteArray := if 0 < b then ⟨#[43]⟩ ++ txt b else txt b
def mvTxt (m : Move) : ByteArray := txt m.rod ++ prt m.part ++ byt m.by_
def movesTxt (l : List Move) : ByteArray := jn ⟨#[32]⟩ (l.map mvTxt)
def readWord (w : ByteArray) : Move := if w.size = 4 then ⟨((w.data.toList.getD 0 0).toNat : Int) - 48, if w.data.toList.getD 1 0 = 108 then 1 else 0, if w.data.toList.getD 2 0 = 45 then -(((w.data.toList.getD 3 0).toNat : Int) - 48) else ((w.data.toList.getD 3 0).toNat : Int) - 48⟩ else ⟨0, 0, 0⟩
theorem mv_all : ∀ (r : Fin 8) (p : Fin 2) (b : Fin 11), b.val ≠ 5 →
    (mvTxt ⟨(r.val : Int), (p.val : Int), (b.val : Int) - 5⟩).size = 4 ∧ stands (mvTxt ⟨(r.val : Int), (p.val : Int), (b.val : Int) - 5⟩).data.toList 32 = false ∧
    (readWord (mvTxt ⟨(r.val : Int), (p.val : Int), (b.val : Int) - 5⟩)).rod = r.val ∧ (readWord (mvTxt ⟨(r.val : Int), (p.val : Int), (b.val : Int) - 5⟩)).part = p.val ∧ (readWord (mvTxt ⟨(r.val : Int), (p.val : Int), (b.val : Int) - 5⟩)).by_ = (b.val : Int) - 5 := by
  decide +kernel
theorem Move.eta3 {a b : Move} (h1 : a.rod = b.rod) (h2 : a.part = b.part) (h3 : a.by_ = b.by_) : a = b := by
  cases a; cases b; simp_all
theorem mv_facts {m : Move} (h : m.ok = true) : (mvTxt m).size = 4 ∧ stands (mvTxt m).data.toList 32 = false ∧ readWord (mvTxt m) = m := by
  obtain ⟨⟨a1, a2⟩, ⟨b1, b2⟩, ⟨c1, c2⟩, d⟩ := (Move.ok_iff m).1 h
  have e := mv_all ⟨m.rod.toNat, by omega⟩ ⟨m.part.toNat, by omega⟩ ⟨(m.by_ + 5).toNat, by omega⟩ (by simp; omega)
  have em : (⟨((m.rod.toNat : Nat) : Int), ((m.part.toNat : Nat) : Int), (((m.by_ + 5).toNat : Nat) : Int) - 5⟩ : Move) = m := by
    apply Move.eta3 <;> simp <;> omega
  simp only at e
  rw [em] at e
  refine ⟨e.1, e.2.1, Move.eta3 ?_ ?_ ?_⟩
  · rw [e.2.2.1]; omega
  · rw [e.2.2.2.1]; omega
  · rw [e.2.2.2.2]; omega
theorem movesTxt_size {l : List Move} (h : ∀ m ∈ l, m.ok = true) : ∀ k, k ≤ l.length → (jn ⟨#[32]⟩ ((l.map mvTxt).take k)).size = 5 * k - 1
  | 0, _ => by simp [jn_nil]
  | k + 1, hk => by
      have ih := movesTxt_size h k (by omega)
      have h4 := (mv_facts (h l[k] (List.getElem_mem _))).1
      rw [jn_take _ _ k (by rw [List.length_map]; omega), List.getElem_map]
      have h1 : (⟨#[32]⟩ : ByteArray).size = 1 := rfl
      by_cases e : k = 0
      · subst e; rw [if_pos rfl, ByteArray.size_append]; omega
      · rw [if_neg e, ByteArray.size_append, ByteArray.size_append]; omega
def movesText (l : List Move) : ByteArray × Bool := if movesOk l = true then (movesTxt l, true) else (ByteArray.empty, false)
theorem movesText_yes {l : List Move} (h : movesOk l = true) : movesText l = (movesTxt l, true) := by simp [movesText, h]
theorem movesText_no {l : List Move} (h : movesOk l = false) : movesText l = (ByteArray.empty, false) := by simp [movesText, h]
/-! reading it -/
def decMoves (s : ByteArray) : List Move := (spl s 32).map readWord
def parseMv (s : ByteArray) : List Move × Bool := if s.size = 0 then ([], true) else if movesOk (decMoves s) = true ∧ movesTxt (decMoves s) = s then (decMoves s, true) else ([], false)
theorem parseMv_zero {s : ByteArray} (h : s.size = 0) : parseMv s = ([], true) := by simp [parseMv, h]
theorem parseMv_yes {s : ByteArray} (h0 : s.size ≠ 0) (h : movesOk (decMoves s) = true) (h1 : movesTxt (decMoves s) = s) : parseMv s = (decMoves s, true) := by simp [parseMv, h0, h, h1]
theorem parseMv_no {s : ByteArray} (h0 : s.size ≠ 0) (h : ¬ (movesOk (decMoves s) = true ∧ movesTxt (decMoves s) = s)) : parseMv s = ([], false) := by unfold parseMv; rw [if_neg h0, if_neg h]
theorem parseMv_le (s : ByteArray) : (parseMv s).1.length ≤ 60 := by
  unfold parseMv; split
  · simp
  · split
    · rename_i h; exact ((movesOk_iff _).1 h.1).1
    · simp
/-- a longer text is none of moves. -/
theorem parseMv_long {s : ByteArray} (h : 300 < s.size) : parseMv s = ([], false) := by
  refine parseMv_no (by omega) (fun ⟨h1, h2⟩ => ?_)
  obtain ⟨a, b⟩ := (movesOk_iff _).1 h1
  have hz := movesTxt_size b (decMoves s).length (Nat.le_refl _)
  rw [List.take_of_length_le (by simp)] at hz
  have e : (movesTxt (decMoves s)).size = s.size := by rw [h2]
  unfold movesTxt at e
  omega
/-- a word of another length tells no move. -/
theorem parseMv_word {s : ByteArray} (h0 : s.size ≠ 0) {k : Nat} (hk : k < (spl s 32).length) (h : (spl s 32)[k].size ≠ 4) : parseMv s = ([], false) := by
  refine parseMv_no h0 (fun ⟨h1, _⟩ => ?_)
  obtain ⟨_, b⟩ := (movesOk_iff _).1 h1
  have hm : readWord (spl s 32)[k] ∈ decMoves s := List.mem_map.2 ⟨_, List.getElem_mem _, rfl⟩
  have := (Move.ok_iff _).1 (b _ hm)
  simp [readWord, h] at this
theorem dec_txt {l : List Move} (h : ∀ m ∈ l, m.ok = true) (hl : l ≠ []) : decMoves (movesTxt l) = l := by
  have e := jn_spl (l.map mvTxt) 32 (by simpa using hl) (fun x hx => by
    obtain ⟨m, hm, rfl⟩ := List.mem_map.1 hx
    exact (mv_facts (h m hm)).2.1)
  have e32 : ((32 : UInt8).toNat : Int) = 32 := rfl
  rw [e32] at e
  unfold decMoves movesTxt
  rw [e, List.map_map]
  conv => rhs; rw [← List.map_id l]
  exact List.map_congr_left fun m hm => (mv_facts (h m hm)).2.2
end Go.Proofs.Ythlkdaogmcjlbaa.M
