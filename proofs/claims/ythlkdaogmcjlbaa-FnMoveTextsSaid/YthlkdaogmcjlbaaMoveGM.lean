/-
  Plain laws on moves, for the great law: moves are recovered from their texts, and merged moves end in the same frame.
-/
import Derived.Test.YthlkdaogmcjlbaaMoveM
import Derived.Test.YthlkdaogmcjlbaaMoveN
set_option linter.unusedVariables false
namespace Go.Proofs.Ythlkdaogmcjlbaa.M
def sW (l : List Move) : Int := (l.map (worth 8)).sum
def sB (l : List Move) : Int := (l.map fun m => absI m.by_).sum
theorem sW_snoc (l : List Move) (m : Move) : sW (l ++ [m]) = sW l + worth 8 m := by simp [sW]
theorem sB_snoc (l : List Move) (m : Move) : sB (l ++ [m]) = sB l + absI m.by_ := by simp [sB]
theorem chg8 (l : List Move) (h : ∀ m ∈ l, m.ok = true) : chg 8 l = some (sW l) := by
  have key : ∀ (l : List Move) (s : Int), (∀ m ∈ l, m.ok = true) → l.foldl (chStep 8) (some s) = some (s + sW l) := by
    intro l
    induction l with
    | nil => intro s _; simp [sW]
    | cons m l ih =>
      intro s hm
      have h1 := (Move.ok_iff m).1 (hm m (by simp))
      have e : chStep 8 (some s) m = some (s + worth 8 m) := by
        unfold chStep; simp only [Option.bind_some]; rw [if_neg (by omega)]
      rw [List.foldl_cons, e, ih _ (fun x hx => hm x (by simp [hx]))]
      simp only [sW, List.map_cons, List.sum_cons, Int.add_assoc]
  have := key l 0 h
  rw [Int.zero_add] at this
  exact this
theorem beads_sB (l : List Move) : beads l = sB l := by
  have key : ∀ (l : List Move) (s : Int), l.foldl (fun n m => n + absI m.by_) s = s + sB l := by
    intro l
    induction l with
    | nil => intro s; simp [sB]
    | cons m l ih => intro s; rw [List.foldl_cons, ih]; simp only [sB, List.map_cons, List.sum_cons, Int.add_assoc]
  have := key l 0
  rw [Int.zero_add] at this
  exact this
theorem worth_add {q m : Move} (h : q.rod = m.rod ∧ q.part = m.part) : worth 8 ⟨q.rod, q.part, q.by_ + m.by_⟩ = worth 8 q + worth 8 m := by
  unfold worth
  rw [← h.1, ← h.2]
  simp only [Int.add_mul]
theorem worth_zero {q m : Move} (h : q.rod = m.rod ∧ q.part = m.part) (h0 : q.by_ + m.by_ = 0) : worth 8 q + worth 8 m = 0 := by
  rw [← worth_add h, h0]; simp [worth]
theorem absI_add (a b : Int) : absI (a + b) ≤ absI a + absI b := by unfold absI; split <;> split <;> split <;> omega
theorem mgAll_sum (l : List Move) : ∀ k L, mgAll (l.take k) = some L → k ≤ l.length → sW L = sW (l.take k) ∧ sB L ≤ sB (l.take k)
  | 0, L, h, _ => by simp [mgAll] at h; subst h; simp [sW, sB]
  | k + 1, L, h, hk => by
      rw [mgAll_take l k (by omega)] at h
      rw [List.take_succ_eq_append_getElem (by omega), sW_snoc, sB_snoc]
      cases e : mgAll (l.take k) with
      | none => rw [e] at h; cases h
      | some L0 =>
        have ih := mgAll_sum l k L0 e (by omega)
        have hab := absI_bd l[k].by_
        rw [e] at h
        simp only [mgStep] at h
        rcases nil_or_snoc L0 with rfl | ⟨L1, q, rfl⟩
        · rw [mgOne_nil] at h
          injection h with h; subst h
          have e1 := sW_snoc [] l[k]
          have e2 := sB_snoc [] l[k]
          rw [List.nil_append] at e1 e2
          rw [e1, e2]
          exact ⟨by omega, by omega⟩
        · rw [sW_snoc, sB_snoc] at ih
          have hqb := absI_bd q.by_
          by_cases c1 : q.rod = l[k].rod ∧ q.part = l[k].part
          · by_cases c2 : q.by_ + l[k].by_ = 0
            · rw [mgOne_zero c1 c2] at h; injection h with h; subst h
              have := worth_zero c1 c2
              exact ⟨by omega, by omega⟩
            · cases c3 : inR (q.by_ + l[k].by_) (-5) 5 with
              | true =>
                rw [mgOne_add c1 c2 c3] at h; injection h with h; subst h
                rw [sW_snoc, sB_snoc, worth_add c1]
                have := absI_add q.by_ l[k].by_
                exact ⟨by omega, by simp only; omega⟩
              | false => rw [mgOne_bad c1 c2 c3] at h; cases h
          · rw [mgOne_new c1] at h; injection h with h; subst h
            rw [sW_snoc, sW_snoc, sB_snoc, sB_snoc]
            exact ⟨by omega, by omega⟩
theorem merged_great {l : List Move} (h : (mergedMv l).2 = true) : (changeOf l 8).2 = true ∧ (changeOf (mergedMv l).1 8).2 = true ∧ (changeOf l 8).1 = (changeOf (mergedMv l).1 8).1 ∧ (beadsOf l).2 = true ∧ (beadsOf (mergedMv l).1).2 = true ∧ (beadsOf (mergedMv l).1).1 ≤ (beadsOf l).1 ∧ (mergedMv l).1.length ≤ l.length := by
  cases hok : movesOk l with
  | false => rw [mergedMv_no hok] at h; cases h
  | true =>
    cases hm : mgAll l with
    | none => rw [mergedMv_none hm] at h; cases h
    | some L =>
      rw [mergedMv_some hok hm]
      obtain ⟨hl, hall⟩ := (movesOk_iff l).1 hok
      have hm' : mgAll (l.take l.length) = some L := by rw [List.take_length]; exact hm
      have hL := mgAll_ok l hall l.length L hm' (Nat.le_refl _)
      have hn := mgAll_len l l.length L hm' (Nat.le_refl _)
      have hs := mgAll_sum l l.length L hm' (Nat.le_refl _)
      rw [List.take_length] at hs
      have hokL : movesOk L = true := (movesOk_iff L).2 ⟨by omega, hL⟩
      simp only
      rw [changeOf_some hok (by omega) (by omega) (chg8 l hall), changeOf_some hokL (by omega) (by omega) (chg8 L hL), beadsOf_yes hok, beadsOf_yes hokL, beads_sB, beads_sB]
      exact ⟨rfl, rfl, hs.1.symm, rfl, rfl, hs.2, hn⟩
/-- the text tells the moves. -/
theorem text_back {l : List Move} (h : (movesText l).2 = true) : parseMv (movesText l).1 = (l, true) := by
  cases hok : movesOk l with
  | false => rw [movesText_no hok] at h; cases h
  | true =>
    rw [movesText_yes hok]
    obtain ⟨hl, hall⟩ := (movesOk_iff l).1 hok
    by_cases e : l = []
    · subst e; exact parseMv_zero rfl
    · have hz := movesTxt_size hall l.length (Nat.le_refl _)
      rw [List.take_of_length_le (by simp)] at hz
      have hp : 0 < l.length := List.length_pos_iff.2 e
      have hd := dec_txt hall e
      simp only
      rw [parseMv_yes (by unfold movesTxt; omega) (by rw [hd]; exact hok) (by rw [hd]), hd]
/-- a text that is read is the text of what is read. -/
theorem read_back {s : ByteArray} (h : (parseMv s).2 = true) : movesText (parseMv s).1 = (s, true) := by
  by_cases h0 : s.size = 0
  · rw [parseMv_zero h0]
    have : s = ByteArray.empty := by
      apply toList_inj
      have : s.data.toList.length = 0 := by simpa using h0
      rw [List.eq_nil_of_length_eq_zero this]; rfl
    subst this
    rfl
  · by_cases hy : movesOk (decMoves s) = true ∧ movesTxt (decMoves s) = s
    · rw [parseMv_yes h0 hy.1 hy.2]
      simp only
      rw [movesText_yes hy.1, hy.2]
    · rw [parseMv_no h0 hy] at h; cases h
end Go.Proofs.Ythlkdaogmcjlbaa.M
