/-
  Plain laws on texts, for the great laws: a sealed text tells its text, and any single changed byte is found; splitting and joining.
-/
import Derived.Test.YtpeoikhddmoafaaParseM
import Derived.Test.YtpeoikhddmoafaaTextM
set_option linter.unusedVariables false
namespace Go.Proofs.Ytpeoikhddmoafaa.M
theorem ckStep_inj {h k : Int} {c : UInt8} (hh : 0 ≤ h ∧ h < 999979) (hk : 0 ≤ k ∧ k < 999979) (e : ckStep h c = ckStep k c) : h = k := by
  unfold ckStep at e
  have hc := c.toNat_lt
  omega
theorem ckStep_ne {h : Int} {c d : UInt8} (hh : 0 ≤ h ∧ h < 999979) (e : ckStep h c = ckStep h d) : c = d := by
  unfold ckStep at e
  have hc := c.toNat_lt
  have hd := d.toNat_lt
  exact UInt8.toNat_inj.1 (by omega)
theorem ck_fold_inj (b : List UInt8) : ∀ {h k : Int}, (0 ≤ h ∧ h < 999979) → (0 ≤ k ∧ k < 999979) → b.foldl ckStep h = b.foldl ckStep k → h = k := by
  induction b with
  | nil => intro h k _ _ e; exact e
  | cons c b ih =>
    intro h k hh hk e
    exact ckStep_inj hh hk (ih (ckStep_bd h c) (ckStep_bd k c) e)
theorem ck_change (a b : List UInt8) {c d : UInt8} (h : c ≠ d) : ck (a ++ c :: b) ≠ ck (a ++ d :: b) := by
  intro e
  unfold ck at e
  rw [List.foldl_append, List.foldl_append, List.foldl_cons, List.foldl_cons] at e
  have hb := ck_bd a
  unfold ck at hb
  exact h (ckStep_ne hb (ck_fold_inj b (ckStep_bd _ c) (ckStep_bd _ d) e))
/-- a sealed text's bytes. -/
def sl (x : List UInt8) : List UInt8 := x ++ 35 :: dl (ck x).toNat
theorem seal_toList (s : ByteArray) : (seal_ s).data.toList = sl s.data.toList := by
  simp [seal_, sl, dl, ByteArray.data_append]
theorem dl_no35 (n : Nat) : (35 : UInt8) ∉ dl n := by
  intro h
  have := List.all_eq_true.1 (dl_dg n) 35 h
  simp [isDg] at this
theorem dl_inj {a b : Nat} (h : dl a = dl b) : a = b := by
  have := congrArg val h
  rw [dl_val, dl_val] at this
  omega
theorem sl_change {x t : List UInt8} (hx : (35 : UInt8) ∉ x) (ht : (35 : UInt8) ∉ t) (k : Nat) (hk : k < (sl x).length) (v : UInt8) (hv : (sl x)[k]? ≠ some v) : sl t ≠ (sl x).set k v := by
  intro e
  have hl : (sl x).length = x.length + 1 + (dl (ck x).toNat).length := by simp [sl]; omega
  rcases Nat.lt_trichotomy k x.length with h1 | h1 | h1
  · have e1 : (sl x).set k v = x.set k v ++ 35 :: dl (ck x).toNat := by unfold sl; rw [List.set_append_left _ _ h1]
    have e2 : (sl x)[k]? = x[k]? := by unfold sl; rw [List.getElem?_append_left h1]
    rw [e1] at e
    rw [e2, List.getElem?_eq_getElem h1] at hv
    by_cases h35 : v = 35
    · subst h35
      have e3 : x.set k 35 ++ 35 :: dl (ck x).toNat = x.take k ++ 35 :: (x.drop (k + 1) ++ 35 :: dl (ck x).toNat) := by
        rw [List.set_eq_take_append_cons_drop, if_pos h1]; simp
      rw [e3] at e
      have hc := (cut_uniq 35 t (x.take k) _ _ ht (fun hm => hx (List.mem_of_mem_take hm)) e).2
      have := dl_no35 (ck t).toNat
      rw [hc] at this
      exact this (by simp)
    · have hn : (35 : UInt8) ∉ x.set k v := fun hm => by
        rcases List.mem_or_eq_of_mem_set hm with h | h
        · exact hx h
        · exact h35 h.symm
      obtain ⟨c1, c2⟩ := cut_uniq 35 t (x.set k v) _ _ ht hn e
      have c3 := dl_inj c2
      have hb1 := ck_bd t
      have hb2 := ck_bd x
      have c4 : ck t = ck x := by omega
      rw [c1, List.set_eq_take_append_cons_drop, if_pos h1] at c4
      have e4 : x = x.take k ++ x[k] :: x.drop (k + 1) := by rw [← List.drop_eq_getElem_cons h1, List.take_append_drop]
      have c5 : ck (x.take k ++ v :: x.drop (k + 1)) = ck (x.take k ++ x[k] :: x.drop (k + 1)) := by rw [c4, ← e4]
      exact ck_change _ _ (fun e => hv (by rw [e])) c5
  · subst h1
    have e1 : (sl x).set x.length v = x ++ v :: dl (ck x).toNat := by unfold sl; rw [List.set_append_right _ _ (Nat.le_refl _)]; simp
    have e2 : (sl x)[x.length]? = some 35 := by unfold sl; rw [List.getElem?_append_right (Nat.le_refl _)]; simp
    rw [e1] at e
    rw [e2] at hv
    have hm : (35 : UInt8) ∈ sl t := by simp [sl]
    rw [e] at hm
    rcases List.mem_append.1 hm with h | h
    · exact hx h
    · rcases List.mem_cons.1 h with h | h
      · exact hv (by rw [h])
      · exact dl_no35 _ h
  · obtain ⟨j, rfl⟩ : ∃ j, k = x.length + 1 + j := ⟨k - x.length - 1, by omega⟩
    have e1 : (sl x).set (x.length + 1 + j) v = x ++ 35 :: (dl (ck x).toNat).set j v := by
      unfold sl; rw [List.set_append_right _ _ (by omega), show x.length + 1 + j - x.length = j + 1 by omega, List.set_cons_succ]
    have hj : j < (dl (ck x).toNat).length := by omega
    have e2 : (sl x)[x.length + 1 + j]? = (dl (ck x).toNat)[j]? := by
      unfold sl; rw [List.getElem?_append_right (by omega), show x.length + 1 + j - x.length = j + 1 by omega, List.getElem?_cons_succ]
    rw [e1] at e
    rw [e2] at hv
    obtain ⟨c1, c2⟩ := cut_uniq 35 t x _ _ ht hx e
    subst c1
    have c3 : (dl (ck t).toNat)[j]? = some v := by
      have : ((dl (ck t).toNat).set j v)[j]? = some v := by rw [List.getElem?_set_self hj]
      rw [← this, ← c2]
    exact hv c3
theorem stands35 {l : List UInt8} (h : stands l 35 = false) : (35 : UInt8) ∉ l := stands_mem.1 (by exact h)
/-- a sealed text with one byte changed is none. -/
theorem verify_bad {x s : ByteArray} (hx : stands x.data.toList 35 = false) (k : Nat) (hk : k < (sl x.data.toList).length) (v : UInt8) (hv : (sl x.data.toList)[k]? ≠ some v) (hs : s.data.toList = (sl x.data.toList).set k v) : verify s = (ByteArray.empty, false) := by
  refine verify_no (fun ⟨_, h⟩ => ?_)
  have e : (seal_ (ahead s)).data.toList = s.data.toList := by rw [h]
  rw [seal_toList, hs] at e
  exact sl_change (stands35 hx) (stands35 (ahead_stands s)) k hk v hv e
theorem ahead_seal {x : ByteArray} (hx : stands x.data.toList 35 = false) : ahead (seal_ x) = x := by
  have e : jn ⟨#[35]⟩ [x, tx (ck x.data.toList).toNat] = seal_ x := by
    rw [show [x, tx (ck x.data.toList).toNat] = [x] ++ [tx (ck x.data.toList).toNat] from rfl, jn_snoc _ _ _ (by simp), jn_one]
    simp [seal_]
  have e2 := jn_spl [x, tx (ck x.data.toList).toNat] 35 (by simp) (fun y hy => by
    rcases List.mem_cons.1 hy with rfl | hy
    · exact hx
    · rw [List.mem_singleton.1 hy]
      exact stands_mem.2 (dl_no35 _))
  have e35 : ((35 : UInt8).toNat : Int) = 35 := rfl
  rw [e35, e] at e2
  unfold ahead
  rw [e2]; rfl
theorem verify_sealed_ {x : ByteArray} (h : (sealed x).2 = true) : verify (sealed x).1 = (x, true) := by
  by_cases hc : x.size ≤ 4000 ∧ stands x.data.toList 35 = false ∧ (seal_ x).size ≤ 4000
  · rw [sealed_yes hc.1 hc.2.1 hc.2.2]
    have ha := ahead_seal hc.2.1
    simp only
    rw [verify_yes hc.2.2 (by rw [ha]), ha]
  · rw [sealed_no hc] at h; cases h
theorem sealed_false {x : ByteArray} (h : (sealed x).2 = false) : (sealed x).1 = ByteArray.empty := by
  by_cases hc : x.size ≤ 4000 ∧ stands x.data.toList 35 = false ∧ (seal_ x).size ≤ 4000
  · rw [sealed_yes hc.1 hc.2.1 hc.2.2] at h; cases h
  · rw [sealed_no hc]
theorem join_split {s sep : ByteArray} (h : s.size ≤ 4000) (h1 : sep.size = 1) : joinR (splitStr s sep).1 sep = (s, true) := by
  have h0 : 0 < sep.size := by omega
  rw [splitStr_yes h h0 h1]
  have es : sep = ⟨#[sep[0]]⟩ := by
    apply toList_inj
    obtain ⟨r, hr, hr2⟩ := ba_first sep h0
    have : r = [] := by
      have hl := congrArg List.length hr
      rw [ba_len] at hl
      simp at hl
      exact List.eq_nil_of_length_eq_zero (by omega)
    rw [hr, this]
  have ej : jn sep (spl s sep[0].toNat) = s := by
    have e := spl_jn s sep[0]
    rwa [← es] at e
  rw [joinR_yes (spl_ne _ _) h0 h1 (spl_stands s sep[0]) (by rw [ej]; exact h), ej]
end Go.Proofs.Ytpeoikhddmoafaa.M
