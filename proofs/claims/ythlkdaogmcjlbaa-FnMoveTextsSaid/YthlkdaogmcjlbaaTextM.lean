/-
  Plain laws on texts: cutting at a byte and joining with it undo each other.
-/
import Derived.Test.YthlkdaogmcjlbaaMath
set_option linter.unusedVariables false
namespace Go.Proofs.Ythlkdaogmcjlbaa.M
def jl (b : UInt8) : List (List UInt8) → List UInt8
  | [] => []
  | [x] => x
  | x :: y :: r => x ++ b :: jl b (y :: r)
theorem jl_snoc (b : UInt8) : ∀ (l : List (List UInt8)) (x : List UInt8), l ≠ [] → jl b (l ++ [x]) = jl b l ++ b :: x
  | [], _, h => absurd rfl h
  | [y], x, _ => rfl
  | y :: z :: r, x, _ => by
      have ih := jl_snoc b (z :: r) x (by simp)
      show y ++ b :: jl b ((z :: r) ++ [x]) = (y ++ b :: jl b (z :: r)) ++ b :: x
      rw [ih]; simp
theorem jn_jl (b : UInt8) : ∀ (n : Nat) (l : List ByteArray), l.length = n → (jn ⟨#[b]⟩ l).data.toList = jl b (l.map fun x => x.data.toList)
  | 0, l, h => by obtain rfl := List.eq_nil_of_length_eq_zero h; rfl
  | n + 1, l, h => by
      rcases nil_or_snoc l with rfl | ⟨l', x, rfl⟩
      · simp at h
      · have ih := jn_jl b n l' (by simpa using h)
        by_cases e : l' = []
        · subst e; simp [jn_one, jl]
        · rw [jn_snoc _ _ _ e, List.map_append, List.map_cons, List.map_nil, jl_snoc b _ _ (by simpa using e), ← ih]
          simp [ByteArray.data_append]
theorem cut_uniq (b : UInt8) : ∀ (x1 x2 t1 t2 : List UInt8), b ∉ x1 → b ∉ x2 → x1 ++ b :: t1 = x2 ++ b :: t2 → x1 = x2 ∧ t1 = t2
  | [], [], t1, t2, _, _, h => ⟨rfl, by simpa using h⟩
  | [], y :: x2, t1, t2, _, h2, h => by
      simp at h; exact absurd (by simp [h.1]) h2
  | y :: x1, [], t1, t2, h1, _, h => by
      simp at h; exact absurd (by simp [h.1]) h1
  | y :: x1, z :: x2, t1, t2, h1, h2, h => by
      simp only [List.cons_append, List.cons.injEq] at h
      obtain ⟨rfl, h⟩ := h
      obtain ⟨rfl, rfl⟩ := cut_uniq b x1 x2 t1 t2 (fun e => h1 (by simp [e])) (fun e => h2 (by simp [e])) h
      exact ⟨rfl, rfl⟩
theorem jl_uniq (b : UInt8) : ∀ (l1 l2 : List (List UInt8)), l1 ≠ [] → l2 ≠ [] → (∀ x ∈ l1, b ∉ x) → (∀ x ∈ l2, b ∉ x) → jl b l1 = jl b l2 → l1 = l2
  | [], _, h, _, _, _, _ => absurd rfl h
  | _, [], _, h, _, _, _ => absurd rfl h
  | [x], [y], _, _, _, _, h => by simpa [jl] using h
  | [x], y :: z :: r, _, _, h1, _, h => by
      exfalso
      have h1 := h1 x (by simp)
      simp only [jl] at h
      exact h1 (by rw [h]; simp)
  | x :: z :: r, [y], _, _, _, h2, h => by
      exfalso
      have h2 := h2 y (by simp)
      simp only [jl] at h
      exact h2 (by rw [← h]; simp)
  | x :: y :: r, x' :: y' :: r', _, _, h1, h2, h => by
      simp only [jl] at h
      obtain ⟨rfl, h'⟩ := cut_uniq b _ _ _ _ (h1 x (by simp)) (h2 x' (by simp)) h
      rw [jl_uniq b (y :: r) (y' :: r') (by simp) (by simp) (fun q hq => h1 q (by simp [hq])) (fun q hq => h2 q (by simp [hq])) h']
theorem toList_inj {a b : ByteArray} (h : a.data.toList = b.data.toList) : a = b := by
  cases a; cases b; simp only [ByteArray.mk.injEq]; exact Array.toList_inj.1 h
theorem map_toList_inj : ∀ {l1 l2 : List ByteArray}, (l1.map fun x => x.data.toList) = (l2.map fun x => x.data.toList) → l1 = l2
  | [], [], _ => rfl
  | [], _ :: _, h => by simp at h
  | _ :: _, [], h => by simp at h
  | x :: l1, y :: l2, h => by
      simp only [List.map_cons, List.cons.injEq] at h
      rw [toList_inj h.1, map_toList_inj h.2]
theorem stands_mem {l : List UInt8} {b : UInt8} : stands l (b.toNat : Int) = false ↔ b ∉ l := by
  unfold stands
  rw [List.any_eq_false]
  constructor
  · intro h hm; exact h b hm (by simp)
  · intro h x hx e
    rw [beq_iff_eq] at e
    have e' : x.toNat = b.toNat := by omega
    exact h (by rw [← UInt8.toNat_inj.1 e']; exact hx)
theorem jn_uniq (b : UInt8) {l1 l2 : List ByteArray} (h1 : l1 ≠ []) (h2 : l2 ≠ []) (s1 : ∀ x ∈ l1, stands x.data.toList (b.toNat : Int) = false) (s2 : ∀ x ∈ l2, stands x.data.toList (b.toNat : Int) = false) (h : jn ⟨#[b]⟩ l1 = jn ⟨#[b]⟩ l2) : l1 = l2 := by
  have h' := congrArg (fun x => x.data.toList) h
  rw [jn_jl b _ l1 rfl, jn_jl b _ l2 rfl] at h'
  refine map_toList_inj (jl_uniq b _ _ (by simpa using h1) (by simpa using h2) ?_ ?_ h')
  · intro x hx
    obtain ⟨y, hy, rfl⟩ := List.mem_map.1 hx
    exact stands_mem.1 (s1 y hy)
  · intro x hx
    obtain ⟨y, hy, rfl⟩ := List.mem_map.1 hx
    exact stands_mem.1 (s2 y hy)
theorem ext_succ (s : ByteArray) (a i : Nat) (ha : a ≤ i) (h : i < s.size) : s.extract a (i + 1) = s.extract a i ++ ⟨#[s[i]]⟩ := by
  apply toList_inj
  have h' : i < s.data.toList.length := by simpa using h
  have e : s[i] = s.data.toList[i] := rfl
  rw [ByteArray.data_append, Array.toList_append, ByteArray.data_extract, ByteArray.data_extract, Array.toList_extract, Array.toList_extract]
  simp only [List.extract_eq_take_drop]
  rw [show i + 1 - a = (i - a) + 1 by omega, List.take_succ_eq_append_getElem (by rw [List.length_drop]; omega), List.getElem_drop]
  simp only [show a + (i - a) = i by omega]
  rfl
theorem ext_self (s : ByteArray) (i : Nat) : s.extract i i = ByteArray.empty := by
  apply toList_inj
  rw [ByteArray.data_extract, Array.toList_extract]
  simp
theorem stands_append (a c : List UInt8) (b : Int) : stands (a ++ c) b = (stands a b || stands c b) := by simp [stands]
theorem jn_last (sep : ByteArray) (l : List ByteArray) (x y : ByteArray) : jn sep (l ++ [x ++ y]) = jn sep (l ++ [x]) ++ y := by
  by_cases e : l = []
  · subst e; simp [jn_one]
  · rw [jn_snoc _ _ _ e, jn_snoc _ _ _ e]; simp [ByteArray.append_assoc]
theorem splSt_inv (s : ByteArray) (b : UInt8) : ∀ i, i ≤ s.size →
    (∀ x ∈ (splSt s (b.toNat : Int) i).1, stands x.data.toList (b.toNat : Int) = false) ∧ stands (s.extract (splSt s (b.toNat : Int) i).2 i).data.toList (b.toNat : Int) = false ∧
    jn ⟨#[b]⟩ ((splSt s (b.toNat : Int) i).1 ++ [s.extract (splSt s (b.toNat : Int) i).2 i]) = s.extract 0 i
  | 0, _ => by
      refine ⟨by simp [splSt], ?_, ?_⟩
      · simp only [splSt, ext_self]; rfl
      · simp only [splSt, ext_self]; rfl
  | i + 1, hi => by
      obtain ⟨h1, h2, h3⟩ := splSt_inv s b i (by omega)
      have hb := (splSt_bd s (b.toNat : Int) i).2
      by_cases e : (s[i].toNat : Int) = (b.toNat : Int)
      · rw [splSt_yes (by omega) e]
        have hbe : s[i] = b := UInt8.toNat_inj.1 (by omega)
        refine ⟨fun x hx => ?_, by rw [ext_self]; rfl, ?_⟩
        · rcases List.mem_append.1 hx with h | h
          · exact h1 x h
          · rw [List.mem_singleton.1 h]; exact h2
        · rw [ext_self, jn_snoc _ _ _ (by simp), h3, ext_succ s 0 i (by omega) (by omega), hbe]
          simp
      · rw [splSt_no (by omega) e]
        refine ⟨h1, ?_, ?_⟩
        · rw [ext_succ s _ i hb (by omega), ByteArray.data_append, Array.toList_append, stands_append, h2]
          simp [stands, e]
        · rw [ext_succ s _ i hb (by omega), jn_last, h3, ext_succ s 0 i (by omega) (by omega)]
theorem ext_all (s : ByteArray) : s.extract 0 s.size = s := by
  apply toList_inj
  rw [ByteArray.data_extract, Array.toList_extract]
  simp
  exact List.take_of_length_le (by simp)
theorem spl_stands (s : ByteArray) (b : UInt8) : ∀ x ∈ spl s (b.toNat : Int), stands x.data.toList (b.toNat : Int) = false := by
  obtain ⟨h1, h2, h3⟩ := splSt_inv s b s.size (Nat.le_refl _)
  intro x hx
  unfold spl at hx
  rcases List.mem_append.1 hx with h | h
  · exact h1 x h
  · rw [List.mem_singleton.1 h]; exact h2
/-- joining what was cut. -/
theorem spl_jn (s : ByteArray) (b : UInt8) : jn ⟨#[b]⟩ (spl s (b.toNat : Int)) = s := by
  obtain ⟨h1, h2, h3⟩ := splSt_inv s b s.size (Nat.le_refl _)
  unfold spl
  rw [h3, ext_all]
theorem spl_ne (s : ByteArray) (b : Int) : spl s b ≠ [] := fun e => by have := spl_pos s b; rw [e] at this; simp at this
/-- cutting what was joined. -/
theorem jn_spl (l : List ByteArray) (b : UInt8) (h : l ≠ []) (hs : ∀ x ∈ l, stands x.data.toList (b.toNat : Int) = false) : spl (jn ⟨#[b]⟩ l) (b.toNat : Int) = l :=
  jn_uniq b (spl_ne _ _) h (spl_stands _ b) hs (spl_jn _ b)
end Go.Proofs.Ythlkdaogmcjlbaa.M
