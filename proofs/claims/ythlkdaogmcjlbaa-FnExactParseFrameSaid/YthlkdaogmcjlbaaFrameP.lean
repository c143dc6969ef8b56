/-
  Plain laws on frames: reading a frame's text.
-/
import Derived.Test.YthlkdaogmcjlbaaFrameT
import Derived.Test.YthlkdaogmcjlbaaTextM
set_option linter.unusedVariables false
namespace Go.Proofs.Ythlkdaogmcjlbaa.M
def rdTxt (r : Int × Int) : ByteArray := txt r.1 ++ txt r.2
def byteAt (s : ByteArray) (i : Nat) : Int := ((s.data.toList.getD i 0).toNat : Int) - 48
/-- the rods that n groups of three bytes tell, from the third byte on. -/
def decRods (s : ByteArray) (n : Nat) : List (Int × Int) := (List.range n).map fun i => (byteAt s (3 * i + 4), byteAt s (3 * i + 5))
def decFrame (s : ByteArray) : Frame := ⟨byteAt s 0, byteAt s 2, decRods s (s.size / 3 - 1)⟩
theorem decRods_succ (s : ByteArray) (n : Nat) : decRods s (n + 1) = decRods s n ++ [(byteAt s (3 * n + 4), byteAt s (3 * n + 5))] := by simp [decRods, List.range_succ]
theorem decRods_len (s : ByteArray) (n : Nat) : (decRods s n).length = n := by simp [decRods]
def parseFr (s : ByteArray) : Frame × Bool := if (decFrame s).ok = true ∧ ftext (decFrame s) = s then (decFrame s, true) else (⟨0, 0, []⟩, false)
theorem parseFr_yes {s : ByteArray} (h : (decFrame s).ok = true) (h1 : ftext (decFrame s) = s) : parseFr s = (decFrame s, true) := by simp [parseFr, h, h1]
theorem parseFr_no {s : ByteArray} (h : ¬ ((decFrame s).ok = true ∧ ftext (decFrame s) = s)) : parseFr s = (⟨0, 0, []⟩, false) := by unfold parseFr; rw [if_neg h]
theorem parseFr_le (s : ByteArray) : (parseFr s).1.rods.length ≤ 8 := by
  unfold parseFr; split
  · rename_i h; have := ((Frame.ok_iff _).1 h.1).2.2.1; simp only; omega
  · simp
theorem txt_bytes : ∀ n : Fin 10, (txt (n.val : Int)).data.toList = [48 + UInt8.ofNat n.val] ∧ ((48 + UInt8.ofNat n.val : UInt8).toNat : Int) - 48 = n.val := by decide +kernel
theorem txt_byte {n : Int} (h0 : 0 ≤ n) (h1 : n ≤ 9) : ∃ c : UInt8, (txt n).data.toList = [c] ∧ (c.toNat : Int) - 48 = n ∧ c ≠ 32 ∧ c ≠ 47 := by
  have e := txt_bytes ⟨n.toNat, by omega⟩
  simp only at e
  rw [show ((n.toNat : Nat) : Int) = n by omega] at e
  refine ⟨_, e.1, by rw [e.2], ?_, ?_⟩
  · intro h; rw [h] at e
    have := e.2
    simp at this; omega
  · intro h; rw [h] at e
    have := e.2
    simp at this; omega
/-- the bytes of a rod's text. -/
def rb (r : Int × Int) : List UInt8 := 32 :: ((txt r.1).data.toList ++ (txt r.2).data.toList)
theorem ft_bytes (l : List (Int × Int)) (t : ByteArray) : (l.foldl ftStep t).data.toList = t.data.toList ++ l.flatMap rb := by
  induction l generalizing t with
  | nil => simp
  | cons r l ih =>
    rw [List.foldl_cons, ih, List.flatMap_cons, ← List.append_assoc]
    congr 1
    simp [ftStep, rb, ByteArray.data_append]
theorem flat3 {α : Type} (f : α → List UInt8) (l : List α) (hf : ∀ a ∈ l, (f a).length = 3) (k : Nat) (hk : k < l.length) (j : Nat) (hj : j < 3) : (l.flatMap f)[3 * k + j]? = (f l[k])[j]? := by
  induction l generalizing k with
  | nil => simp at hk
  | cons a l ih =>
    have ha := hf a (by simp)
    rw [List.flatMap_cons]
    cases k with
    | zero => rw [Nat.mul_zero, Nat.zero_add, List.getElem?_append_left (by omega)]; rfl
    | succ k =>
      rw [List.getElem?_append_right (by omega), ha, show 3 * (k + 1) + j - 3 = 3 * k + j by omega]
      simp only [List.length_cons] at hk
      rw [ih (fun b hb => hf b (by simp [hb])) k (by omega)]; rfl
theorem rb_facts {r : Int × Int} (h1 : 0 ≤ r.1 ∧ r.1 ≤ 9) (h2 : 0 ≤ r.2 ∧ r.2 ≤ 9) : ∃ a b : UInt8, rb r = [32, a, b] ∧ (a.toNat : Int) - 48 = r.1 ∧ (b.toNat : Int) - 48 = r.2 ∧ a ≠ 32 ∧ b ≠ 32 := by
  obtain ⟨a, ha, ha', ha2, _⟩ := txt_byte h1.1 h1.2
  obtain ⟨b, hb, hb', hb2, _⟩ := txt_byte h2.1 h2.2
  exact ⟨a, b, by rw [rb, ha, hb]; rfl, ha', hb', ha2, hb2⟩
theorem ok_small {f : Frame} (h : f.ok = true) : ∀ r ∈ f.rods, (0 ≤ r.1 ∧ r.1 ≤ 9) ∧ 0 ≤ r.2 ∧ r.2 ≤ 9 := by
  obtain ⟨a, b, c, d⟩ := (Frame.ok_iff f).1 h
  intro r hr
  have := d r hr
  omega
theorem ft_at {f : Frame} (h : f.ok = true) : byteAt (ftext f) 0 = f.upper ∧ byteAt (ftext f) 2 = f.lower ∧ ∀ i (hi : i < f.rods.length), byteAt (ftext f) (3 * i + 4) = f.rods[i].1 ∧ byteAt (ftext f) (3 * i + 5) = f.rods[i].2 := by
  obtain ⟨hu, hl, -, -⟩ := (Frame.ok_iff f).1 h
  obtain ⟨u, hu1, hu2, _⟩ := txt_byte (n := f.upper) (by omega) (by omega)
  obtain ⟨l, hl1, hl2, _⟩ := txt_byte (n := f.lower) (by omega) (by omega)
  have hb : (ftext f).data.toList = [u, 47, l] ++ f.rods.flatMap rb := by
    unfold ftext; rw [ft_bytes]; congr 1
    simp [ftHead, ByteArray.data_append, hu1, hl1]
  have h3 : ∀ r ∈ f.rods, (rb r).length = 3 := fun r hr => by
    obtain ⟨a, b, e, _⟩ := rb_facts (ok_small h r hr).1 (ok_small h r hr).2
    rw [e]; rfl
  unfold byteAt
  rw [hb]
  refine ⟨by simpa using hu2, by simpa using hl2, fun i hi => ?_⟩
  obtain ⟨a, b, e, e1, e2, _⟩ := rb_facts (ok_small h f.rods[i] (List.getElem_mem _)).1 (ok_small h f.rods[i] (List.getElem_mem _)).2
  have x1 := flat3 rb f.rods h3 i hi 1 (by omega)
  have x2 := flat3 rb f.rods h3 i hi 2 (by omega)
  rw [e] at x1 x2
  constructor
  · rw [List.getD_eq_getElem?_getD, List.getElem?_append_right (by simp), show 3 * i + 4 - [u, 47, l].length = 3 * i + 1 by simp, x1]; simpa using e1
  · rw [List.getD_eq_getElem?_getD, List.getElem?_append_right (by simp), show 3 * i + 5 - [u, 47, l].length = 3 * i + 2 by simp, x2]; simpa using e2
theorem ft_len {f : Frame} (h : f.ok = true) : (ftext f).size = 3 + 3 * f.rods.length := by
  have := ft_size h f.rods.length (Nat.le_refl _)
  rwa [List.take_length] at this
/-- a frame's text tells the frame. -/
theorem dec_ft {f : Frame} (h : f.ok = true) : decFrame (ftext f) = f := by
  obtain ⟨h0, h2, hr⟩ := ft_at h
  have hz := ft_len h
  obtain ⟨u, l, rods⟩ := f
  simp only [decFrame] at *
  rw [h0, h2, hz]
  congr 1
  apply List.ext_getElem
  · rw [decRods_len]; omega
  · intro i hi1 hi2
    have := hr i hi2
    simp only [decRods, List.getElem_map, List.getElem_range]
    rw [this.1, this.2]
/-! by words, as the reference reads it -/
def wordRod (w : ByteArray) : Int × Int := (byteAt w 0, byteAt w 1)
def wordFrame (ws : List ByteArray) : Frame := ⟨byteAt (ws.headD ByteArray.empty) 0, byteAt (ws.headD ByteArray.empty) 2, (ws.drop 1).map wordRod⟩
theorem ft_jn (l : List (Int × Int)) : ∀ n, n ≤ l.length → ∀ t : ByteArray, (l.take n).foldl ftStep t = jn ⟨#[32]⟩ (t :: (l.take n).map rdTxt)
  | 0, _, t => by simp [jn_one]
  | n + 1, hn, t => by
      have ih := ft_jn l n (by omega) t
      rw [ft_succ l t n (by omega), ih, List.take_succ_eq_append_getElem (by omega), List.map_append, ← List.cons_append, List.map_cons, List.map_nil, jn_snoc _ _ _ (by simp)]
      simp [rdTxt, ByteArray.append_assoc]
theorem stands_of {l : List UInt8} {b : UInt8} (h : b ∉ l) : stands l (b.toNat : Int) = false := stands_mem.2 h
theorem ft_words {f : Frame} (h : f.ok = true) : spl (ftext f) 32 = ftHead f.upper f.lower :: f.rods.map rdTxt := by
  obtain ⟨hu, hl, -, -⟩ := (Frame.ok_iff f).1 h
  obtain ⟨u, hu1, hu2, hu3, _⟩ := txt_byte (n := f.upper) (by omega) (by omega)
  obtain ⟨l, hl1, hl2, hl3, _⟩ := txt_byte (n := f.lower) (by omega) (by omega)
  have e := ft_jn f.rods f.rods.length (Nat.le_refl _) (ftHead f.upper f.lower)
  rw [List.take_length] at e
  have e2 := jn_spl (ftHead f.upper f.lower :: f.rods.map rdTxt) 32 (by simp) (fun x hx => by
    refine stands_of ?_
    rcases List.mem_cons.1 hx with rfl | hx
    · simp [ftHead, ByteArray.data_append, hu1, hl1]
      exact ⟨fun e => hu3 e.symm, fun e => hl3 e.symm⟩
    · obtain ⟨r, hr, rfl⟩ := List.mem_map.1 hx
      obtain ⟨a, ha, _, ha2, _⟩ := txt_byte (ok_small h r hr).1.1 (ok_small h r hr).1.2
      obtain ⟨b, hb, _, hb2, _⟩ := txt_byte (ok_small h r hr).2.1 (ok_small h r hr).2.2
      simp [rdTxt, ByteArray.data_append, ha, hb]
      exact ⟨fun e => ha2 e.symm, fun e => hb2 e.symm⟩)
  have e32 : ((32 : UInt8).toNat : Int) = 32 := rfl
  rw [e32, ← e] at e2
  exact e2
theorem rd_size {f : Frame} (h : f.ok = true) : ∀ r ∈ f.rods, (rdTxt r).size = 2 ∧ wordRod (rdTxt r) = r := by
  intro r hr
  obtain ⟨a, ha, ha', _⟩ := txt_byte (ok_small h r hr).1.1 (ok_small h r hr).1.2
  obtain ⟨b, hb, hb', _⟩ := txt_byte (ok_small h r hr).2.1 (ok_small h r hr).2.2
  have e : (rdTxt r).data.toList = [a, b] := by simp [rdTxt, ByteArray.data_append, ha, hb]
  constructor
  · have : (rdTxt r).size = (rdTxt r).data.toList.length := by simp
    rw [this, e]; rfl
  · unfold wordRod byteAt; rw [e]; simp [ha', hb']
theorem word_ft {f : Frame} (h : f.ok = true) : wordFrame (spl (ftext f) 32) = f := by
  obtain ⟨hu, hl, -, -⟩ := (Frame.ok_iff f).1 h
  obtain ⟨u, hu1, hu2, hu3, _⟩ := txt_byte (n := f.upper) (by omega) (by omega)
  obtain ⟨l, hl1, hl2, hl3, _⟩ := txt_byte (n := f.lower) (by omega) (by omega)
  have hz := rd_size h
  rw [ft_words h]
  obtain ⟨uu, ll, rods⟩ := f
  simp only [wordFrame, List.headD_cons, List.drop_succ_cons, List.drop_zero, List.map_map] at *
  have hb : (ftHead uu ll).data.toList = [u, 47, l] := by simp [ftHead, ByteArray.data_append, hu1, hl1]
  congr 1
  · unfold byteAt; rw [hb]; simpa using hu2
  · unfold byteAt; rw [hb]; simpa using hl2
  · conv => rhs; rw [← List.map_id rods]
    exact List.map_congr_left fun r hr => (hz r hr).2
/-- what the reference reads is what the program reads. -/
theorem parseFr_word {s : ByteArray} (h : (wordFrame (spl s 32)).ok = true) (h1 : ftext (wordFrame (spl s 32)) = s) : parseFr s = (wordFrame (spl s 32), true) := by
  have e : decFrame s = wordFrame (spl s 32) := by
    have := dec_ft h
    rwa [h1] at this
  rw [parseFr_yes (by rw [e]; exact h) (by rw [e]; exact h1), e]
theorem parseFr_noword {s : ByteArray} (h : ¬ ((wordFrame (spl s 32)).ok = true ∧ ftext (wordFrame (spl s 32)) = s)) : parseFr s = (⟨0, 0, []⟩, false) := by
  refine parseFr_no (fun ⟨a, b⟩ => h ?_)
  have e : wordFrame (spl s 32) = decFrame s := by
    have := word_ft a
    rwa [b] at this
  rw [e]; exact ⟨a, b⟩
/-- a text of another form is no frame's. -/
theorem parseFr_form {s : ByteArray} (h : ¬ ((∃ w r, spl s 32 = w :: r ∧ w.size = 3) ∧ (spl s 32).length ≤ 9 ∧ ∀ i (hi : i < (spl s 32).length), 1 ≤ i → (spl s 32)[i].size = 2)) : parseFr s = (⟨0, 0, []⟩, false) := by
  refine parseFr_no (fun ⟨a, b⟩ => h ?_)
  have e := ft_words a
  rw [b] at e
  obtain ⟨hu, hl, hn, -⟩ := (Frame.ok_iff _).1 a
  have z1 := txt1 (n := (decFrame s).upper) (by omega) (by omega)
  have z2 := txt1 (n := (decFrame s).lower) (by omega) (by omega)
  refine ⟨⟨_, _, e, ?_⟩, ?_, ?_⟩
  · simp only [ftHead, ByteArray.size_append, z1, z2]; rfl
  · rw [e]; simp only [List.length_cons, List.length_map]; omega
  · intro i hi h1
    simp only [e] at hi ⊢
    obtain ⟨j, rfl⟩ : ∃ j, i = j + 1 := ⟨i - 1, by omega⟩
    rw [List.getElem_cons_succ, List.getElem_map]
    exact (rd_size a _ (List.getElem_mem _)).1
/-- .. of another length. -/
theorem parseFr_size {s : ByteArray} (h : s.size < 6 ∨ 27 < s.size ∨ s.size % 3 ≠ 0) : parseFr s = (⟨0, 0, []⟩, false) := by
  refine parseFr_no (fun ⟨a, b⟩ => ?_)
  have hz := ft_len a
  rw [b] at hz
  have := ((Frame.ok_iff _).1 a).2.2.1
  omega
end Go.Proofs.Ythlkdaogmcjlbaa.M
