/-
  Walks: the law file's helpers on tables of numbers.
-/
import Derived.Test.YtebbihckndjbeaaTab
import Derived.Test.YtebbihckndjbeaaPupilM
import Derived.Test.YtebbihckndjbeaaKit5
import Derived.Deep.DeepCutAuto
import Derived.Deep.RegionHeld3
set_option linter.unusedVariables false
namespace Go.Proofs.Ytebbihckndjbeaa.M
theorem idsNm_len (l : List Pupil) (s : ByteArray) : (idsNm l s).length ≤ l.length := by
  have := idsNm_le l s l.length
  rwa [List.take_length] at this
theorem sameNames_bd (l : List Pupil) : (sameNames l).1.length ≤ 12 ∧ ∀ x ∈ (sameNames l).1, x.length ≤ 12 := by
  cases h : pupsOk l with
  | false => rw [sameNames_no h]; exact ⟨by simp, fun x hx => by cases hx⟩
  | true =>
    rw [sameNames_yes h]
    have h12 : l.length ≤ 12 := ((pupsOk_iff l).1 h).1
    have hn := snTo_len l l.length
    refine ⟨by simp only; omega, fun x hx => ?_⟩
    simp only [snTo, List.mem_flatMap] at hx
    obtain ⟨i, _, hi⟩ := hx
    unfold snOne at hi
    split at hi
    · cases hi
    · split at hi
      · rw [List.mem_singleton.1 hi]
        have := idsNm_len l (by assumption : Pupil).name
        omega
      · cases hi
end Go.Proofs.Ytebbihckndjbeaa.M
namespace Go.Proofs.Ytebbihckndjbeaa.Tab
open Go.RowKit
/-- a table reads. -/
def RdT (w : World) (A : Option Addr) (ts : TS) : Prop := K.Rd w 1 A ts.length (TC ts) ∧ ∀ t ∈ ts, K.Rd w 1 t.1 t.2.2.length (t.2.2.map (Value.int .i64))
theorem RdT.below {w w' : World} {A : Option Addr} {ts : TS} (h : RdT w A ts) (b : Below w.heap.size w w') : RdT w' A ts := ⟨h.1.below b, fun t ht => (h.2 t ht).below b⟩
theorem Tab.rd {w : World} {lo c : Nat} {A : Option Addr} {ts : TS} (F : Tab w lo A c ts) : RdT w A ts := ⟨F.row.rd, fun t ht => (F.inn t ht).rd⟩
theorem RdT.at_ {w : World} {A : Option Addr} {ts : TS} (h : RdT w A ts) {k : Nat} (hk : k < ts.length) :
    ∃ g o, A = some ⟨g, o, none⟩ ∧ w.cell? ⟨g, o + k, none⟩ = some (.slice ts[k].1 ts[k].2.2.length ts[k].2.1) := by
  obtain ⟨g, o, u, e, hu, hc⟩ := h.1.at1 hk
  unfold TC at hu
  rw [List.getElem?_map, List.getElem?_eq_getElem hk] at hu
  injection hu with hu
  exact ⟨g, o, e, by rw [hc, ← hu]⟩
theorem RdT.cell_lt {w : World} {A : Option Addr} {ts : TS} (h : RdT w A ts) {k g o : Nat} (hk : k < ts.length) (e : A = some ⟨g, o, none⟩) : g < w.heap.size := by
  obtain ⟨g', o', e', hg, _⟩ := h.1.2 (by omega)
  rw [e] at e'
  injection e' with e'
  injection e' with e' _
  omega
theorem same_at {ts us : TS} (h : ts.map (fun t => t.2.2) = us.map (fun t => t.2.2)) {k : Nat} (h1 : k < ts.length) (h2 : k < us.length) : us[k].2.2 = ts[k].2.2 := by
  have : (ts.map (fun t => t.2.2))[k]'(by simpa using h1) = (us.map (fun t => t.2.2))[k]'(by simpa using h2) := by simp only [h]
  simpa using this.symm
--@begin printed by gen_tabh.py
set_option maxHeartbeats 2000000 in
theorem eqss (A B : Option Addr) (c d : Nat) (ts us : TS) (w : World) (hm : ts.map (fun t => t.2.2) = us.map (fun t => t.2.2)) (hb : ts.length ≤ 12 ∧ ∀ t ∈ ts, t.2.2.length ≤ 12) (ha : RdT w A ts) (hb2 : RdT w B us) :
    Calls Try.prog 61 #[.slice A ts.length c, .slice B us.length d] w fun e w' => e = .returned (.bool true) ∧ Below w.heap.size w w' := by
  have hln : us.length = ts.length := by have := congrArg List.length hm; simpa using this.symm
  have hl1 : us.length ≤ ts.length := by omega
  have hl2 : ts.length ≤ us.length := by omega
  obtain ⟨hb0, hb1⟩ := hb
  have HM := Lib.hid (fun k h1 h2 => same_at hm (k := k) h1 h2)
  have hne : ((ts.length : Int) != (us.length : Int)) = false := by simp; omega
  have HLN := Lib.hid hln
  clear hm hln
  go_enter Try.func61, Try.ntmps61
  go_wp2_with fail
  go_loopw [5] (fun i wr => ∃ k : Nat, k ≤ ts.length ∧ i = .int .i64 k ∧ Hid (Below w.heap.size w wr)) (fun i _ => ts.length - (intOf i).toNat)
  case atStart => exact ⟨0, Nat.zero_le _, rfl, Lib.hid (Below.refl _ _)⟩
  case round =>
    obtain ⟨k, hk, rfl, HB⟩ := hrel
    by_cases hlt : k < ts.length
    · have hlt2 : k < us.length := by omega
      have h1 : (k : Int) < (ts.length : Int) := by omega
      have h2 : (0 : Int) ≤ (k : Int) := by omega
      have h3 : (k : Int) < (us.length : Int) := by omega
      obtain ⟨W, hW⟩ : ∃ X, X = wr.drew := ⟨_, rfl⟩
      have HBW := Lib.hid (show Below w.heap.size w W by rw [hW]; exact HB.out.drew)
      obtain ⟨g, o, rfl, ca⟩ := (ha.below HBW.out).at_ hlt
      obtain ⟨g2, o2, rfl, cb⟩ := (hb2.below HBW.out).at_ hlt2
      have hga := (ha.below HBW.out).cell_lt hlt rfl
      have hgb := (hb2.below HBW.out).cell_lt hlt2 rfl
      have ra := (ha.below HBW.out).2 _ (List.getElem_mem hlt)
      have rb := (hb2.below HBW.out).2 _ (List.getElem_mem hlt2)
      have hz := hb1 _ (List.getElem_mem hlt)
      have hmm := HM.out k hlt hlt2
      rw [hmm] at rb cb
      clear hmm
      generalize us[k].1 = Y at *
      generalize us[k].2.1 = dy at *
      generalize ts[k].1 = X at *
      generalize ts[k].2.1 = dx at *
      generalize ts[k].2.2 = xs at *
      have RA := Lib.hid ra
      have RB := Lib.hid rb
      have CA := Lib.hid (K.At.of (p := ⟨g, o + k, none⟩) hga ca)
      have CB := Lib.hid (K.At.of (p := ⟨g2, o2 + k, none⟩) hgb cb)
      clear ra rb ca cb
      go_upto_region 6 with fail
      refine wp_region_held_drew (S := fun w' => w'.cell? ⟨g, o + k, none⟩ = some (.slice X xs.length dx) ∧ w'.cell? ⟨g2, o2 + k, none⟩ = some (.slice Y xs.length dy)) (by kernel_rfl) (by rw [← hW]; exact ⟨CA.out.cell, CB.out.cell⟩) (fun hHeld => ?_)
      rw [← hW] at hHeld ⊢
      clear hW
      refine K.takeL 0 (v := ?_) rfl (by kernel_rfl) (by kernel_rfl) (by kernel_rfl) (fun _ _ _ h => h) (Or.inl ⟨rfl, ?_⟩) (by assumption) ?_
      rotate_left
      · intro w hSw; (try dsimp only at hSw); first | (go_simp; done) | (go_simp; with_reducible rfl)
      simp only [Act.put, List.setIfInBounds_toArray, List.set_cons_zero, List.set_cons_succ]
      refine K.takeL 1 (v := ?_) rfl (by kernel_rfl) (by kernel_rfl) (by kernel_rfl) (fun _ _ _ h => h) (Or.inl ⟨rfl, ?_⟩) (by assumption) ?_
      rotate_left
      · intro w hSw; (try dsimp only at hSw); first | (go_simp; done) | (go_simp; with_reducible rfl)
      simp only [Act.put, List.setIfInBounds_toArray, List.set_cons_zero, List.set_cons_succ]
      refine K.takeL 2 (v := ?_) rfl (by kernel_rfl) (by kernel_rfl) (by kernel_rfl) (fun _ _ _ h => h) (Or.inl ⟨rfl, ?_⟩) (by assumption) ?_
      rotate_left
      · intro w hSw; (try dsimp only at hSw); first | (go_simp; done) | (go_simp; with_reducible rfl)
      simp only [Act.put, List.setIfInBounds_toArray, List.set_cons_zero, List.set_cons_succ]
      refine K.takeL 3 (v := ?_) rfl (by kernel_rfl) (by kernel_rfl) (by kernel_rfl) (fun _ _ _ h => h) (Or.inl ⟨rfl, ?_⟩) (by assumption) ?_
      rotate_left
      · intro w hSw; (try dsimp only at hSw); first | (go_simp; done) | (go_simp; with_reducible rfl)
      simp only [Act.put, List.setIfInBounds_toArray, List.set_cons_zero, List.set_cons_succ]
      refine K.takeL 4 (v := ?_) rfl (by kernel_rfl) (by kernel_rfl) (by kernel_rfl) (fun _ _ _ h => h) (Or.inl ⟨rfl, ?_⟩) (by assumption) ?_
      rotate_left
      · intro w hSw; (try dsimp only at hSw); first | (go_simp; done) | (go_simp; with_reducible rfl)
      simp only [Act.put, List.setIfInBounds_toArray, List.set_cons_zero, List.set_cons_succ]
      refine K.takeL 5 (v := ?_) rfl (by kernel_rfl) (by kernel_rfl) (by kernel_rfl) (fun _ _ _ h => h) (Or.inl ⟨rfl, ?_⟩) (by assumption) ?_
      rotate_left
      · intro w hSw; (try dsimp only at hSw); first | (go_simp; done) | (go_simp; with_reducible rfl)
      simp only [Act.put, List.setIfInBounds_toArray, List.set_cons_zero, List.set_cons_succ]
      refine K.takeL 6 (v := ?_) rfl (by kernel_rfl) (by kernel_rfl) (by kernel_rfl) (fun _ _ _ h => h) (Or.inl ⟨rfl, ?_⟩) (by assumption) ?_
      rotate_left
      · intro w hSw; (try dsimp only at hSw); first | (go_simp; done) | (go_simp; with_reducible rfl)
      simp only [Act.put, List.setIfInBounds_toArray, List.set_cons_zero, List.set_cons_succ]
      refine K.takeL 7 (v := ?_) rfl (by kernel_rfl) (by kernel_rfl) (by kernel_rfl) (fun _ _ _ h => h) (Or.inl ⟨rfl, ?_⟩) (by assumption) ?_
      rotate_left
      · intro w hSw; (try dsimp only at hSw); first | (go_simp; done) | (go_simp; with_reducible rfl)
      simp only [Act.put, List.setIfInBounds_toArray, List.set_cons_zero, List.set_cons_succ]
      refine K.consL 8 rfl (by kernel_rfl) (fun KK hK => ?_)
      go_simp
      refine (SlInt.eq_yes X Y dx dy xs _ (by omega) RA.out RB.out).mono ?_
      rintro e w3 ⟨rfl, b3⟩
      go_wp2_with fail
      refine hK.out _ _ ⟨(CA.out.below b3).cell, (CB.out.below b3).cell⟩ (fun hHeld => ?_)
      clear hK KK
      try simp only [Act.put, List.setIfInBounds_toArray, List.set_cons_zero, List.set_cons_succ]
      refine K.takeL 9 (v := ?_) rfl (by kernel_rfl) (by kernel_rfl) (by kernel_rfl) (fun _ _ _ h => h) (Or.inl ⟨rfl, ?_⟩) (by assumption) ?_
      rotate_left
      · intro w hSw; (try dsimp only at hSw); first | (go_simp; done) | (go_simp; with_reducible rfl)
      simp only [Act.put, List.setIfInBounds_toArray, List.set_cons_zero, List.set_cons_succ]
      refine wpAnyH_done (by kernel_rfl) ?_ _
      have HB3 := Lib.hid (HBW.out.trans (b3.mono HBW.out.size))
      go_wp2_with fail
      go_roundw
      case rel => exact ⟨k + 1, by omega, by go_num, HB3⟩
      case measure => simp [intOf]; omega
    · obtain rfl : k = ts.length := by omega
      go_wp2_with fail
      go_ret
      exact ⟨rfl, HB.out⟩

/-! marks -/
def tot (ts : TS) : Nat := (ts.map fun t => t.2.2.length).sum
theorem tot_take (ts : TS) (k : Nat) (h : k < ts.length) : tot (ts.take (k + 1)) = tot (ts.take k) + ts[k].2.2.length := by
  unfold tot; rw [List.take_succ_eq_append_getElem h, List.map_append, List.sum_append]; simp
theorem tot_le (ts : TS) (hb : ∀ t ∈ ts, t.2.2.length ≤ 12) : ∀ k, k ≤ ts.length → tot (ts.take k) ≤ 12 * k
  | 0, _ => by simp [tot]
  | k + 1, h => by
      have ih := tot_le ts hb k (by omega)
      rw [tot_take ts k (by omega)]
      have := hb _ (List.getElem_mem (show k < ts.length by omega))
      omega
/-- the first j rows bear marks. -/
def MkTo (k0 : Nat) (ts : TS) (j : Nat) (S : TS) : Prop := S.length = ts.length ∧ ∀ i (h : i < ts.length) (h' : i < S.length), S[i] = if i < j then (ts[i].1, ts[i].2.1, M.markInts (k0 + tot (ts.take i)) ts[i].2.2.length) else ts[i]
theorem MkTo.zero (k0 : Nat) (ts : TS) : MkTo k0 ts 0 ts := ⟨rfl, fun i h h' => by rw [if_neg (by omega)]⟩
theorem MkTo.set {k0 : Nat} {ts S : TS} {j : Nat} (F : MkTo k0 ts j S) (hj : j < ts.length) : MkTo k0 ts (j + 1) (S.set j (ts[j].1, ts[j].2.1, M.markInts (k0 + tot (ts.take j)) ts[j].2.2.length)) := by
  refine ⟨by rw [List.length_set]; exact F.1, fun i h h' => ?_⟩
  rw [List.getElem_set]
  by_cases e : j = i
  · subst e; rw [if_pos rfl, if_pos (by omega)]
  · rw [if_neg e, F.2 i h (by simpa using h')]
    by_cases e2 : i < j
    · rw [if_pos e2, if_pos (by omega)]
    · rw [if_neg e2, if_neg (by omega)]
theorem MkTo.at_ {k0 : Nat} {ts S : TS} {j : Nat} (F : MkTo k0 ts j S) (hj : j < ts.length) (hj' : j < S.length) : S[j] = ts[j] := by
  rw [F.2 j hj hj', if_neg (by omega)]
theorem MkTo.full {k0 : Nat} {ts S : TS} (F : MkTo k0 ts ts.length S) {i : Nat} (h : i < ts.length) (h' : i < S.length) : S[i] = (ts[i].1, ts[i].2.1, M.markInts (k0 + tot (ts.take i)) ts[i].2.2.length) := by
  rw [F.2 i h h', if_pos h]
theorem TC_set (S : TS) (j : Nat) (hj : j < S.length) (xs : List Int) (hx : xs.length = S[j].2.2.length) : TC (S.set j (S[j].1, S[j].2.1, xs)) = TC S := by
  unfold TC
  rw [List.map_set]
  apply List.ext_getElem
  · simp
  · intro i h1 h2
    rw [List.getElem_set]
    by_cases e : j = i
    · subst e; rw [if_pos rfl]; simp [hx]
    · rw [if_neg e]
theorem fst_set (S : TS) (j : Nat) (hj : j < S.length) (xs : List Int) (i : Nat) (h : i < (S.set j (S[j].1, S[j].2.1, xs)).length) (h' : i < S.length) : (S.set j (S[j].1, S[j].2.1, xs))[i].1 = S[i].1 := by
  rw [List.getElem_set]
  by_cases e : j = i
  · subst e; rw [if_pos rfl]
  · rw [if_neg e]
theorem Tab.apart {w : World} {lo c : Nat} {A : Option Addr} {S : TS} (F : Tab w lo A c S) {i j : Nat} (hi : i < S.length) (hj : j < S.length) (hne : i ≠ j) : ∀ q, K.blk S[i].1 = some q → K.blk S[j].1 ≠ some q := by
  have h := List.pairwise_iff_getElem.1 F.pw
  rcases Nat.lt_or_gt_of_ne hne with h1 | h1
  · exact h i j hi hj h1
  · exact fun q a b => h j i hj hi h1 q b a
theorem Tab.setAt {w w' : World} {lo c : Nat} {A : Option Addr} {S : TS} (F : Tab w lo A c S) {j : Nat} (hj : j < S.length) {xs : List Int} (hx : xs.length = S[j].2.2.length)
    (hr : K.Row w' lo 3 1 S[j].1 xs.length S[j].2.1 (xs.map (Value.int .i64))) (hg : w.grownBy w' (K.blk S[j].1)) : Tab w' lo A c (S.set j (S[j].1, S[j].2.1, xs)) := by
  have hml := List.getElem_mem hj
  refine ⟨?_, ?_, ?_, ?_⟩
  · rw [List.length_set, TC_set S j hj xs hx]
    exact F.row.kept hg (fun q hq e => F.ap _ hml q hq e)
  · intro t ht
    obtain ⟨i, hi, rfl⟩ := List.mem_iff_getElem.1 ht
    have hi' : i < S.length := by simpa using hi
    rw [List.getElem_set]
    by_cases e : j = i
    · rw [if_pos e]; exact hr
    · rw [if_neg e]
      exact (F.inn _ (List.getElem_mem hi')).kept hg (fun q hq k => F.apart hj hi' e q k hq)
  · intro t ht
    obtain ⟨i, hi, rfl⟩ := List.mem_iff_getElem.1 ht
    have hi' : i < S.length := by simpa using hi
    rw [fst_set S j hj xs i hi hi']
    exact F.ap _ (List.getElem_mem hi')
  · rw [List.pairwise_iff_getElem]
    intro a b ha hb hab
    have ha' : a < S.length := by simpa using ha
    have hb' : b < S.length := by simpa using hb
    rw [fst_set S j hj xs a ha ha', fst_set S j hj xs b hb hb']
    exact F.apart ha' hb' (by omega)

set_option maxHeartbeats 2000000 in
theorem markss (A B : Option Addr) (c d lo lo2 k0 : Nat) (ts us : TS) (w : World) (hb : ts.length ≤ 12 ∧ ∀ t ∈ ts, t.2.2.length ≤ 12) (hk : 1 ≤ k0 ∧ k0 ≤ 1000) (hlo : lo ≤ w.heap.size) (ha : Tab w lo A c ts) (hu : Tab w lo2 B d us) (hap : ∀ t ∈ ts, ∀ q, K.blk t.1 = some q → K.blk B ≠ some q ∧ ∀ u ∈ us, K.blk u.1 ≠ some q) :
    Calls Try.prog 62 #[.slice A ts.length c, .int .i64 k0] w fun e w' => (∃ n : Nat, n = k0 + tot ts ∧ n ≤ 2000 ∧ e = .returned (.int .i64 (n : Int))) ∧ (∃ S, MkTo k0 ts ts.length S ∧ Tab w' lo A c S) ∧ Tab w' lo2 B d us ∧ Below lo w w' := by
  obtain ⟨hb0, hb1⟩ := hb
  obtain ⟨hk0, hk1⟩ := hk
  have HTL := Lib.hid (fun k h => tot_le ts hb1 k h)
  have HTT := Lib.hid (fun k h => tot_take ts k h)
  have HAP := Lib.hid hap
  have HA := Lib.hid ha
  have HU := Lib.hid hu
  clear ha hu hap
  go_enter Try.func62, Try.ntmps62
  go_wp2_with fail
  go_loopw [1, 5] (fun kk i wr => ∃ (j n : Nat) (S : TS), j ≤ ts.length ∧ i = .int .i64 (j : Int) ∧ kk = .int .i64 (n : Int) ∧ Hid (n = k0 + tot (ts.take j)) ∧ Hid (MkTo k0 ts j S) ∧ Hid (Tab wr lo A c S) ∧ Hid (Tab wr lo2 B d us) ∧ Hid (Below lo w wr)) (fun _ i _ => ts.length - (intOf i).toNat)
  case atStart => exact ⟨0, k0, ts, Nat.zero_le _, rfl, rfl, Lib.hid (by simp [tot]), Lib.hid (MkTo.zero k0 ts), HA, HU, Lib.hid (Below.refl _ _)⟩
  case round =>
    clear HA HU
    obtain ⟨j, n, S, hj, rfl, rfl, HN, HS, HA, HU, HB⟩ := hrel
    have hnb : n ≤ 2000 := by rw [HN.out]; have := HTL.out j hj; omega
    have hn1 : 1 ≤ n := by rw [HN.out]; omega
    by_cases hlt : j < ts.length
    · have hsl : j < S.length := by rw [HS.out.1]; exact hlt
      have h1 : (j : Int) < (ts.length : Int) := by omega
      have h2 : (0 : Int) ≤ (j : Int) := by omega
      obtain ⟨g, o, hAe, ca⟩ := HA.out.rd.at_ hsl
      have hSj := HS.out.at_ hlt hsl
      have hsz := hb1 _ (List.getElem_mem hlt)
      have hap1 := HAP.out _ (List.getElem_mem hlt)
      have HSS := Lib.hid (HS.out.set hlt)
      have HN2 := Lib.hid (HTT.out j hlt)
      have ri := HA.out.inn _ (List.getElem_mem hsl)
      have hset := fun (w2 : World) (xs : List Int) hx hr hg => HA.out.setAt (w' := w2) hsl (xs := xs) hx hr hg
      rw [hSj] at ca ri hset
      rw [← HN.out] at HSS
      subst hAe
      generalize ts[j].1 = X at *
      generalize ts[j].2.1 = dx at *
      generalize ts[j].2.2 = xs at *
      have HSET := Lib.hid hset
      have RI := Lib.hid ri
      have HAP1 := Lib.hid hap1
      have HXL := Lib.hid (fun q hq => (ri.lt q hq).1)
      clear hset ri hap1 hSj
      go_wp2_with fail
      refine (SlInt.mark X xs.length dx lo n _ _ (by omega) hn1 (by omega) RI.out).mono ?_
      rintro e w3 ⟨rfl, row3, g3⟩
      have HA3 := Lib.hid (HSET.out w3 (M.markInts n xs.length) (by simp [M.markInts]) (by have hl : (M.markInts n xs.length).length = xs.length := (by simp [M.markInts]); rw [hl]; exact row3) g3)
      have HU3 := Lib.hid (HU.out.kept g3 (fun q hq e => (HAP1.out q e).1 hq) (fun u hu q hq e => (HAP1.out q e).2 u hu hq))
      have hlz : lo ≤ wr.heap.size := by have := HB.out.size; omega
      have HB3 := Lib.hid (K.below_grown HB.out g3 hlz HXL.out)
      clear row3 g3
      go_wp2_with fail
      go_roundw
      case rel => exact ⟨j + 1, n + xs.length, _, by omega, by go_num, by first | rfl | (simp; done) | go_num, Lib.hid (by rw [HN2.out, HN.out]; omega), HSS, HA3, HU3, HB3⟩
      case measure => first | (simp [intOf]; done) | (simp [intOf]; omega)
    · obtain rfl : j = ts.length := by omega
      go_wp2_with fail
      go_ret
      exact ⟨⟨n, by rw [HN.out, List.take_length], hnb, rfl⟩, ⟨S, HS.out, HA.out⟩, HU.out, HB.out⟩
set_option maxHeartbeats 2000000 in
theorem heldss (A : Option Addr) (c k0 : Nat) (ts S : TS) (w : World) (hb : ts.length ≤ 12 ∧ ∀ t ∈ ts, t.2.2.length ≤ 12) (hk : 1 ≤ k0 ∧ k0 ≤ 1000) (hS : MkTo k0 ts ts.length S) (ha : RdT w A S) :
    Calls Try.prog 63 #[.slice A ts.length c, .int .i64 k0] w fun e w' => (∃ n : Nat, n = k0 + tot ts ∧ n ≤ 2000 ∧ e = .returned (.int .i64 (n : Int))) ∧ Below w.heap.size w w' := by
  obtain ⟨hb0, hb1⟩ := hb
  obtain ⟨hk0, hk1⟩ := hk
  have HTL := Lib.hid (fun k h => tot_le ts hb1 k h)
  have HTT := Lib.hid (fun k h => tot_take ts k h)
  have HS := Lib.hid hS
  have HA := Lib.hid ha
  clear hS ha
  go_enter Try.func63, Try.ntmps63
  go_wp2_with fail
  go_loopw [1, 5] (fun kk i wr => ∃ (j n : Nat), j ≤ ts.length ∧ i = .int .i64 (j : Int) ∧ kk = .int .i64 (n : Int) ∧ Hid (n = k0 + tot (ts.take j)) ∧ Hid (Below w.heap.size w wr)) (fun _ i _ => ts.length - (intOf i).toNat)
  case atStart => exact ⟨0, k0, Nat.zero_le _, rfl, rfl, Lib.hid (by simp [tot]), Lib.hid (Below.refl _ _)⟩
  case round =>
    obtain ⟨j, n, hj, rfl, rfl, HN, HB⟩ := hrel
    have hnb : n ≤ 2000 := by rw [HN.out]; have := HTL.out j hj; omega
    have hn1 : 1 ≤ n := by rw [HN.out]; omega
    by_cases hlt : j < ts.length
    · have hsl : j < S.length := by rw [HS.out.1]; exact hlt
      have h1 : (j : Int) < (ts.length : Int) := by omega
      have h2 : (0 : Int) ≤ (j : Int) := by omega
      have hr := HA.out.below HB.out
      obtain ⟨g, o, hAe, ca⟩ := hr.at_ hsl
      have hSj := HS.out.full hlt hsl
      have hsz := hb1 _ (List.getElem_mem hlt)
      have HN2 := Lib.hid (HTT.out j hlt)
      have ri := hr.2 _ (List.getElem_mem hsl)
      rw [hSj] at ca ri
      rw [← HN.out] at ca ri
      have hml : (M.markInts n ts[j].2.2.length).length = ts[j].2.2.length := by simp [M.markInts]
      simp only [hml] at ca ri
      subst hAe
      clear hr hSj hml
      generalize ts[j].1 = X at *
      generalize ts[j].2.1 = dx at *
      generalize ts[j].2.2.length = m at *
      have RI := Lib.hid ri
      clear ri
      have hng : decide (((n + m : Nat) : Int) < 0) = false := decide_eq_false (by omega)
      have hng2 : decide ((n : Int) + (m : Int) < 0) = false := decide_eq_false (by omega)
      go_wp2_with fail
      refine (SlInt.held X m dx n _ (by omega) hn1 (by omega) RI.out).mono ?_
      rintro e w3 ⟨rfl, b3⟩
      have HB3 := Lib.hid (HB.out.trans (b3.mono HB.out.size))
      clear b3
      go_wp2_with fail
      go_roundw
      case rel => exact ⟨j + 1, n + m, by omega, by go_num, by first | rfl | (simp; done) | go_num, Lib.hid (by rw [HN2.out, HN.out]; omega), HB3⟩
      case measure => first | (simp [intOf]; done) | (simp [intOf]; omega)
    · obtain rfl : j = ts.length := by omega
      go_wp2_with fail
      go_ret
      exact ⟨⟨n, by rw [HN.out, List.take_length], hnb, rfl⟩, HB.out⟩
end Go.Proofs.Ytebbihckndjbeaa.Tab
