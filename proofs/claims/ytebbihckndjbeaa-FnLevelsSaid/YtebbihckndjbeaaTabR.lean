/-
  Walks: are two tables alike? (a helper of the great laws)
-/
import Derived.Test.YtebbihckndjbeaaTabH
import Derived.Test.YtebbihckndjbeaaPupilV
set_option linter.unusedVariables false
namespace Go.Proofs.Ytebbihckndjbeaa.Tab
open Go.RowKit
set_option maxHeartbeats 2000000 in
theorem rtable (A B : Option Addr) (c d : Nat) (ts us : TS) (w : World) (hm : ts.map (fun t => t.2.2) = us.map (fun t => t.2.2)) (hb : ts.length ≤ 12 ∧ ∀ t ∈ ts, t.2.2.length ≤ 12) (ha : RdT w A ts) (hb2 : RdT w B us) :
    Calls Try.prog 46 #[.slice A ts.length c, .slice B us.length d] w fun e w' => e = .returned (.bool true) ∧ Below w.heap.size w w' := by
  have hln : us.length = ts.length := by have := congrArg List.length hm; simpa using this.symm
  have hl1 : us.length ≤ ts.length := by omega
  have hl2 : ts.length ≤ us.length := by omega
  obtain ⟨hb0, hb1⟩ := hb
  have HM := Lib.hid (fun k h1 h2 => same_at hm (k := k) h1 h2)
  have hne : ((ts.length : Int) != (us.length : Int)) = false := by simp; omega
  have HLN := Lib.hid hln
  clear hm hln
  go_enter Try.func46, Try.ntmps46
  go_wp2_with fail
  go_loopw [5] (fun i wr => ∃ k : Nat, k ≤ ts.length ∧ i = .int .i64 k ∧ Hid (Below w.heap.size w wr)) (fun i _ => ts.length - (intOf i).toNat)
  case atStart => exact ⟨0, Nat.zero_le _, rfl, Lib.hid (Below.refl _ _)⟩
  case round =>
    obtain ⟨k, hk, rfl, HB⟩ := hrel
    by_cases hlt : k < ts.length
    · have hlt2 : k < us.length := by omega
      have h1 : (k : Int) < (ts.length : Int) := by omega
      have h2 : (0 : Int) ≤ (k : Int) := by omega
      have h3 : (k : Int) < (us.length : Int) := by omega
      obtain ⟨W, hW⟩ : ∃ X, X = wr.drew := ⟨_, rfl⟩
      have HBW := Lib.hid (show Below w.heap.size w W by rw [hW]; exact HB.out.drew)
      obtain ⟨g, o, rfl, ca⟩ := (ha.below HBW.out).at_ hlt
      obtain ⟨g2, o2, rfl, cb⟩ := (hb2.below HBW.out).at_ hlt2
      have hga := (ha.below HBW.out).cell_lt hlt rfl
      have hgb := (hb2.below HBW.out).cell_lt hlt2 rfl
      have ra := (ha.below HBW.out).2 _ (List.getElem_mem hlt)
      have rb := (hb2.below HBW.out).2 _ (List.getElem_mem hlt2)
      have hz := hb1 _ (List.getElem_mem hlt)
      have hmm := HM.out k hlt hlt2
      rw [hmm] at rb cb
      clear hmm
      generalize us[k].1 = Y at *
      generalize us[k].2.1 = dy at *
      generalize ts[k].1 = X at *
      generalize ts[k].2.1 = dx at *
      generalize ts[k].2.2 = xs at *
      have RA := Lib.hid ra
      have RB := Lib.hid rb
      have CA := Lib.hid (K.At.of (p := ⟨g, o + k, none⟩) hga ca)
      have CB := Lib.hid (K.At.of (p := ⟨g2, o2 + k, none⟩) hgb cb)
      clear ra rb ca cb
      go_upto_region 6 with fail
      refine wp_region_held_drew (S := fun w' => w'.cell? ⟨g, o + k, none⟩ = some (.slice X xs.length dx) ∧ w'.cell? ⟨g2, o2 + k, none⟩ = some (.slice Y xs.length dy)) (by kernel_rfl) (by rw [← hW]; exact ⟨CA.out.cell, CB.out.cell⟩) (fun hHeld => ?_)
      rw [← hW] at hHeld ⊢
      clear hW
      refine K.takeL 0 (v := ?_) rfl (by kernel_rfl) (by kernel_rfl) (by kernel_rfl) (fun _ _ _ h => h) (Or.inl ⟨rfl, ?_⟩) (by assumption) ?_
      rotate_left
      · intro w hSw; (try dsimp only at hSw); first | (go_simp; done) | (go_simp; with_reducible rfl)
      simp only [Act.put, List.setIfInBounds_toArray, List.set_cons_zero, List.set_cons_succ]
      refine K.takeL 1 (v := ?_) rfl (by kernel_rfl) (by kernel_rfl) (by kernel_rfl) (fun _ _ _ h => h) (Or.inl ⟨rfl, ?_⟩) (by assumption) ?_
      rotate_left
      · intro w hSw; (try dsimp only at hSw); first | (go_simp; done) | (go_simp; with_reducible rfl)
      simp only [Act.put, List.setIfInBounds_toArray, List.set_cons_zero, List.set_cons_succ]
      refine K.takeL 2 (v := ?_) rfl (by kernel_rfl) (by kernel_rfl) (by kernel_rfl) (fun _ _ _ h => h) (Or.inl ⟨rfl, ?_⟩) (by assumption) ?_
      rotate_left
      · intro w hSw; (try dsimp only at hSw); first | (go_simp; done) | (go_simp; with_reducible rfl)
      simp only [Act.put, List.setIfInBounds_toArray, List.set_cons_zero, List.set_cons_succ]
      refine K.takeL 3 (v := ?_) rfl (by kernel_rfl) (by kernel_rfl) (by kernel_rfl) (fun _ _ _ h => h) (Or.inl ⟨rfl, ?_⟩) (by assumption) ?_
      rotate_left
      · intro w hSw; (try dsimp only at hSw); first | (go_simp; done) | (go_simp; with_reducible rfl)
      simp only [Act.put, List.setIfInBounds_toArray, List.set_cons_zero, List.set_cons_succ]
      refine K.takeL 4 (v := ?_) rfl (by kernel_rfl) (by kernel_rfl) (by kernel_rfl) (fun _ _ _ h => h) (Or.inl ⟨rfl, ?_⟩) (by assumption) ?_
      rotate_left
      · intro w hSw; (try dsimp only at hSw); first | (go_simp; done) | (go_simp; with_reducible rfl)
      simp only [Act.put, List.setIfInBounds_toArray, List.set_cons_zero, List.set_cons_succ]
      refine K.takeL 5 (v := ?_) rfl (by kernel_rfl) (by kernel_rfl) (by kernel_rfl) (fun _ _ _ h => h) (Or.inl ⟨rfl, ?_⟩) (by assumption) ?_
      rotate_left
      · intro w hSw; (try dsimp only at hSw); first | (go_simp; done) | (go_simp; with_reducible rfl)
      simp only [Act.put, List.setIfInBounds_toArray, List.set_cons_zero, List.set_cons_succ]
      refine K.takeL 6 (v := ?_) rfl (by kernel_rfl) (by kernel_rfl) (by kernel_rfl) (fun _ _ _ h => h) (Or.inl ⟨rfl, ?_⟩) (by assumption) ?_
      rotate_left
      · intro w hSw; (try dsimp only at hSw); first | (go_simp; done) | (go_simp; with_reducible rfl)
      simp only [Act.put, List.setIfInBounds_toArray, List.set_cons_zero, List.set_cons_succ]
      refine K.takeL 7 (v := ?_) rfl (by kernel_rfl) (by kernel_rfl) (by kernel_rfl) (fun _ _ _ h => h) (Or.inl ⟨rfl, ?_⟩) (by assumption) ?_
      rotate_left
      · intro w hSw; (try dsimp only at hSw); first | (go_simp; done) | (go_simp; with_reducible rfl)
      simp only [Act.put, List.setIfInBounds_toArray, List.set_cons_zero, List.set_cons_succ]
      refine K.consL 8 rfl (by kernel_rfl) (fun KK hK => ?_)
      go_simp
      refine (PupilD.rints X Y dx dy xs _ (by omega) RA.out RB.out).mono ?_
      rintro e w3 ⟨rfl, b3⟩
      go_wp2_with fail
      refine hK.out _ _ ⟨(CA.out.below b3).cell, (CB.out.below b3).cell⟩ (fun hHeld => ?_)
      clear hK KK
      try simp only [Act.put, List.setIfInBounds_toArray, List.set_cons_zero, List.set_cons_succ]
      refine K.takeL 9 (v := ?_) rfl (by kernel_rfl) (by kernel_rfl) (by kernel_rfl) (fun _ _ _ h => h) (Or.inl ⟨rfl, ?_⟩) (by assumption) ?_
      rotate_left
      · intro w hSw; (try dsimp only at hSw); first | (go_simp; done) | (go_simp; with_reducible rfl)
      simp only [Act.put, List.setIfInBounds_toArray, List.set_cons_zero, List.set_cons_succ]
      refine wpAnyH_done (by kernel_rfl) ?_ _
      have HB3 := Lib.hid (HBW.out.trans (b3.mono HBW.out.size))
      go_wp2_with fail
      go_roundw
      case rel => exact ⟨k + 1, by omega, by go_num, HB3⟩
      case measure => simp [intOf]; omega
    · obtain rfl : k = ts.length := by omega
      go_wp2_with fail
      go_ret
      exact ⟨rfl, HB.out⟩
end Go.Proofs.Ytebbihckndjbeaa.Tab
