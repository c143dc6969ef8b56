/- The program's SplitString returns what the reference's returns, for all arguments.
  No condition. -/
import Derived.Test.YtpeoikhddmoafaaArg
import Derived.Test.YtpeoikhddmoafaaSplitStr
import Derived.Test.YtpeoikhddmoafaaSliceStr
set_option linter.unusedVariables false
namespace Go.Proofs.Ytpeoikhddmoafaa.fnExactSplitString
open Go.ChangeShapes Go.WideShapes Go.ChangeAt Go.RowKit
open Go.ChangeMaps (open_string shut_string)

/-- the walk: the law's text returns true; nothing that was there has turned. -/
theorem walk (a0 : ByteArray) (a1 : ByteArray) (W : World) (h0 : a0.size ≤ maxLen) (h1 : a1.size ≤ maxLen) :
    Calls Try.prog 8 #[.string a0, .string a1] W fun e w' => e = .returned (.bool true) ∧ Below W.heap.size W w' := by
  unfold maxLen at h0 h1
  by_cases hb0 : a0.size ≤ 1048576
  · by_cases hb1 : a1.size ≤ 1048576
    · obtain ⟨l, hl⟩ : ∃ l, l = (M.splitStr a0 a1).1 := ⟨_, rfl⟩
      obtain ⟨b, hb⟩ : ∃ b, b = (M.splitStr a0 a1).2 := ⟨_, rfl⟩
      have hs := fun W => SplStr.s_any a0 a1 W hb0 hb1
      have hi := fun W => SplStr.i_any a0 a1 W hb0 hb1
      have hlen : l.length ≤ 1048576 := by rw [hl]; have := M.splitStr_le a0 a1; omega
      rw [← hl, ← hb] at hs hi
      have HS := Lib.hid hs
      have HI := Lib.hid hi
      clear hs hi hl hb
      have hbb : (b != b) = false := by simp
      go_enter Try.func8, Try.ntmps8
      go_wp2_with fail
      refine (HS.out _).mono ?_
      rintro e w1 ⟨As, cs, rfl, rs, bs⟩
      go_wp2_with fail
      refine (HI.out _).mono ?_
      rintro e w2 ⟨Ag, cg, rfl, rg, bg⟩
      have rs2 := rs.below bg
      go_wp2_with fail
      refine (SlStr.eq_yes Ag As cg cs l _ hlen rg.rd rs2.rd).mono ?_
      rintro e w3 ⟨rfl, m3, rfl⟩
      go_wp2_with fail
      refine (SlStr.mark Ag l.length cg w1.heap.size 1 _ _ hlen (by omega) (by omega) (rg.drewN m3)).mono ?_
      rintro e w4 ⟨rfl, rg4, g4⟩
      have hap := K.apart rs rg (Nat.le_refl _) (Nat.le_refl _)
      have rs4 := (rs2.drewN m3).kept g4 hap
      have b4 : Below W.heap.size W w4 := (K.below_drewN (bs.trans (bg.mono bs.size)) m3).trans (K.below_of_grown g4 (Nat.le_trans bs.size bg.size) (fun g hg => Nat.le_trans bs.size (rg.lt g hg).1))
      go_wp2_with fail
      refine (SlStr.held Ag l.length cg 1 _ hlen (by omega) (by omega) rg4.rd).mono ?_
      rintro e w5 ⟨rfl, b5⟩
      have rg5 := rg4.below b5
      have rs5 := rs4.below b5
      go_wp2_with fail
      refine (HI.out _).mono ?_
      rintro e w6 ⟨Ah, ch, rfl, rh, bh⟩
      have rg6 := rg5.below bh
      have rs6 := rs5.below bh
      go_wp2_with fail
      refine (SlStr.eq_yes Ah As ch cs l _ hlen rh.rd rs6.rd).mono ?_
      rintro e w7 ⟨rfl, m7, rfl⟩
      go_wp2_with fail
      refine (SlStr.held Ag l.length cg 1 _ hlen (by omega) (by omega) (rg6.drewN m7).rd).mono ?_
      rintro e w8 ⟨rfl, b8⟩
      go_wp2_with fail
      go_ret
      have h4 := b4.size
      have h5 := b5.size
      have h6 := bh.size
      exact ⟨rfl, (K.below_drewN ((b4.trans (b5.mono h4)).trans (bh.mono (by omega))) m7).trans (b8.mono (by simp; omega))⟩
    · go_enter Try.func8, Try.ntmps8
      go_wp2
      go_ret
      exact ⟨rfl, Below.refl _ _⟩
  · go_enter Try.func8, Try.ntmps8
    go_wp2
    go_ret
    exact ⟨rfl, Below.refl _ _⟩

set_option maxRecDepth 100000 in
theorem lifted (os : Os) (started : os.Started) (H : Type) (enc : TypeId × Value → H) :
    ReturnsInHanded {} Try.checked os 8 .any (Rows.fnExactSplitStringSpec.pre6 enc Try.prog Try.f8 Rows.fnExactSplitStringRow.domain false) (Rows.fnExactSplitStringSpec.post enc Try.prog Try.f8 false true false false) := by
  refine returnsInHanded_of_change (C := Try.checked) Arg.own started (by kernel_rfl) Try.func8
    (ChangeSpec.witness6 (enc := enc) (C := Try.checked) false ⟨#[], #[.string ByteArray.empty, .string ByteArray.empty], []⟩ 8 (by kernel_rfl) (by kernel_rfl) (by kernel_rfl) (by kernel_rfl)) ?_
  intro W base args ds gs before hval0 hW hcnd _
  have hval : ∀ (j : Nat) t v, Try.f8.params[j]? = some t → args[j]? = some v → Value.okWide Try.prog W .any base t v := hval0
  have hW' := hW
  obtain ⟨p, q, hA0, hV, rfl, hfz, hnd⟩ := hW
  have hA : DataW.TrodAll enc Try.prog W 0 (fun _ => true) true Try.f8.params.toList args.toList ds p := hA0
  rw [Try.params8] at hA hval
  obtain ⟨v0, vs0, d0, ds0, p0, q0, hargs, rfl, rfl, h0, r_0⟩ := trodAll_cons hA
  obtain ⟨v1, vs1, d1, ds1, p1, q1, rfl, rfl, rfl, h1, r_1⟩ := trodAll_cons r_0
  obtain ⟨rfl, rfl, rfl⟩ := trodAll_nil r_1
  obtain rfl : args = #[v0, v1] := by cases args; simp_all
  obtain ⟨rfl, rfl⟩ := trodVars_none hV
  obtain ⟨a0, rfl, rfl, rfl, w0⟩ := open_string Try.underlying9 (hval 0 _ v0 rfl rfl) h0
  obtain ⟨a1, rfl, rfl, rfl, w1⟩ := open_string Try.underlying9 (hval 1 _ v1 rfl rfl) h1
  clear hA0 hval0
  refine (walk a0 a1 W w0 w1).mono fun e W' ⟨he, bel⟩ => ?_
  subst he
  exact ⟨_, rfl, _, _, _, [], _, [], hW', trodAll_mk1 (shut_bool Try.underlying4 _), (trodAll_cons_mk (shut_string Try.underlying9 w0) (trodAll_cons_mk (shut_string Try.underlying9 w1) trodAll_mk0)), rfl, bel.frame _, fun h => by cases h⟩

theorem over : Rows.fnExactSplitStringRow.holds Try.pinned (OpenSpec.ofChange Rows.fnExactSplitStringSpec) :=
  OpenClaim.holds_of_wide 8 Try.f8 rfl rfl rfl rfl rfl rfl rfl ⟨rfl, rfl, rfl, rfl, rfl⟩ rfl rfl rfl rfl rfl (by kernel_rfl) Try.func8 (by kernel_rfl)
    (of_decide_eq_true (by kernel_rfl)) (by unfold Func.isWrapper; rw [if_neg (of_decide_eq_false (by kernel_rfl))]; exact ⟨rfl, rfl⟩)
    (fun os started H enc _ => lifted os started H enc)

/-- the statement. -/
theorem proved : Rows.FnExactSplitStringSaid := over
#print axioms proved
end Go.Proofs.Ytpeoikhddmoafaa.fnExactSplitString
