/- The program's JoinStrings returns what the reference's returns, for all arguments.
  No condition. -/
import Derived.Test.YtpeoikhddmoafaaArg
import Derived.Test.YtpeoikhddmoafaaJoin
import Derived.Test.YtpeoikhddmoafaaSliceStr
set_option linter.unusedVariables false
namespace Go.Proofs.Ytpeoikhddmoafaa.fnExactJoinStrings
open Go.ChangeShapes Go.WideShapes Go.ChangeAt Go.RowKit
open Go.ChangeMaps (open_string shut_string)

/-- the walk: the law's text returns true; nothing that was there has turned. -/
theorem walk (A0 : Option Addr) (c0 : Nat) (l0 : List ByteArray) (a1 : ByteArray) (W : World) (h0 : K.Rd W 1 A0 l0.length (l0.map Value.string)) (m0 : l0.length ≤ 9223372036854775807) (s0 : ∀ s ∈ l0, s.size ≤ 9223372036854775807) (h1 : a1.size ≤ maxLen) :
    Calls Try.prog 11 #[.slice A0 l0.length c0, .string a1] W fun e w' => e = .returned (.bool true) ∧ Below W.heap.size W w' := by
  unfold maxLen at h1
  by_cases hb1 : a1.size ≤ 1048576
  · have HSZ := Lib.hid (fun W' ha => SlStr.sz A0 c0 l0 1048576 W' m0 s0 (by omega) (by omega) ha)
    have HL := Lib.hid (@SlStr.szf_len l0 1048576)
    clear s0
    go_enter Try.func11, Try.ntmps11
    go_wp2_with fail
    refine (HSZ.out _ h0).mono ?_
    rintro e w1 ⟨⟨r, rfl, hr⟩, rfl⟩
    by_cases hneg : r < 0
    · go_wp2
      go_ret
      exact ⟨rfl, Below.refl _ _⟩
    · have hz : 0 ≤ SlStr.szf l0 1048576 := by omega
      obtain ⟨hl1, hs1⟩ := HL.out hz
      have hl : l0.length ≤ 1048576 := by omega
      have hss : ∀ x ∈ l0, x.size ≤ 1048576 := fun x hx => by have := hs1 x hx; omega
      have HS := Lib.hid (fun A c W' ha => Join.s_joins A c l0 a1 W' hl hss hb1 ha)
      have HI := Lib.hid (fun A c W' ha => Join.i_joins A c l0 a1 W' hl hss hb1 ha)
      clear hs1 hss hz hr HL HSZ
      generalize M.joinR l0 a1 = R at HS HI
      obtain ⟨S, b⟩ := R
      have hbb : (b != b) = false := by simp
      go_wp2_with fail
      refine (SlStr.copy A0 c0 l0 _ hl h0).mono ?_
      rintro e w1 ⟨A1, c1, rfl, r1, b1⟩
      go_wp2_with fail
      refine (HS.out A1 c1 _ r1.rd).mono ?_
      rintro e w2 ⟨rfl, b2⟩
      go_wp2_with fail
      have b12 := b1.trans (b2.mono b1.size)
      refine (SlStr.copy A0 c0 l0 _ hl (h0.below b12)).mono ?_
      rintro e w3 ⟨A3, c3, rfl, r3, b3⟩
      go_wp2_with fail
      refine (HI.out A3 c3 _ r3.rd).mono ?_
      rintro e w4 ⟨rfl, b4⟩
      go_wp2_with fail
      have b13 := b12.trans (b3.mono b12.size)
      have b14 := b13.trans (b4.mono b13.size)
      refine (SlStr.copy A0 c0 l0 _ hl (h0.below b14)).mono ?_
      rintro e w5 ⟨A5, c5, rfl, r5, b5⟩
      go_wp2_with fail
      have b15 := b14.trans (b5.mono b14.size)
      refine (SlStr.eq_yes A3 A5 c3 c5 l0 _ hl ((r3.below b4).below b5).rd r5.rd).mono ?_
      rintro e w6 ⟨rfl, m, rfl⟩
      go_wp2
      go_ret
      exact ⟨rfl, K.below_drewN b15 m⟩
  · go_enter Try.func11, Try.ntmps11
    go_wp2
    go_ret
    exact ⟨rfl, Below.refl _ _⟩

set_option maxRecDepth 100000 in
theorem lifted (os : Os) (started : os.Started) (H : Type) (enc : TypeId × Value → H) :
    ReturnsInHanded {} Try.checked os 11 .any (Rows.fnExactJoinStringsSpec.pre6 enc Try.prog Try.f11 Rows.fnExactJoinStringsRow.domain false) (Rows.fnExactJoinStringsSpec.post enc Try.prog Try.f11 false true false false) := by
  refine returnsInHanded_of_change (C := Try.checked) Arg.own started (by kernel_rfl) Try.func11
    (ChangeSpec.witness6 (enc := enc) (C := Try.checked) false ⟨#[], #[.slice none 0 0, .string ByteArray.empty], []⟩ 8 (by kernel_rfl) (by kernel_rfl) (by kernel_rfl) (by kernel_rfl)) ?_
  intro W base args ds gs before hval0 hW hcnd _
  have hval : ∀ (j : Nat) t v, Try.f11.params[j]? = some t → args[j]? = some v → Value.okWide Try.prog W .any base t v := hval0
  have hW' := hW
  obtain ⟨p, q, hA0, hV, rfl, hfz, hnd⟩ := hW
  have hA : DataW.TrodAll enc Try.prog W 0 (fun _ => true) true Try.f11.params.toList args.toList ds p := hA0
  rw [Try.params11] at hA hval
  obtain ⟨v0, vs0, d0, ds0, p0, q0, hargs, rfl, rfl, h0, r_0⟩ := trodAll_cons hA
  obtain ⟨v1, vs1, d1, ds1, p1, q1, rfl, rfl, rfl, h1, r_1⟩ := trodAll_cons r_0
  obtain ⟨rfl, rfl, rfl⟩ := trodAll_nil r_1
  obtain rfl : args = #[v0, v1] := by cases args; simp_all
  obtain ⟨rfl, rfl⟩ := trodVars_none hV
  have kk0 := h0
  have lt0 : ∀ x ∈ p0, x.block < W.heap.size := by obtain ⟨m, hm⟩ := kk0; exact DataW.trod_lt m _ _ _ hm
  obtain ⟨A0, c0, l0, rfl, r0, m0, s0⟩ := Arg.strs (hval 0 _ v0 rfl rfl) h0
  obtain ⟨a1, rfl, rfl, rfl, w1⟩ := open_string Try.underlying9 (hval 1 _ v1 rfl rfl) h1
  clear hA0 hval0
  refine (walk A0 c0 l0 a1 W r0 m0 s0 w1).mono fun e W' ⟨he, bel⟩ => ?_
  subst he
  exact ⟨_, rfl, _, _, _, [], _, [], hW', trodAll_mk1 (shut_bool Try.underlying4 _), (trodAll_cons_mk (Below.trod Arg.laidOut (by kernel_rfl) (of_decide_eq_true (by kernel_rfl)) kk0 bel lt0) (trodAll_cons_mk (shut_string Try.underlying9 w1) trodAll_mk0)), rfl, bel.frame _, fun h => by cases h⟩

theorem over : Rows.fnExactJoinStringsRow.holds Try.pinned (OpenSpec.ofChange Rows.fnExactJoinStringsSpec) :=
  OpenClaim.holds_of_wide 11 Try.f11 rfl rfl rfl rfl rfl rfl rfl ⟨rfl, rfl, rfl, rfl, rfl⟩ rfl rfl rfl rfl rfl (by kernel_rfl) Try.func11 (by kernel_rfl)
    (of_decide_eq_true (by kernel_rfl)) (by unfold Func.isWrapper; rw [if_neg (of_decide_eq_false (by kernel_rfl))]; exact ⟨rfl, rfl⟩)
    (fun os started H enc _ => lifted os started H enc)

/-- the statement. -/
theorem proved : Rows.FnExactJoinStringsSaid := over
#print axioms proved
end Go.Proofs.Ytpeoikhddmoafaa.fnExactJoinStrings
