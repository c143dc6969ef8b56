/-
  Walks: the helpers of the great law on texts: a byte of the code, a text as bytes.
-/
import Derived.Test.YtpeoikhddmoafaaDraw3
import Derived.Test.YtpeoikhddmoafaaGrStr
import Derived.Test.YtpeoikhddmoafaaStr
import Derived.Test.YtpeoikhddmoafaaParse
import Derived.Lib.ConvBytes
import Derived.Laws.IdiomStrings
set_option linter.unusedVariables false
namespace Go.Proofs.Ytpeoikhddmoafaa.GrStr
open Go.RowKit
theorem vat (A : Option Addr) (c : Nat) (l : List UInt8) (i : Int) (w : World) (hi : 0 ≤ i ∧ i ≤ 1000) (hl : l.length ≤ 65536) (ha : K.Rd w 1 A l.length (l.map fun b => Value.int .u8 (b.toNat : Int))) :
    Calls Try.prog 42 #[.slice A l.length c, .int .i64 i] w fun e w' => ∃ x : Int, e = .returned (.int .i64 x) ∧ (0 ≤ x ∧ x ≤ 255) ∧ w = w' := by
  obtain ⟨i0, i1⟩ := hi
  obtain ⟨k, rfl⟩ := Int.eq_ofNat_of_zero_le i0
  by_cases hk : k < l.length
  · obtain ⟨g, o, u, rfl, hu, hc⟩ := ha.at1 hk
    rw [List.getElem?_map, List.getElem?_eq_getElem hk] at hu
    injection hu with hu
    subst hu
    have hb : (l[k].toNat : Int) ≤ 255 := by have := l[k].toNat_lt; omega
    have hb0 : (0 : Int) ≤ (l[k].toNat : Int) := by omega
    have hc' : w.cell? ⟨g, o + k, none⟩ = some (.int .u8 (l[k].toNat : Int)) := hc
    have h1 : (k : Int) < (l.length : Int) := by omega
    clear hc
    generalize (l[k].toNat : Int) = x at *
    go_enter Try.func42, Try.ntmps42
    go_wp2_with fail
    go_ret
    exact ⟨x, rfl, ⟨hb0, hb⟩, rfl⟩
  · have h1 : decide ((k : Int) < (l.length : Int)) = false := decide_eq_false (by omega)
    go_enter Try.func42, Try.ntmps42
    go_wp2_with fail
    go_ret
    exact ⟨_, rfl, by omega, rfl⟩
theorem bw_below (w : World) (e : TypeId) (s : ByteArray) : Below w.heap.size w (Lib.bytesWorld w e s) :=
  ⟨rfl, rfl, rfl, by rw [Lib.bytesWorld_size]; omega, fun i hi => Lib.bytesWorld_at_old w e s i hi⟩
theorem bw_frozen (w : World) (e : TypeId) (s : ByteArray) (j : Nat) (hj : j < s.size) : (Lib.bytesWorld w e s).frozen? ⟨w.heap.size, j, none⟩ = false := by
  have hz : s.size ≤ (Lib.bytesCells w e s).size := by simp [Lib.bytesCells]
  simp [World.frozen?, Lib.bytesWorld_at_new]
  omega
/-- another byte. -/
theorem xor_ne (b m : Nat) (hb : b < 256) (h1 : 1 ≤ m) (h2 : m ≤ 255) : ∃ v : Nat, v < 256 ∧ v ≠ b ∧ bits .xor .u8 (b : Int) (m : Int) = (v : Int) := by
  refine ⟨b ^^^ m, Nat.xor_lt_two_pow (n := 8) hb (by omega), ?_, ?_⟩
  · intro e
    have := congrArg (fun x => b ^^^ x) e
    simp [← Nat.xor_assoc] at this
    omega
  · have e : bits .xor .u8 (b : Int) (m : Int) = IntKind.u8.wrap ((BitVec.ofInt 8 (b : Int) ^^^ BitVec.ofInt 8 (m : Int)).toNat : Int) := rfl
    rw [e]
    have h3 : (BitVec.ofInt 8 (b : Int) ^^^ BitVec.ofInt 8 (m : Int)).toNat = b ^^^ m := by
      rw [BitVec.toNat_xor]
      simp
      rw [Nat.mod_eq_of_lt hb, Nat.mod_eq_of_lt (by omega)]
    rw [h3]
    have h4 := Nat.xor_lt_two_pow (n := 8) hb (show m < 2 ^ 8 by omega)
    simp only [IntKind.wrap, IntKind.bits, IntKind.signed, Bool.false_and, if_neg (show ¬ (false = true) by simp)]
    omega
end Go.Proofs.Ytpeoikhddmoafaa.GrStr
