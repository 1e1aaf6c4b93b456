/- Rights as numbers, plain. -/
import Derived.Test.YtmcgdopgpjjkbaaDoorBitsP
import Derived.Test.YtmcgdopgpjjkbaaDoorPx4
namespace Go.Proofs.YtmcgdopgpjjkbaaDoor.Plain
open Go.RowKit Go.Proofs.YtmcgdopgpjjkbaaDoorW.PrintWords Go.Proofs.YtmcgdopgpjjkbaaDoorW.PrintLast Go.Proofs.YtmcgdopgpjjkbaaDoorW.PrintMore Go.Proofs.YtmcgdopgpjjkbaaDoor.P

def rightsB (r : Int) : Bool := decide (0 ≤ r ∧ r ≤ 15)
theorem refRights_eq (r : Int) : garrisonref02_Is.f r = some (rightsB r) := by
  unfold garrisonref02_Is.f rightsB
  by_cases h : r ≥ 0
  · rw [if_pos h]
    congr 1
    apply decide_eq_decide.2
    exact ⟨fun h2 => ⟨h, h2⟩, fun h2 => h2.2⟩
  · rw [if_neg h, decide_eq_false (fun h2 => h h2.1)]
theorem i64_andNot15 {r : Int} (h0 : -9223372036854775808 ≤ r) (h1 : r ≤ 9223372036854775807) : (Go.bits .andNot .i64 r 15 == 0) = rightsB r := by
  have hm : (~~~(BitVec.ofInt 64 15)).toNat = notN (2 ^ 4 - 1) := by decide
  have hn : (BitVec.ofInt 64 r).toNat = (r % 18446744073709551616).toNat := by simp [BitVec.toNat_ofInt]
  have e : Go.bits .andNot .i64 r 15 = IntKind.i64.wrap ((((BitVec.ofInt 64 r) &&& ~~~(BitVec.ofInt 64 15)).toNat : Nat) : Int) := rfl
  rw [e, BitVec.toNat_and, hm, hn, IntKind.wrap_i64]
  have hv : (r % 18446744073709551616).toNat < 18446744073709551616 := by omega
  have hx := high_none hv (n := 4) (by decide)
  have hl : (r % 18446744073709551616).toNat &&& notN (2 ^ 4 - 1) < 18446744073709551616 := Nat.lt_of_le_of_lt Nat.and_le_left hv
  have h16 : (r % 18446744073709551616).toNat < 2 ^ 4 ↔ (0 ≤ r ∧ r ≤ 15) := by omega
  generalize (r % 18446744073709551616).toNat &&& notN (2 ^ 4 - 1) = x at *
  unfold rightsB
  by_cases h : 0 ≤ r ∧ r ≤ 15
  · have := hx.2 (h16.2 h)
    subst this
    rw [decide_eq_true h]
    rfl
  · have h0' : x ≠ 0 := fun h2 => h (h16.1 (hx.1 h2))
    rw [decide_eq_false h]
    exact beq_eq_false_iff_ne.2 (by omega)
theorem rightsIs_eq {r : Int} (h0 : -9223372036854775808 ≤ r) (h1 : r ≤ 9223372036854775807) : rights_Is.f r = some (rightsB r) := by
  unfold rights_Is.f
  rw [i64_andNot15 h0 h1]
end Go.Proofs.YtmcgdopgpjjkbaaDoor.Plain
