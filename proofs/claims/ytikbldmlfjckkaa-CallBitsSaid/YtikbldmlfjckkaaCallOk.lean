/- Whether a call may be, told of its numbers: what the code's tests come to. No walk. -/
import Derived.Test.YtikbldmlfjckkaaAddr1
import Derived.Test.YtikbldmlfjckkaaPx6
import Derived.Test.YtikbldmlfjckkaaPx7
namespace Go.Proofs.Ytikbldmlfjckkaa.Plain
open Go Go.RowKit Go.Proofs.YtikbldmlfjckkaaW.PrintWords Go.Proofs.YtikbldmlfjckkaaW.PrintLast Go.Proofs.YtikbldmlfjckkaaW.PrintMore Go.Proofs.Ytikbldmlfjckkaa.P Go.Proofs.Ytikbldmlfjckkaa.Given

/-- Is a word an address's? -/
def addrB (w : Int) : Bool := (parseA w.toNat).2 == 0
def rightsB (r : Int) : Bool := decide (0 ≤ r ∧ r ≤ 15)
theorem isAddress_eq {w : Int} (h0 : 0 ≤ w) (h1 : w < 18446744073709551616) {k : Nat} (hk : 300 ≤ k) : call_isAddress.f k w = some (addrB w) := by
  obtain ⟨n, rfl⟩ := Int.eq_ofNat_of_zero_le h0
  unfold call_isAddress.f
  rw [bind_of (Parse_eq n (by omega) hk)]
  rfl
theorem refAddress_eq {w : Int} (h0 : 0 ≤ w) (h1 : w < 18446744073709551616) {k : Nat} (hk : 300 ≤ k) : garrisonref15_address.f k w = some (addrB w) := by
  obtain ⟨n, rfl⟩ := Int.eq_ofNat_of_zero_le h0
  unfold garrisonref15_address.f
  rw [bind_of (rParse_eq n (by omega) hk)]
  rfl
theorem refRights_eq (r : Int) : garrisonref02_Is.f r = some (rightsB r) := by
  unfold garrisonref02_Is.f rightsB
  by_cases h : r ≥ 0
  · rw [if_pos h]
    congr 1
    apply decide_eq_decide.2
    exact ⟨fun h2 => ⟨h, h2⟩, fun h2 => h2.2⟩
  · rw [if_neg h, decide_eq_false (fun h2 => h h2.1)]
theorem i64_andNot15 {r : Int} (h0 : -9223372036854775808 ≤ r) (h1 : r ≤ 9223372036854775807) : (Go.bits .andNot .i64 r 15 == 0) = rightsB r := by
  have hm : (~~~(BitVec.ofInt 64 15)).toNat = notN (2 ^ 4 - 1) := by decide
  have hn : (BitVec.ofInt 64 r).toNat = (r % 18446744073709551616).toNat := by simp [BitVec.toNat_ofInt]
  have e : Go.bits .andNot .i64 r 15 = IntKind.i64.wrap ((((BitVec.ofInt 64 r) &&& ~~~(BitVec.ofInt 64 15)).toNat : Nat) : Int) := rfl
  rw [e, BitVec.toNat_and, hm, hn, IntKind.wrap_i64]
  have hv : (r % 18446744073709551616).toNat < 18446744073709551616 := by omega
  have hx := high_none hv (n := 4) (by decide)
  have hl : (r % 18446744073709551616).toNat &&& notN (2 ^ 4 - 1) < 18446744073709551616 := Nat.lt_of_le_of_lt Nat.and_le_left hv
  have h16 : (r % 18446744073709551616).toNat < 2 ^ 4 ↔ (0 ≤ r ∧ r ≤ 15) := by omega
  generalize (r % 18446744073709551616).toNat &&& notN (2 ^ 4 - 1) = x at *
  unfold rightsB
  by_cases h : 0 ≤ r ∧ r ≤ 15
  · have := hx.2 (h16.2 h)
    subst this
    rw [decide_eq_true h]
    rfl
  · have h0' : x ≠ 0 := fun h2 => h (h16.1 (hx.1 h2))
    rw [decide_eq_false h]
    exact beq_eq_false_iff_ne.2 (by omega)
theorem rightsIs_eq {r : Int} (h0 : -9223372036854775808 ≤ r) (h1 : r ≤ 9223372036854775807) : rights_Is.f r = some (rightsB r) := by
  unfold rights_Is.f
  rw [i64_andNot15 h0 h1]

/-- The tests of each kind, one by one. -/
def restB (l : List Int) : Bool := l.all (· == 0)
def kindB (kd b r bd ty sz v : Int) : Bool :=
  if kd = 1 then addrB b && (rightsB r && (decide (0 ≤ bd) && (decide (bd ≤ 65535) && (ty == 0 && (sz == 0 && v == 0)))))
  else if kd = 2 then addrB b && (r == 0 && (bd == 0 && (ty == 0 && (sz == 0 && v == 0))))
  else if kd = 5 then decide (1 ≤ ty) && (decide (ty ≤ 5) && (decide (0 ≤ sz) && (decide (sz ≤ 1048576) && (addrB b && (r == 0 && (bd == 0 && v == 0))))))
  else if kd = 7 then b == 0 && (r == 0 && (bd == 0 && (ty == 0 && sz == 0)))
  else if kd = 8 then (b == 0 || addrB b) && (r == 0 && (bd == 0 && (ty == 0 && sz == 0)))
  else if kd = 9 then (b == 0 || addrB b) && (r == 0 && (bd == 0 && (ty == 0 && (sz == 0 && v == 0))))
  else b == 0 && (r == 0 && (bd == 0 && (ty == 0 && (sz == 0 && v == 0))))
def callOk (kd a b r bd ty sz v : Int) : Bool := decide (1 ≤ kd) && (decide (kd ≤ 12) && (addrB a && kindB kd b r bd ty sz v))
def wfc (a b r : Int) : Prop := (0 ≤ a ∧ a < 18446744073709551616) ∧ (0 ≤ b ∧ b < 18446744073709551616) ∧ -9223372036854775808 ≤ r ∧ r ≤ 9223372036854775807
instance (a b r : Int) : Decidable (wfc a b r) := by unfold wfc; infer_instance
theorem Ca_of {w : Int} (h0 : 0 ≤ w) (h1 : w < 18446744073709551616) (W : World) : Calls Try.prog 25 #[.int .u64 w] W fun e w' => e = .returned (.bool (addrB w)) ∧ Below W.heap.size W w' := call_isAddress.calls 300 w _ W (isAddress_eq h0 h1 (Nat.le_refl _))
theorem Ra_of {w : Int} (h0 : 0 ≤ w) (h1 : w < 18446744073709551616) (W : World) : Calls Try.prog 27 #[.int .u64 w] W fun e w' => e = .returned (.bool (addrB w)) ∧ Below W.heap.size W w' := garrisonref15_address.calls 300 w _ W (refAddress_eq h0 h1 (Nat.le_refl _))
end Go.Proofs.Ytikbldmlfjckkaa.Plain
