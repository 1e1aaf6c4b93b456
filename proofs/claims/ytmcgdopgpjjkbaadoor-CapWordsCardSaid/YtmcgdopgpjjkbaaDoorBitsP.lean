/- bits.Put and bits.Get as numbers (the part of Bits2 that knows no reference). -/
import Derived.Test.YtmcgdopgpjjkbaaDoorBits1
import Derived.Test.YtmcgdopgpjjkbaaDoorPx4
namespace Go.Proofs.YtmcgdopgpjjkbaaDoor.Plain
open Go Go.RowKit Go.Proofs.YtmcgdopgpjjkbaaDoorW.PrintWords Go.Proofs.YtmcgdopgpjjkbaaDoorW.PrintLast Go.Proofs.YtmcgdopgpjjkbaaDoorW.PrintMore Go.Proofs.YtmcgdopgpjjkbaaDoor.P Go.Proofs.YtmcgdopgpjjkbaaDoor.Given
theorem wf_u64 {a : Int} (h : (Lit.int .u64 a).wf = true) : ∃ n : Nat, a = (n : Int) ∧ n < 18446744073709551616 := by
  have : 0 ≤ a ∧ a < 18446744073709551616 := by
    simp [Lit.wf, IntKind.min, IntKind.max, IntKind.signed, IntKind.bits] at h
    omega
  exact ⟨a.toNat, by omega, by omega⟩
theorem wf_i64 {a : Int} (h : (Lit.int .i64 a).wf = true) : -9223372036854775808 ≤ a ∧ a ≤ 9223372036854775807 := by
  simp [Lit.wf, IntKind.min, IntKind.max, IntKind.signed, IntKind.bits] at h
  omega
theorem w64 {i : Int} (h0 : -9223372036854775808 ≤ i) (h1 : i ≤ 9223372036854775807) : wrap64 i = i := by unfold wrap64; omega

def fieldP (a n : Int) : Prop := 1 ≤ n ∧ n ≤ 64 ∧ 0 ≤ a ∧ a ≤ 64 - n
instance (a n : Int) : Decidable (fieldP a n) := by unfold fieldP; infer_instance
theorem fieldP_nat {a n : Int} (h : fieldP a n) : ∃ x m : Nat, a = x ∧ n = m ∧ 1 ≤ m ∧ x + m ≤ 64 := by
  obtain ⟨h1, h2, h3, h4⟩ := h
  exact ⟨a.toNat, n.toNat, by omega, by omega, by omega, by omega⟩
theorem fieldP_of {x m : Nat} (h1 : 1 ≤ m) (h2 : x + m ≤ 64) : fieldP (x : Int) (m : Int) := by unfold fieldP; omega

theorem isField_eq (a n : Int) : bits_isField.f a n = some (decide (fieldP a n)) := by
  unfold bits_isField.f
  by_cases h1 : n > 0
  · rw [if_pos h1]
    by_cases h2 : n ≤ 64
    · rw [if_pos h2]
      by_cases h3 : a ≥ 0
      · rw [if_pos h3, w64 (by omega) (by omega)]
        exact congrArg some (decide_eq_decide.2 ⟨fun _ => ⟨by omega, by omega, by omega, by omega⟩, fun h => h.2.2.2⟩)
      · rw [if_neg h3, decide_eq_false (fun h : fieldP a n => h3 h.2.2.1)]
    · rw [if_neg h2, decide_eq_false (fun h : fieldP a n => h2 h.2.1)]
  · rw [if_neg h1, decide_eq_false (fun h : fieldP a n => h1 (by have := h.1; omega))]
theorem low_eq (n : Nat) (h1 : 1 ≤ n) (h2 : n ≤ 64) : bits_low.f (n : Int) = some ((2 ^ n - 1 : Nat) : Int) := by
  unfold bits_low.f
  rw [w64 (by omega) (by omega), if_pos (by omega)]
  rw [show (64 - (n : Int)) = ((64 - n : Nat) : Int) from by omega, show (18446744073709551615 : Int) = ((18446744073709551615 : Nat) : Int) from rfl, shr64 _ _ (by omega)]
  congr 2
  have := low_div (64 - n) n
  rw [show 64 - n + n = 64 from by omega] at this
  exact this
theorem low_lt {n : Nat} (h2 : n ≤ 64) : 2 ^ n - 1 < 18446744073709551616 := by
  have := pow_le64 n h2
  have := Nat.two_pow_pos n
  omega

theorem Mask_no {a n : Int} (h : ¬ fieldP a n) : bits_Mask.f a n = some 0 := by
  unfold bits_Mask.f
  rw [isField_eq, decide_eq_false h]
  rfl
theorem Mask_yes {a n : Nat} (h1 : 1 ≤ n) (h2 : a + n ≤ 64) : bits_Mask.f (a : Int) (n : Int) = some ((maskN a n : Nat) : Int) := by
  unfold bits_Mask.f
  rw [isField_eq, decide_eq_true (fieldP_of h1 h2)]
  simp only [Option.bind_some, if_true]
  rw [low_eq n h1 (by omega)]
  simp only [Option.bind_some]
  rw [if_pos (by omega), shl64 _ _ (by omega)]
  exact congrArg (fun z : Nat => some (z : Int)) (Nat.mod_eq_of_lt (maskN_lt (a := a) (n := n) h2))
theorem Get_no {w a n : Int} (h : ¬ fieldP a n) : bits_Get.f w a n = some 0 := by
  unfold bits_Get.f
  rw [isField_eq, decide_eq_false h]
  rfl
theorem Get_yes {w a n : Nat} (hw : w < 18446744073709551616) (h1 : 1 ≤ n) (h2 : a + n ≤ 64) : bits_Get.f (w : Int) (a : Int) (n : Int) = some ((getN w a n : Nat) : Int) := by
  unfold bits_Get.f
  rw [isField_eq, decide_eq_true (fieldP_of h1 h2)]
  simp only [Option.bind_some, if_true]
  rw [if_pos (by omega), low_eq n h1 (by omega)]
  simp only [Option.bind_some]
  rw [shr64 _ _ (by omega), and64 _ _ (Nat.lt_of_le_of_lt (Nat.div_le_self _ _) hw) (low_lt (by omega)), get_and]

theorem high_none {v n : Nat} (hv : v < 18446744073709551616) (hn : n ≤ 64) : (v &&& notN (2 ^ n - 1) = 0) ↔ v < 2 ^ n := by
  constructor
  · intro h
    rcases Nat.lt_or_ge v (2 ^ n) with h1 | h1
    · exact h1
    · obtain ⟨i, hi, hb⟩ := Nat.exists_ge_and_testBit_of_ge_two_pow h1
      have h2 : (v &&& notN (2 ^ n - 1)).testBit i = false := by rw [h]; simp
      have h3 : i < 64 := by
        rcases Nat.lt_or_ge i 64 with h4 | h4
        · exact h4
        · rw [Nat.testBit_lt_two_pow (Nat.lt_of_lt_of_le hv (Nat.pow_le_pow_right (n := 2) (by decide) h4))] at hb; cases hb
      rw [Nat.testBit_and, hb, notN_bit _ _ (low_lt hn), Nat.testBit_two_pow_sub_one] at h2
      simp [h3] at h2
      omega
  · intro h
    apply ext64 (Nat.lt_of_le_of_lt Nat.and_le_left hv) (by decide)
    intro i hi
    rw [Nat.testBit_and, notN_bit _ _ (low_lt hn), Nat.testBit_two_pow_sub_one]
    by_cases h2 : i < n
    · simp [h2]
    · have : v.testBit i = false := Nat.testBit_lt_two_pow (Nat.lt_of_lt_of_le h (Nat.pow_le_pow_right (by decide) (by omega)))
      simp [this]

theorem Put_no {w a n v : Int} (h : ¬ fieldP a n) : bits_Put.f w a n v = some (0, 2) := by
  unfold bits_Put.f
  rw [isField_eq, decide_eq_false h]
  rfl
theorem Put_big {w : Int} {a n v : Nat} (hv : v < 18446744073709551616) (h1 : 1 ≤ n) (h2 : a + n ≤ 64) (h : 2 ^ n ≤ v) : bits_Put.f w (a : Int) (n : Int) (v : Int) = some (0, 10) := by
  unfold bits_Put.f
  rw [isField_eq, decide_eq_true (fieldP_of h1 h2)]
  simp only [Option.bind_some, if_true]
  rw [low_eq n h1 (by omega)]
  simp only [Option.bind_some]
  rw [andNot64 _ _ hv (low_lt (by omega)), if_neg]
  intro e
  have e' : v &&& notN (2 ^ n - 1) = 0 := by omega
  have := (high_none hv (by omega)).1 e'
  omega
theorem Put_yes {w a n v : Nat} (hw : w < 18446744073709551616) (h1 : 1 ≤ n) (h2 : a + n ≤ 64) (h : v < 2 ^ n) : bits_Put.f (w : Int) (a : Int) (n : Int) (v : Int) = some (((putN w a n v : Nat) : Int), 0) := by
  have hv : v < 18446744073709551616 := Nat.lt_of_lt_of_le h (pow_le64 n (by omega))
  unfold bits_Put.f
  rw [isField_eq, decide_eq_true (fieldP_of h1 h2)]
  simp only [Option.bind_some, if_true]
  rw [low_eq n h1 (by omega)]
  simp only [Option.bind_some]
  rw [andNot64 _ _ hv (low_lt (by omega)), (high_none hv (by omega)).2 h, if_pos (show ((0 : Nat) : Int) = 0 from rfl), Mask_yes h1 h2]
  simp only [Option.bind_some]
  rw [if_pos (by omega), andNot64 _ _ hw (maskN_lt h2), shl64 _ _ (by omega), Nat.mod_eq_of_lt (shift_lt h h2), or64 _ _ (Nat.lt_of_le_of_lt Nat.and_le_left hw) (shift_lt h h2)]
  rfl

/-! ### the document's answer -/
theorem pow_lt64 {k : Nat} (h : k < 64) : 2 ^ k < 18446744073709551616 := Nat.pow_lt_pow_right (a := 2) (by decide) h
theorem maskN_eq (a n : Nat) : maskN a n = 2 ^ (a + n) - 2 ^ a := by unfold maskN; rw [Nat.sub_mul, Nat.one_mul, pow_split]

end Go.Proofs.YtmcgdopgpjjkbaaDoor.Plain
