/- What the printed functions of bits (Mask, Get, Put) and of the document's answer come to, as natural numbers. -/
import Derived.Test.YtkdebaopfabbbaaBits1
import Derived.Test.YtkdebaopfabbbaaPx4
import Derived.Test.YtkdebaopfabbbaaPx6
import Derived.Test.YtkdebaopfabbbaaPx7
namespace Go.Proofs.Ytkdebaopfabbbaa.Plain
open Go Go.RowKit Go.Proofs.YtkdebaopfabbbaaW.PrintWords Go.Proofs.YtkdebaopfabbbaaW.PrintLast Go.Proofs.YtkdebaopfabbbaaW.PrintMore Go.Proofs.Ytkdebaopfabbbaa.P Go.Proofs.Ytkdebaopfabbbaa.Given

theorem wf_u64 {a : Int} (h : (Lit.int .u64 a).wf = true) : ∃ n : Nat, a = (n : Int) ∧ n < 18446744073709551616 := by
  have : 0 ≤ a ∧ a < 18446744073709551616 := by
    simp [Lit.wf, IntKind.min, IntKind.max, IntKind.signed, IntKind.bits] at h
    omega
  exact ⟨a.toNat, by omega, by omega⟩
theorem wf_i64 {a : Int} (h : (Lit.int .i64 a).wf = true) : -9223372036854775808 ≤ a ∧ a ≤ 9223372036854775807 := by
  simp [Lit.wf, IntKind.min, IntKind.max, IntKind.signed, IntKind.bits] at h
  omega
theorem w64 {i : Int} (h0 : -9223372036854775808 ≤ i) (h1 : i ≤ 9223372036854775807) : wrap64 i = i := by unfold wrap64; omega

def fieldP (a n : Int) : Prop := 1 ≤ n ∧ n ≤ 64 ∧ 0 ≤ a ∧ a ≤ 64 - n
instance (a n : Int) : Decidable (fieldP a n) := by unfold fieldP; infer_instance
theorem fieldP_nat {a n : Int} (h : fieldP a n) : ∃ x m : Nat, a = x ∧ n = m ∧ 1 ≤ m ∧ x + m ≤ 64 := by
  obtain ⟨h1, h2, h3, h4⟩ := h
  exact ⟨a.toNat, n.toNat, by omega, by omega, by omega, by omega⟩
theorem fieldP_of {x m : Nat} (h1 : 1 ≤ m) (h2 : x + m ≤ 64) : fieldP (x : Int) (m : Int) := by unfold fieldP; omega

theorem isField_eq (a n : Int) : bits_isField.f a n = some (decide (fieldP a n)) := by
  unfold bits_isField.f
  by_cases h1 : n > 0
  · rw [if_pos h1]
    by_cases h2 : n ≤ 64
    · rw [if_pos h2]
      by_cases h3 : a ≥ 0
      · rw [if_pos h3, w64 (by omega) (by omega)]
        exact congrArg some (decide_eq_decide.2 ⟨fun _ => ⟨by omega, by omega, by omega, by omega⟩, fun h => h.2.2.2⟩)
      · rw [if_neg h3, decide_eq_false (fun h : fieldP a n => h3 h.2.2.1)]
    · rw [if_neg h2, decide_eq_false (fun h : fieldP a n => h2 h.2.1)]
  · rw [if_neg h1, decide_eq_false (fun h : fieldP a n => h1 (by have := h.1; omega))]
theorem refField_eq (a n : Int) : garrisonref01_Field.f a n = some (decide (fieldP a n)) := by
  unfold garrisonref01_Field.f
  by_cases h1 : n ≥ 1
  · rw [if_pos h1]
    by_cases h2 : n ≤ 64
    · rw [if_pos h2]
      by_cases h3 : a ≥ 0
      · rw [if_pos h3, w64 (by omega) (by omega)]
        exact congrArg some (decide_eq_decide.2 ⟨fun _ => ⟨by omega, by omega, by omega, by omega⟩, fun h => h.2.2.2⟩)
      · rw [if_neg h3, decide_eq_false (fun h : fieldP a n => h3 h.2.2.1)]
    · rw [if_neg h2, decide_eq_false (fun h : fieldP a n => h2 h.2.1)]
  · rw [if_neg h1, decide_eq_false (fun h : fieldP a n => h1 (by have := h.1; omega))]

theorem low_eq (n : Nat) (h1 : 1 ≤ n) (h2 : n ≤ 64) : bits_low.f (n : Int) = some ((2 ^ n - 1 : Nat) : Int) := by
  unfold bits_low.f
  rw [w64 (by omega) (by omega), if_pos (by omega)]
  rw [show (64 - (n : Int)) = ((64 - n : Nat) : Int) from by omega, show (18446744073709551615 : Int) = ((18446744073709551615 : Nat) : Int) from rfl, shr64 _ _ (by omega)]
  congr 2
  have := low_div (64 - n) n
  rw [show 64 - n + n = 64 from by omega] at this
  exact this
theorem low_lt {n : Nat} (h2 : n ≤ 64) : 2 ^ n - 1 < 18446744073709551616 := by
  have := pow_le64 n h2
  have := Nat.two_pow_pos n
  omega

theorem Mask_no {a n : Int} (h : ¬ fieldP a n) : bits_Mask.f a n = some 0 := by
  unfold bits_Mask.f
  rw [isField_eq, decide_eq_false h]
  rfl
theorem Mask_yes {a n : Nat} (h1 : 1 ≤ n) (h2 : a + n ≤ 64) : bits_Mask.f (a : Int) (n : Int) = some ((maskN a n : Nat) : Int) := by
  unfold bits_Mask.f
  rw [isField_eq, decide_eq_true (fieldP_of h1 h2)]
  simp only [Option.bind_some, if_true]
  rw [low_eq n h1 (by omega)]
  simp only [Option.bind_some]
  rw [if_pos (by omega), shl64 _ _ (by omega)]
  exact congrArg (fun z : Nat => some (z : Int)) (Nat.mod_eq_of_lt (maskN_lt (a := a) (n := n) h2))
theorem Get_no {w a n : Int} (h : ¬ fieldP a n) : bits_Get.f w a n = some 0 := by
  unfold bits_Get.f
  rw [isField_eq, decide_eq_false h]
  rfl
theorem Get_yes {w a n : Nat} (hw : w < 18446744073709551616) (h1 : 1 ≤ n) (h2 : a + n ≤ 64) : bits_Get.f (w : Int) (a : Int) (n : Int) = some ((getN w a n : Nat) : Int) := by
  unfold bits_Get.f
  rw [isField_eq, decide_eq_true (fieldP_of h1 h2)]
  simp only [Option.bind_some, if_true]
  rw [if_pos (by omega), low_eq n h1 (by omega)]
  simp only [Option.bind_some]
  rw [shr64 _ _ (by omega), and64 _ _ (Nat.lt_of_le_of_lt (Nat.div_le_self _ _) hw) (low_lt (by omega)), get_and]

theorem high_none {v n : Nat} (hv : v < 18446744073709551616) (hn : n ≤ 64) : (v &&& notN (2 ^ n - 1) = 0) ↔ v < 2 ^ n := by
  constructor
  · intro h
    rcases Nat.lt_or_ge v (2 ^ n) with h1 | h1
    · exact h1
    · obtain ⟨i, hi, hb⟩ := Nat.exists_ge_and_testBit_of_ge_two_pow h1
      have h2 : (v &&& notN (2 ^ n - 1)).testBit i = false := by rw [h]; simp
      have h3 : i < 64 := by
        rcases Nat.lt_or_ge i 64 with h4 | h4
        · exact h4
        · rw [Nat.testBit_lt_two_pow (Nat.lt_of_lt_of_le hv (Nat.pow_le_pow_right (n := 2) (by decide) h4))] at hb; cases hb
      rw [Nat.testBit_and, hb, notN_bit _ _ (low_lt hn), Nat.testBit_two_pow_sub_one] at h2
      simp [h3] at h2
      omega
  · intro h
    apply ext64 (Nat.lt_of_le_of_lt Nat.and_le_left hv) (by decide)
    intro i hi
    rw [Nat.testBit_and, notN_bit _ _ (low_lt hn), Nat.testBit_two_pow_sub_one]
    by_cases h2 : i < n
    · simp [h2]
    · have : v.testBit i = false := Nat.testBit_lt_two_pow (Nat.lt_of_lt_of_le h (Nat.pow_le_pow_right (by decide) (by omega)))
      simp [this]

theorem Put_no {w a n v : Int} (h : ¬ fieldP a n) : bits_Put.f w a n v = some (0, 2) := by
  unfold bits_Put.f
  rw [isField_eq, decide_eq_false h]
  rfl
theorem Put_big {w : Int} {a n v : Nat} (hv : v < 18446744073709551616) (h1 : 1 ≤ n) (h2 : a + n ≤ 64) (h : 2 ^ n ≤ v) : bits_Put.f w (a : Int) (n : Int) (v : Int) = some (0, 10) := by
  unfold bits_Put.f
  rw [isField_eq, decide_eq_true (fieldP_of h1 h2)]
  simp only [Option.bind_some, if_true]
  rw [low_eq n h1 (by omega)]
  simp only [Option.bind_some]
  rw [andNot64 _ _ hv (low_lt (by omega)), if_neg]
  intro e
  have e' : v &&& notN (2 ^ n - 1) = 0 := by omega
  have := (high_none hv (by omega)).1 e'
  omega
theorem Put_yes {w a n v : Nat} (hw : w < 18446744073709551616) (h1 : 1 ≤ n) (h2 : a + n ≤ 64) (h : v < 2 ^ n) : bits_Put.f (w : Int) (a : Int) (n : Int) (v : Int) = some (((putN w a n v : Nat) : Int), 0) := by
  have hv : v < 18446744073709551616 := Nat.lt_of_lt_of_le h (pow_le64 n (by omega))
  unfold bits_Put.f
  rw [isField_eq, decide_eq_true (fieldP_of h1 h2)]
  simp only [Option.bind_some, if_true]
  rw [low_eq n h1 (by omega)]
  simp only [Option.bind_some]
  rw [andNot64 _ _ hv (low_lt (by omega)), (high_none hv (by omega)).2 h, if_pos (show ((0 : Nat) : Int) = 0 from rfl), Mask_yes h1 h2]
  simp only [Option.bind_some]
  rw [if_pos (by omega), andNot64 _ _ hw (maskN_lt h2), shl64 _ _ (by omega), Nat.mod_eq_of_lt (shift_lt h h2), or64 _ _ (Nat.lt_of_le_of_lt Nat.and_le_left hw) (shift_lt h h2)]
  rfl

/-! ### the document's answer -/
theorem Bit_eq (w k : Nat) (hw : w < 18446744073709551616) (hk : k ≤ 64) : garrisonref01_Bit.f (w : Int) (k : Int) = some ((w / 2 ^ k % 2 : Nat) : Int) := by
  unfold garrisonref01_Bit.f
  rw [if_pos (by omega), shr64 _ _ hk, show (1 : Int) = ((1 : Nat) : Int) from rfl, and64 _ _ (Nat.lt_of_le_of_lt (Nat.div_le_self _ _) hw) (by decide), Nat.and_one_is_mod]
theorem pow_lt64 {k : Nat} (h : k < 64) : 2 ^ k < 18446744073709551616 := Nat.pow_lt_pow_right (a := 2) (by decide) h
theorem maskN_eq (a n : Nat) : maskN a n = 2 ^ (a + n) - 2 ^ a := by unfold maskN; rw [Nat.sub_mul, Nat.one_mul, pow_split]

theorem getN_succ (w a j : Nat) : getN w a (j + 1) = getN w a j + (w / 2 ^ (a + j) % 2) * 2 ^ j := by
  unfold getN
  rw [Nat.mod_pow_succ, Nat.div_div_eq_div_mul, ← Nat.pow_add, Nat.mul_comm]
theorem refGet_loop (w a n : Nat) (hw : w < 18446744073709551616) (h2 : a + n ≤ 64) (d : Nat) : ∀ (k j : Nat), j + d = n → d < k →
    garrisonref01_Get.l0 k (w : Int) (a : Int) (n : Int) ((getN w a j : Nat) : Int) (j : Int) = some ((getN w a n : Nat) : Int) := by
  induction d with
  | zero =>
    intro k j hd hk
    obtain ⟨k, rfl⟩ : ∃ m, k = m + 1 := ⟨k - 1, by omega⟩
    simp only [garrisonref01_Get.l0]
    rw [if_neg (by omega), show j = n by omega]
  | succ d ih =>
    intro k j hd hk
    obtain ⟨k, rfl⟩ : ∃ m, k = m + 1 := ⟨k - 1, by omega⟩
    simp only [garrisonref01_Get.l0]
    rw [if_pos (by omega), w64 (by omega) (by omega), show (a : Int) + (j : Int) = ((a + j : Nat) : Int) from by push_cast; rfl, Bit_eq w _ hw (by omega)]
    simp only [Option.bind_some]
    rw [if_pos (by omega), w64 (by omega) (by omega)]
    have hb : w / 2 ^ (a + j) % 2 < 2 := Nat.mod_lt _ (by decide)
    have hlt : (w / 2 ^ (a + j) % 2) * 2 ^ j < 18446744073709551616 := shift_lt (n := 1) (by simpa using hb) (by omega)
    have hg := getN_lt w a (j + 1)
    have hs := getN_succ w a j
    have hl := pow_le64 (j + 1) (by omega)
    have e : IntKind.u64.wrap (((getN w a j : Nat) : Int) + shl .u64 ((w / 2 ^ (a + j) % 2 : Nat) : Int) (j : Int)) = ((getN w a (j + 1) : Nat) : Int) := by
      rw [shl64 _ _ (by omega), Nat.mod_eq_of_lt hlt, wu64]
      omega
    rw [e]
    have := ih k (j + 1) (by omega) (by omega)
    rw [← this]
    push_cast
    rfl
theorem refGet_yes {w a n : Nat} (hw : w < 18446744073709551616) (h1 : 1 ≤ n) (h2 : a + n ≤ 64) {k : Nat} (hk : 64 < k) : garrisonref01_Get.f k (w : Int) (a : Int) (n : Int) = some ((getN w a n : Nat) : Int) := by
  unfold garrisonref01_Get.f
  rw [refField_eq, decide_eq_true (fieldP_of h1 h2)]
  simp only [Option.bind_some, if_true]
  have := refGet_loop w a n hw h2 n k 0 (by omega) (by omega)
  have e : getN w a 0 = 0 := by unfold getN; simp [Nat.mod_one]
  rw [e] at this
  exact this
theorem refGet_no {w a n : Int} (h : ¬ fieldP a n) (k : Nat) : garrisonref01_Get.f k w a n = some 0 := by
  unfold garrisonref01_Get.f
  rw [refField_eq, decide_eq_false h]
  rfl

theorem bitN_eq (x y i j : Nat) (h : x.testBit i = y.testBit j) : x / 2 ^ i % 2 = y / 2 ^ j % 2 := by
  rw [Nat.testBit_eq_decide_div_mod_eq, Nat.testBit_eq_decide_div_mod_eq] at h
  have h1 : x / 2 ^ i % 2 < 2 := Nat.mod_lt _ (by decide)
  have h2 : y / 2 ^ j % 2 < 2 := Nat.mod_lt _ (by decide)
  have := decide_eq_decide.1 h
  omega
theorem bit_lt {x i : Nat} (h : x < 2 ^ i) : x / 2 ^ i % 2 = 0 := by rw [Nat.div_eq_of_lt h]

theorem refPut_check (w a n v : Nat) (hn : n ≤ 64) (hv : v < 2 ^ n) (m : Nat) (d : Nat) : ∀ j, n ≤ j → j + d = 64 →
    garrisonref01_Put.l0 (m + d + 1) (w : Int) (a : Int) (n : Int) (v : Int) (j : Int) = garrisonref01_Put.l1 m (w : Int) (a : Int) (n : Int) (v : Int) 0 0 := by
  have hvl : v < 18446744073709551616 := Nat.lt_of_lt_of_le hv (pow_le64 n hn)
  induction d with
  | zero =>
    intro j hj hd
    simp only [garrisonref01_Put.l0]
    rw [if_neg (by omega)]
  | succ d ih =>
    intro j hj hd
    rw [show m + (d + 1) + 1 = (m + d + 1) + 1 from by omega]
    simp only [garrisonref01_Put.l0]
    rw [if_pos (by omega), Bit_eq v j hvl (by omega)]
    simp only [Option.bind_some]
    rw [bit_lt (Nat.lt_of_lt_of_le hv (Nat.pow_le_pow_right (by decide) hj)), if_neg (by decide), w64 (by omega) (by omega)]
    have := ih (j + 1) (by omega) (by omega)
    rw [← this]
    push_cast
    rfl
theorem refPut_big_loop (w a n v : Nat) (hvl : v < 18446744073709551616) (d : Nat) : ∀ k j, n ≤ j → j + d = 64 → d < k → (∃ i, j ≤ i ∧ i < 64 ∧ v / 2 ^ i % 2 = 1) →
    garrisonref01_Put.l0 k (w : Int) (a : Int) (n : Int) (v : Int) (j : Int) = some (0, 10) := by
  induction d with
  | zero =>
    intro k j hj hd hk hi
    obtain ⟨i, h1, h2, _⟩ := hi
    omega
  | succ d ih =>
    intro k j hj hd hk hi
    obtain ⟨k, rfl⟩ : ∃ m, k = m + 1 := ⟨k - 1, by omega⟩
    simp only [garrisonref01_Put.l0]
    rw [if_pos (by omega), Bit_eq v j hvl (by omega)]
    simp only [Option.bind_some]
    by_cases hb : v / 2 ^ j % 2 = 1
    · rw [hb, if_pos (show ((1 : Nat) : Int) = 1 from rfl)]
    · rw [if_neg (by omega), w64 (by omega) (by omega)]
      obtain ⟨i, h1, h2, h3⟩ := hi
      have hne : i ≠ j := fun e => hb (by rw [← e]; exact h3)
      have := ih k (j + 1) (by omega) (by omega) (by omega) ⟨i, by omega, h2, h3⟩
      rw [← this]
      push_cast
      rfl
theorem refPut_no {w a n v : Int} (h : ¬ fieldP a n) (k : Nat) : garrisonref01_Put.f k w a n v = some (0, 2) := by
  unfold garrisonref01_Put.f
  rw [refField_eq, decide_eq_false h]
  rfl
theorem refPut_big {w a n v : Nat} (hv : v < 18446744073709551616) (h1 : 1 ≤ n) (h2 : a + n ≤ 64) (h : 2 ^ n ≤ v) {k : Nat} (hk : 64 < k) : garrisonref01_Put.f k (w : Int) (a : Int) (n : Int) (v : Int) = some (0, 10) := by
  unfold garrisonref01_Put.f
  rw [refField_eq, decide_eq_true (fieldP_of h1 h2)]
  simp only [Option.bind_some, if_true]
  obtain ⟨i, hi, hb⟩ := Nat.exists_ge_and_testBit_of_ge_two_pow h
  have h3 : i < 64 := by
    rcases Nat.lt_or_ge i 64 with h4 | h4
    · exact h4
    · rw [Nat.testBit_lt_two_pow (Nat.lt_of_lt_of_le hv (Nat.pow_le_pow_right (n := 2) (by decide) h4))] at hb; cases hb
  rw [Nat.testBit_eq_decide_div_mod_eq] at hb
  exact refPut_big_loop w a n v hv (64 - n) k n (Nat.le_refl _) (by omega) (by omega) ⟨i, hi, h3, of_decide_eq_true hb⟩

theorem mod_succ (p j : Nat) : p % 2 ^ (j + 1) = p % 2 ^ j + (p / 2 ^ j % 2) * 2 ^ j := by rw [Nat.mod_pow_succ, Nat.mul_comm]
theorem refPut_loop (w a n v : Nat) (hw : w < 18446744073709551616) (h2 : a + n ≤ 64) (hv : v < 2 ^ n) (d : Nat) : ∀ (k j : Nat), j + d = 64 → d < k →
    garrisonref01_Put.l1 k (w : Int) (a : Int) (n : Int) (v : Int) ((putN w a n v % 2 ^ j : Nat) : Int) (j : Int) = some (((putN w a n v : Nat) : Int), 0) := by
  have hvl : v < 18446744073709551616 := Nat.lt_of_lt_of_le hv (pow_le64 n (by omega))
  have hpl := putN_lt w a n v hw hv h2
  induction d with
  | zero =>
    intro k j hd hk
    obtain ⟨k, rfl⟩ : ∃ m, k = m + 1 := ⟨k - 1, by omega⟩
    obtain rfl : j = 64 := by omega
    simp only [garrisonref01_Put.l1]
    rw [if_neg (by omega), Nat.mod_eq_of_lt (show putN w a n v < 2 ^ 64 from hpl)]
  | succ d ih =>
    intro k j hd hk
    obtain ⟨k, rfl⟩ : ∃ m, k = m + 1 := ⟨k - 1, by omega⟩
    have hb := putN_bit w a n v j hw hv h2
    have hs := mod_succ (putN w a n v) j
    have hml : putN w a n v % 2 ^ (j + 1) < 18446744073709551616 := Nat.lt_of_le_of_lt (Nat.mod_le _ _) hpl
    have hbb : putN w a n v / 2 ^ j % 2 < 2 := Nat.mod_lt _ (by decide)
    have hlt : (putN w a n v / 2 ^ j % 2) * 2 ^ j < 18446744073709551616 := shift_lt (n := 1) (by simpa using hbb) (by omega)
    have e : ∀ z : Nat, putN w a n v / 2 ^ j % 2 = z → IntKind.u64.wrap (((putN w a n v % 2 ^ j : Nat) : Int) + shl .u64 (z : Int) (j : Int)) = ((putN w a n v % 2 ^ (j + 1) : Nat) : Int) := by
      rintro z rfl
      rw [shl64 _ _ (by omega), Nat.mod_eq_of_lt hlt, wu64]
      omega
    have step := ih k (j + 1) (by omega) (by omega)
    have ec : ((j : Int) + 1) = ((j + 1 : Nat) : Int) := by push_cast; rfl
    simp only [garrisonref01_Put.l1]
    rw [if_pos (by omega), Bit_eq w j hw (by omega)]
    simp only [Option.bind_some]
    rw [w64 (i := (j : Int) + 1) (by omega) (by omega), ec]
    by_cases h3 : a ≤ j
    · rw [if_pos (by omega), w64 (i := (a : Int) + (n : Int)) (by omega) (by omega)]
      by_cases h4 : j < a + n
      · rw [if_pos (by omega), w64 (i := (j : Int) - (a : Int)) (by omega) (by omega), show (j : Int) - (a : Int) = ((j - a : Nat) : Int) from by omega, Bit_eq v _ hvl (by omega)]
        simp only [Option.bind_some]
        rw [if_pos ⟨h3, h4⟩] at hb
        rw [if_pos (by omega), e _ (bitN_eq _ _ _ _ hb)]
        exact step
      · rw [if_neg (fun h => h4 h.2)] at hb
        rw [if_neg (by omega), if_pos (by omega), e _ (bitN_eq _ _ _ _ hb)]
        exact step
    · rw [if_neg (fun h => h3 h.1)] at hb
      rw [if_neg (by omega), if_pos (by omega), e _ (bitN_eq _ _ _ _ hb)]
      exact step
theorem refPut_yes {w a n v : Nat} (hw : w < 18446744073709551616) (h1 : 1 ≤ n) (h2 : a + n ≤ 64) (h : v < 2 ^ n) {k : Nat} (hk : 130 < k) : garrisonref01_Put.f k (w : Int) (a : Int) (n : Int) (v : Int) = some (((putN w a n v : Nat) : Int), 0) := by
  unfold garrisonref01_Put.f
  rw [refField_eq, decide_eq_true (fieldP_of h1 h2)]
  simp only [Option.bind_some, if_true]
  have h3 := refPut_check w a n v (by omega) h (k - (64 - n) - 1) (64 - n) n (Nat.le_refl _) (by omega)
  rw [show k - (64 - n) - 1 + (64 - n) + 1 = k from by omega] at h3
  rw [h3]
  have h4 := refPut_loop w a n v hw h2 h 64 (k - (64 - n) - 1) 0 (by omega) (by omega)
  rw [show putN w a n v % 2 ^ 0 = 0 from by simp [Nat.mod_one]] at h4
  exact h4
end Go.Proofs.Ytkdebaopfabbbaa.Plain
