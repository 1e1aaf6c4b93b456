/- BitsBack is true at every word, every field, every value: no condition. -/
import Derived.Test.YthmedgennlcigaaDoorBits4
import Derived.Test.YthmedgennlcigaaDoorPx3
namespace Go.Proofs.YthmedgennlcigaaDoor.Pure
open Go Go.RowKit Go.Proofs.YthmedgennlcigaaDoorW.PrintWords Go.Proofs.YthmedgennlcigaaDoorW.PrintLast Go.Proofs.YthmedgennlcigaaDoorW.PrintMore Go.Proofs.YthmedgennlcigaaDoor.P Go.Proofs.YthmedgennlcigaaDoor.Given Go.Proofs.YthmedgennlcigaaDoor.Plain

theorem pc_mask : ∀ (a n k : Nat), a + n ≤ k → pc k (maskN a n) = n := by
  intro a
  induction a with
  | zero =>
    intro n
    induction n with
    | zero =>
      intro k _
      rw [show maskN 0 0 = 0 from rfl]
      induction k with
      | zero => rfl
      | succ k ih => show 0 % 2 + pc k (0 / 2) = 0; simpa using ih
    | succ n ih =>
      intro k hk
      obtain ⟨k, rfl⟩ : ∃ m, k = m + 1 := ⟨k - 1, by omega⟩
      show maskN 0 (n + 1) % 2 + pc k (maskN 0 (n + 1) / 2) = n + 1
      have e : maskN 0 (n + 1) = 1 + 2 * maskN 0 n := by
        unfold maskN
        have := Nat.two_pow_pos n
        rw [Nat.pow_succ, Nat.pow_zero]
        omega
      rw [e, show (1 + 2 * maskN 0 n) % 2 = 1 from by omega, show (1 + 2 * maskN 0 n) / 2 = maskN 0 n from by omega, ih k (by omega)]
      omega
  | succ a ih =>
    intro n k hk
    rcases Nat.eq_zero_or_pos k with h | h
    · subst h; omega
    · obtain ⟨k, rfl⟩ : ∃ m, k = m + 1 := ⟨k - 1, by omega⟩
      show maskN (a + 1) n % 2 + pc k (maskN (a + 1) n / 2) = n
      have e : maskN (a + 1) n = 2 * maskN a n := by
        unfold maskN
        rw [Nat.pow_succ, ← Nat.mul_assoc, Nat.mul_comm]
      rw [e, show 2 * maskN a n % 2 = 0 from by omega, show 2 * maskN a n / 2 = maskN a n from by omega, ih n k (by omega)]
      omega

theorem put_outside (w a n v : Nat) (hw : w < 18446744073709551616) (hv : v < 2 ^ n) (h : a + n ≤ 64) : putN w a n v &&& notN (maskN a n) = w &&& notN (maskN a n) := by
  apply ext64 (Nat.lt_of_le_of_lt Nat.and_le_left (putN_lt w a n v hw hv h)) (Nat.lt_of_le_of_lt Nat.and_le_left hw)
  intro i hi
  rw [Nat.testBit_and, Nat.testBit_and, putN_bit _ _ _ _ _ hw hv h, notN_bit _ _ (maskN_lt h), maskN_bit]
  by_cases h1 : a ≤ i ∧ i < a + n
  · simp [h1]
  · rw [if_neg h1]
theorem put_back (w a n v : Nat) (hw : w < 18446744073709551616) (hv : v < 2 ^ n) (h : a + n ≤ 64) : putN (putN w a n v) a n (getN w a n) = w := by
  have h1 := putN_lt w a n v hw hv h
  apply ext64 (putN_lt _ a n _ h1 (getN_lt w a n) h) hw
  intro i hi
  rw [putN_bit _ _ _ _ _ h1 (getN_lt w a n) h, putN_bit _ _ _ _ _ hw hv h, getN_bit]
  by_cases h2 : a ≤ i ∧ i < a + n
  · rw [if_pos h2, show a + (i - a) = i from by omega, decide_eq_true (show i - a < n by omega)]
    simp
  · rw [if_neg h2, if_neg h2]

theorem BitsBack : garrisonlaw01_BitsBack.Pure := by
  intro w a n v hW _ _ hV
  obtain ⟨w, rfl, hw⟩ := wf_u64 hW
  obtain ⟨v, rfl, hv⟩ := wf_u64 hV
  refine ⟨140, ?_⟩
  unfold garrisonlaw01_BitsBack.f
  by_cases h : fieldP a n
  · obtain ⟨a, n, rfl, rfl, h1, h2⟩ := fieldP_nat h
    rcases Nat.lt_or_ge v (2 ^ n) with h3 | h3
    · have hp := putN_lt w a n v hw h3 h2
      rw [Put_yes hw h1 h2 h3, live_ok (by decide), Mask_yes h1 h2, Get_yes hw h1 h2]
      simp only [Option.bind_some, num_eq]
      rw [Put_yes hp h1 h2 (getN_lt w a n), Get_yes hp h1 h2]
      simp only [Option.bind_some]
      rw [get_put w a n v hw h3 h2, andNot64 _ _ hp (maskN_lt h2), andNot64 _ _ hw (maskN_lt h2), put_outside w a n v hw h3 h2, put_back w a n v hw h3 h2, Count_eq _ (maskN_lt h2), pc_mask a n 64 h2]
      simp
    · rw [Put_big hv h1 h2 h3, live_ok (by decide)]
      simp [num_eq]
  · rw [live_ok (by decide), Put_no h]
    simp [num_eq]
end Go.Proofs.YthmedgennlcigaaDoor.Pure
