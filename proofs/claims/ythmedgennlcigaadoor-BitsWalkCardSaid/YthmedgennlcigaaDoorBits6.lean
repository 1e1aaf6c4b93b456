/- The least bit from one on, and the greatest bit, of a word: what Next, High and the document's Next, High, Count come to. -/
import Derived.Test.YthmedgennlcigaaDoorBits4
namespace Go.Proofs.YthmedgennlcigaaDoor.Plain
open Go Go.RowKit Go.Proofs Go.Proofs.YthmedgennlcigaaDoorW.PrintWords Go.Proofs.YthmedgennlcigaaDoorW.PrintLast Go.Proofs.YthmedgennlcigaaDoorW.PrintMore Go.Proofs.YthmedgennlcigaaDoor.P Go.Proofs.YthmedgennlcigaaDoor.Given

/-- r tells the least bit of w from j on. -/
def IsNext (w j : Nat) (r : Int × Bool) : Prop :=
  (∃ i : Nat, r = ((i : Int), true) ∧ j ≤ i ∧ i < 64 ∧ w.testBit i = true ∧ ∀ t, j ≤ t → t < i → w.testBit t = false) ∨ (r = (0, false) ∧ ∀ t, j ≤ t → t < 64 → w.testBit t = false)
theorem IsNext.unique {w j : Nat} {r r' : Int × Bool} (h : IsNext w j r) (h' : IsNext w j r') : r = r' := by
  rcases h with ⟨i, rfl, h1, h2, h3, h4⟩ | ⟨rfl, h1⟩ <;> rcases h' with ⟨i', rfl, g1, g2, g3, g4⟩ | ⟨rfl, g1⟩
  · rcases Nat.lt_trichotomy i i' with h | h | h
    · rw [g4 i h1 h] at h3; cases h3
    · rw [h]
    · rw [h4 i' g1 h] at g3; cases g3
  · rw [g1 i h1 h2] at h3; cases h3
  · rw [h1 i' g1 g2] at g3; cases g3
  · rfl

theorem bit_of (w i : Nat) : (w / 2 ^ i % 2 = 1) ↔ w.testBit i = true := by
  rw [Nat.testBit_eq_decide_div_mod_eq]; exact decide_eq_true_iff.symm
theorem suc64 (i : Nat) (h : i < 64) : wrap64 ((i : Int) + 1) = ((i + 1 : Nat) : Int) := by rw [w64 (by omega) (by omega)]; rfl

theorem refNext_loop (w : Nat) (hw : w < 18446744073709551616) (d : Nat) : ∀ k j, j + d = 64 → d < k → ∃ r, garrisonref01_Next.l0 k (w : Int) (j : Int) = some r ∧ IsNext w j r := by
  induction d with
  | zero =>
    intro k j hd hk
    obtain ⟨k, rfl⟩ : ∃ m, k = m + 1 := ⟨k - 1, by omega⟩
    have g : ¬ (j : Int) < 64 := by omega
    refine ⟨(0, false), ?_, .inr ⟨rfl, fun t h1 h2 => by omega⟩⟩
    simp only [garrisonref01_Next.l0]
    rw [if_neg g]
  | succ d ih =>
    intro k j hd hk
    obtain ⟨k, rfl⟩ : ∃ m, k = m + 1 := ⟨k - 1, by omega⟩
    have g : (j : Int) < 64 := by omega
    have gs := suc64 j (by omega)
    simp only [garrisonref01_Next.l0]
    rw [if_pos g, Bit_eq w j hw (by omega), gs]
    clear g gs
    simp only [Option.bind_some]
    by_cases hb : w / 2 ^ j % 2 = 1
    · rw [hb, if_pos (show ((1 : Nat) : Int) = 1 from rfl)]
      exact ⟨_, rfl, .inl ⟨j, rfl, Nat.le_refl _, by omega, (bit_of w j).1 hb, fun t h1 h2 => by omega⟩⟩
    · have hb' : w.testBit j = false := by
        cases h : w.testBit j with
        | false => rfl
        | true => exact absurd ((bit_of w j).2 h) hb
      rw [if_neg (by omega)]
      obtain ⟨r, hr, hn⟩ := ih k (j + 1) (by omega) (by omega)
      refine ⟨r, hr, ?_⟩
      rcases hn with ⟨i, rfl, h1, h2, h3, h4⟩ | ⟨rfl, h1⟩
      · refine .inl ⟨i, rfl, by omega, h2, h3, fun t e1 e2 => ?_⟩
        rcases Nat.eq_or_lt_of_le e1 with e | e
        · rw [← e]; exact hb'
        · exact h4 t e e2
      · refine .inr ⟨rfl, fun t e1 e2 => ?_⟩
        rcases Nat.eq_or_lt_of_le e1 with e | e
        · rw [← e]; exact hb'
        · exact h1 t e e2

theorem mx_zero (a : Int) : mx a 0 = ((a.toNat : Nat) : Int) := by unfold mx; split <;> omega
theorem refNext_eq (w : Nat) (hw : w < 18446744073709551616) (a : Int) {k : Nat} (hk : 64 < k) : ∃ r, garrisonref01_Next.f k (w : Int) a = some r ∧ IsNext w a.toNat r := by
  unfold garrisonref01_Next.f
  rw [mx_zero]
  generalize a.toNat = j
  rcases Nat.lt_or_ge 64 j with h | h
  · obtain ⟨k, rfl⟩ : ∃ m, k = m + 1 := ⟨k - 1, by omega⟩
    have g : ¬ (j : Int) < 64 := by omega
    refine ⟨(0, false), ?_, .inr ⟨rfl, fun t h1 h2 => by omega⟩⟩
    simp only [garrisonref01_Next.l0]
    rw [if_neg g]
  · exact refNext_loop w hw (64 - j) k j (by omega) (by omega)

theorem upper_bit (w a i : Nat) (hi : i < 64) : (upper w a).testBit i = (w.testBit i && decide (a ≤ i)) := by
  unfold upper
  rw [Nat.testBit_and, show (18446744073709551616 : Nat) = 2 ^ 64 from rfl, Nat.testBit_mod_two_pow, Nat.mul_comm, Nat.testBit_two_pow_mul, show (18446744073709551615 : Nat) = 2 ^ 64 - 1 from rfl, Nat.testBit_two_pow_sub_one]
  by_cases h : a ≤ i
  · simp [h, hi]; omega
  · simp [h, hi]
theorem ctz_bits (m : Nat) (h0 : m ≠ 0) (h : m < 18446744073709551616) : Lib.ctz 64 m < 64 ∧ m.testBit (Lib.ctz 64 m) = true ∧ ∀ t, t < Lib.ctz 64 m → m.testBit t = false := by
  obtain ⟨q, hq, hl⟩ := Lib.ctzFrom_spec 64 m (by omega) h
  have e : Lib.ctz 64 m = Lib.ctzFrom 64 m := by unfold Lib.ctz; rw [if_neg h0]
  rw [e]
  generalize Lib.ctzFrom 64 m = c at *
  subst hq
  refine ⟨hl, ?_, ?_⟩
  · rw [Nat.testBit_two_pow_mul]
    simp
  · intro t ht
    rw [Nat.testBit_two_pow_mul]
    simp; omega
theorem next_is (w : Nat) (hw : w < 18446744073709551616) (a : Int) : IsNext w a.toNat (nextOf w a) := by
  unfold nextOf
  by_cases h : 64 ≤ a
  · rw [if_pos h]
    exact .inr ⟨rfl, fun t h1 h2 => by omega⟩
  · rw [if_neg h]
    have hu := upper_lt w a.toNat hw
    by_cases h0 : upper w a.toNat = 0
    · rw [if_pos h0]
      refine .inr ⟨rfl, fun t h1 h2 => ?_⟩
      have := upper_bit w a.toNat t h2
      rw [h0, decide_eq_true h1] at this
      simpa using this
    · rw [if_neg h0]
      obtain ⟨g1, g2, g3⟩ := ctz_bits _ h0 hu
      rw [upper_bit w a.toNat _ g1] at g2
      simp at g2
      refine .inl ⟨_, rfl, by have := g2.2; omega, g1, g2.1, fun t e1 e2 => ?_⟩
      have := g3 t e2
      rw [upper_bit w a.toNat t (by omega), decide_eq_true e1] at this
      simpa using this
theorem Next_eq (w : Nat) (hw : w < 18446744073709551616) (a : Int) : bits_Next.f (w : Int) a = some (nextOf w a) := by
  unfold bits_Next.f
  have c1 : (0 : Int) ≤ (w : Int) := by omega
  have c2 : (w : Int) < 18446744073709551616 := by omega
  rw [if_pos c1, if_pos c2, Int.toNat_natCast]

/-- r tells the greatest bit of w. -/
def IsHigh (w : Nat) (r : Int × Bool) : Prop :=
  (∃ i : Nat, r = ((i : Int), true) ∧ i < 64 ∧ w.testBit i = true ∧ ∀ t, i < t → t < 64 → w.testBit t = false) ∨ (r = (0, false) ∧ ∀ t, t < 64 → w.testBit t = false)
theorem IsHigh.unique {w : Nat} {r r' : Int × Bool} (h : IsHigh w r) (h' : IsHigh w r') : r = r' := by
  rcases h with ⟨i, rfl, h2, h3, h4⟩ | ⟨rfl, h1⟩ <;> rcases h' with ⟨i', rfl, g2, g3, g4⟩ | ⟨rfl, g1⟩
  · rcases Nat.lt_trichotomy i i' with h | h | h
    · rw [h4 i' h g2] at g3; cases g3
    · rw [h]
    · rw [g4 i h h2] at h3; cases h3
  · rw [g1 i h2] at h3; cases h3
  · rw [h1 i' g2] at g3; cases g3
  · rfl
theorem bitLen_spec : ∀ (f x : Nat), 0 < x → x < 2 ^ f → 1 ≤ Lib.bitLenAux f x ∧ Lib.bitLenAux f x ≤ f ∧ 2 ^ (Lib.bitLenAux f x - 1) ≤ x ∧ x < 2 ^ Lib.bitLenAux f x
  | 0, x, h, h' => by rw [Nat.pow_zero] at h'; omega
  | f + 1, x, h, h' => by
    unfold Lib.bitLenAux
    rw [if_neg (by omega)]
    by_cases hx : x = 1
    · subst hx
      have : Lib.bitLenAux f (1 / 2) = 0 := by cases f <;> rfl
      rw [this]
      exact ⟨by omega, by omega, by decide, by decide⟩
    · rw [Nat.pow_succ] at h'
      obtain ⟨h1, h2, h3, h4⟩ := bitLen_spec f (x / 2) (by omega) (by omega)
      generalize Lib.bitLenAux f (x / 2) = n at *
      refine ⟨by omega, by omega, ?_, ?_⟩
      · rw [show 1 + n - 1 = (n - 1) + 1 from by omega, Nat.pow_succ]
        omega
      · rw [show 1 + n = n + 1 from by omega, Nat.pow_succ]
        omega
theorem High_eq (w : Nat) (hw : w < 18446744073709551616) : ∃ r, bits_High.f (w : Int) = some r ∧ IsHigh w r := by
  unfold bits_High.f bits_Len64.f
  have c1 : (0 : Int) ≤ (w : Int) := by omega
  have c2 : (w : Int) ≤ 18446744073709551615 := by omega
  rw [if_pos c1, if_pos c2, Int.toNat_natCast]
  simp only [Option.bind_some]
  refine ⟨_, rfl, ?_⟩
  by_cases h : w = 0
  · subst h
    exact .inr ⟨by decide +kernel, fun t _ => by simp⟩
  · obtain ⟨h1, h2, h3, h4⟩ := bitLen_spec 64 w (by omega) hw
    have e : Lib.bitLen w = Lib.bitLenAux 64 w := rfl
    rw [e]
    generalize Lib.bitLenAux 64 w = n at *
    obtain ⟨n, rfl⟩ : ∃ m, n = m + 1 := ⟨n - 1, by omega⟩
    refine .inl ⟨n, ?_, by omega, ?_, fun t e1 _ => Nat.testBit_lt_two_pow (Nat.lt_of_lt_of_le h4 (Nat.pow_le_pow_right (by decide) e1))⟩
    · have d1 : decide ((((n + 1 : Nat) : Nat) : Int) > 0) = true := decide_eq_true (by omega)
      have d2 : wrap64 (((n + 1 : Nat) : Int) - 1) = (n : Int) := by rw [w64 (by omega) (by omega)]; omega
      rw [d1, d2, mx_zero, Int.toNat_natCast]
    · rw [Nat.add_sub_cancel] at h3
      rw [Nat.pow_succ] at h4
      rw [← bit_of]
      have : w / 2 ^ n = 1 := by
        rw [Nat.div_eq_iff (Nat.two_pow_pos n)]
        omega
      rw [this]
theorem refHigh_loop (w : Nat) (hw : w < 18446744073709551616) : ∀ (d k : Nat) (x : Int), x + 1 = (d : Int) → d ≤ 64 → d < k → (∀ t, d ≤ t → t < 64 → w.testBit t = false) → ∃ r, garrisonref01_High.l0 k (w : Int) x = some r ∧ IsHigh w r := by
  intro d
  induction d with
  | zero =>
    intro k x hx _ hk hc
    obtain ⟨k, rfl⟩ : ∃ m, k = m + 1 := ⟨k - 1, by omega⟩
    refine ⟨(0, false), ?_, .inr ⟨rfl, fun t h => hc t (by omega) h⟩⟩
    simp only [garrisonref01_High.l0]
    rw [if_neg (by omega)]
  | succ d ih =>
    intro k x hx hd hk hc
    obtain ⟨k, rfl⟩ : ∃ m, k = m + 1 := ⟨k - 1, by omega⟩
    obtain rfl : x = (d : Int) := by omega
    have g : (d : Int) ≥ 0 := by omega
    have gs : wrap64 ((d : Int) - 1) = (d : Int) - 1 := w64 (by omega) (by omega)
    simp only [garrisonref01_High.l0]
    rw [if_pos g, Bit_eq w d hw (by omega), gs]
    clear g gs
    simp only [Option.bind_some]
    by_cases hb : w / 2 ^ d % 2 = 1
    · rw [hb, if_pos (show ((1 : Nat) : Int) = 1 from rfl)]
      exact ⟨_, rfl, .inl ⟨d, rfl, by omega, (bit_of w d).1 hb, fun t h1 h2 => hc t (by omega) h2⟩⟩
    · have hb' : w.testBit d = false := by
        cases h : w.testBit d with
        | false => rfl
        | true => exact absurd ((bit_of w d).2 h) hb
      rw [if_neg (by omega)]
      refine ih k _ (by omega) (by omega) (by omega) fun t h1 h2 => ?_
      rcases Nat.eq_or_lt_of_le h1 with e | e
      · rw [← e]; exact hb'
      · exact hc t e h2
theorem refHigh_eq (w : Nat) (hw : w < 18446744073709551616) {k : Nat} (hk : 64 < k) : ∃ r, garrisonref01_High.f k (w : Int) = some r ∧ IsHigh w r :=
  refHigh_loop w hw 64 k 63 (by decide) (by decide) hk (fun t h1 h2 => by omega)

theorem refCount_loop (w : Nat) (hw : w < 18446744073709551616) (d : Nat) : ∀ k j, j + d = 64 → d < k → garrisonref01_Count.l0 k (w : Int) ((pc j w : Nat) : Int) (j : Int) = some ((pc 64 w : Nat) : Int) := by
  induction d with
  | zero =>
    intro k j hd hk
    obtain ⟨k, rfl⟩ : ∃ m, k = m + 1 := ⟨k - 1, by omega⟩
    have g : ¬ (j : Int) < 64 := by omega
    simp only [garrisonref01_Count.l0]
    rw [if_neg g, show j = 64 from by omega]
  | succ d ih =>
    intro k j hd hk
    obtain ⟨k, rfl⟩ : ∃ m, k = m + 1 := ⟨k - 1, by omega⟩
    have g : (j : Int) < 64 := by omega
    have gs := suc64 j (by omega)
    have hl := pc_le j w
    have hb : w / 2 ^ j % 2 < 2 := Nat.mod_lt _ (by decide)
    have he := pc_snoc j w
    have e1 : wrap64 ((w / 2 ^ j % 2 : Nat) : Int) = ((w / 2 ^ j % 2 : Nat) : Int) := by
      generalize w / 2 ^ j % 2 = b at *
      exact w64 (by omega) (by omega)
    have e2 : wrap64 (((pc j w : Nat) : Int) + ((w / 2 ^ j % 2 : Nat) : Int)) = ((pc (j + 1) w : Nat) : Int) := by
      clear e1
      rw [he]
      generalize w / 2 ^ j % 2 = b at *
      generalize pc j w = p at *
      rw [w64 (by omega) (by omega)]
      rfl
    simp only [garrisonref01_Count.l0]
    rw [if_pos g, Bit_eq w j hw (by omega), gs]
    simp only [Option.bind_some]
    rw [e1, e2]
    exact ih k (j + 1) (by omega) (by omega)
theorem refCount_eq (w : Nat) (hw : w < 18446744073709551616) {k : Nat} (hk : 64 < k) : garrisonref01_Count.f k (w : Int) = some ((pc 64 w : Nat) : Int) :=
  refCount_loop w hw 64 k 0 rfl hk
end Go.Proofs.YthmedgennlcigaaDoor.Plain
