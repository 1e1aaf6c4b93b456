/- Capabilities and their words as numbers: there and back. No walk. -/
import Derived.Test.YtmcgdopgpjjkbaaDoorGLive
import Derived.Test.YtmcgdopgpjjkbaaDoorRights
import Derived.Test.YtmcgdopgpjjkbaaDoorPx4
namespace Go.Proofs.YtmcgdopgpjjkbaaDoor.Plain
open Go Go.RowKit Go.Proofs.YtmcgdopgpjjkbaaDoorW.PrintWords Go.Proofs.YtmcgdopgpjjkbaaDoorW.PrintLast Go.Proofs.YtmcgdopgpjjkbaaDoorW.PrintMore Go.Proofs.YtmcgdopgpjjkbaaDoor.P Go.Proofs.YtmcgdopgpjjkbaaDoor.Given

theorem live_f : garrisonlaw03_live.f = some true := rfl
theorem num_f (n : Int) : garrisonlaw03_num.f n = some n := rfl
theorem lt46 {w a n v : Nat} (hw : w < 2 ^ 46) (h : a + n ≤ 46) (hv : v < 2 ^ n) : putN w a n v < 2 ^ 46 := by
  apply Nat.lt_pow_two_of_testBit
  intro i hi
  rw [putN_bit w a n v i (Nat.lt_trans hw (by decide)) hv (by omega), if_neg (by omega)]
  exact Nat.testBit_lt_two_pow (Nat.lt_of_lt_of_le hw (Nat.pow_le_pow_right (by decide) hi))
theorem le46 {w : Nat} (h : w < 2 ^ 46) : w < 18446744073709551616 := Nat.lt_trans h (by decide)
section
variable {t r b o g : Nat} (h0 : t < 2 ^ 4) (h1 : r < 2 ^ 4) (h2 : b < 2 ^ 16) (h3 : o < 2 ^ 10) (h4 : g < 2 ^ 12)
include h0 h1 h2 h3 h4
theorem wordN_lt : wordN t r b o g < 2 ^ 46 := lt46 (lt46 (lt46 (lt46 (lt46 (by decide) (by decide) h0) (by decide) h1) (by decide) h2) (by decide) h3) (by decide) h4
theorem wordN_get : getN (wordN t r b o g) 0 4 = t ∧ getN (wordN t r b o g) 4 4 = r ∧ getN (wordN t r b o g) 8 16 = b ∧ getN (wordN t r b o g) 24 10 = o ∧ getN (wordN t r b o g) 34 12 = g := by
  have p0 : putN 0 0 4 t < 18446744073709551616 := putN_lt _ _ _ _ (by decide) h0 (by decide)
  have p1 := putN_lt _ 4 4 r p0 h1 (by decide)
  have p2 := putN_lt _ 8 16 b p1 h2 (by decide)
  have p3 := putN_lt _ 24 10 o p2 h3 (by decide)
  unfold wordN
  refine ⟨?_, ?_, ?_, ?_, get_put _ _ _ _ p3 h4 (by decide)⟩
  · rw [get_put_other _ 34 12 _ 0 4 p3 h4 (by decide) (by decide), get_put_other _ 24 10 _ 0 4 p2 h3 (by decide) (by decide), get_put_other _ 8 16 _ 0 4 p1 h2 (by decide) (by decide), get_put_other _ 4 4 _ 0 4 p0 h1 (by decide) (by decide), get_put _ _ _ _ (by decide) h0 (by decide)]
  · rw [get_put_other _ 34 12 _ 4 4 p3 h4 (by decide) (by decide), get_put_other _ 24 10 _ 4 4 p2 h3 (by decide) (by decide), get_put_other _ 8 16 _ 4 4 p1 h2 (by decide) (by decide), get_put _ _ _ _ p0 h1 (by decide)]
  · rw [get_put_other _ 34 12 _ 8 16 p3 h4 (by decide) (by decide), get_put_other _ 24 10 _ 8 16 p2 h3 (by decide) (by decide), get_put _ _ _ _ p1 h2 (by decide)]
  · rw [get_put_other _ 34 12 _ 24 10 p3 h4 (by decide) (by decide), get_put _ _ _ _ p2 h3 (by decide)]
end
/-- What Parse answers at a word. -/
def parseC (L : Nat) : Six := if wordOk L = true then ((getN L 0 4 : Nat), (getN L 4 4 : Nat), (getN L 8 16 : Nat), (getN L 24 10 : Nat), (getN L 34 12 : Nat), 0) else (0, 0, 0, 0, 0, 30)
theorem Parse_f (L : Nat) (h : L < 18446744073709551616) : cap_Parse.f (L : Int) = some (parseC L) := by
  unfold cap_Parse.f parseC
  rw [if_pos (by omega), Int.toNat_natCast]
/-- The word of a capability that is one. -/
def wordC (t r b o g : Int) : Nat := wordN t.toNat r.toNat b.toNat o.toNat g.toNat
theorem Word_yes {t r b o g : Int} (h : capOk t r b o g = true) : cap_Word.f t r b o g = some (((wordC t r b o g : Nat) : Int), 0) := by
  unfold cap_Word.f wordC
  rw [if_pos h]
theorem Word_no {t r b o g : Int} (h : ¬ capOk t r b o g = true) : cap_Word.f t r b o g = some (0, 30) := by
  unfold cap_Word.f
  rw [if_neg h]
theorem wordC_lt {t r b o g : Int} (h : capOk t r b o g = true) : wordC t r b o g < 2 ^ 46 := by
  obtain ⟨b0, b1, b2, b3, b4⟩ := capOk_bounds h
  exact wordN_lt (by omega) (by omega) (by omega) (by omega) (by omega)
theorem parse_word {t r b o g : Int} (h : capOk t r b o g = true) : parseC (wordC t r b o g) = (t, r, b, o, g, 0) := by
  obtain ⟨b0, b1, b2, b3, b4⟩ := capOk_bounds h
  obtain ⟨g0, g1, g2, g3, g4⟩ := wordN_get (t := t.toNat) (r := r.toNat) (b := b.toNat) (o := o.toNat) (g := g.toNat) (by omega) (by omega) (by omega) (by omega) (by omega)
  unfold parseC wordOk wordC
  rw [g0, g1, g2, g3, g4, Int.toNat_of_nonneg b0.1, Int.toNat_of_nonneg b1.1, Int.toNat_of_nonneg b2.1, Int.toNat_of_nonneg b3.1, Int.toNat_of_nonneg b4.1, h]
  simp
theorem word_parse {L : Nat} (h : wordOk L = true) : capOk (getN L 0 4 : Nat) (getN L 4 4 : Nat) (getN L 8 16 : Nat) (getN L 24 10 : Nat) (getN L 34 12 : Nat) = true ∧ wordC (getN L 0 4 : Nat) (getN L 4 4 : Nat) (getN L 8 16 : Nat) (getN L 24 10 : Nat) (getN L 34 12 : Nat) = L := by
  unfold wordOk at h
  rw [Bool.and_eq_true, beq_iff_eq] at h
  refine ⟨h.1, ?_⟩
  unfold wordC
  simp only [Int.toNat_natCast]
  exact h.2
theorem wordOk_lt {L : Nat} (h : wordOk L = true) : L < 2 ^ 46 := by
  obtain ⟨h1, h2⟩ := word_parse h
  have := wordC_lt h1
  rw [h2] at this
  exact this
theorem parse_yes {L : Nat} (h : wordOk L = true) : parseC L = (((getN L 0 4 : Nat), (getN L 4 4 : Nat), (getN L 8 16 : Nat), (getN L 24 10 : Nat), (getN L 34 12 : Nat), 0) : Six) := by unfold parseC; rw [if_pos h]
theorem parse_no {L : Nat} (h : ¬ wordOk L = true) : parseC L = (0, 0, 0, 0, 0, 30) := by unfold parseC; rw [if_neg h]
theorem wordOk_zero : wordOk 0 = true := by decide
theorem wf23 {t r b o g : Int} (h : ((Lit.int .i64 t).wf = true ∧ ((Lit.int .i64 r).wf = true ∧ ((Lit.int .i64 b).wf = true ∧ ((Lit.int .i64 o).wf = true ∧ (Lit.int .i64 g).wf = true))))) : (-9223372036854775808 ≤ t ∧ t ≤ 9223372036854775807) ∧ (-9223372036854775808 ≤ r ∧ r ≤ 9223372036854775807) ∧ (-9223372036854775808 ≤ b ∧ b ≤ 9223372036854775807) ∧ (-9223372036854775808 ≤ o ∧ o ≤ 9223372036854775807) ∧ -9223372036854775808 ≤ g ∧ g ≤ 9223372036854775807 :=
  ⟨wf_i64 h.1, wf_i64 h.2.1, wf_i64 h.2.2.1, wf_i64 h.2.2.2.1, wf_i64 h.2.2.2.2⟩
theorem Text_f (t r b o g : Int) : cap_Text.f t r b o g = some (textS t r b o g) := rfl
/-- Five tests in a row. -/
theorem five_eq (a b c d e a' b' c' d' e' : Int) : (a == a' && (b == b' && (c == c' && (d == d' && (e == e'))))) = decide (a = a' ∧ b = b' ∧ c = c' ∧ d = d' ∧ e = e') := by
  by_cases h1 : a = a' <;> by_cases h2 : b = b' <;> by_cases h3 : c = c' <;> by_cases h4 : d = d' <;> by_cases h5 : e = e' <;> simp [h1, h2, h3, h4, h5]
theorem five_ne (a b c d e a' b' c' d' e' : Int) : (!(a == a') || (!(b == b') || (!(c == c') || (!(d == d') || (!(e == e')))))) = !decide (a = a' ∧ b = b' ∧ c = c' ∧ d = d' ∧ e = e') := by
  rw [← five_eq]
  simp [Bool.not_and]
theorem zero_eq (t r b o g : Int) : capZero t r b o g = decide (t = 0 ∧ r = 0 ∧ b = 0 ∧ o = 0 ∧ g = 0) := five_eq _ _ _ _ _ _ _ _ _ _
theorem capOk_zero : capOk 0 0 0 0 0 = true := by decide
/-- capOk in plain words. -/
theorem capOk_iff (t r b o g : Int) : capOk t r b o g = true ↔ (t = 0 ∧ r = 0 ∧ b = 0 ∧ o = 0 ∧ g = 0) ∨ (1 ≤ t ∧ t ≤ 5 ∧ 0 ≤ r ∧ r ≤ 15 ∧ 0 ≤ b ∧ b ≤ capBadges t ∧ 0 ≤ o ∧ o ≤ 1023 ∧ 0 ≤ g ∧ g ≤ 4095) := by
  unfold capOk
  rw [zero_eq]
  simp only [capAll, capIn, capNum, capMost, Bool.or_eq_true, Bool.and_eq_true, decide_eq_true_eq]
  constructor
  · rintro (h | h)
    · exact .inl h
    · exact .inr (by omega)
  · rintro (h | h)
    · exact .inl h
    · exact .inr (by omega)
end Go.Proofs.YtmcgdopgpjjkbaaDoor.Plain
