/- CapBits: a word with one bit turned is another capability's, or none's. -/
import Derived.Test.YtmcgdopgpjjkbaaDoorCap1
import Derived.Test.YtmcgdopgpjjkbaaDoorPx16
namespace Go.Proofs.YtmcgdopgpjjkbaaDoor.Pure
open Go Go.RowKit Go.Proofs.YtmcgdopgpjjkbaaDoorW.PrintWords Go.Proofs.YtmcgdopgpjjkbaaDoorW.PrintLast Go.Proofs.YtmcgdopgpjjkbaaDoorW.PrintMore Go.Proofs.YtmcgdopgpjjkbaaDoor.P Go.Proofs.YtmcgdopgpjjkbaaDoor.Plain Go.Proofs.YtmcgdopgpjjkbaaDoor.Given

theorem xor_bit (w i : Nat) : (w ^^^ 2 ^ i).testBit i = !w.testBit i := by
  rw [Nat.testBit_xor, Nat.testBit_two_pow_self]
  simp
theorem CapBits : garrisonlaw03_CapBits.Pure := by
  intro t r b o g i _ _
  refine ⟨3, ?_⟩
  unfold garrisonlaw03_CapBits.f
  by_cases h : capOk t r b o g = true
  · have hw := wordC_lt h
    rw [Word_yes h]
    generalize hW : wordC t r b o g = w at *
    simp only [num_f, Option.bind_some, if_true]
    by_cases h1 : i < 0
    · rw [if_pos h1]
      simp [garrisonlaw03_CapBits.j0, live_f]
    · rw [if_neg h1]
      by_cases h2 : i > 63
      · rw [decide_eq_true h2]
        simp [garrisonlaw03_CapBits.j0, live_f]
      · obtain ⟨j, rfl⟩ := Int.eq_ofNat_of_zero_le (show 0 ≤ i by omega)
        have hj : j < 64 := by omega
        have hs : shl .u64 1 (j : Int) = ((2 ^ j : Nat) : Int) := by
          have := shl64 1 j (by omega)
          rw [Nat.one_mul, Nat.mod_eq_of_lt (pow_lt64 hj)] at this
          exact this
        have hl := le46 hw
        have hx : Go.bits .xor .u64 (w : Int) (shl .u64 1 (j : Int)) = ((w ^^^ 2 ^ j : Nat) : Int) := by
          rw [hs]
          exact xor64 w (2 ^ j) hl (pow_lt64 hj)
        have hxl : w ^^^ 2 ^ j < 18446744073709551616 := Nat.xor_lt_two_pow (n := 64) hl (pow_lt64 hj)
        rw [decide_eq_false h2, garrisonlaw03_CapBits.j0, if_neg Bool.false_ne_true, if_pos (by omega), hx, Parse_f _ hxl, Option.bind_some]
        by_cases hk : wordOk (w ^^^ 2 ^ j) = true
        · have hb : j < 46 := by
            by_cases hb : j < 46
            · exact hb
            · exfalso
              have h3 := xor_bit w j
              rw [Nat.testBit_lt_two_pow (Nat.lt_of_lt_of_le (wordOk_lt hk) (Nat.pow_le_pow_right (by decide) (by omega))), Nat.testBit_lt_two_pow (Nat.lt_of_lt_of_le hw (Nat.pow_le_pow_right (by decide) (by omega)))] at h3
              exact absurd h3 (by decide)
          have hn : ¬ (((getN (w ^^^ 2 ^ j) 0 4 : Nat) : Int) = t ∧ ((getN (w ^^^ 2 ^ j) 4 4 : Nat) : Int) = r ∧ ((getN (w ^^^ 2 ^ j) 8 16 : Nat) : Int) = b ∧ ((getN (w ^^^ 2 ^ j) 24 10 : Nat) : Int) = o ∧ ((getN (w ^^^ 2 ^ j) 34 12 : Nat) : Int) = g) := by
            rintro ⟨e0, e1, e2, e3, e4⟩
            have h3 := (word_parse hk).2
            rw [e0, e1, e2, e3, e4, hW] at h3
            have h4 := xor_bit w j
            rw [← h3] at h4
            cases hh : w.testBit j <;> rw [hh] at h4 <;> exact absurd h4 (by decide)
          rw [parse_yes hk]
          simp only [num_f, Option.bind_some, if_true, five_ne]
          rw [decide_eq_false hn, if_pos (by decide), if_pos (by omega)]
          rfl
        · rw [parse_no hk]
          simp [num_f, live_f]
  · rw [Word_no h]
    simp [garrisonlaw03_CapBits.j0, live_f, num_f]
end Go.Proofs.YtmcgdopgpjjkbaaDoor.Pure
