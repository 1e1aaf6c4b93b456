/- BitsApart is true at every word, all fields, all values: no condition. -/
import Derived.Test.YthmedgennlcigaaDoorBits4
import Derived.Test.YthmedgennlcigaaDoorPx3
namespace Go.Proofs.YthmedgennlcigaaDoor.Pure
open Go Go.RowKit Go.Proofs.YthmedgennlcigaaDoorW.PrintWords Go.Proofs.YthmedgennlcigaaDoorW.PrintLast Go.Proofs.YthmedgennlcigaaDoorW.PrintMore Go.Proofs.YthmedgennlcigaaDoor.P Go.Proofs.YthmedgennlcigaaDoor.Given Go.Proofs.YthmedgennlcigaaDoor.Plain

theorem put_apart (w a n v b m u : Nat) (hw : w < 18446744073709551616) (hv : v < 2 ^ n) (hu : u < 2 ^ m) (h : a + n ≤ 64) (h' : b + m ≤ 64) (hd : b + m ≤ a ∨ a + n ≤ b) :
    putN (putN w a n v) b m u = putN (putN w b m u) a n v := by
  have h1 := putN_lt w a n v hw hv h
  have h2 := putN_lt w b m u hw hu h'
  apply ext64 (putN_lt _ b m u h1 hu h') (putN_lt _ a n v h2 hv h)
  intro i hi
  rw [putN_bit _ _ _ _ _ h1 hu h', putN_bit _ _ _ _ _ hw hv h, putN_bit _ _ _ _ _ h2 hv h, putN_bit _ _ _ _ _ hw hu h']
  by_cases e1 : b ≤ i ∧ i < b + m
  · have e2 : ¬ (a ≤ i ∧ i < a + n) := by omega
    rw [if_pos e1, if_neg e2, if_pos e1]
  · rw [if_neg e1, if_neg e1]
theorem apart_of_masks (a n b m : Nat) (h1 : 1 ≤ n) (h2 : 1 ≤ m) (hm : maskN a n &&& maskN b m = 0) : b + m ≤ a ∨ a + n ≤ b := by
  rcases Nat.lt_or_ge a (b + m) with h3 | h3
  · rcases Nat.lt_or_ge b (a + n) with h4 | h4
    · exfalso
      have h5 : (maskN a n &&& maskN b m).testBit (max a b) = false := by rw [hm]; simp
      rw [Nat.testBit_and, maskN_bit, maskN_bit] at h5
      simp at h5
      omega
    · exact .inr h4
  · exact .inl h3

theorem BitsApart : garrisonlaw01_BitsApart.Pure := by
  intro w a n v b m u hW _ _ hV _ _ hU
  obtain ⟨w, rfl, hw⟩ := wf_u64 hW
  obtain ⟨v, rfl, hv⟩ := wf_u64 hV
  obtain ⟨u, rfl, hu⟩ := wf_u64 hU
  refine ⟨140, ?_⟩
  unfold garrisonlaw01_BitsApart.f
  have L : garrisonlaw01_live.f 140 = some true := live_ok (by decide)
  by_cases h : fieldP a n
  · by_cases h' : fieldP b m
    · obtain ⟨a, n, rfl, rfl, h1, h2⟩ := fieldP_nat h
      obtain ⟨b, m, rfl, rfl, g1, g2⟩ := fieldP_nat h'
      rw [Mask_yes h1 h2, Mask_yes g1 g2, L]
      simp only [Option.bind_some, and64 _ _ (maskN_lt h2) (maskN_lt g2)]
      by_cases hm : maskN a n &&& maskN b m = 0
      · have hd := apart_of_masks a n b m h1 g1 hm
        rw [hm, if_pos (show ((0 : Nat) : Int) = 0 from rfl)]
        rcases Nat.lt_or_ge v (2 ^ n) with h3 | h3
        · have p1 := putN_lt w a n v hw h3 h2
          rcases Nat.lt_or_ge u (2 ^ m) with g3 | g3
          · have p2 := putN_lt w b m u hw g3 g2
            rw [Put_yes hw h1 h2 h3, Put_yes hw g1 g2 g3]
            simp only [Option.bind_some]
            rw [Put_yes p1 g1 g2 g3, Put_yes p2 h1 h2 h3]
            simp only [Option.bind_some, num_eq]
            rw [if_pos (by decide +kernel), put_apart w a n v b m u hw h3 g3 h2 g2 hd, if_pos rfl, Get_yes (putN_lt _ a n v p2 h3 h2) h1 h2, Get_yes (putN_lt _ a n v p2 h3 h2) g1 g2, get_put _ a n v p2 h3 h2, get_put_other _ a n v b m p2 h3 h2 hd, get_put w b m u hw g3 g2]
            simp
          · rw [Put_yes hw h1 h2 h3, Put_big hu g1 g2 g3]
            simp only [Option.bind_some]
            rw [Put_big hu g1 g2 g3, show (0 : Int) = ((0 : Nat) : Int) from rfl, Put_yes (by decide) h1 h2 h3]
            simp only [Option.bind_some, num_eq]
            rw [if_neg (by decide +kernel)]
        · rcases Nat.lt_or_ge u (2 ^ m) with g3 | g3
          · rw [Put_big hv h1 h2 h3, Put_yes hw g1 g2 g3]
            simp only [Option.bind_some]
            rw [show (0 : Int) = ((0 : Nat) : Int) from rfl, Put_yes (by decide) g1 g2 g3, Put_big hv h1 h2 h3]
            simp only [Option.bind_some, num_eq]
            rw [if_neg (by decide +kernel)]
          · rw [Put_big hv h1 h2 h3, Put_big hu g1 g2 g3]
            simp only [Option.bind_some]
            rw [Put_big hu g1 g2 g3, Put_big hv h1 h2 h3]
            simp only [Option.bind_some, num_eq]
            rw [if_neg (by decide +kernel)]
      · rw [if_neg (by omega)]
    · -- the second field may not be: each put into it is refused
      rw [Mask_no h', L]
      obtain ⟨a, n, rfl, rfl, h1, h2⟩ := fieldP_nat h
      rw [Mask_yes h1 h2]
      simp only [Option.bind_some]
      rw [show (0 : Int) = ((0 : Nat) : Int) from rfl, and64 _ _ (maskN_lt h2) (by decide), Nat.and_zero, if_pos rfl, Put_no (w := (w : Int)) h']
      rcases Nat.lt_or_ge v (2 ^ n) with h3 | h3
      · rw [Put_yes hw h1 h2 h3]
        simp only [Option.bind_some]
        rw [Put_no h', show (0 : Int) = ((0 : Nat) : Int) from rfl, Put_yes (by decide) h1 h2 h3]
        simp only [Option.bind_some, num_eq]
        rw [if_neg (by decide +kernel)]
      · rw [Put_big hv h1 h2 h3]
        simp only [Option.bind_some]
        rw [Put_no h', Put_big hv h1 h2 h3]
        simp only [Option.bind_some, num_eq]
        rw [if_neg (by decide +kernel)]
  · rw [Mask_no h, L, Put_no (w := (w : Int)) h]
    by_cases h' : fieldP b m
    · obtain ⟨b, m, rfl, rfl, g1, g2⟩ := fieldP_nat h'
      rw [Mask_yes g1 g2]
      simp only [Option.bind_some]
      rw [show (0 : Int) = ((0 : Nat) : Int) from rfl, and64 _ _ (by decide) (maskN_lt g2), Nat.zero_and, if_pos rfl]
      rcases Nat.lt_or_ge u (2 ^ m) with g3 | g3
      · rw [Put_yes hw g1 g2 g3, Put_yes (by decide) g1 g2 g3]
        simp only [Option.bind_some]
        rw [Put_no h]
        simp only [Option.bind_some, num_eq]
        rw [if_neg (by decide +kernel)]
      · rw [Put_big hu g1 g2 g3, Put_big hu g1 g2 g3]
        simp only [Option.bind_some]
        rw [Put_no h]
        simp only [Option.bind_some, num_eq]
        rw [if_neg (by decide +kernel)]
    · rw [Mask_no h', Put_no (w := (w : Int)) h']
      simp only [Option.bind_some]
      rw [show (0 : Int) = ((0 : Nat) : Int) from rfl, and64 _ _ (by decide) (by decide), Nat.zero_and, if_pos rfl, Put_no h, Put_no h']
      simp only [Option.bind_some, num_eq]
      rw [if_neg (by decide +kernel)]
end Go.Proofs.YthmedgennlcigaaDoor.Pure
