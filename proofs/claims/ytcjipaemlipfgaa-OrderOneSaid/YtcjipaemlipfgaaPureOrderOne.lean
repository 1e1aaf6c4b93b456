/- OrderOne: of two unlike keys one is less, never both; what is less than less is less; keys rise as their cells do. -/
import Derived.Test.YtcjipaemlipfgaaOrd2
import Derived.Test.YtcjipaemlipfgaaPx8
namespace Go.Proofs.Ytcjipaemlipfgaa.Pure
open Go.RowKit Go.Proofs.Ytcjipaemlipfgaa.P Go.Proofs.Ytcjipaemlipfgaa.Ord Go.Proofs.Ytcjipaemlipfgaa.Given

theorem one_j1 (a0 a1 b0 b1 : Int) : garrisonlaw06_OrderOne.j1 4 false a0 a1 b0 b1 = some true := by
  simp only [garrisonlaw06_OrderOne.j1]
  rw [ocell_f, ocell_f, oless_f' 3 (by omega)]
  simp only [Option.bind_some, live_f, Bool.false_eq_true, if_false]
  by_cases ha : cellK a0 a1 < 0
  · rw [if_pos ha]
  · rw [if_neg ha]
    by_cases hb : cellK b0 b1 < 0
    · rw [if_pos hb]
    · rw [if_neg hb, if_pos]
      unfold cellK at *
      by_cases h1 : okK ⟨a0, a1⟩ = true
      · by_cases h2 : okK ⟨b0, b1⟩ = true
        · rw [if_pos h1] at ha ⊢
          rw [if_pos h2] at hb ⊢
          rw [okK_iff] at h1 h2
          rw [beq_iff_eq]
          unfold ltB
          rw [decide_eq_decide]
          simp only
          omega
        · rw [if_neg h2] at hb
          omega
      · rw [if_neg h1] at ha
        omega
theorem one_j0 (a0 a1 b0 b1 c0 c1 : Int) : garrisonlaw06_OrderOne.j0 5 false a0 a1 b0 b1 c0 c1 = some true := by
  simp only [garrisonlaw06_OrderOne.j0]
  rw [oless_f' 4 (by omega), oless_f' 4 (by omega), oless_f' 4 (by omega)]
  simp only [Option.bind_some, Bool.false_eq_true, if_false]
  by_cases h1 : ltB ⟨a0, a1⟩ ⟨b0, b1⟩ = true
  · rw [if_pos h1]
    by_cases h2 : ltB ⟨b0, b1⟩ ⟨c0, c1⟩ = true
    · rw [if_pos h2, ltB_trans h1 h2]
      exact one_j1 _ _ _ _
    · rw [if_neg h2]
      exact one_j1 _ _ _ _
  · rw [if_neg h1]
    exact one_j1 _ _ _ _
theorem OrderOne : garrisonlaw06_OrderOne.Pure := by
  intro a0 a1 b0 b1 c0 c1 _ _ _
  refine ⟨5, ?_⟩
  unfold garrisonlaw06_OrderOne.f
  rw [oless_f' 5 (by omega), oless_f' 5 (by omega)]
  simp only [Option.bind_some]
  have he : (a0 == b0 && (a1 == b1)) = eqB ⟨a0, a1⟩ ⟨b0, b1⟩ := rfl
  rw [he]
  by_cases h1 : ltB ⟨a0, a1⟩ ⟨b0, b1⟩ = true
  · rw [if_pos h1, if_pos h1, ltB_asymm h1]
    have hne : eqB ⟨a0, a1⟩ ⟨b0, b1⟩ = false := eqB_false.2 (fun e => by rw [e, ltB_irrefl] at h1; cases h1)
    rw [hne, if_neg (by decide)]
    exact one_j0 _ _ _ _ _ _
  · rw [if_neg h1, if_neg h1]
    rw [Bool.not_eq_true] at h1
    have h2 : (eqB ⟨a0, a1⟩ ⟨b0, b1⟩ == ltB ⟨b0, b1⟩ ⟨a0, a1⟩) = false := by
      cases he2 : eqB (⟨a0, a1⟩ : S23) ⟨b0, b1⟩ with
      | true => rw [eqB_iff] at he2; rw [he2, ltB_irrefl]; rfl
      | false => rw [ltB_total h1 (eqB_false.1 he2)]; rfl
    rw [h2, if_neg (by decide)]
    exact one_j0 _ _ _ _ _ _
end Go.Proofs.Ytcjipaemlipfgaa.Pure
