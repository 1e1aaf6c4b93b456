/- OrderCells: a key has a cell of its own, from which it is told; each cell below 9216 is one's. -/
import Derived.Test.YtcjipaemlipfgaaOrd2
import Derived.Test.YtcjipaemlipfgaaPx9
namespace Go.Proofs.Ytcjipaemlipfgaa.Pure
open Go.RowKit Go.Proofs.Ytcjipaemlipfgaa.P Go.Proofs.Ytcjipaemlipfgaa.Ord Go.Proofs.Ytcjipaemlipfgaa.Given

theorem cells_j0 (c : Int) (h1 : -9223372036854775808 ≤ c) (h2 : c ≤ 9223372036854775807) : garrisonlaw06_OrderCells.j0 5 c = some true := by
  simp only [garrisonlaw06_OrderCells.j0, garrisonlaw06_OrderCells.j1]
  rw [okey_f c h1 h2]
  simp only [Option.bind_some, num_f, live_f]
  by_cases h : 0 ≤ c ∧ c < 9216
  · have hc : cellK (c / 9) (c % 9 - 1) = c := by
      unfold cellK
      rw [if_pos ((okK_iff _ _).2 (by omega))]
      omega
    rw [if_pos h, if_neg (by omega), decide_eq_false (by omega)]
    simp only [Bool.false_eq_true, if_false, if_true]
    rw [ocell_f, hc]
    simp only [Option.bind_some, if_true]
  · rw [if_neg h]
    by_cases h' : c < 0
    · rw [if_pos h']
      simp only [if_true]
    · rw [if_neg h', decide_eq_true (by omega)]
      simp only [if_true]
theorem OrderCells : garrisonlaw06_OrderCells.Pure := by
  intro a0 a1 c _ hc
  obtain ⟨h1, h2⟩ := wf64 hc
  refine ⟨5, ?_⟩
  unfold garrisonlaw06_OrderCells.f
  rw [ocell_f, check_f', cells_j0 c h1 h2]
  simp only [Option.bind_some, num_f]
  unfold cellK
  by_cases h : okK ⟨a0, a1⟩ = true
  · rw [if_pos h, if_pos h, if_pos rfl]
    rw [okK_iff] at h
    rw [okey_f _ (by omega) (by omega)]
    simp only [Option.bind_some]
    have e1 : (9 * a0 + a1 + 1) / 9 = a0 := by omega
    have e2 : (9 * a0 + a1 + 1) % 9 - 1 = a1 := by omega
    have hin : 0 ≤ 9 * a0 + a1 + 1 ∧ 9 * a0 + a1 + 1 < 9216 := by omega
    rw [if_pos hin]
    simp only [e1, e2, beq_self_eq_true, Bool.not_true, Bool.or_self, Bool.false_eq_true, if_false, if_true]
    rw [if_neg (by omega), if_neg (by omega)]
  · rw [if_neg h, if_neg h, if_neg (by decide), if_pos rfl]
end Go.Proofs.Ytcjipaemlipfgaa.Pure
