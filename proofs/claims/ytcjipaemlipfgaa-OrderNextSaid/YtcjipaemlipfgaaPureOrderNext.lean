/- OrderNext: an object's key is ahead of its slots', these rise, and all are ahead of the next object's. -/
import Derived.Test.YtcjipaemlipfgaaOrd2
import Derived.Test.YtcjipaemlipfgaaPx12
namespace Go.Proofs.Ytcjipaemlipfgaa.Pure
open Go.RowKit Go.Proofs.Ytcjipaemlipfgaa.P Go.Proofs.Ytcjipaemlipfgaa.Ord Go.Proofs.Ytcjipaemlipfgaa.Given

theorem next_j0 (a b : Int) (h : okK ⟨a, b⟩ = true) (hb : 0 ≤ b) : garrisonlaw06_OrderNext.j0 5 a b false a b = some true := by
  have h' := (okK_iff a b).1 h
  have hk : okK ⟨a, -1⟩ = true := (okK_iff _ _).2 (by omega)
  have l1 : ltB ⟨a, -1⟩ ⟨a, b⟩ = true := decide_eq_true (.inr ⟨rfl, (by show (-1 : Int) < b; omega)⟩)
  have l2 : ltB ⟨a, b⟩ ⟨a + 1, -1⟩ = true := decide_eq_true (.inl (by show a < a + 1; omega))
  have w1 : wrap64 (a + 1) = a + 1 := w64 (by omega) (by omega)
  have w2 : wrap64 (b + 1) = b + 1 := w64 (by omega) (by omega)
  have w3 : wrap64 (8 - b) = 8 - b := w64 (by omega) (by omega)
  simp only [garrisonlaw06_OrderNext.j0, garrisonlaw06_OrderNext.j1, key_f, Option.bind_some, num_f, live_f, ocell_f, check_f', w1, w2, w3]
  rw [oless_f' 4 (by omega), oless_f' 3 (by omega), l1, l2]
  simp only [Option.bind_some, Bool.false_eq_true, if_false, if_true]
  have c1 : cellK a b = 9 * a + b + 1 := by unfold cellK; rw [if_pos h]
  have c2 : cellK a (-1) = 9 * a + -1 + 1 := by unfold cellK; rw [if_pos hk]
  have w4 : wrap64 (cellK a b - cellK a (-1)) = b + 1 := by rw [c1, c2, w64 (by omega) (by omega)]; omega
  rw [w4]
  simp only [bne_self_eq_false, Bool.false_eq_true, if_false]
  by_cases hn : okK ⟨a + 1, -1⟩ = true
  · have hn' := (okK_iff _ _).1 hn
    have c3 : cellK (a + 1) (-1) = 9 * (a + 1) + -1 + 1 := by unfold cellK; rw [if_pos hn]
    have w5 : wrap64 (cellK (a + 1) (-1) - cellK a b) = 8 - b := by rw [c1, c3, w64 (by omega) (by omega)]; omega
    rw [if_pos hn, if_pos rfl, w5, if_pos rfl]
  · rw [if_neg hn, if_neg (by decide)]
theorem OrderNext : garrisonlaw06_OrderNext.Pure := by
  intro a b _ _
  refine ⟨5, ?_⟩
  unfold garrisonlaw06_OrderNext.f
  simp only [key_f, Option.bind_some, check_f', num_f]
  have ht : garrisonlaw06_OrderNext.j0 5 a b true a b = some true := by simp only [garrisonlaw06_OrderNext.j0, live_f, Option.bind_some, if_true]
  by_cases h : okK ⟨a, b⟩ = true
  · rw [if_pos h, if_pos rfl]
    by_cases hb : b < 0
    · rw [decide_eq_true hb]
      exact ht
    · rw [decide_eq_false hb]
      exact next_j0 a b h (by omega)
  · rw [if_neg h, if_neg (by decide)]
    exact ht
end Go.Proofs.Ytcjipaemlipfgaa.Pure
