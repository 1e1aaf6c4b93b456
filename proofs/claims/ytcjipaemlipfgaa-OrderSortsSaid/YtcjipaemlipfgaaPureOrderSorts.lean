/- OrderSorts: every keys, sorted, whether they rise, whether one is among them; two lists that rise, merged: the code's answers are the document's. -/
import Derived.Test.YtcjipaemlipfgaaOrd2
import Derived.Test.YtcjipaemlipfgaaPx7
namespace Go.Proofs.Ytcjipaemlipfgaa.Pure
open Go.RowKit Go.Proofs.Ytcjipaemlipfgaa.P Go.Proofs.Ytcjipaemlipfgaa.Ord Go.Proofs.Ytcjipaemlipfgaa.Given

/-- What both sorts answer. -/
def sortA (l : List S23) : List S23 × Int := if l.all okK = true then (sortU l, 0) else ([], 2)
theorem osort_f (l : List S23) (h : l.length ≤ 1000) : order_Sort.f l = some (sortA l) := by unfold order_Sort.f sortA; rw [if_pos h]
theorem rsort_f (l : List S23) (h : l.length ≤ 1000) : garrisonref06_Sort.f l = some (sortA l) := by unfold garrisonref06_Sort.f sortA; rw [if_pos h]
theorem omerge_f (l m : List S23) (h : l.length ≤ 1000) (h' : m.length ≤ 1000) : order_Merge.f l m = some (sortU (l ++ m)) := by unfold order_Merge.f; rw [if_pos ⟨h, h'⟩]
theorem rmerge_f (l m : List S23) (h : l.length ≤ 1000) (h' : m.length ≤ 1000) : garrisonref06_Merge.f l m = some (sortU (l ++ m)) := by unfold garrisonref06_Merge.f; rw [if_pos ⟨h, h'⟩]
theorem sortA_length (l : List S23) : (sortA l).1.length ≤ l.length := by
  unfold sortA
  split
  · exact length_sortU l
  · simp
theorem sorts_j2 (x y : List S23) (hx : x.length ≤ 100) (hy : y.length ≤ 100) (b : Bool) : garrisonlaw06_OrderSorts.j2 998 x y b = some true := by
  simp only [garrisonlaw06_OrderSorts.j2, live_f, Option.bind_some, List.nil_append, List.length_nil]
  cases b with
  | true => rfl
  | false =>
    have hl := length_sortU (x ++ y)
    rw [List.length_append] at hl
    rw [if_neg (by decide), if_pos (by omega), if_pos (by omega), omerge_f _ _ (by omega) (by omega), rmerge_f _ _ (by omega) (by omega)]
    simp only [Option.bind_some]
    rw [same_f _ _ (by omega) (by omega)]
    rfl
theorem sorts_j1 (x y : List S23) (e : Int) (hx : x.length ≤ 100) (hy : y.length ≤ 100) : garrisonlaw06_OrderSorts.j1 999 x y e false = some true := by
  simp only [garrisonlaw06_OrderSorts.j1]
  rw [rsort_f x (by omega)]
  simp only [Option.bind_some, Bool.false_eq_true, if_false]
  have hl := sortA_length x
  split
  · exact sorts_j2 _ _ (by omega) (by omega) _
  · exact sorts_j2 _ _ (by omega) (by omega) _
theorem OrderSorts : garrisonlaw06_OrderSorts.Pure := by
  intro l m a b hl0 _ hm0 _ _
  refine ⟨1000, ?_⟩
  have ht : garrisonlaw06_OrderSorts.j0 1000 l m true a b = some true := by simp only [garrisonlaw06_OrderSorts.j0, live_f, Option.bind_some, if_true]
  unfold garrisonlaw06_OrderSorts.f
  by_cases hl : (l.length : Int) > 100
  · rw [if_pos hl]
    exact ht
  · rw [if_neg hl]
    by_cases hm : (m.length : Int) > 100
    · rw [decide_eq_true hm]
      exact ht
    · rw [decide_eq_false hm]
      have hs := sortA_length l
      simp only [garrisonlaw06_OrderSorts.j0, List.nil_append, List.length_nil, Option.bind_some]
      rw [if_neg (by decide), if_pos (by omega), osort_f l (by omega), rsort_f l (by omega)]
      simp only [Option.bind_some, num_f]
      rw [same_f _ _ (by omega) (by omega), orising_f l (by omega) _ (by omega), rrising_f l (by omega) _ (by omega), ohas_f l a b (by omega) _ (by omega), rhas_f l a b (by omega) _ (by omega)]
      simp only [Option.bind_some, if_true, bne_self_eq_false, Bool.false_eq_true, if_false]
      exact sorts_j1 m _ _ (by omega) (by omega)
end Go.Proofs.Ytcjipaemlipfgaa.Pure
