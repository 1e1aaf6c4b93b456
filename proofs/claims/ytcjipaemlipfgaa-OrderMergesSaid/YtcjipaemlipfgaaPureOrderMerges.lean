/- OrderMerges: two lists, each sorted and then merged, are both sorted at once; merged with itself a list stays. -/
import Derived.Test.YtcjipaemlipfgaaOrd2
import Derived.Test.YtcjipaemlipfgaaPx11
namespace Go.Proofs.Ytcjipaemlipfgaa.Pure
open Go.RowKit Go.Proofs.Ytcjipaemlipfgaa.P Go.Proofs.Ytcjipaemlipfgaa.Ord Go.Proofs.Ytcjipaemlipfgaa.Given

/-- What the sort answers. -/
def sortB (l : List S23) : List S23 × Int := if l.all okK = true then (sortU l, 0) else ([], 2)
theorem osortB_f (l : List S23) (h : l.length ≤ 1000) : order_Sort.f l = some (sortB l) := by unfold order_Sort.f sortB; rw [if_pos h]
theorem omergeB_f (l m : List S23) (h : l.length ≤ 1000) (h' : m.length ≤ 1000) : order_Merge.f l m = some (sortU (l ++ m)) := by unfold order_Merge.f; rw [if_pos ⟨h, h'⟩]
theorem OrderMerges : garrisonlaw06_OrderMerges.Pure := by
  intro l m hl0 _ hm0 _
  refine ⟨1000, ?_⟩
  have ht : garrisonlaw06_OrderMerges.j0 1000 l m true = some true := by simp only [garrisonlaw06_OrderMerges.j0, live_f, Option.bind_some, if_true]
  unfold garrisonlaw06_OrderMerges.f
  by_cases hl : (l.length : Int) > 100
  · rw [if_pos hl]
    exact ht
  · rw [if_neg hl]
    by_cases hm : (m.length : Int) > 100
    · rw [decide_eq_true hm]
      exact ht
    · rw [decide_eq_false hm]
      simp only [garrisonlaw06_OrderMerges.j0, Option.bind_some, List.nil_append, List.length_nil]
      rw [if_neg (by decide), osortB_f l (by omega), osortB_f m (by omega), osortB_f (l ++ m) (by rw [List.length_append]; omega)]
      simp only [Option.bind_some, num_f, live_f]
      rw [if_pos (by omega), if_pos (by omega)]
      have hl1 := length_sortU l
      have hm1 := length_sortU m
      have hlm := length_sortU (l ++ m)
      rw [List.length_append] at hlm
      have w0 : wrap64 (0 + 0) = 0 := w64 (by omega) (by omega)
      have w1 : wrap64 (0 + 2) = 2 := w64 (by omega) (by omega)
      have w2 : wrap64 (2 + 0) = 2 := w64 (by omega) (by omega)
      have w3 : wrap64 (2 + 2) = 4 := w64 (by omega) (by omega)
      unfold sortB
      rw [List.all_append]
      by_cases h1 : l.all okK = true
      · by_cases h2 : m.all okK = true
        · simp only [h1, h2, Bool.and_self, if_true, w0]
          rw [omergeB_f _ _ (by omega) (by omega), omergeB_f _ _ (by omega) (by omega), omergeB_f _ _ (by omega) (by omega)]
          have e1 : sortU (sortU l ++ sortU m) = sortU (l ++ m) := up_unique _ _ (up_sortU _) (up_sortU _) (fun x => by simp only [mem_sortU, List.mem_append])
          have e2 : sortU (sortU m ++ sortU l) = sortU (l ++ m) := up_unique _ _ (up_sortU _) (up_sortU _) (fun x => by simp only [mem_sortU, List.mem_append]; exact or_comm)
          have e3 : sortU (sortU l ++ sortU l) = sortU l := up_unique _ _ (up_sortU _) (up_sortU _) (fun x => by simp only [mem_sortU, List.mem_append, or_self])
          simp only [Option.bind_some, e1, e2, e3]
          rw [same_f _ _ (by omega) (by omega), same_f _ _ (by omega) (by omega)]
          simp only [Option.bind_some, if_true]
        · simp only [h1, h2, Bool.false_eq_true, if_true, if_false, Bool.and_false, w1]
          simp
      · by_cases h2 : m.all okK = true
        · simp only [h1, h2, Bool.false_eq_true, if_true, if_false, Bool.false_and, w2]
          simp
        · simp only [h1, h2, Bool.false_eq_true, if_true, if_false, Bool.and_false, w3]
          simp
end Go.Proofs.Ytcjipaemlipfgaa.Pure
