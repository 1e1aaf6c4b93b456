/- BitsFields is true at every word, every field, every value: no condition. -/
import Derived.Test.YthmedgennlcigaaDoorBits4
import Derived.Test.YthmedgennlcigaaDoorPx3
namespace Go.Proofs.YthmedgennlcigaaDoor.Pure
open Go Go.RowKit Go.Proofs.YthmedgennlcigaaDoorW.PrintWords Go.Proofs.YthmedgennlcigaaDoorW.PrintLast Go.Proofs.YthmedgennlcigaaDoorW.PrintMore Go.Proofs.YthmedgennlcigaaDoor.P Go.Proofs.YthmedgennlcigaaDoor.Given Go.Proofs.YthmedgennlcigaaDoor.Plain

theorem BitsFields : garrisonlaw01_BitsFields.Pure := by
  intro w a n v hW _ _ hV
  obtain ⟨w, rfl, hw⟩ := wf_u64 hW
  obtain ⟨v, rfl, hv⟩ := wf_u64 hV
  refine ⟨140, ?_⟩
  unfold garrisonlaw01_BitsFields.f
  by_cases h : fieldP a n
  · obtain ⟨a, n, rfl, rfl, h1, h2⟩ := fieldP_nat h
    rw [Get_yes hw h1 h2, refGet_yes hw h1 h2 (by decide), Mask_yes h1 h2, refMask_yes h1 h2 (by decide), live_ok (by decide)]
    rcases Nat.lt_or_ge v (2 ^ n) with h3 | h3
    · rw [Put_yes hw h1 h2 h3, refPut_yes hw h1 h2 h3 (by decide)]
      simp [num_eq]
    · rw [Put_big hv h1 h2 h3, refPut_big hv h1 h2 h3 (by decide)]
      simp [num_eq]
  · rw [Get_no h, refGet_no h, Mask_no h, refMask_no h, live_ok (by decide), Put_no h, refPut_no h]
    simp [num_eq]
end Go.Proofs.YthmedgennlcigaaDoor.Pure
