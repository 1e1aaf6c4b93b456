/- BitsTexts is true at every word, every text: no condition. -/
import Derived.Test.YthmedgennlcigaaDoorBits5
namespace Go.Proofs.YthmedgennlcigaaDoor.Pure
open Go Go.RowKit Go.Proofs.YthmedgennlcigaaDoorW.PrintWords Go.Proofs.YthmedgennlcigaaDoorW.PrintLast Go.Proofs.YthmedgennlcigaaDoorW.PrintMore Go.Proofs.YthmedgennlcigaaDoor.P Go.Proofs.YthmedgennlcigaaDoor.Given Go.Proofs.YthmedgennlcigaaDoor.Plain

theorem BitsTexts : garrisonlaw01_BitsTexts.Pure := by
  intro w s hW _
  obtain ⟨w, rfl, hw⟩ := wf_u64 hW
  refine ⟨140, ?_⟩
  unfold garrisonlaw01_BitsTexts.f bits_Text.f garrisonref01_Text.f
  obtain ⟨r, h1, h2⟩ := both_Parse s (k := 140) (by decide)
  have L : garrisonlaw01_live.f 140 = some true := live_ok (by decide)
  have c1 : (0 : Int) ≤ (w : Int) := by omega
  have c2 : (w : Int) < 18446744073709551616 := by omega
  rw [h1, h2, if_pos c1, if_pos c2, L]
  simp [num_eq]
end Go.Proofs.YthmedgennlcigaaDoor.Pure
