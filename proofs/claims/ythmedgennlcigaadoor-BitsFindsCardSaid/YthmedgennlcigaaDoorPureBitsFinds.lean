/- BitsFinds is true at every word, every place: no condition. -/
import Derived.Test.YthmedgennlcigaaDoorBits6
namespace Go.Proofs.YthmedgennlcigaaDoor.Pure
open Go Go.RowKit Go.Proofs.YthmedgennlcigaaDoorW.PrintWords Go.Proofs.YthmedgennlcigaaDoorW.PrintLast Go.Proofs.YthmedgennlcigaaDoorW.PrintMore Go.Proofs.YthmedgennlcigaaDoor.P Go.Proofs.YthmedgennlcigaaDoor.Given Go.Proofs.YthmedgennlcigaaDoor.Plain

theorem BitsFinds : garrisonlaw01_BitsFinds.Pure := by
  intro w a hW _
  obtain ⟨w, rfl, hw⟩ := wf_u64 hW
  refine ⟨140, ?_⟩
  unfold garrisonlaw01_BitsFinds.f bits_Low.f
  obtain ⟨r, h1, h2⟩ := refNext_eq w hw 0 (k := 140) (by decide)
  obtain ⟨r', g1, g2⟩ := refNext_eq w hw a (k := 140) (by decide)
  obtain ⟨u, p1, p2⟩ := High_eq w hw
  obtain ⟨u', q1, q2⟩ := refHigh_eq w hw (k := 140) (by decide)
  have e1 := h2.unique (next_is w hw 0)
  have e2 := g2.unique (next_is w hw a)
  have e3 := q2.unique p2
  have L : garrisonlaw01_live.f 140 = some true := live_ok (by decide)
  rw [Next_eq w hw 0, Next_eq w hw a, h1, g1, p1, q1, Count_eq w hw, refCount_eq w hw (by decide), e1, e2, e3, L]
  generalize ((pc 64 w : Nat) : Int) = c
  simp
end Go.Proofs.YthmedgennlcigaaDoor.Pure
