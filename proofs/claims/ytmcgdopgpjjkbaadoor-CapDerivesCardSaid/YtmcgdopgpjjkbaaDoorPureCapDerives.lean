/- CapDerives: what is derived, allowed and named alike is the reference's. -/
import Derived.Test.YtmcgdopgpjjkbaaDoorCap3
import Derived.Test.YtmcgdopgpjjkbaaDoorPx10
namespace Go.Proofs.YtmcgdopgpjjkbaaDoor.Pure
open Go.RowKit Go.Proofs.YtmcgdopgpjjkbaaDoor.P Go.Proofs.YtmcgdopgpjjkbaaDoor.Plain Go.Proofs.YtmcgdopgpjjkbaaDoor.Given

theorem CapDerives : garrisonlaw03_CapDerives.Pure := by
  intro t r b o g t' r' b' o' g' a d ht _ ha _
  obtain ⟨a0, a1⟩ := wf_i64 ha
  obtain ⟨_, ⟨r0, r1⟩, _⟩ := wf23 ht
  refine ⟨300, ?_⟩
  unfold garrisonlaw03_CapDerives.f
  rw [Derive_f t r b o g a d a0 a1 r0 r1, refDerive_eq t r b o g a d (by omega), May_f t r b o g a a0 a1 r0 r1, refMay_eq t r b o g a (by omega), refNames_eq]
  simp [num_f, live_f, Names_f]
end Go.Proofs.YtmcgdopgpjjkbaaDoor.Pure
