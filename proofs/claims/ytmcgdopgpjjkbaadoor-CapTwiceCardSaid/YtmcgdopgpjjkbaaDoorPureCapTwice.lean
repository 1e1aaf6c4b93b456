/- CapTwice: a derivation of a derivation is one derivation. -/
import Derived.Test.YtmcgdopgpjjkbaaDoorCap4
import Derived.Test.YtmcgdopgpjjkbaaDoorPx15
namespace Go.Proofs.YtmcgdopgpjjkbaaDoor.Pure
open Go.RowKit Go.Proofs.YtmcgdopgpjjkbaaDoor.P Go.Proofs.YtmcgdopgpjjkbaaDoor.Plain Go.Proofs.YtmcgdopgpjjkbaaDoor.Given

theorem CapTwice : garrisonlaw03_CapTwice.Pure := by
  intro t r b o g a1 a2 d ht ha1 ha2 _
  obtain ⟨x0, x1⟩ := wf_i64 ha1
  obtain ⟨y0, y1⟩ := wf_i64 ha2
  obtain ⟨_, ⟨r0, r1⟩, _⟩ := wf23 ht
  unfold garrisonlaw03_CapTwice.f
  rw [Derive_f t r b o g a1 0 x0 x1 r0 r1, Option.bind_some]
  rcases derive_cases t r b o g a1 0 with ⟨e, he, hc⟩ | ⟨h1, h2, b', he, hk, _, hb⟩
  · rw [he]
    simp only
    rw [Derive_f 0 0 0 0 0 a2 d y0 y1 (by decide) (by decide), Option.bind_some, num_f, num_f, Option.bind_some, Option.bind_some]
    have e30 : deriveC 0 0 0 0 0 a2 d = (0, 0, 0, 0, 0, 30) := by
      unfold deriveC
      rw [if_neg (by decide)]
    rw [e30]
    simp only
    rw [if_neg (by unfold wrap64; omega)]
    rfl
  · obtain rfl := hb rfl
    rw [he]
    simp only
    rw [Derive_f t a1 b' o g a2 d y0 y1 x0 x1, Option.bind_some, num_f, num_f, Option.bind_some, Option.bind_some]
    rcases derive_cases t a1 b' o g a2 d with ⟨e, he2, hc⟩ | ⟨h3, h4, b2, he2, _⟩
    · rw [he2]
      simp only
      rw [if_neg (by unfold wrap64; omega)]
      rfl
    · have e3 : deriveC t r b' o g a2 d = deriveC t a1 b' o g a2 d := by
        unfold deriveC
        rw [if_pos h1, if_pos h3, if_pos h4, if_pos (within_trans h4 h2)]
      rw [Derive_f t r b' o g a2 d y0 y1 r0 r1, e3, he2, live_f]
      have w0 : wrap64 (0 + 0) = 0 := by unfold wrap64; omega
      simp [num_f, w0]
end Go.Proofs.YtmcgdopgpjjkbaaDoor.Pure
