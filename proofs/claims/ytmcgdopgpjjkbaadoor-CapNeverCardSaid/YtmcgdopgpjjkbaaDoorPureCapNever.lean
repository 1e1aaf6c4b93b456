/- CapNever: what is derived never gains. -/
import Derived.Test.YtmcgdopgpjjkbaaDoorCap4
import Derived.Test.YtmcgdopgpjjkbaaDoorPx12
namespace Go.Proofs.YtmcgdopgpjjkbaaDoor.Pure
open Go.RowKit Go.Proofs.YtmcgdopgpjjkbaaDoor.P Go.Proofs.YtmcgdopgpjjkbaaDoor.Plain Go.Proofs.YtmcgdopgpjjkbaaDoor.Given

theorem CapNever : garrisonlaw03_CapNever.Pure := by
  intro t r b o g a1 d1 a2 d2 ht ha1 _ ha2 _
  obtain ⟨x0, x1⟩ := wf_i64 ha1
  obtain ⟨y0, y1⟩ := wf_i64 ha2
  obtain ⟨_, ⟨r0, r1⟩, _⟩ := wf23 ht
  refine ⟨100, ?_⟩
  unfold garrisonlaw03_CapNever.f
  rw [Derive_f t r b o g a1 d1 x0 x1 r0 r1, Option.bind_some, num_f, Option.bind_some]
  rcases derive_cases t r b o g a1 d1 with ⟨e, he, hc⟩ | ⟨h1, h2, b', he, hk, hb, _⟩
  · rw [he]
    simp only
    rw [if_neg (by omega)]
    rfl
  · obtain ⟨hk0, h0⟩ := (one_iff t r b o g).1 h1
    rw [he]
    simp only [if_true]
    rw [Derive_f t a1 b' o g a2 d2 y0 y1 x0 x1, Option.bind_some, check_ok, hk]
    simp only [if_true, Option.bind_some, num_f]
    rw [Names_f, names_ok h0, refWithin_eq a1 r (by omega), h2]
    simp only [if_true, Option.bind_some]
    have hq : (if b = 0 then (garrisonlaw03_CapNever.j0 100 (deriveC t a1 b' o g a2 d2).2.2.2.2.2 false t r b o g t a1 b' o g (deriveC t a1 b' o g a2 d2).1 (deriveC t a1 b' o g a2 d2).2.1 (deriveC t a1 b' o g a2 d2).2.2.1 (deriveC t a1 b' o g a2 d2).2.2.2.1 (deriveC t a1 b' o g a2 d2).2.2.2.2.1) else (garrisonlaw03_CapNever.j0 100 (deriveC t a1 b' o g a2 d2).2.2.2.2.2 (b' != b) t r b o g t a1 b' o g (deriveC t a1 b' o g a2 d2).1 (deriveC t a1 b' o g a2 d2).2.1 (deriveC t a1 b' o g a2 d2).2.2.1 (deriveC t a1 b' o g a2 d2).2.2.2.1 (deriveC t a1 b' o g a2 d2).2.2.2.2.1)) = garrisonlaw03_CapNever.j0 100 (deriveC t a1 b' o g a2 d2).2.2.2.2.2 false t r b o g t a1 b' o g (deriveC t a1 b' o g a2 d2).1 (deriveC t a1 b' o g a2 d2).2.1 (deriveC t a1 b' o g a2 d2).2.2.1 (deriveC t a1 b' o g a2 d2).2.2.2.1 (deriveC t a1 b' o g a2 d2).2.2.2.2.1 := by
      by_cases hb0 : b = 0
      · rw [if_pos hb0]
      · rw [if_neg hb0, hb.resolve_left hb0, bne_self_eq_false]
    rw [hq, garrisonlaw03_CapNever.j0, if_neg Bool.false_ne_true, num_f, Option.bind_some]
    rcases derive_cases t a1 b' o g a2 d2 with ⟨e, he2, hc⟩ | ⟨h3, h4, b2, he2, hk2, _, _⟩
    · rw [he2]
      simp only
      rw [if_neg (by omega), live_f]
      rfl
    · rw [he2]
      simp only [if_true]
      rw [check_ok, hk2, Names_f, names_ok h0, refWithin_eq a2 a1 (by omega), h4, May_f t a2 b2 o g 15 (by decide) (by decide) y0 y1, May_f t r b o g 15 (by decide) (by decide) r0 r1, h1, live_f]
      simp only [if_true, Option.bind_some, num_f, Bool.true_and]
      by_cases h5 : (capOne t a2 b2 o g && withinB 15 a2) = true
      · rw [if_pos h5]
        have h6 := (Bool.and_eq_true_iff.1 h5).2
        rw [within_trans (within_trans h6 h4) h2]
        rfl
      · rw [if_neg h5]
end Go.Proofs.YtmcgdopgpjjkbaaDoor.Pure
