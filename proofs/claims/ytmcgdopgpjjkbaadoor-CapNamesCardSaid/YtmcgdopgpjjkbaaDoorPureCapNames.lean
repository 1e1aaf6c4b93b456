/- CapNames: naming is told by type, object and generation alone. -/
import Derived.Test.YtmcgdopgpjjkbaaDoorCap4
import Derived.Test.YtmcgdopgpjjkbaaDoorPx13
namespace Go.Proofs.YtmcgdopgpjjkbaaDoor.Pure
open Go.RowKit Go.Proofs.YtmcgdopgpjjkbaaDoor.P Go.Proofs.YtmcgdopgpjjkbaaDoor.Plain Go.Proofs.YtmcgdopgpjjkbaaDoor.Given

theorem names_symm (t r b o g t' r' b' o' g' : Int) : cap_Names.b t r b o g t' r' b' o' g' = cap_Names.b t' r' b' o' g' t r b o g := by
  rw [Bool.eq_iff_iff, names_iff, names_iff]
  constructor
  · rintro ⟨h1, h2, h3, h4, h5⟩; exact ⟨h2, h1, h3.symm, h4.symm, h5.symm⟩
  · rintro ⟨h1, h2, h3, h4, h5⟩; exact ⟨h2, h1, h3.symm, h4.symm, h5.symm⟩
theorem names_zero (t r b o g : Int) : cap_Names.b t r b o g 0 0 0 0 0 = false := by
  rw [← Bool.not_eq_true, names_iff]
  exact fun h => h.2.1 ⟨rfl, rfl, rfl, rfl, rfl⟩
theorem may_zero : cap_May.f 0 0 0 0 0 0 = some false := by
  rw [May_f _ _ _ _ _ _ (by decide) (by decide) (by decide) (by decide)]
  rfl
theorem CapNames : garrisonlaw03_CapNames.Pure := by
  intro t r b o g t' r' b' o' g' r2 b2 _ _ _ _
  refine ⟨3, ?_⟩
  unfold garrisonlaw03_CapNames.f
  rw [Names_f, Names_f, names_symm t' r' b' o' g' t r b o g, Names_f, names_zero, may_zero]
  simp only [Option.bind_some, bne_self_eq_false, Bool.false_eq_true, if_false, garrisonlaw03_CapNames.j0, live_f, five_eq, decide_eq_true_eq]
  by_cases h1 : t = 0 ∧ r = 0 ∧ b = 0 ∧ o = 0 ∧ g = 0
  · rw [if_pos h1]
  · rw [if_neg h1]
    by_cases h2 : t = 0 ∧ r2 = 0 ∧ b2 = 0 ∧ o = 0 ∧ g = 0
    · rw [if_pos h2]
    · rw [if_neg h2]
      have e1 : cap_Names.b t r b o g t r2 b2 o g = true := (names_iff _ _ _ _ _ _ _ _ _ _).2 ⟨h1, h2, rfl, rfl, rfl⟩
      have e2 : cap_Names.b t r2 b2 o g t' r' b' o' g' = cap_Names.b t r b o g t' r' b' o' g' := by
        rw [Bool.eq_iff_iff, names_iff, names_iff]
        exact ⟨fun h => ⟨h1, h.2⟩, fun h => ⟨h2, h.2⟩⟩
      rw [Names_f, e1, Names_f, e2, Names_f]
      simp
end Go.Proofs.YtmcgdopgpjjkbaaDoor.Pure
