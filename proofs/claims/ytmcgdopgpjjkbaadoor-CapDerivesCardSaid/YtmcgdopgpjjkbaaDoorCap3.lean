/- The reference's derivations, names, what one may. No walk. -/
import Derived.Test.YtmcgdopgpjjkbaaDoorCap2
import Derived.Test.YtmcgdopgpjjkbaaDoorCap4
import Derived.Test.YtmcgdopgpjjkbaaDoorPx9
namespace Go.Proofs.YtmcgdopgpjjkbaaDoor.Plain
open Go Go.RowKit Go.Proofs.YtmcgdopgpjjkbaaDoorW.PrintWords Go.Proofs.YtmcgdopgpjjkbaaDoorW.PrintLast Go.Proofs.YtmcgdopgpjjkbaaDoorW.PrintMore Go.Proofs.YtmcgdopgpjjkbaaDoor.P Go.Proofs.YtmcgdopgpjjkbaaDoor.Given

theorem refMay_eq (t r b o g a : Int) {k : Nat} (hk : 10 < k) : garrisonref03_May.f k t r b o g a = some (capOne t r b o g && withinB a r) := by
  unfold garrisonref03_May.f
  rw [refIs_eq, Option.bind_some, refWithin_eq a r hk, Option.bind_some]
  by_cases h : capOk t r b o g = true
  · rw [if_pos h]
    by_cases h0 : t = 0
    · rw [if_pos h0]
      have : capOne t r b o g = false := by rw [← Bool.not_eq_true, one_iff]; exact fun hh => hh.2 h0
      rw [this, Bool.false_and]
    · rw [if_neg h0, (one_iff t r b o g).2 ⟨h, h0⟩, Bool.true_and]
  · rw [if_neg h]
    have : capOne t r b o g = false := by rw [← Bool.not_eq_true, one_iff]; exact fun hh => h hh.1
    rw [this, Bool.false_and]
theorem refNames_eq (t r b o g t' r' b' o' g' : Int) : garrisonref03_Names.f t r b o g t' r' b' o' g' = some (cap_Names.b t r b o g t' r' b' o' g') := by
  unfold garrisonref03_Names.f
  rw [five_ne, five_ne]
  have h := names_iff t r b o g t' r' b' o' g'
  have hn : ∀ p : Prop, (cap_Names.b t r b o g t' r' b' o' g' = true → p) → ¬ p → some false = some (cap_Names.b t r b o g t' r' b' o' g') := by
    intro p h1 h2
    cases hc : cap_Names.b t r b o g t' r' b' o' g' with
    | false => rfl
    | true => exact absurd (h1 hc) h2
  by_cases h1 : t = 0 ∧ r = 0 ∧ b = 0 ∧ o = 0 ∧ g = 0
  · rw [decide_eq_true h1, if_neg (by decide)]
    exact hn _ (fun hh => (h.1 hh).1) (fun q => q h1)
  · rw [decide_eq_false h1, if_pos (by decide)]
    by_cases h2 : t' = 0 ∧ r' = 0 ∧ b' = 0 ∧ o' = 0 ∧ g' = 0
    · rw [decide_eq_true h2, if_neg (by decide)]
      exact hn _ (fun hh => (h.1 hh).2.1) (fun q => q h2)
    · rw [decide_eq_false h2, if_pos (by decide)]
      by_cases h3 : t = t'
      · rw [if_pos h3]
        by_cases h4 : o = o'
        · rw [if_pos h4]
          congr 1
          rw [Bool.eq_iff_iff, h, beq_iff_eq]
          exact ⟨fun h5 => ⟨h1, h2, h3, h4, h5⟩, fun h5 => h5.2.2.2.2⟩
        · rw [if_neg h4]
          exact hn _ (fun hh => (h.1 hh).2.2.2.1) h4
      · rw [if_neg h3]
        exact hn _ (fun hh => (h.1 hh).2.2.1) h3
theorem j1_yes (k : Nat) (a d t r b o g : Int) : garrisonref03_Derive.j1 (k + 1) a d true t r b o g = some (0, 0, 0, 0, 0, 2) := rfl
theorem j1_no (k : Nat) (a d t r b o g : Int) (q : Bool) (hq : q = false) (hd : d ≠ 0) : garrisonref03_Derive.j1 (k + 1) a d q t r b o g = some (t, a, d, o, g, 0) := by
  rw [hq, garrisonref03_Derive.j1, if_neg Bool.false_ne_true, if_neg hd]
theorem badge_part (k : Nat) (t r b o g a d : Int) (e : capBadges t = 65535) (h2 : t ≠ 2) (hd : d ≠ 0) :
    (if b = 0 then (if d < 1 then (garrisonref03_Derive.j1 (k + 1) a d true t r b o g) else (garrisonref03_Derive.j1 (k + 1) a d (decide (d > 65535)) t r b o g)) else (garrisonref03_Derive.j1 (k + 1) a d true t r b o g)) = some (if t = 2 ∨ b ≠ 0 ∨ d < 0 ∨ capBadges t < d then (0, 0, 0, 0, 0, 2) else (t, a, d, o, g, 0)) := by
  rw [e]
  by_cases hb : b = 0
  · rw [if_pos hb]
    by_cases h1 : d < 1
    · rw [if_pos h1, j1_yes, if_pos (by omega)]
    · rw [if_neg h1]
      by_cases h6 : d > 65535
      · rw [decide_eq_true h6, j1_yes, if_pos (by omega)]
      · rw [j1_no _ _ _ _ _ _ _ _ _ (decide_eq_false h6) hd, if_neg (by omega)]
  · rw [if_neg hb, j1_yes, if_pos (by omega)]
theorem refDerive_eq (t r b o g a d : Int) {k : Nat} (hk : 20 < k) : garrisonref03_Derive.f k t r b o g a d = some (deriveC t r b o g a d) := by
  obtain ⟨k, rfl⟩ : ∃ m, k = m + 16 := ⟨k - 16, by omega⟩
  have hone := one_iff t r b o g
  unfold garrisonref03_Derive.f deriveC
  rw [refIs_eq, Option.bind_some]
  by_cases h : capOk t r b o g = true
  · rw [if_pos h]
    by_cases h0 : t = 0
    · rw [if_neg (fun hh => (hone.1 hh).2 h0), h0, show ((0 : Int) == 0) = true from rfl, garrisonref03_Derive.j0, if_pos rfl]
    · rw [if_pos (hone.2 ⟨h, h0⟩), beq_eq_false_iff_ne.2 h0, garrisonref03_Derive.j0, if_neg Bool.false_ne_true, refWithin_eq a r (by omega), Option.bind_some]
      by_cases hw : withinB a r = true
      · rw [if_pos hw, if_pos hw]
        by_cases hd : d = 0
        · rw [if_pos hd, if_pos hd, garrisonref03_Derive.j1, if_neg Bool.false_ne_true, if_pos hd]
        · rw [if_neg hd, if_neg hd]
          by_cases h4 : t = 4
          · rw [if_pos h4]
            exact badge_part _ t r b o g a d (by unfold capBadges; rw [if_neg (by omega), if_pos (.inl h4)]) (by omega) hd
          · rw [if_neg h4]
            by_cases h5 : t = 5
            · rw [if_pos h5]
              exact badge_part _ t r b o g a d (by unfold capBadges; rw [if_neg (by omega), if_pos (.inr h5)]) (by omega) hd
            · rw [if_neg h5, j1_yes]
              have e : t ≠ 2 → capBadges t = 0 := fun h2 => by unfold capBadges; rw [if_neg h2, if_neg (by omega)]
              rw [if_pos (by
                by_cases h2 : t = 2
                · exact .inl h2
                · have := e h2
                  exact .inr (.inr (by omega)))]
      · rw [if_neg hw, if_neg hw]
  · rw [if_neg h, if_neg (fun hh => h (hone.1 hh).1), garrisonref03_Derive.j0, if_pos rfl]
end Go.Proofs.YtmcgdopgpjjkbaaDoor.Plain
