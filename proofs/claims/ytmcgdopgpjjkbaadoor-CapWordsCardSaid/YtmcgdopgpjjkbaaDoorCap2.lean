/- What the reference takes for a capability. No walk. -/
import Derived.Test.YtmcgdopgpjjkbaaDoorCap1
import Derived.Test.YtmcgdopgpjjkbaaDoorPx5
namespace Go.Proofs.YtmcgdopgpjjkbaaDoor.Plain
open Go Go.RowKit Go.Proofs.YtmcgdopgpjjkbaaDoorW.PrintWords Go.Proofs.YtmcgdopgpjjkbaaDoorW.PrintLast Go.Proofs.YtmcgdopgpjjkbaaDoorW.PrintMore Go.Proofs.YtmcgdopgpjjkbaaDoor.P Go.Proofs.YtmcgdopgpjjkbaaDoor.Given

theorem ite_some {p q : Prop} [Decidable p] [Decidable q] {x : Option Bool} (h : p → x = some (decide q)) (hn : q → p) : (if p then x else some false) = some (decide q) := by
  by_cases hp : p
  · rw [if_pos hp, h hp]
  · rw [if_neg hp, decide_eq_false (fun hq => hp (hn hq))]
theorem chain (t r b o g m : Int) :
    (if t ≥ 1 then (if t ≤ 5 then (if rightsB r = true then (if b ≥ 0 then (if b ≤ m then (if o ≥ 0 then (if o ≤ 1023 then (if g ≥ 0 then (some (decide (g ≤ 4095))) else (some false)) else (some false)) else (some false)) else (some false)) else (some false)) else (some false)) else (some false)) else (some false)) =
    some (decide (1 ≤ t ∧ t ≤ 5 ∧ 0 ≤ r ∧ r ≤ 15 ∧ 0 ≤ b ∧ b ≤ m ∧ 0 ≤ o ∧ o ≤ 1023 ∧ 0 ≤ g ∧ g ≤ 4095)) := by
  refine ite_some (fun h1 => ite_some (fun h2 => ite_some (fun h3 => ite_some (fun h4 => ite_some (fun h5 => ite_some (fun h6 => ite_some (fun h7 => ite_some (fun h8 => ?_) ?_) ?_) ?_) ?_) ?_) ?_) ?_) ?_
  · unfold rightsB at h3
    rw [decide_eq_true_eq] at h3
    congr 1
    apply decide_eq_decide.2
    constructor
    · intro h; exact ⟨h1, h2, h3.1, h3.2, h4, h5, h6, h7, h8, h⟩
    · intro h; exact h.2.2.2.2.2.2.2.2.2
  · intro h; omega
  · intro h; omega
  · intro h; omega
  · intro h; omega
  · intro h; omega
  · intro h; unfold rightsB; exact decide_eq_true ⟨h.2.2.1, h.2.2.2.1⟩
  · intro h; omega
  · intro h; omega
theorem refIs_eq (t r b o g : Int) : garrisonref03_Is.f t r b o g = some (capOk t r b o g) := by
  unfold garrisonref03_Is.f
  simp only [refRights_eq, Option.bind_some, chain]
  by_cases hz : t = 0 ∧ r = 0 ∧ b = 0 ∧ o = 0 ∧ g = 0
  · rw [five_eq, decide_eq_true hz, if_pos rfl, (capOk_iff t r b o g).2 (.inl hz)]
  · rw [five_eq, decide_eq_false hz, if_neg (by decide)]
    have hk : capOk t r b o g = decide (1 ≤ t ∧ t ≤ 5 ∧ 0 ≤ r ∧ r ≤ 15 ∧ 0 ≤ b ∧ b ≤ capBadges t ∧ 0 ≤ o ∧ o ≤ 1023 ∧ 0 ≤ g ∧ g ≤ 4095) := by
      rw [Bool.eq_iff_iff, capOk_iff, decide_eq_true_eq]
      exact ⟨fun h => h.resolve_left hz, .inr⟩
    rw [hk]
    by_cases h2 : t = 2
    · have e : capBadges t = 7 := by unfold capBadges; rw [if_pos h2]
      rw [if_pos h2, if_neg (by omega), if_neg (by omega), e]
    · rw [if_neg h2]
      by_cases h4 : t = 4
      · have e : capBadges t = 65535 := by unfold capBadges; rw [if_neg h2, if_pos (.inl h4)]
        rw [if_pos h4, e]
      · rw [if_neg h4]
        by_cases h5 : t = 5
        · have e : capBadges t = 65535 := by unfold capBadges; rw [if_neg h2, if_pos (.inr h5)]
          rw [if_pos h5, e]
        · have e : capBadges t = 0 := by unfold capBadges; rw [if_neg h2, if_neg (by omega)]
          rw [if_neg h5, e]
end Go.Proofs.YtmcgdopgpjjkbaaDoor.Plain
