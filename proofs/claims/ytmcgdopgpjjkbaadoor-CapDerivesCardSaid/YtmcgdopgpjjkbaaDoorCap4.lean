/- Derivations, names, what one may. No walk. -/
import Derived.Test.YtmcgdopgpjjkbaaDoorCap1
import Derived.Test.YtmcgdopgpjjkbaaDoorPx4
namespace Go.Proofs.YtmcgdopgpjjkbaaDoor.Plain
open Go Go.RowKit Go.Proofs.YtmcgdopgpjjkbaaDoorW.PrintWords Go.Proofs.YtmcgdopgpjjkbaaDoorW.PrintLast Go.Proofs.YtmcgdopgpjjkbaaDoorW.PrintMore Go.Proofs.YtmcgdopgpjjkbaaDoor.P Go.Proofs.YtmcgdopgpjjkbaaDoor.Given

theorem refWithin_eq (a b : Int) {k : Nat} (hk : 10 < k) : garrisonref02_Within.f k a b = some (withinB a b) := by
  obtain ⟨k, rfl⟩ : ∃ m, k = m + 8 := ⟨k - 8, by omega⟩
  unfold garrisonref02_Within.f
  rw [refRights_eq, refRights_eq]
  unfold withinB
  by_cases ha : rightsB a = true
  · by_cases hb : rightsB b = true
    · rw [ha, hb]
      simp only [Option.bind_some, if_true, Bool.not_true, Bool.true_and, garrisonref02_Within.j0, Bool.false_eq_true, if_false]
      have hx : ∀ a b : Fin 16, garrisonref02_Within.l0 7 (a.val : Int) (b.val : Int) 0 = some (Go.bits .andNot .i64 (a.val : Int) (b.val : Int) == 0) := by decide +kernel
      have hm : ∀ (k : Nat) (a b x : Int) (r : Bool) (n : Nat), garrisonref02_Within.l0 n a b x = some r → garrisonref02_Within.l0 (n + k) a b x = some r := by
        intro k a b x r n
        induction n generalizing x with
        | zero => intro h; simp [garrisonref02_Within.l0] at h
        | succ n ih =>
          rw [show n + 1 + k = (n + k) + 1 by omega, garrisonref02_Within.l0, garrisonref02_Within.l0]
          intro h
          by_cases h4 : x < 4
          · rw [if_pos h4] at h ⊢
            cases e1 : garrisonref02_Has.f a x with
            | none => rw [e1] at h; exact absurd h (by simp)
            | some t1 =>
              rw [e1, Option.bind_some] at h
              rw [Option.bind_some]
              by_cases ht : t1 = true
              · rw [if_pos ht] at h ⊢
                cases e2 : garrisonref02_Has.f b x with
                | none => rw [e2] at h; exact absurd h (by simp)
                | some t2 =>
                  rw [e2, Option.bind_some] at h
                  rw [Option.bind_some]
                  by_cases ht2 : t2 = true
                  · rw [if_pos ht2] at h ⊢
                    exact ih _ h
                  · rw [if_neg ht2] at h ⊢
                    exact h
              · rw [if_neg ht] at h ⊢
                exact ih _ h
          · rw [if_neg h4] at h ⊢
            exact h
      unfold rightsB at ha hb
      rw [decide_eq_true_eq] at ha hb
      obtain ⟨A, rfl⟩ := Int.eq_ofNat_of_zero_le ha.1
      obtain ⟨B, rfl⟩ := Int.eq_ofNat_of_zero_le hb.1
      have := hm k _ _ _ _ _ (hx ⟨A, by omega⟩ ⟨B, by omega⟩)
      rw [Nat.add_comm] at this
      rw [show k + 7 = k + 7 from rfl]
      exact this
    · rw [Bool.not_eq_true] at hb
      rw [ha, hb]
      simp [garrisonref02_Within.j0]
  · rw [Bool.not_eq_true] at ha
    rw [ha]
    simp [garrisonref02_Within.j0]
theorem May_f (t r b o g a : Int) (h0 : -9223372036854775808 ≤ a) (h1 : a ≤ 9223372036854775807) (h2 : -9223372036854775808 ≤ r) (h3 : r ≤ 9223372036854775807) : cap_May.f t r b o g a = some (capOne t r b o g && withinB a r) := by
  unfold cap_May.f
  rw [isOne_f, within_f a r h0 h1 h2 h3]
  cases capOne t r b o g <;> rfl
theorem one_iff (t r b o g : Int) : capOne t r b o g = true ↔ capOk t r b o g = true ∧ t ≠ 0 := by
  unfold capOne
  rw [Bool.and_eq_true, capOk_iff, zero_eq, Bool.not_eq_true', decide_eq_false_iff_not]
  constructor
  · rintro ⟨h1, h2 | h2⟩
    · exact absurd h2 h1
    · exact ⟨.inr h2, by omega⟩
  · rintro ⟨h1 | h1, h2⟩
    · exact absurd h1.1 h2
    · exact ⟨fun h => h2 h.1, .inr h1⟩
theorem Derive_f (t r b o g a d : Int) (h0 : -9223372036854775808 ≤ a) (h1 : a ≤ 9223372036854775807) (h2 : -9223372036854775808 ≤ r) (h3 : r ≤ 9223372036854775807) : cap_Derive.f t r b o g a d = some (deriveC t r b o g a d) := by
  unfold cap_Derive.f
  rw [if_pos ⟨⟨h0, h1⟩, h2, h3⟩]
theorem Names_f (t r b o g t' r' b' o' g' : Int) : cap_Names.f t r b o g t' r' b' o' g' = some (cap_Names.b t r b o g t' r' b' o' g') := rfl
theorem names_iff (t r b o g t' r' b' o' g' : Int) : cap_Names.b t r b o g t' r' b' o' g' = true ↔ ¬ (t = 0 ∧ r = 0 ∧ b = 0 ∧ o = 0 ∧ g = 0) ∧ ¬ (t' = 0 ∧ r' = 0 ∧ b' = 0 ∧ o' = 0 ∧ g' = 0) ∧ t = t' ∧ o = o' ∧ g = g' := by
  unfold cap_Names.b namesB
  rw [zero_eq, zero_eq]
  simp only [Bool.and_eq_true, Bool.not_eq_true', decide_eq_false_iff_not, beq_iff_eq]
theorem within_fin {a b : Int} (h : withinB a b = true) : ∃ x y : Fin 16, a = (x.val : Int) ∧ b = (y.val : Int) := by
  unfold withinB rightsB at h
  simp only [Bool.and_eq_true, decide_eq_true_eq] at h
  obtain ⟨A, rfl⟩ := Int.eq_ofNat_of_zero_le h.1.1
  obtain ⟨B, rfl⟩ := Int.eq_ofNat_of_zero_le h.2.1.1
  exact ⟨⟨A, by omega⟩, ⟨B, by omega⟩, rfl, rfl⟩
theorem within_trans {a b c : Int} (h1 : withinB a b = true) (h2 : withinB b c = true) : withinB a c = true := by
  have hx : ∀ x y z : Fin 16, withinB (x.val : Int) (y.val : Int) = true → withinB (y.val : Int) (z.val : Int) = true → withinB (x.val : Int) (z.val : Int) = true := by decide +kernel
  obtain ⟨x, y, rfl, rfl⟩ := within_fin h1
  obtain ⟨y', z, e, rfl⟩ := within_fin h2
  have e' : y = y' := Fin.ext (by omega)
  subst e'
  exact hx x y z h1 h2
theorem within_bounds {a b : Int} (h : withinB a b = true) : 0 ≤ a ∧ a ≤ 15 := by
  obtain ⟨x, _, rfl, _⟩ := within_fin h
  have := x.isLt
  omega
/-- The number that a derivation answers beside. -/
theorem derive_cases (t r b o g a d : Int) : (∃ e, deriveC t r b o g a d = (0, 0, 0, 0, 0, e) ∧ (e = 2 ∨ e = 20 ∨ e = 30)) ∨
    (capOne t r b o g = true ∧ withinB a r = true ∧ ∃ b', deriveC t r b o g a d = (t, a, b', o, g, 0) ∧ capOk t a b' o g = true ∧ (b = 0 ∨ b' = b) ∧ (d = 0 → b' = b)) := by
  unfold deriveC
  by_cases h1 : capOne t r b o g = true
  · rw [if_pos h1]
    obtain ⟨hk, h0⟩ := (one_iff t r b o g).1 h1
    have hk' := ((capOk_iff t r b o g).1 hk).resolve_left (fun h => h0 h.1)
    by_cases h2 : withinB a r = true
    · rw [if_pos h2]
      have ha := within_bounds h2
      by_cases h3 : d = 0
      · rw [if_pos h3]
        exact .inr ⟨h1, h2, b, rfl, (capOk_iff _ _ _ _ _).2 (.inr (by omega)), .inr rfl, fun _ => rfl⟩
      · rw [if_neg h3]
        by_cases h4 : t = 2 ∨ b ≠ 0 ∨ d < 0 ∨ capBadges t < d
        · rw [if_pos h4]
          exact .inl ⟨2, rfl, .inl rfl⟩
        · rw [if_neg h4]
          exact .inr ⟨h1, h2, d, rfl, (capOk_iff _ _ _ _ _).2 (.inr (by omega)), .inl (by omega), fun h => absurd h h3⟩
    · rw [if_neg h2]
      exact .inl ⟨20, rfl, .inr (.inl rfl)⟩
  · rw [if_neg h1]
    exact .inl ⟨30, rfl, .inr (.inr rfl)⟩
theorem one_nz {t r b o g : Int} (h : capOne t r b o g = true) : ¬ (t = 0 ∧ r = 0 ∧ b = 0 ∧ o = 0 ∧ g = 0) := fun h' => ((one_iff t r b o g).1 h).2 h'.1
theorem names_ok {t r b o g r' b' : Int} (h : t ≠ 0) : cap_Names.b t r b o g t r' b' o g = true := (names_iff _ _ _ _ _ _ _ _ _ _).2 ⟨fun h' => h h'.1, fun h' => h h'.1, rfl, rfl, rfl⟩
theorem fifteen {x : Int} (h : withinB 15 x = true) : x = 15 := by
  have hx : ∀ y : Fin 16, withinB 15 (y.val : Int) = true → y = 15 := by decide +kernel
  obtain ⟨_, y, _, rfl⟩ := within_fin h
  rw [hx y h]
  rfl
end Go.Proofs.YtmcgdopgpjjkbaaDoor.Plain
