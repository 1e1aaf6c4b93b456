/- CapBack: a word tells its capability, and a capability its word. -/
import Derived.Test.YtmcgdopgpjjkbaaDoorCap1
import Derived.Test.YtmcgdopgpjjkbaaDoorPx11
namespace Go.Proofs.YtmcgdopgpjjkbaaDoor.Pure
open Go.RowKit Go.Proofs.YtmcgdopgpjjkbaaDoor.P Go.Proofs.YtmcgdopgpjjkbaaDoor.Plain Go.Proofs.YtmcgdopgpjjkbaaDoor.Given

theorem back_j1 (L : Nat) (hL : L < 18446744073709551616) (k : Nat) : garrisonlaw03_CapBack.j1 (k + 1) (L : Int) false = some true := by
  rw [garrisonlaw03_CapBack.j1, if_neg Bool.false_ne_true, Parse_f L hL]
  by_cases h : wordOk L = true
  · obtain ⟨h1, h2⟩ := word_parse h
    rw [parse_yes h, Option.bind_some]
    simp only [num_f, Option.bind_some, if_true]
    rw [Word_yes h1, h2, check_ok, h1]
    simp [num_f, live_f]
  · rw [parse_no h]
    simp [num_f, live_f]
theorem word_inj {t r b o g t' r' b' o' g' : Int} (h : capOk t r b o g = true) (h' : capOk t' r' b' o' g' = true) : (((wordC t r b o g : Nat) : Int) == ((wordC t' r' b' o' g' : Nat) : Int)) = decide (t = t' ∧ r = r' ∧ b = b' ∧ o = o' ∧ g = g') := by
  rw [Bool.eq_iff_iff, beq_iff_eq, decide_eq_true_eq]
  constructor
  · intro e
    have e' : wordC t r b o g = wordC t' r' b' o' g' := by omega
    have p := parse_word h
    rw [e', parse_word h'] at p
    simp only [Prod.mk.injEq] at p
    exact ⟨p.1.symm, p.2.1.symm, p.2.2.1.symm, p.2.2.2.1.symm, p.2.2.2.2.1.symm⟩
  · rintro ⟨rfl, rfl, rfl, rfl, rfl⟩
    rfl
theorem wrap30a : ¬ wrap64 (0 + 30) = 0 := by unfold wrap64; omega
theorem wrap30b : ¬ wrap64 (30 + 0) = 0 := by unfold wrap64; omega
theorem wrap30c : ¬ wrap64 (30 + 30) = 0 := by unfold wrap64; omega
theorem wrap00 : wrap64 (0 + 0) = 0 := by unfold wrap64; omega
theorem back_f2 (t r b o g t' r' b' o' g' : Int) (L : Nat) (hL : L < 18446744073709551616) (h : capOk t r b o g = true) (h' : capOk t' r' b' o' g' = true) : garrisonlaw03_CapBack.j0 3 (L : Int) ((wordC t r b o g : Nat) : Int) 0 ((wordC t' r' b' o' g' : Nat) : Int) 0 t r b o g t' r' b' o' g' = some true := by
  rw [garrisonlaw03_CapBack.j0, num_f, Option.bind_some, Option.bind_some, if_pos wrap00, five_eq, word_inj h h', bne_self_eq_false]
  exact back_j1 L hL 1
theorem back_f1 (t r b o g t' r' b' o' g' x y e e' : Int) (L : Nat) (hL : L < 18446744073709551616) (h : ¬ wrap64 (e + e') = 0) : garrisonlaw03_CapBack.j0 3 (L : Int) x e y e' t r b o g t' r' b' o' g' = some true := by
  rw [garrisonlaw03_CapBack.j0, num_f, num_f, Option.bind_some, Option.bind_some, if_neg h]
  exact back_j1 L hL 1
theorem back_pp (t r b o g : Int) (h : capOk t r b o g = true) : cap_Parse.f ((wordC t r b o g : Nat) : Int) = some (t, r, b, o, g, 0) := by
  rw [Parse_f _ (le46 (wordC_lt h)), parse_word h]
theorem CapBack : garrisonlaw03_CapBack.Pure := by
  intro t r b o g t' r' b' o' g' a _ _ ha
  obtain ⟨L, rfl, hL⟩ := wf_u64 ha
  refine ⟨3, ?_⟩
  unfold garrisonlaw03_CapBack.f
  by_cases h : capOk t r b o g = true
  · have hp := back_pp t r b o g h
    rw [Word_yes h]
    by_cases h' : capOk t' r' b' o' g' = true
    · have hf := back_f2 t r b o g t' r' b' o' g' L hL h h'
      rw [Word_yes h']
      generalize wordC t r b o g = W at *
      generalize wordC t' r' b' o' g' = W' at *
      rw [Option.bind_some, Option.bind_some, num_f, Option.bind_some, if_pos rfl, hp, Option.bind_some, num_f, Option.bind_some, if_pos rfl, five_ne, decide_eq_true ⟨rfl, rfl, rfl, rfl, rfl⟩, if_neg (by decide)]
      exact hf
    · have hf := fun W => back_f1 t r b o g t' r' b' o' g' W 0 0 30 L hL wrap30a
      rw [Word_no h']
      generalize wordC t r b o g = W at *
      rw [Option.bind_some, Option.bind_some, num_f, Option.bind_some, if_pos rfl, hp, Option.bind_some, num_f, Option.bind_some, if_pos rfl, five_ne, decide_eq_true ⟨rfl, rfl, rfl, rfl, rfl⟩, if_neg (by decide)]
      exact hf W
  · rw [Word_no h]
    by_cases h' : capOk t' r' b' o' g' = true
    · have hf := fun W => back_f1 t r b o g t' r' b' o' g' 0 W 30 0 L hL wrap30b
      rw [Word_yes h']
      generalize wordC t' r' b' o' g' = W' at *
      rw [Option.bind_some, Option.bind_some, num_f, Option.bind_some, if_neg (by decide)]
      exact hf W'
    · have hf := back_f1 t r b o g t' r' b' o' g' 0 0 30 30 L hL wrap30c
      rw [Word_no h', Option.bind_some, Option.bind_some, num_f, Option.bind_some, if_neg (by decide)]
      exact hf
end Go.Proofs.YtmcgdopgpjjkbaaDoor.Pure
