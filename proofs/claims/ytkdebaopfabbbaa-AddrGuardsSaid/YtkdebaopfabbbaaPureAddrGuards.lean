/- AddrGuards is true of all inputs: no condition. -/
import Derived.Test.YtkdebaopfabbbaaAddr3
import Derived.Test.YtkdebaopfabbbaaPx7
import Derived.Test.YtkdebaopfabbbaaPx16
namespace Go.Proofs.Ytkdebaopfabbbaa.Pure
open Go Go.RowKit Go.Proofs.YtkdebaopfabbbaaW.PrintWords Go.Proofs.YtkdebaopfabbbaaW.PrintLast Go.Proofs.YtkdebaopfabbbaaW.PrintMore Go.Proofs.Ytkdebaopfabbbaa.P Go.Proofs.Ytkdebaopfabbbaa.Given Go.Proofs.Ytkdebaopfabbbaa.Plain

theorem num_eqG (a : Int) : garrisonlaw12_num.f a = some a := rfl
theorem set_same (l : List Step) (j : Nat) (h : j < l.length) (s : Step) (hs : s = l[j]) : l.set j s = l := by
  subst hs
  exact List.set_getElem_self h
theorem Find_guard (t : List (List Cap)) {a b c d e : Int} (l : List Step) (j : Nat) (hj : j < l.length) (g : Int) {k : Nat} {r : Int × Int × (List Ref) × Int} (hf : addr_Find.f k t a b c d e l = some r) (hr : r.2.2.2 = 0)
    (hg : g ≠ l[j].f0) : ∃ r', addr_Find.f k t a b c d e (l.set j ⟨g, l[j].f1⟩) = some r' ∧ r'.2.2.2 = 120 := by
  unfold addr_Find.f at hf ⊢
  rw [bind_of (Check_eq _)] at hf ⊢
  by_cases h : okA l
  · rw [if_pos h, if_pos rfl] at hf
    by_cases h' : okA (l.set j ⟨g, l[j].f1⟩)
    · rw [if_pos h', if_pos rfl, show ((l.set j ⟨g, l[j].f1⟩).length : Int) = (l.length : Int) from by rw [List.length_set]]
      refine ⟨_, Find_other t l (l.set j ⟨g, l[j].f1⟩) h.2.1 (List.length_set ..) j hj (fun i hi => ?_) ?_ j k 0 [] 0 0 a b c d e r (by omega) hf hr, rfl⟩
      · rw [rdS _ i (by rw [List.length_set]; omega), rdS _ i (by omega), List.getElem_set_ne (by omega)]
      · rw [rdS _ j (by rw [List.length_set]; omega), rdS _ j hj, List.getElem_set_self]
        exact hg
    · rw [if_neg h', if_neg (by decide)]
      exact ⟨_, rfl, rfl⟩
  · rw [if_neg h, if_neg (by decide)] at hf
    injection hf with hf; subst hf; exact absurd hr (by decide)
theorem j0_true (k : Nat) (t : List (List Cap)) (l : List Step) (i g a b c d e : Int) : garrisonlaw12_AddrGuards.j0 (k + 1) t l i g true a b c d e = some true := by
  simp only [garrisonlaw12_AddrGuards.j0]
  rw [if_pos trivial]
  rfl
theorem j0_false (t : List (List Cap)) (l : List Step) (j : Nat) (hj : j < l.length) (g a b c d e : Int) (h0 : -9223372036854775808 ≤ b) (h1 : b ≤ 9223372036854775807) : garrisonlaw12_AddrGuards.j0 201 t l (j : Int) g false a b c d e = some true := by
  simp only [garrisonlaw12_AddrGuards.j0]
  rw [if_neg (by decide)]
  obtain ⟨r, hr, hc⟩ := Find_total t a b c d e l (k := 200) (by decide)
  rw [bind_of hr, bind_of (num_eqG _)]
  by_cases hz : r.2.2.2 = 0
  · have h4 : l.length ≤ 4 := by
      by_cases h : okA l
      · exact h.2.1
      · unfold addr_Find.f at hr
        rw [bind_of (Check_eq _), if_neg h, if_neg (by decide)] at hr
        injection hr with hr; subst hr; exact absurd hz (by decide)
    have hlt : (([] : List Step)).length + l.length < 8796093022208 := by show 0 + l.length < _; omega
    rw [if_pos hz, bind_of rfl, if_pos hlt, bind_of rfl, List.nil_append, if_pos (by omega), if_pos (by omega), rdS l j hj, Int.toNat_natCast]
    have hless := Find_less t l h0 h1 (k := 200) (by decide) hr hz
    by_cases hg : g = l[j].f0
    · have hs : l.set j ⟨g, l[j].f1⟩ = l := set_same l j hj _ (by subst hg; rfl)
      rw [hs, bind_of hr, bind_of hless, bind_of (num_eqG _), if_pos (by omega), hz, if_pos (by simp [hg]), bind_of (num_eqG _), if_pos rfl]
      rfl
    · obtain ⟨r', hr', hz'⟩ := Find_guard t l j hj g hr hz hg
      rw [bind_of hr', bind_of hless, bind_of (num_eqG _), if_pos (by omega), hz', if_pos (by simp [hg]), bind_of (num_eqG _), if_pos rfl]
      rfl
  · rw [if_neg hz]
    rfl
theorem AddrGuards : garrisonlaw12_AddrGuards.Pure := by
  intro t a b c d e l i g _ _ hw _ _ _ _
  refine ⟨201, ?_⟩
  unfold garrisonlaw12_AddrGuards.f
  obtain ⟨s, hs⟩ := small_total t l (k := 201) (by decide)
  rw [bind_of hs]
  have hb2 := wf_i64 hw.2.1
  split
  · split
    · exact j0_true ..
    · rename_i h0
      by_cases h : i ≥ (l.length : Int)
      · rw [decide_eq_true h]
        exact j0_true ..
      · rw [decide_eq_false h]
        obtain ⟨j, rfl⟩ := Int.eq_ofNat_of_zero_le (show 0 ≤ i by omega)
        exact j0_false t l j (by omega) g a b c d e hb2.1 hb2.2
  · exact j0_true ..
end Go.Proofs.Ytkdebaopfabbbaa.Pure
