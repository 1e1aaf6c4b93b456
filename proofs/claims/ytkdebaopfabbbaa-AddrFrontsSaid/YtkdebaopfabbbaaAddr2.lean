/- Two lists of steps, held against each other. -/
import Derived.Test.YtkdebaopfabbbaaAddr1
import Derived.Test.YtkdebaopfabbbaaPx7
namespace Go.Proofs.Ytkdebaopfabbbaa.Plain
open Go Go.RowKit Go.Proofs.YtkdebaopfabbbaaW.PrintWords Go.Proofs.YtkdebaopfabbbaaW.PrintLast Go.Proofs.YtkdebaopfabbbaaW.PrintMore Go.Proofs.Ytkdebaopfabbbaa.P Go.Proofs.Ytkdebaopfabbbaa.Given

/-! ### the same list -/
instance : DecidableEq Step := fun a b => by
  obtain ⟨a0, a1⟩ := a
  obtain ⟨b0, b1⟩ := b
  exact if h : a0 = b0 ∧ a1 = b1 then isTrue (by rw [h.1, h.2]) else isFalse (fun e => h (by injection e with e0 e1; exact ⟨e0, e1⟩))
theorem Same_loop (l m : List Step) (hl : l.length = m.length) (h4 : l.length ≤ 1000) (d : Nat) : ∀ k i, i + d = l.length → d < k → garrisonref12_Same.l0 k l m (i : Int) = some (decide (l.drop i = m.drop i)) := by
  induction d with
  | zero =>
    intro k i hd hk
    obtain ⟨k, rfl⟩ : ∃ m, k = m + 1 := ⟨k - 1, by omega⟩
    simp only [garrisonref12_Same.l0]
    rw [if_neg (by omega), List.drop_eq_nil_of_le (by omega), List.drop_eq_nil_of_le (by omega)]
    simp
  | succ d ih =>
    intro k i hd hk
    obtain ⟨k, rfl⟩ : ∃ m, k = m + 1 := ⟨k - 1, by omega⟩
    have hi : i < l.length := by omega
    have hj : i < m.length := by omega
    simp only [garrisonref12_Same.l0]
    rw [if_pos (by omega), if_pos (by omega), if_pos (by omega), rdS l i hi, rdS m i hj, wc (i + 1) ((i : Int) + 1) (by push_cast; rfl) (by omega), ih k (i + 1) (by omega) (by omega), List.drop_eq_getElem_cons hi, List.drop_eq_getElem_cons hj]
    generalize l[i] = a at *
    generalize m[i] = b at *
    obtain ⟨a0, a1⟩ := a
    obtain ⟨b0, b1⟩ := b
    by_cases h0 : a0 = b0
    · by_cases h1 : a1 = b1
      · subst h0 h1
        simp
      · rw [if_pos (by simp [h1]), decide_eq_false (by simp [h1])]
    · rw [if_pos (by simp [h0]), decide_eq_false (by simp [h0])]
theorem Same_eq (l m : List Step) (h4 : l.length ≤ 1000) {k : Nat} (hk : 1001 ≤ k) : garrisonref12_Same.f k l m = some (decide (l = m)) := by
  unfold garrisonref12_Same.f
  by_cases h : l.length = m.length
  · rw [if_pos (by omega)]
    have := Same_loop l m h h4 l.length k 0 (by omega) (by omega)
    simp only [List.drop_zero] at this
    exact this
  · rw [if_neg (by omega), decide_eq_false (fun e : l = m => h (by rw [e]))]

end Go.Proofs.Ytkdebaopfabbbaa.Plain
