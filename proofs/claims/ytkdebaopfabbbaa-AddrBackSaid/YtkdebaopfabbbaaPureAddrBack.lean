/- AddrBack is true of every two lists of steps and every word: no condition. -/
import Derived.Test.YtkdebaopfabbbaaAddr1
import Derived.Test.YtkdebaopfabbbaaPx9
namespace Go.Proofs.Ytkdebaopfabbbaa.Pure
open Go Go.RowKit Go.Proofs.YtkdebaopfabbbaaW.PrintWords Go.Proofs.YtkdebaopfabbbaaW.PrintLast Go.Proofs.YtkdebaopfabbbaaW.PrintMore Go.Proofs.Ytkdebaopfabbbaa.P Go.Proofs.Ytkdebaopfabbbaa.Given Go.Proofs.Ytkdebaopfabbbaa.Plain

theorem num_eq (a : Int) : garrisonlaw12_num.f a = some a := rfl
theorem Put_ok {l : List Step} (h : okA l) {k : Nat} (hk : 200 ≤ k) : addr_Put.f k l = some (((wordA l : Nat) : Int), 0) := by rw [Put_eq l hk, if_pos h]
theorem Put_bad {l : List Step} (h : ¬ okA l) {k : Nat} (hk : 200 ≤ k) : addr_Put.f k l = some (0, 120) := by rw [Put_eq l hk, if_neg h]
theorem j2_ok (w : Nat) (hw : w < 18446744073709551616) : garrisonlaw12_AddrBack.j2 1498 (w : Int) false = some true := by
  have e := Parse_eq w hw (k := 1497) (by decide)
  unfold parseA at e
  simp only [garrisonlaw12_AddrBack.j2]
  rw [if_neg (by decide)]
  by_cases h : 1 ≤ lenA w ∧ wordA (stepsA w (lenA w)) = w
  · rw [if_pos h] at e
    have ho : okA (stepsA w (lenA w)) := stepsA_ok w _ h.1 (Nat.min_le_right ..)
    have hc : addr_Check.f (stepsA w (lenA w)) = some 0 := by rw [Check_eq, if_pos ho]
    rw [bind_of e, bind_of (num_eq _), if_pos rfl, bind_of (Put_ok ho (by decide)), bind_of (num_eq _), if_pos rfl, if_pos (by rw [h.2]), bind_of hc, bind_of (num_eq _), if_pos rfl]
    rfl
  · rw [if_neg h] at e
    rw [bind_of e, bind_of (num_eq _), if_neg (by decide)]
    rfl
theorem w00 : wrap64 ((0 : Int) + 0) = 0 := by unfold wrap64; omega
theorem w01 : wrap64 ((0 : Int) + 120) ≠ 0 := by unfold wrap64; omega
theorem w10 : wrap64 ((120 : Int) + 0) ≠ 0 := by unfold wrap64; omega
theorem w11 : wrap64 ((120 : Int) + 120) ≠ 0 := by unfold wrap64; omega
theorem j1_both (l m : List Step) (w : Nat) (hw : w < 18446744073709551616) (hl : okA l) (hm : okA m) : garrisonlaw12_AddrBack.j1 1499 l m (w : Int) ((wordA l : Nat) : Int) 0 ((wordA m : Nat) : Int) 0 = some true := by
  have hs := Same_eq l m (by have := hl.2.1; omega) (k := 1498) (by decide)
  simp only [garrisonlaw12_AddrBack.j1]
  rw [bind_of (num_eq _), bind_of (num_eq _), if_pos w00, bind_of hs]
  have e : ((((wordA l : Nat) : Int) == ((wordA m : Nat) : Int)) != decide (l = m)) = false := by
    by_cases h : l = m
    · subst h; simp
    · have : ¬ ((wordA l : Nat) : Int) = ((wordA m : Nat) : Int) := fun e => h ((word_inj hl hm).1 (by omega))
      simp [h, this]
  rw [e]
  exact j2_ok w hw
theorem j1_one (l m : List Step) (w : Nat) (hw : w < 18446744073709551616) (x y e f : Int) (h : wrap64 (e + f) ≠ 0) : garrisonlaw12_AddrBack.j1 1499 l m (w : Int) x e y f = some true := by
  simp only [garrisonlaw12_AddrBack.j1]
  rw [bind_of (num_eq _), bind_of (num_eq _), if_neg h]
  exact j2_ok w hw
theorem j0_ok (l m : List Step) (w : Nat) (hw : w < 18446744073709551616) : garrisonlaw12_AddrBack.j0 1500 l m (w : Int) false = some true := by
  simp only [garrisonlaw12_AddrBack.j0]
  rw [if_neg (by decide)]
  by_cases hl : okA l
  · have hp := Parse_eq (wordA l) (word_lt l hl) (k := 1499) (by decide)
    rw [parse_word l hl] at hp
    by_cases hm : okA m
    · rw [bind_of (Put_ok hl (by decide)), bind_of (Put_ok hm (by decide)), bind_of (num_eq _), if_pos rfl, bind_of hp, bind_of (num_eq _), if_pos rfl, bind_of (Same_eq l l (by have := hl.2.1; omega) (by decide)), if_pos (decide_eq_true rfl)]
      exact j1_both l m w hw hl hm
    · rw [bind_of (Put_ok hl (by decide)), bind_of (Put_bad hm (by decide)), bind_of (num_eq _), if_pos rfl, bind_of hp, bind_of (num_eq _), if_pos rfl, bind_of (Same_eq l l (by have := hl.2.1; omega) (by decide)), if_pos (decide_eq_true rfl)]
      exact j1_one l m w hw _ _ _ _ w01
  · by_cases hm : okA m
    · rw [bind_of (Put_bad hl (by decide)), bind_of (Put_ok hm (by decide)), bind_of (num_eq _), if_neg (by decide)]
      exact j1_one l m w hw _ _ _ _ w10
    · rw [bind_of (Put_bad hl (by decide)), bind_of (Put_bad hm (by decide)), bind_of (num_eq _), if_neg (by decide)]
      exact j1_one l m w hw _ _ _ _ w11
theorem AddrBack : garrisonlaw12_AddrBack.Pure := by
  intro l m a _ _ _ _ ha
  obtain ⟨w, rfl, hw⟩ := wf_u64 ha
  refine ⟨1500, ?_⟩
  unfold garrisonlaw12_AddrBack.f
  by_cases h : (l.length : Int) > 20
  · rw [if_pos h]
    rfl
  · rw [if_neg h]
    by_cases h2 : (m.length : Int) > 20
    · rw [decide_eq_true h2]
      rfl
    · rw [decide_eq_false h2]
      exact j0_ok l m w hw
end Go.Proofs.Ytkdebaopfabbbaa.Pure
