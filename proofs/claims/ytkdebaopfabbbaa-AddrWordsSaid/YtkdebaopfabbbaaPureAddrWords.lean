/- AddrWords is true of every list of steps and every word: no condition. -/
import Derived.Test.YtkdebaopfabbbaaAddr1
import Derived.Test.YtkdebaopfabbbaaPx8
namespace Go.Proofs.Ytkdebaopfabbbaa.Pure
open Go Go.RowKit Go.Proofs.YtkdebaopfabbbaaW.PrintWords Go.Proofs.YtkdebaopfabbbaaW.PrintLast Go.Proofs.YtkdebaopfabbbaaW.PrintMore Go.Proofs.Ytkdebaopfabbbaa.P Go.Proofs.Ytkdebaopfabbbaa.Given Go.Proofs.Ytkdebaopfabbbaa.Plain

theorem num_eq (a : Int) : garrisonlaw12_num.f a = some a := rfl
theorem parseA_len (w : Nat) : (parseA w).1.length ≤ 1000 := by
  unfold parseA
  split
  · rw [stepsA_length]
    have : lenA w ≤ 4 := Nat.min_le_right ..
    omega
  · exact Nat.zero_le _
theorem check_is (l : List Step) : ∃ (c : Int) (b : Bool), addr_Check.f l = some c ∧ garrisonref12_Is.f 1500 l = some b ∧ ((c == 0) == b) = true := by
  refine ⟨_, _, Check_eq l, Is_eq l (by decide), ?_⟩
  by_cases h : okA l
  · rw [if_pos h, decide_eq_true h]; rfl
  · rw [if_neg h, decide_eq_false h]; rfl
theorem AddrWords : garrisonlaw12_AddrWords.Pure := by
  intro l a _ _ ha
  obtain ⟨w, rfl, hw⟩ := wf_u64 ha
  refine ⟨1500, ?_⟩
  unfold garrisonlaw12_AddrWords.f
  by_cases h : (l.length : Int) > 20
  · rw [if_pos h]
    rfl
  · rw [if_neg h, bind_of (rfl : some ([] : List Step) = some []), if_pos (by simp only [List.length_nil]; omega), List.nil_append]
    obtain ⟨p, e1, e2⟩ : ∃ p, addr_Put.f 1500 l = some p ∧ garrisonref12_Put.f 1500 l = some p := ⟨_, Put_eq l (by decide), rPut_eq l (by decide)⟩
    obtain ⟨c, b, e3, e4, h5⟩ := check_is l
    rw [bind_of e1, bind_of e2, bind_of (Parse_eq w hw (by decide)), bind_of (rParse_eq w hw (by decide)), bind_of e3, bind_of (num_eq c), bind_of e4, if_pos h5, if_pos rfl, bind_of (num_eq _), if_pos rfl,
      bind_of (Same_eq _ _ (parseA_len w) (by decide)), if_pos (decide_eq_true rfl), bind_of (num_eq _), if_pos rfl]
    rfl
end Go.Proofs.Ytkdebaopfabbbaa.Pure
