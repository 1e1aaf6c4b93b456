/- Which lists are scripts; scripts with rounds behind them: what the functions answer. -/
import Derived.Test.YthifdmelanbgmaaDoorScr3
import Derived.Test.YthifdmelanbgmaaDoorGCheck
import Derived.Test.YthifdmelanbgmaaDoorGFill
import Derived.Test.YthifdmelanbgmaaDoorPx2
import Derived.Test.YthifdmelanbgmaaDoorPx13
namespace Go.Proofs.YthifdmelanbgmaaDoor.Plain
open Go Go.RowKit Go.Proofs.YthifdmelanbgmaaDoorW.PrintWords Go.Proofs.YthifdmelanbgmaaDoorW.PrintLast Go.Proofs.YthifdmelanbgmaaDoorW.PrintMore Go.Proofs.YthifdmelanbgmaaDoor.P Go.Proofs.YthifdmelanbgmaaDoor.Given
set_option linter.unusedVariables false
set_option linter.unusedSimpArgs false

/-- Is a list a script for so many cores? -/
def okS (l : List Int) (n : Int) : Bool := decide (1 ≤ n ∧ n ≤ 64 ∧ ∀ x ∈ l, 0 ≤ x ∧ x < n)
theorem badAt_ok (n : Int) (l : List Int) : ∀ i : Nat, badAt n l i < 0 ↔ ∀ x ∈ l, 0 ≤ x ∧ x < n := by
  induction l with
  | nil => intro i; simp [badAt]
  | cons c l ih =>
    intro i
    unfold badAt
    by_cases h : badC n c = true
    · rw [if_pos h]
      have h2 : c < 0 ∨ n ≤ c := of_decide_eq_true h
      refine ⟨fun h3 => by omega, fun h3 => ?_⟩
      have := h3 c (by simp)
      omega
    · rw [if_neg h, ih]
      have h2 : ¬ (c < 0 ∨ n ≤ c) := fun h3 => h (decide_eq_true h3)
      refine ⟨fun h3 x hx => ?_, fun h3 x hx => h3 x (by simp [hx])⟩
      rw [List.mem_cons] at hx
      rcases hx with rfl | hx
      · omega
      · exact h3 x hx
theorem check_f (l : List Int) (n : Int) : script_Check.f l n = some (if okS l n = true then 0 else 2) := by
  have e : script_Check.ok l n = okS l n := by
    unfold script_Check.ok okS
    rw [Bool.eq_iff_iff]
    simp only [Bool.and_eq_true, decide_eq_true_eq]
    rw [badAt_ok]
    exact ⟨fun h => ⟨h.1.1, h.1.2, h.2⟩, fun h => ⟨⟨h.1, h.2.1⟩, h.2.2⟩⟩
  unfold script_Check.f
  rw [e]
/-- Are all of a list cores? -/
def allIn (n : Int) (l : List Int) : Bool := l.all fun x => decide (0 ≤ x) && decide (x < n)
theorem allIn_cons (n x : Int) (l : List Int) : allIn n (x :: l) = (decide (0 ≤ x) && decide (x < n) && allIn n l) := rfl
theorem is_loop (l : List Int) (n : Int) (hl : l.length ≤ 1000000) (d : Nat) : ∀ i : Nat, i + d = l.length → Ev (fun k => garrisonref05_Is.l0 k l n (i : Int)) (allIn n (l.drop i)) := by
  induction d with
  | zero =>
    intro i hi
    rw [List.drop_of_length_le (by omega)]
    exact Ev.step (f := fun _ => some true) (fun k => by simp only [garrisonref05_Is.l0]; rw [if_neg (by omega)]) (Ev.now _)
  | succ d ih =>
    intro i hi
    have hlt : i < l.length := by omega
    have h2 := ih (i + 1) (by omega)
    rw [List.drop_eq_getElem_cons hlt, allIn_cons]
    by_cases h0 : l[i] < 0
    · rw [decide_eq_false (show ¬ 0 ≤ l[i] by omega)]
      exact Ev.step (f := fun _ => some false) (fun k => by simp only [garrisonref05_Is.l0]; rw [if_pos (by omega), if_pos (by omega), rdN l i hlt, if_pos h0]) (Ev.now _)
    · by_cases h1 : l[i] ≥ n
      · rw [decide_eq_false (show ¬ l[i] < n by omega), Bool.and_false, Bool.false_and]
        exact Ev.step (f := fun _ => some false) (fun k => by simp only [garrisonref05_Is.l0]; rw [if_pos (by omega), if_pos (by omega), rdN l i hlt, if_neg h0, if_pos h1]) (Ev.now _)
      · rw [decide_eq_true (show 0 ≤ l[i] by omega), decide_eq_true (show l[i] < n by omega), Bool.true_and, Bool.true_and]
        exact Ev.step (fun k => by simp only [garrisonref05_Is.l0]; rw [if_pos (by omega), if_pos (by omega), rdN l i hlt, if_neg h0, if_neg h1, wn i (by omega)]) h2
theorem okS_all (l : List Int) (n : Int) : okS l n = (decide (1 ≤ n) && decide (n ≤ 64) && allIn n l) := by
  unfold okS allIn
  rw [Bool.eq_iff_iff]
  simp only [Bool.and_eq_true, decide_eq_true_eq, List.all_eq_true]
  exact ⟨fun h => ⟨⟨h.1, h.2.1⟩, h.2.2⟩, fun h => ⟨h.1.1, h.1.2, h.2⟩⟩
theorem is_ev (l : List Int) (n : Int) (hl : l.length ≤ 1000000) : Ev (fun k => garrisonref05_Is.f k l n) (okS l n) := by
  have jt : Ev (fun k => garrisonref05_Is.j0 k l n true) false := Ev.step (f := fun _ => some false) (fun k => by simp only [garrisonref05_Is.j0]; rw [if_pos trivial]) (Ev.now _)
  rw [okS_all]
  by_cases h1 : n < 1
  · rw [decide_eq_false (show ¬ 1 ≤ n by omega)]
    exact Ev.congr (fun k => by unfold garrisonref05_Is.f; rw [if_pos h1]) jt
  · by_cases h2 : n > 64
    · rw [decide_eq_false (show ¬ n ≤ 64 by omega), Bool.and_false, Bool.false_and]
      exact Ev.congr (fun k => by unfold garrisonref05_Is.f; rw [if_neg h1, decide_eq_true h2]) jt
    · rw [decide_eq_true (show 1 ≤ n by omega), decide_eq_true (show n ≤ 64 by omega), Bool.true_and, Bool.true_and]
      refine Ev.congr (fun k => by unfold garrisonref05_Is.f; rw [if_neg h1, decide_eq_false h2]) ?_
      have h := is_loop l n hl l.length 0 (by omega)
      rw [List.drop_zero] at h
      exact Ev.step (fun k => by simp only [garrisonref05_Is.j0]; rw [if_neg (by decide)]; try rfl) h
theorem sround_len (n m : Int) : (sround n m).length ≤ 640000 := by
  unfold sround
  split
  · simp
  · rw [rnds_len]
    exact Nat.le_trans (Nat.mul_le_mul (show n.toNat ≤ 64 by omega) (show m.toNat ≤ 10000 by omega)) (by decide)
theorem sround_len' (n m : Int) (hm : m ≤ 200) : (sround n m).length ≤ 12800 := by
  unfold sround
  split
  · simp
  · rw [rnds_len]
    exact Nat.le_trans (Nat.mul_le_mul (show n.toNat ≤ 64 by omega) (show m.toNat ≤ 200 by omega)) (by decide)
theorem sfill_ev (l : List Int) (n m : Int) (hl : l.length ≤ 1000) (hm : m ≤ 200) : Ev (fun k => script_Fill.f k l n m) (l ++ sround n m) := by
  have := sround_len' n m hm
  refine Ev.congr (fun k => by unfold script_Fill.f; rfl) (Ev.bind (srounds_ev n m) ?_)
  exact Ev.congr (fun k => if_pos ⟨by omega, by omega⟩) (Ev.now _)
theorem rfill_ev (l : List Int) (n m : Int) (hl : l.length ≤ 1000) : Ev (fun k => garrisonref05_Fill.f k l n m) (l ++ sround n m) := by
  have := sround_len n m
  refine Ev.congr (fun k => ?_) (Ev.bind (f := fun _ t => if l.length + t.length < 17592186044416 then some (l ++ t) else none) (rrounds_ev n m) (Ev.congr (fun k => if_pos (by omega)) (Ev.now _)))
  unfold garrisonref05_Fill.f
  rw [Option.bind_some, if_pos (by simp only [List.length_nil]; omega), Option.bind_some, List.nil_append]

end Go.Proofs.YthifdmelanbgmaaDoor.Plain
