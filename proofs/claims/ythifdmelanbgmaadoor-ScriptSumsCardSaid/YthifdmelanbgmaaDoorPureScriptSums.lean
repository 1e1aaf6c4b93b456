/- ScriptSums is true of all inputs: no condition. -/
import Derived.Test.YthifdmelanbgmaaDoorScr4
import Derived.Test.YthifdmelanbgmaaDoorPx15
namespace Go.Proofs.YthifdmelanbgmaaDoor.Pure
open Go Go.RowKit Go.Proofs.YthifdmelanbgmaaDoorW.PrintWords Go.Proofs.YthifdmelanbgmaaDoorW.PrintLast Go.Proofs.YthifdmelanbgmaaDoorW.PrintMore Go.Proofs.YthifdmelanbgmaaDoor.P Go.Proofs.YthifdmelanbgmaaDoor.Given Go.Proofs.YthifdmelanbgmaaDoor.Plain

/-- The picks of the cores below so many. -/
def upto (l : List Int) (j : Nat) : Nat := ((List.range j).map fun j : Nat => l.count (j : Int)).sum
theorem upto_succ (l : List Int) (j : Nat) : upto l (j + 1) = upto l j + l.count (j : Int) := by
  unfold upto
  rw [List.range_succ, List.map_append, List.sum_append]
  simp
theorem upto_le (l : List Int) (n : Nat) (h : ∀ c ∈ l, 0 ≤ c ∧ c < (n : Int)) (d : Nat) : ∀ j, j + d = n → upto l j ≤ l.length := by
  induction d with
  | zero => intro j hj; obtain rfl : j = n := by omega
            rw [show upto l j = l.length from count_sum j l h]; exact Nat.le_refl _
  | succ d ih =>
    intro j hj
    have h1 := ih (j + 1) (by omega)
    rw [upto_succ] at h1
    omega
theorem ScriptSums : garrisonlaw05_ScriptSums.Pure := by
  intro l n m c _ _ _ _ _ _
  refine Ev.rounds (r := true) ?_
  have hlive : Ev (fun k => garrisonlaw05_ScriptSums.j0 k l n m c true) true := Ev.step (f := fun _ => some true) (fun k => by simp only [garrisonlaw05_ScriptSums.j0]; rw [if_pos trivial]; try rfl) (Ev.now _)
  by_cases h1 : (l.length : Int) > 150
  · exact Ev.congr (fun k => by unfold garrisonlaw05_ScriptSums.f; rw [if_pos h1]) hlive
  have st : ∀ k, garrisonlaw05_ScriptSums.f k l n m c = (fun t => if t = 0 then (if m < 1 then (garrisonlaw05_ScriptSums.j0 k l n m c true) else (if m > 100 then (garrisonlaw05_ScriptSums.j0 k l n m c true) else (if c < 0 then (garrisonlaw05_ScriptSums.j0 k l n m c true) else (garrisonlaw05_ScriptSums.j0 k l n m c (decide (c ≥ n)))))) else (garrisonlaw05_ScriptSums.j0 k l n m c true)) (if okS l n = true then (0 : Int) else 2) := fun k => by
    unfold garrisonlaw05_ScriptSums.f
    rw [if_neg h1, check_f]
    rfl
  refine Ev.congr st ?_
  by_cases hok : okS l n = true
  case neg => exact Ev.congr (fun k => by show (if (if okS l n = true then (0 : Int) else 2) = 0 then _ else _) = _; rw [if_neg hok, if_neg (by decide)]) hlive
  refine Ev.congr (f := fun k => if m < 1 then (garrisonlaw05_ScriptSums.j0 k l n m c true) else (if m > 100 then (garrisonlaw05_ScriptSums.j0 k l n m c true) else (if c < 0 then (garrisonlaw05_ScriptSums.j0 k l n m c true) else (garrisonlaw05_ScriptSums.j0 k l n m c (decide (c ≥ n)))))) (fun k => by show (if (if okS l n = true then (0 : Int) else 2) = 0 then _ else _) = _; rw [if_pos hok, if_pos rfl]) ?_
  by_cases h3 : m < 1
  · exact Ev.congr (fun k => by rw [if_pos h3]) hlive
  by_cases h4 : m > 100
  · exact Ev.congr (fun k => by rw [if_neg h3, if_pos h4]) hlive
  by_cases h5 : c < 0
  · exact Ev.congr (fun k => by rw [if_neg h3, if_neg h4, if_pos h5]) hlive
  by_cases h6 : c ≥ n
  · exact Ev.congr (fun k => by rw [if_neg h3, if_neg h4, if_neg h5, decide_eq_true h6]) hlive
  refine Ev.congr (fun k => by rw [if_neg h3, if_neg h4, if_neg h5, decide_eq_false h6]) ?_
  obtain ⟨hn1, hn2, hall⟩ := of_decide_eq_true hok
  obtain ⟨n, rfl⟩ := Int.eq_ofNat_of_zero_le (show 0 ≤ n by omega)
  obtain ⟨m, rfl⟩ := Int.eq_ofNat_of_zero_le (show 0 ≤ m by omega)
  obtain ⟨c, rfl⟩ := Int.eq_ofNat_of_zero_le (show 0 ≤ c by omega)
  have hl : l.length ≤ 1000000 := by omega
  have hnm : n * m ≤ 6400 := Nat.le_trans (Nat.mul_le_mul (show n ≤ 64 by omega) (show m ≤ 100 by omega)) (by decide)
  have es : sround (n : Int) (m : Int) = rnds n m := by unfold sround; rw [if_neg (by omega), Int.toNat_natCast, Int.toNat_natCast]
  have hf := sfill_ev l (n : Int) (m : Int) (by omega) (by omega)
  rw [es] at hf
  have hlen := rnds_len n m
  have hL : (l ++ rnds n m).length = l.length + n * m := by rw [List.length_append, hlen]
  have hc1 := scount (l ++ rnds n m) (c : Int) (by omega)
  rw [List.count_append, count_rnds n c m (by omega)] at hc1
  have hcl : l.count (c : Int) ≤ l.length := List.count_le_length
  have hokf : okS (l ++ rnds n m) (n : Int) = true := decide_eq_true ⟨by omega, by omega, fun x hx => by
    rw [List.mem_append] at hx
    rcases hx with hx | hx
    · exact hall x hx
    · exact mem_rnds n m x hx⟩
  have hck : script_Check.f (l ++ rnds n m) (n : Int) = some 0 := by rw [check_f, if_pos hokf]
  have b1 : l.length ≤ 1000000000 := by omega
  have b2 : n * m ≤ 1000000000 := by omega
  have b3 : l.count (c : Int) ≤ 1000000000 := by omega
  have b4 : m ≤ 1000000000 := by omega
  have main : ∀ (d j : Nat), j + d = n → Ev (fun k => garrisonlaw05_ScriptSums.l0 k l (n : Int) (m : Int) (c : Int) ((upto l j : Nat) : Int) (j : Int)) true := by
    intro d
    induction d with
    | zero =>
      intro j hj
      obtain rfl : j = n := by omega
      have e : upto l j = l.length := count_sum j l hall
      rw [e]
      refine Ev.step (fun k => by simp only [garrisonlaw05_ScriptSums.l0]; rw [if_neg (by omega)]; try rfl) (Ev.bind hf ?_)
      have hw1 : wrap64 ((j : Int) * (m : Int)) = ((j * m : Nat) : Int) := wmul j m b2
      have hw2 : wrap64 ((l.length : Int) + ((j * m : Nat) : Int)) = ((l ++ rnds j m).length : Int) := by rw [hL]; exact wab _ _ b1 b2
      have hw3 : wrap64 (((l.count (c : Int) : Nat) : Int) + (m : Int)) = ((l.count (c : Int) + m : Nat) : Int) := wab _ _ b3 b4
      refine Ev.congr (fun k => by rw [if_pos trivial, hw1, hw2, if_pos rfl]) (Ev.bind hc1 (Ev.bind (scount l (c : Int) hl) ?_))
      refine Ev.congr (fun k => ?_) (Ev.now _)
      rw [hw3, if_pos rfl, hck]
      rfl
    | succ d ih =>
      intro j hj
      have h := ih (j + 1) (by omega)
      have hle := upto_le l n hall d (j + 1) (by omega)
      rw [upto_succ] at h hle
      refine Ev.step (fun k => by simp only [garrisonlaw05_ScriptSums.l0]; rw [if_pos (by omega)]; try rfl) (Ev.bind (scount l (j : Int) hl) ?_)
      refine Ev.congr (fun k => ?_) h
      rw [wn j (by omega), wab (upto l j) (l.count (j : Int)) (by omega) (by omega)]
  exact Ev.step (fun k => by simp only [garrisonlaw05_ScriptSums.j0]; rw [if_neg (by decide)]; try rfl) (main n 0 (by omega))
end Go.Proofs.YthifdmelanbgmaaDoor.Pure
