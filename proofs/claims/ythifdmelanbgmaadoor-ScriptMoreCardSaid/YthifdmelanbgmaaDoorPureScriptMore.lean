/- ScriptMore is true of all inputs: no condition. -/
import Derived.Test.YthifdmelanbgmaaDoorScr4
import Derived.Test.YthifdmelanbgmaaDoorPx11
namespace Go.Proofs.YthifdmelanbgmaaDoor.Pure
open Go Go.RowKit Go.Proofs.YthifdmelanbgmaaDoorW.PrintWords Go.Proofs.YthifdmelanbgmaaDoorW.PrintLast Go.Proofs.YthifdmelanbgmaaDoorW.PrintMore Go.Proofs.YthifdmelanbgmaaDoor.P Go.Proofs.YthifdmelanbgmaaDoor.Given Go.Proofs.YthifdmelanbgmaaDoor.Plain

theorem win_fewer {l : List Int} {n m x y : Int} (hx : IsWin l n x) (hy : IsWin l m y) (h : m ≤ n) : y ≤ x := by
  have h1 := (hx.2.2 x hx.1).2 (Int.le_refl _)
  exact (hy.2.2 x hx.1).1 ⟨h1.1, fun h2 c h3 h4 => h1.2 h2 c h3 (by omega)⟩
theorem ScriptMore : garrisonlaw05_ScriptMore.Pure := by
  intro l n w more _ _ _ _ _ _
  refine Ev.rounds (r := true) ?_
  have hlive : Ev (fun k => garrisonlaw05_ScriptMore.j0 k l n w more true) true := Ev.step (f := fun _ => some true) (fun k => by simp only [garrisonlaw05_ScriptMore.j0]; rw [if_pos trivial]; try rfl) (Ev.now _)
  by_cases h1 : (l.length : Int) > 150
  · exact Ev.congr (fun k => by unfold garrisonlaw05_ScriptMore.f; rw [if_pos h1]) hlive
  by_cases h2 : n < 0
  · exact Ev.congr (fun k => by unfold garrisonlaw05_ScriptMore.f; rw [if_neg h1, if_pos h2]) hlive
  by_cases h3 : n > 64
  · exact Ev.congr (fun k => by unfold garrisonlaw05_ScriptMore.f; rw [if_neg h1, if_neg h2, if_pos h3]) hlive
  by_cases h4 : w < 1
  · exact Ev.congr (fun k => by unfold garrisonlaw05_ScriptMore.f; rw [if_neg h1, if_neg h2, if_neg h3, if_pos h4]) hlive
  by_cases h5 : w > 1000
  · exact Ev.congr (fun k => by unfold garrisonlaw05_ScriptMore.f; rw [if_neg h1, if_neg h2, if_neg h3, if_neg h4, if_pos h5]) hlive
  by_cases h6 : more < 0
  · exact Ev.congr (fun k => by unfold garrisonlaw05_ScriptMore.f; rw [if_neg h1, if_neg h2, if_neg h3, if_neg h4, if_neg h5, if_pos h6]) hlive
  by_cases h7 : more > 1000
  · exact Ev.congr (fun k => by unfold garrisonlaw05_ScriptMore.f; rw [if_neg h1, if_neg h2, if_neg h3, if_neg h4, if_neg h5, if_neg h6, decide_eq_true h7]) hlive
  have hl : l.length ≤ 1000000 := by omega
  obtain ⟨x, hx, he⟩ := window_ev l n hl
  have hx1 := hx.1
  have hx2 := hx.2.1
  have hw1 : wrap64 ((l.length : Int) + 1) = (l.length : Int) + 1 := wi (by omega) (by omega)
  have hw2 : wrap64 (w + more) = w + more := wi (by omega) (by omega)
  have hw3 : wrap64 (n - 1) = n - 1 := wi (by omega) (by omega)
  have hw4 : wrap64 (x - 1) = x - 1 := wi (by omega) (by omega)
  have j1 : Ev (fun k => garrisonlaw05_ScriptMore.j1 k l n w false) true := by
    refine Ev.step (fun k => by simp only [garrisonlaw05_ScriptMore.j1]; rw [if_neg (by decide)]; try rfl) (Ev.bind he ?_)
    refine Ev.congr (fun k => by rw [if_pos hx1, hw1, if_pos hx2]) (Ev.bind (sfair_ev l n x x hl hx) ?_)
    refine Ev.congr (fun k => if_pos (decide_eq_true (Int.le_refl _))) ?_
    by_cases h8 : x = 1
    · refine Ev.congr (fun k => if_pos h8) (Ev.bind (sfair_ev l n w x hl hx) ?_)
      exact Ev.congr (fun k => if_pos (beq_self_eq_true _)) (Ev.now _)
    · refine Ev.congr (fun k => if_neg h8) (Ev.bind (sfair_ev l n _ x hl hx) ?_)
      refine Ev.congr (fun k => if_neg (by rw [hw4, decide_eq_true_eq]; omega)) (Ev.bind (sfair_ev l n w x hl hx) ?_)
      exact Ev.congr (fun k => if_pos (beq_self_eq_true _)) (Ev.now _)
  refine Ev.congr (fun k => by unfold garrisonlaw05_ScriptMore.f; rw [if_neg h1, if_neg h2, if_neg h3, if_neg h4, if_neg h5, if_neg h6, decide_eq_false h7]) ?_
  refine Ev.step (fun k => by simp only [garrisonlaw05_ScriptMore.j0]; rw [if_neg (by decide)]; try rfl) (Ev.bind (sfair_ev l n w x hl hx) ?_)
  by_cases h8 : x ≤ w
  · refine Ev.congr (fun k => if_pos (decide_eq_true h8)) (Ev.bind (sfair_ev l n _ x hl hx) ?_)
    refine Ev.congr (fun k => if_pos (by rw [hw2]; exact decide_eq_true (by omega))) ?_
    have hm : mx (wrap64 (n - 1)) 0 = if n = 0 then 0 else n - 1 := by
      rw [hw3]
      unfold mx
      split <;> split <;> omega
    obtain ⟨y, hy, _⟩ := window_ev l (mx (wrap64 (n - 1)) 0) hl
    have hle : y ≤ x := win_fewer hx hy (by rw [hm]; split <;> omega)
    refine Ev.bind (sfair_ev l _ w y hl hy) ?_
    rw [decide_eq_true (show y ≤ w by omega)]
    exact j1
  · exact Ev.congr (fun k => if_neg (by rw [decide_eq_true_eq]; exact h8)) j1
end Go.Proofs.YthifdmelanbgmaaDoor.Pure
