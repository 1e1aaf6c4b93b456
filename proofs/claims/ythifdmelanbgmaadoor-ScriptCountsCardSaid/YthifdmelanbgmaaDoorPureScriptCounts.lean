/- ScriptCounts is true of all inputs: no condition. -/
import Derived.Test.YthifdmelanbgmaaDoorScr3
import Derived.Test.YthifdmelanbgmaaDoorPx8
namespace Go.Proofs.YthifdmelanbgmaaDoor.Pure
open Go Go.RowKit Go.Proofs.YthifdmelanbgmaaDoorW.PrintWords Go.Proofs.YthifdmelanbgmaaDoorW.PrintLast Go.Proofs.YthifdmelanbgmaaDoorW.PrintMore Go.Proofs.YthifdmelanbgmaaDoor.P Go.Proofs.YthifdmelanbgmaaDoor.Given Go.Proofs.YthifdmelanbgmaaDoor.Plain

theorem ScriptCounts : garrisonlaw05_ScriptCounts.Pure := by
  intro l n w c _ _ _ hn _ _
  refine Ev.rounds (r := true) ?_
  have hlive : Ev (fun k => garrisonlaw05_ScriptCounts.j0 k l n w c true) true := Ev.step (f := fun _ => some true) (fun k => by simp only [garrisonlaw05_ScriptCounts.j0]; rw [if_pos trivial]; try rfl) (Ev.now _)
  by_cases h1 : (l.length : Int) > 150
  · exact Ev.congr (fun k => by unfold garrisonlaw05_ScriptCounts.f; rw [if_pos h1]) hlive
  · by_cases h2 : n > 64
    · exact Ev.congr (fun k => by unfold garrisonlaw05_ScriptCounts.f; rw [if_neg h1, decide_eq_true h2]) hlive
    · have hl : l.length ≤ 1000000 := by omega
      obtain ⟨x, hx, he⟩ := window_ev l n hl
      refine Ev.congr (fun k => by unfold garrisonlaw05_ScriptCounts.f; rw [if_neg h1, decide_eq_false h2]) ?_
      refine Ev.step (fun k => by simp only [garrisonlaw05_ScriptCounts.j0]; rw [if_neg (by decide)]; try rfl) (Ev.bind (scount l c hl) (Ev.bind (rcount l c hl) ?_))
      refine Ev.congr (fun k => if_pos rfl) (Ev.bind (sfair_ev l n w x hl hx) (Ev.bind (rfair_ev l n w x hl (by omega) hx) ?_))
      refine Ev.congr (fun k => if_pos (beq_self_eq_true _)) (Ev.bind he (Ev.bind (rwindow_ev l n x hl (by omega) hx) ?_))
      exact Ev.congr (fun k => if_pos rfl) (Ev.now _)
end Go.Proofs.YthifdmelanbgmaaDoor.Pure
