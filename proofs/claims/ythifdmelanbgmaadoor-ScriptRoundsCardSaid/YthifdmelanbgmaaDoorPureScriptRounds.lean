/- ScriptRounds is true of all inputs: no condition. -/
import Derived.Test.YthifdmelanbgmaaDoorScr4
import Derived.Test.YthifdmelanbgmaaDoorPx14
namespace Go.Proofs.YthifdmelanbgmaaDoor.Pure
open Go Go.RowKit Go.Proofs.YthifdmelanbgmaaDoorW.PrintWords Go.Proofs.YthifdmelanbgmaaDoorW.PrintLast Go.Proofs.YthifdmelanbgmaaDoorW.PrintMore Go.Proofs.YthifdmelanbgmaaDoor.P Go.Proofs.YthifdmelanbgmaaDoor.Given Go.Proofs.YthifdmelanbgmaaDoor.Plain

theorem ScriptRounds : garrisonlaw05_ScriptRounds.Pure := by
  intro l n m _ _ _ _ _
  refine Ev.rounds (r := true) ?_
  have hlive : Ev (fun k => garrisonlaw05_ScriptRounds.j0 k l n m true) true := Ev.step (f := fun _ => some true) (fun k => by simp only [garrisonlaw05_ScriptRounds.j0]; rw [if_pos trivial]; try rfl) (Ev.now _)
  by_cases h1 : (l.length : Int) > 150
  · exact Ev.congr (fun k => by unfold garrisonlaw05_ScriptRounds.f; rw [if_pos h1]) hlive
  · by_cases h2 : m > 200
    · exact Ev.congr (fun k => by unfold garrisonlaw05_ScriptRounds.f; rw [if_neg h1, decide_eq_true h2]) hlive
    · have hs := sround_len' n m (by omega)
      refine Ev.congr (fun k => by unfold garrisonlaw05_ScriptRounds.f; rw [if_neg h1, decide_eq_false h2]) ?_
      refine Ev.step (fun k => by simp only [garrisonlaw05_ScriptRounds.j0]; rw [if_neg (by decide)]; try rfl) (Ev.bind (srounds_ev n m) (Ev.bind (rrounds_ev n m) (Ev.bind (same_ev (sround n m) (sround n m) (by omega)) ?_)))
      refine Ev.congr (fun k => if_pos (decide_eq_true rfl)) (Ev.bind (g := fun _ => some ([] : List Int)) (Ev.now _) ?_)
      refine Ev.congr (fun k => if_pos (by simp only [List.length_nil]; omega)) (Ev.bind (sfill_ev l n m (by omega) (by omega)) (Ev.bind (rfill_ev l n m (by omega)) (Ev.bind (same_ev (l ++ sround n m) (l ++ sround n m) (by rw [List.length_append]; omega)) ?_)))
      exact Ev.congr (fun k => if_pos (decide_eq_true rfl)) (Ev.now _)
end Go.Proofs.YthifdmelanbgmaaDoor.Pure
