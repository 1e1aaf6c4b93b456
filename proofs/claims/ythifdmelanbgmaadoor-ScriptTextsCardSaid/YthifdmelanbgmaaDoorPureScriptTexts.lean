/- ScriptTexts is true of all inputs: no condition. -/
import Derived.Test.YthifdmelanbgmaaDoorScr5
import Derived.Test.YthifdmelanbgmaaDoorPx5
namespace Go.Proofs.YthifdmelanbgmaaDoor.Pure
open Go Go.RowKit Go.Proofs.YthifdmelanbgmaaDoorW.PrintWords Go.Proofs.YthifdmelanbgmaaDoorW.PrintLast Go.Proofs.YthifdmelanbgmaaDoorW.PrintMore Go.Proofs.YthifdmelanbgmaaDoor.P Go.Proofs.YthifdmelanbgmaaDoor.Given Go.Proofs.YthifdmelanbgmaaDoor.Plain

theorem ScriptTexts : garrisonlaw05_ScriptTexts.Pure := by
  intro l n s _ _ _ _ _
  refine Ev.rounds (r := true) ?_
  have hlive : Ev (fun k => garrisonlaw05_ScriptTexts.j0 k l n s true) true := Ev.step (f := fun _ => some true) (fun k => by simp only [garrisonlaw05_ScriptTexts.j0]; rw [if_pos trivial]; try rfl) (Ev.now _)
  by_cases h1 : (l.length : Int) > 150
  · exact Ev.congr (fun k => by unfold garrisonlaw05_ScriptTexts.f; rw [if_pos h1]) hlive
  by_cases h2 : (s.size : Int) > 1000
  · exact Ev.congr (fun k => by unfold garrisonlaw05_ScriptTexts.f; rw [if_neg h1, decide_eq_true h2]) hlive
  have hl : l.length ≤ 10000 := by omega
  obtain ⟨r, hr1, hr2, hlen⟩ := parse_same s (by omega)
  have hl2 : l.length ≤ 1000000 := by omega
  have hlen2 : r.1.length ≤ 1000000 := by omega
  refine Ev.congr (fun k => by unfold garrisonlaw05_ScriptTexts.f; rw [if_neg h1, decide_eq_false h2]) ?_
  refine Ev.step (fun k => by simp only [garrisonlaw05_ScriptTexts.j0]; rw [if_neg (by decide)]; try rfl) (Ev.bind hr1 (Ev.bind hr2 (Ev.bind (g := fun _ => script_Check.f l n) (Ev.congr (fun k => check_f l n) (Ev.now _)) (Ev.bind (g := fun _ => garrisonlaw05_num.f _) (Ev.now _) (Ev.bind (is_ev l n hl2) ?_)))))
  have hb : (((if okS l n = true then (0 : Int) else 2) == 0) == okS l n) = true := by
    cases okS l n <;> rfl
  refine Ev.congr (fun k => if_pos hb) (Ev.bind (sput_ev l hl) (Ev.bind (rput_ev l hl) ?_))
  refine Ev.congr (fun k => if_pos rfl) (Ev.bind (same_ev r.1 r.1 hlen2) ?_)
  refine Ev.congr (fun k => if_pos (decide_eq_true rfl)) (Ev.bind (g := fun _ => garrisonlaw05_num.f r.2) (Ev.now _) ?_)
  exact Ev.congr (fun k => if_pos rfl) (Ev.now _)
end Go.Proofs.YthifdmelanbgmaaDoor.Pure
