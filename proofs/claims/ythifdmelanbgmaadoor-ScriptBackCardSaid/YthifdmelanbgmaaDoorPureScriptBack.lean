/- ScriptBack is true of all inputs: no condition. -/
import Derived.Test.YthifdmelanbgmaaDoorScr5
import Derived.Test.YthifdmelanbgmaaDoorPx12
namespace Go.Proofs.YthifdmelanbgmaaDoor.Pure
open Go Go.RowKit Go.Proofs.YthifdmelanbgmaaDoorW.PrintWords Go.Proofs.YthifdmelanbgmaaDoorW.PrintLast Go.Proofs.YthifdmelanbgmaaDoorW.PrintMore Go.Proofs.YthifdmelanbgmaaDoor.P Go.Proofs.YthifdmelanbgmaaDoor.Given Go.Proofs.YthifdmelanbgmaaDoor.Plain

theorem put_ok {l : List Int} (h : okS l 64 = true) : putS l = ofB (txt l) := by unfold putS; rw [if_pos h]
theorem txt_nil_iff {l : List Int} (h : okS l 64 = true) : txt l = [] ↔ l = [] := by
  have h1 := txt_len l (ok_all h)
  constructor
  · intro e
    rw [e, List.length_nil] at h1
    exact List.length_eq_zero_iff.1 (by omega)
  · rintro rfl; rfl
theorem back_ev (l : List Int) (h : okS l 64 = true) (hl : l.length ≤ 150) : Ev (fun k => script_Parse.f k (putS l)) (l, 0) := by
  rw [put_ok h]
  have h1 := txt_len l (ok_all h)
  by_cases hne : l = []
  · subst hne
    exact Ev.congr (f := fun _ => some ([], 0)) (fun k => by unfold script_Parse.f; rw [if_pos (by rw [ofB_toList]; rfl)]) (Ev.now _)
  · exact sparse_ok l (ok_all h) hne (by omega)
theorem put_inj (l m : List Int) (h : okS l 64 = true) (h' : okS m 64 = true) (hl : l.length ≤ 150) (hm : m.length ≤ 150) : (((putS l).toList == (putS m).toList) == decide (l = m)) = true := by
  by_cases e : l = m
  · subst e
    rw [beq_self_eq_true, decide_eq_true rfl]
    rfl
  · have hne : ¬ (putS l).toList = (putS m).toList := fun h2 => by
      have h3 := back_ev l h hl
      have h4 := back_ev m h' hm
      rw [eq_of_toList h2] at h3
      have := Ev.uniq h3 h4
      exact e (congrArg Prod.fst this)
    rw [beq_eq_false_iff_ne.2 hne, decide_eq_false e]
    rfl
theorem ScriptBack : garrisonlaw05_ScriptBack.Pure := by
  intro l m _ _ _ _ _ _
  refine Ev.rounds (r := true) ?_
  have hlive : Ev (fun k => garrisonlaw05_ScriptBack.j0 k l m true) true := Ev.step (f := fun _ => some true) (fun k => by simp only [garrisonlaw05_ScriptBack.j0]; rw [if_pos trivial]; try rfl) (Ev.now _)
  by_cases h1 : (l.length : Int) > 150
  · exact Ev.congr (fun k => by unfold garrisonlaw05_ScriptBack.f; rw [if_pos h1]) hlive
  by_cases h2 : (m.length : Int) > 150
  · exact Ev.congr (fun k => by unfold garrisonlaw05_ScriptBack.f; rw [if_neg h1, if_pos h2]) hlive
  have st : ∀ k, garrisonlaw05_ScriptBack.f k l m = garrisonlaw05_ScriptBack.j0 k l m ((wrap64 ((if okS l 64 = true then (0 : Int) else 2) + (if okS m 64 = true then (0 : Int) else 2))) != 0) := fun k => by
    unfold garrisonlaw05_ScriptBack.f
    rw [if_neg h1, if_neg h2, check_f, check_f]
    rfl
  refine Ev.congr st ?_
  by_cases hl : okS l 64 = true
  case neg =>
    have hz : (wrap64 ((if okS l 64 = true then (0 : Int) else 2) + (if okS m 64 = true then (0 : Int) else 2)) != 0) = true := by
      rw [if_neg hl, wi (by split <;> decide) (by split <;> decide)]
      split <;> rfl
    rw [hz]
    exact hlive
  by_cases hm : okS m 64 = true
  case neg =>
    have hz : (wrap64 ((if okS l 64 = true then (0 : Int) else 2) + (if okS m 64 = true then (0 : Int) else 2)) != 0) = true := by
      rw [if_pos hl, if_neg hm, wi (by decide) (by decide)]
      rfl
    rw [hz]
    exact hlive
  have hz : (wrap64 ((if okS l 64 = true then (0 : Int) else 2) + (if okS m 64 = true then (0 : Int) else 2)) != 0) = false := by
    rw [if_pos hl, if_pos hm, wi (by decide) (by decide)]
    rfl
  rw [hz]
  clear hz st
  have hl1 : l.length ≤ 10000 := by omega
  have hm1 : m.length ≤ 10000 := by omega
  have hl2 : l.length ≤ 1000000 := by omega
  refine Ev.step (fun k => by simp only [garrisonlaw05_ScriptBack.j0]; rw [if_neg (by decide)]; try rfl) (Ev.bind (sput_ev l hl1) (Ev.bind (back_ev l hl (by omega)) (Ev.bind (g := fun _ => garrisonlaw05_num.f 0) (Ev.now _) ?_)))
  refine Ev.congr (fun k => if_pos rfl) (Ev.bind (same_ev l l hl2) ?_)
  refine Ev.congr (fun k => if_pos (decide_eq_true rfl)) (Ev.bind (sput_ev l hl1) (Ev.bind (sput_ev m hm1) (Ev.bind (same_ev l m hl2) ?_)))
  exact Ev.congr (fun k => if_pos (put_inj l m hl hm (by omega) (by omega))) (Ev.now _)
end Go.Proofs.YthifdmelanbgmaaDoor.Pure
