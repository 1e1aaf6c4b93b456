/- ScriptFair is true of all inputs: no condition. -/
import Derived.Test.YthifdmelanbgmaaDoorScr4
import Derived.Test.YthifdmelanbgmaaDoorPx10
namespace Go.Proofs.YthifdmelanbgmaaDoor.Pure
open Go Go.RowKit Go.Proofs.YthifdmelanbgmaaDoorW.PrintWords Go.Proofs.YthifdmelanbgmaaDoorW.PrintLast Go.Proofs.YthifdmelanbgmaaDoorW.PrintMore Go.Proofs.YthifdmelanbgmaaDoor.P Go.Proofs.YthifdmelanbgmaaDoor.Given Go.Proofs.YthifdmelanbgmaaDoor.Plain

theorem ScriptFair : garrisonlaw05_ScriptFair.Pure := by
  intro n m c _ _ _
  refine Ev.rounds (r := true) ?_
  have hlive : Ev (fun k => garrisonlaw05_ScriptFair.j0 k n m c true) true := Ev.step (f := fun _ => some true) (fun k => by simp only [garrisonlaw05_ScriptFair.j0]; rw [if_pos trivial]; try rfl) (Ev.now _)
  by_cases h1 : n < 1
  · exact Ev.congr (fun k => by unfold garrisonlaw05_ScriptFair.f; rw [if_pos h1]) hlive
  by_cases h2 : n > 64
  · exact Ev.congr (fun k => by unfold garrisonlaw05_ScriptFair.f; rw [if_neg h1, if_pos h2]) hlive
  by_cases h3 : m < 2
  · exact Ev.congr (fun k => by unfold garrisonlaw05_ScriptFair.f; rw [if_neg h1, if_neg h2, if_pos h3]) hlive
  by_cases h4 : m > 100
  · exact Ev.congr (fun k => by unfold garrisonlaw05_ScriptFair.f; rw [if_neg h1, if_neg h2, if_neg h3, if_pos h4]) hlive
  by_cases h5 : c < 0
  · exact Ev.congr (fun k => by unfold garrisonlaw05_ScriptFair.f; rw [if_neg h1, if_neg h2, if_neg h3, if_neg h4, if_pos h5]) hlive
  by_cases h6 : c ≥ n
  · exact Ev.congr (fun k => by unfold garrisonlaw05_ScriptFair.f; rw [if_neg h1, if_neg h2, if_neg h3, if_neg h4, if_neg h5, decide_eq_true h6]) hlive
  obtain ⟨n, rfl⟩ := Int.eq_ofNat_of_zero_le (show 0 ≤ n by omega)
  obtain ⟨m, rfl⟩ := Int.eq_ofNat_of_zero_le (show 0 ≤ m by omega)
  obtain ⟨c, rfl⟩ := Int.eq_ofNat_of_zero_le (show 0 ≤ c by omega)
  have hr := srounds_ev (n : Int) (m : Int)
  have es : sround (n : Int) (m : Int) = rnds n m := by unfold sround; rw [if_neg (by omega), Int.toNat_natCast, Int.toNat_natCast]
  rw [es] at hr
  have hlen := rnds_len n m
  have hnm : n * m ≤ 6400 := Nat.le_trans (Nat.mul_le_mul (show n ≤ 64 by omega) (show m ≤ 100 by omega)) (by decide)
  have hl : (rnds n m).length ≤ 1000000 := by omega
  have hx := win_rounds n m (by omega) (by omega)
  obtain ⟨y, hy, he⟩ := window_ev (rnds n m) (n : Int) hl
  obtain rfl := win_one hx hy
  have hc := scount (rnds n m) (c : Int) hl
  rw [count_rnds n c m (by omega)] at hc
  have hw : wrap64 ((n : Int) * (m : Int)) = ((rnds n m).length : Int) := by rw [hlen, ← Int.natCast_mul]; exact wi (by omega) (by omega)
  have hok : okS (rnds n m) (n : Int) = true := decide_eq_true ⟨by omega, by omega, fun x hx => mem_rnds n m x hx⟩
  have hck : script_Check.f (rnds n m) (n : Int) = some 0 := by rw [check_f, if_pos hok]
  have tail : Ev (fun k => (script_Window.f k (rnds n m) (n : Int)).bind fun t168 => (if t168 = (n : Int) then ((script_Count.f k (rnds n m) (c : Int)).bind fun t169 => (if t169 = (m : Int) then (if ((rnds n m).length : Int) = (wrap64 ((n : Int) * (m : Int))) then ((script_Check.f (rnds n m) (n : Int)).bind fun t170 => ((garrisonlaw05_num.f t170).bind fun t171 => (if t171 = 0 then ((garrisonlaw05_live.f).bind fun t172 => (some t172)) else (some false)))) else (some false)) else (some false))) else (some false))) true := by
    refine Ev.bind he (Ev.congr (fun k => if_pos rfl) (Ev.bind hc (Ev.congr (fun k => ?_) (Ev.now _))))
    rw [if_pos rfl, hw, if_pos rfl, hck]
    rfl
  refine Ev.congr (fun k => by unfold garrisonlaw05_ScriptFair.f; rw [if_neg h1, if_neg h2, if_neg h3, if_neg h4, if_neg h5, decide_eq_false h6]) ?_
  refine Ev.step (fun k => by simp only [garrisonlaw05_ScriptFair.j0]; rw [if_neg (by decide)]; try rfl) (Ev.bind hr (Ev.bind (sfair_ev (rnds n m) n n _ hl hx) ?_))
  refine Ev.congr (fun k => if_pos (decide_eq_true (Int.le_refl _))) ?_
  by_cases h7 : (n : Int) = 1
  · exact Ev.congr (fun k => if_pos h7) tail
  · refine Ev.congr (fun k => if_neg h7) (Ev.bind (sfair_ev (rnds n m) n _ _ hl hx) ?_)
    have hw1 : wrap64 ((n : Int) - 1) = (n : Int) - 1 := wi (by omega) (by omega)
    exact Ev.congr (fun k => if_neg (by rw [hw1, decide_eq_true_eq]; omega)) tail
end Go.Proofs.YthifdmelanbgmaaDoor.Pure
