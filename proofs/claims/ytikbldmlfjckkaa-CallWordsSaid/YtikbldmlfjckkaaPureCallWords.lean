/- CallWords: whether a call may be, its words, every words as one, its name: the reference's. -/
import Derived.Test.YtikbldmlfjckkaaGRefParse
import Derived.Test.YtikbldmlfjckkaaGLive
import Derived.Test.YtikbldmlfjckkaaPx7
import Derived.Test.YtikbldmlfjckkaaPx8
namespace Go.Proofs.Ytikbldmlfjckkaa.Pure
open Go Go.RowKit Go.Proofs.YtikbldmlfjckkaaW.PrintWords Go.Proofs.YtikbldmlfjckkaaW.PrintLast Go.Proofs.YtikbldmlfjckkaaW.PrintMore Go.Proofs.Ytikbldmlfjckkaa.P Go.Proofs.Ytikbldmlfjckkaa.Given Go.Proofs.Ytikbldmlfjckkaa.Plain

theorem num_eq (a : Int) : garrisonlaw15_num.f a = some a := rfl
theorem name15 (kd : Int) : garrisonref15_Name.f kd = call_Name.f kd := by
  unfold garrisonref15_Name.f call_Name.f
  rw [Option.bind_some]
  by_cases h1 : kd < 1
  · rw [if_pos h1, if_neg (by omega)]
  · rw [if_neg h1]
    by_cases h2 : kd ≥ 13
    · rw [if_pos (by show kd ≥ 13; exact h2), if_neg (by omega)]
    · rw [if_neg (by show ¬ kd ≥ 13; exact h2), if_pos (by omega), if_pos (by show kd < 13; omega), if_pos (by omega)]
      obtain rfl | rfl | rfl | rfl | rfl | rfl | rfl | rfl | rfl | rfl | rfl | rfl : kd = 1 ∨ kd = 2 ∨ kd = 3 ∨ kd = 4 ∨ kd = 5 ∨ kd = 6 ∨ kd = 7 ∨ kd = 8 ∨ kd = 9 ∨ kd = 10 ∨ kd = 11 ∨ kd = 12 := by omega
      all_goals rfl
theorem puts {kd a b r bd ty sz v : Int} (hw : wfc a b r) : ∃ p q, call_Put.f kd a b r bd ty sz v = some (p, q) ∧ garrisonref15_Put.f 1200 kd a b r bd ty sz v = some (p, q) ∧ p.length ≤ 1000 := by
  by_cases h : callOk kd a b r bd ty sz v = true
  · exact ⟨_, _, Put_ok hw h, refPut15_yes hw h (by omega), by show 4 ≤ 1000; decide⟩
  · exact ⟨_, _, Put_bad hw h, refPut15_no hw h _, by show 0 ≤ 1000; decide⟩
theorem check15 {kd a b r bd ty sz v : Int} (hw : wfc a b r) : ∃ c, call_Check.f kd a b r bd ty sz v = some c ∧ (c == 0) = callOk kd a b r bd ty sz v := by
  unfold call_Check.f
  rw [if_pos hw]
  by_cases h : callOk kd a b r bd ty sz v = true
  · exact ⟨_, rfl, by rw [if_pos h, h]; rfl⟩
  · exact ⟨_, rfl, by rw [if_neg h, Bool.not_eq_true _ |>.mp h]; rfl⟩
theorem CallWords : garrisonlaw15_CallWords.Pure := by
  intro kd a b r bd ty sz v l ht _ hwf
  have hw := wf24 ht
  have hl : wfl l := fun x hx => by
    obtain ⟨n, rfl, hn⟩ := wf_u64 (hwf x hx)
    omega
  refine ⟨1200, ?_⟩
  unfold garrisonlaw15_CallWords.f
  by_cases h20 : (l.length : Int) > 20
  · rw [if_pos h20]
    rfl
  · rw [if_neg h20]
    obtain ⟨p, q, hp1, hp2, hp3⟩ := puts (kd := kd) (bd := bd) (ty := ty) (sz := sz) (v := v) hw.1
    obtain ⟨c, hc1, hc2⟩ := check15 (kd := kd) (bd := bd) (ty := ty) (sz := sz) (v := v) hw.1
    obtain ⟨n, hn⟩ : ∃ n, call_Name.f kd = some n := ⟨_, rfl⟩
    have hpl : call_Parse.f l = some (parseC l) := by unfold call_Parse.f; rw [if_pos hl]
    have hpr : garrisonref15_Parse.f l = some (parseC l) := by unfold garrisonref15_Parse.f; rw [if_pos hl]
    have hwd := Words_eq p p hp3 (k := 1200) (by omega)
    rw [decide_eq_true rfl] at hwd
    rw [hp1, hp2, hc1, Is15 hw.1, name15, hn, hpr, Option.bind_some, Option.bind_some, Option.bind_some, if_pos (by show 0 + l.length < 17592186044416; omega), List.nil_append, hpl, Option.bind_some, Option.bind_some, Option.bind_some, num_eq, Option.bind_some, Option.bind_some]
    generalize parseC l = P
    rw [hc2, beq_self_eq_true, if_pos rfl, hwd, Option.bind_some, if_pos rfl]
    simp [num_eq, garrisonlaw15_live.f]
end Go.Proofs.Ytikbldmlfjckkaa.Pure
