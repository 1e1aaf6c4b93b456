/- CallOnly: what a kind has no use for must be 0. -/
import Derived.Test.YtikbldmlfjckkaaCall1
import Derived.Test.YtikbldmlfjckkaaGLive
import Derived.Test.YtikbldmlfjckkaaPx10
namespace Go.Proofs.Ytikbldmlfjckkaa.Pure
open Go Go.RowKit Go.Proofs.YtikbldmlfjckkaaW.PrintWords Go.Proofs.YtikbldmlfjckkaaW.PrintLast Go.Proofs.YtikbldmlfjckkaaW.PrintMore Go.Proofs.Ytikbldmlfjckkaa.P Go.Proofs.Ytikbldmlfjckkaa.Given Go.Proofs.Ytikbldmlfjckkaa.Plain

theorem num_eq (a : Int) : garrisonlaw15_num.f a = some a := rfl
theorem Check_f {kd a b r bd ty sz v : Int} (hw : wfc a b r) : call_Check.f kd a b r bd ty sz v = some (if callOk kd a b r bd ty sz v = true then 0 else 150) := by
  unfold call_Check.f
  rw [if_pos hw]
theorem ok0 {q : Bool} (h : (if q = true then (0 : Int) else 150) = 0) : q = true := by
  cases q with
  | true => rfl
  | false => exact absurd h (by decide)
theorem only {kd a b r bd ty sz v : Int} (h : callOk kd a b r bd ty sz v = true) : (kd = 1 ∨ r = 0) ∧ (kd = 1 ∨ bd = 0) ∧ (kd = 5 ∨ ty = 0) ∧ (kd = 5 ∨ sz = 0) ∧ (kd = 7 ∨ kd = 8 ∨ v = 0) ∧ (kd = 1 ∨ kd = 2 ∨ kd = 5 ∨ kd = 8 ∨ kd = 9 ∨ b = 0) ∧ addrB a = true := by
  unfold callOk kindB at h
  by_cases k1 : kd = 1
  · rw [if_pos k1] at h
    simp only [Bool.and_eq_true, decide_eq_true_eq, beq_iff_eq] at h
    exact ⟨.inl k1, .inl k1, .inr (by omega), .inr (by omega), .inr (.inr (by omega)), .inl k1, h.2.2.1⟩
  · rw [if_neg k1] at h
    by_cases k2 : kd = 2
    · rw [if_pos k2] at h
      simp only [Bool.and_eq_true, decide_eq_true_eq, beq_iff_eq] at h
      exact ⟨.inr (by omega), .inr (by omega), .inr (by omega), .inr (by omega), .inr (.inr (by omega)), .inr (.inl k2), h.2.2.1⟩
    · rw [if_neg k2] at h
      by_cases k5 : kd = 5
      · rw [if_pos k5] at h
        simp only [Bool.and_eq_true, decide_eq_true_eq, beq_iff_eq] at h
        exact ⟨.inr (by omega), .inr (by omega), .inl k5, .inl k5, .inr (.inr (by omega)), .inr (.inr (.inl k5)), h.2.2.1⟩
      · rw [if_neg k5] at h
        by_cases k7 : kd = 7
        · rw [if_pos k7] at h
          simp only [Bool.and_eq_true, decide_eq_true_eq, beq_iff_eq] at h
          exact ⟨.inr (by omega), .inr (by omega), .inr (by omega), .inr (by omega), .inl k7, .inr (.inr (.inr (.inr (.inr (by omega))))), h.2.2.1⟩
        · rw [if_neg k7] at h
          by_cases k8 : kd = 8
          · rw [if_pos k8] at h
            simp only [Bool.and_eq_true, decide_eq_true_eq, beq_iff_eq] at h
            exact ⟨.inr (by omega), .inr (by omega), .inr (by omega), .inr (by omega), .inr (.inl k8), .inr (.inr (.inr (.inl k8))), h.2.2.1⟩
          · rw [if_neg k8] at h
            by_cases k9 : kd = 9
            · rw [if_pos k9] at h
              simp only [Bool.and_eq_true, decide_eq_true_eq, beq_iff_eq] at h
              exact ⟨.inr (by omega), .inr (by omega), .inr (by omega), .inr (by omega), .inr (.inr (by omega)), .inr (.inr (.inr (.inr (.inl k9)))), h.2.2.1⟩
            · rw [if_neg k9] at h
              simp only [Bool.and_eq_true, decide_eq_true_eq, beq_iff_eq] at h
              exact ⟨.inr (by omega), .inr (by omega), .inr (by omega), .inr (by omega), .inr (.inr (by omega)), .inr (.inr (.inr (.inr (.inr (by omega))))), h.2.2.1⟩
theorem any_v {kd a b r bd ty sz v : Int} (hk : kd = 7 ∨ kd = 8) (h : callOk kd a b r bd ty sz v = true) (v' : Int) : callOk kd a b r bd ty sz v' = true := by
  unfold callOk kindB at h ⊢
  rcases hk with rfl | rfl
  · simpa using h
  · simpa using h
theorem any_b {kd a b r bd ty sz v : Int} (hk : kd = 1 ∨ kd = 2 ∨ kd = 5 ∨ kd = 8 ∨ kd = 9) (h : callOk kd a b r bd ty sz v = true) {b' : Int} (hb : addrB b' = true) : callOk kd a b' r bd ty sz v = true := by
  unfold callOk kindB at h ⊢
  rcases hk with rfl | rfl | rfl | rfl | rfl
  all_goals
    simp [hb] at h ⊢
    simp [h]
theorem addr_nz {a : Int} (h : addrB a = true) : a ≠ 0 := by
  rintro rfl
  exact absurd h (by decide +kernel)
theorem only_j0 {kd a b r bd ty sz v n y : Int} (hw : wfCall a b r v) (h : callOk kd a b r bd ty sz v = true) (hy0 : y ≠ 0) (hy : -9223372036854775808 ≤ y ∧ y ≤ 9223372036854775807) : garrisonlaw15_CallOnly.j0 2 n y false kd a b r bd ty sz v = some true := by
  have hlive : ((garrisonlaw15_live.f).bind fun t : Bool => (some t)) = some true := rfl
  obtain ⟨⟨wa, wb, wr⟩, _⟩ := hw
  have hO := only h
  rw [garrisonlaw15_CallOnly.j0, if_neg Bool.false_ne_true]
  by_cases n0 : n = 0
  · rw [if_pos n0, Check_f ⟨wa, wb, hy⟩, Option.bind_some, num_eq, Option.bind_some]
    by_cases k : kd = 1
    · rw [if_pos k, if_pos (show n < 4 by omega)]
      exact hlive
    · rw [if_neg k, if_neg (fun hh => by have := (only (ok0 hh)).1; omega), if_pos (show n < 4 by omega)]
      exact hlive
  · rw [if_neg n0]
    by_cases n1 : n = 1
    · rw [if_pos n1, Check_f ⟨wa, wb, wr⟩, Option.bind_some, num_eq, Option.bind_some]
      by_cases k : kd = 1
      · rw [if_pos k, if_pos (show n < 4 by omega)]
        exact hlive
      · rw [if_neg k, if_neg (fun hh => by have := (only (ok0 hh)).2.1; omega), if_pos (show n < 4 by omega)]
        exact hlive
    · rw [if_neg n1]
      by_cases n2 : n = 2
      · rw [if_pos n2, Check_f ⟨wa, wb, wr⟩, Option.bind_some, num_eq, Option.bind_some]
        by_cases k : kd = 5
        · rw [if_pos k, if_pos (show n < 4 by omega)]
          exact hlive
        · rw [if_neg k, if_neg (fun hh => by have := (only (ok0 hh)).2.2.1; omega), if_pos (show n < 4 by omega)]
          exact hlive
      · rw [if_neg n2]
        by_cases n3 : n = 3
        · rw [if_pos n3, Check_f ⟨wa, wb, wr⟩, Option.bind_some, num_eq, Option.bind_some]
          by_cases k : kd = 5
          · rw [if_pos k, if_pos (show n < 4 by omega)]
            exact hlive
          · rw [if_neg k, if_neg (fun hh => by have := (only (ok0 hh)).2.2.2.1; omega), if_pos (show n < 4 by omega)]
            exact hlive
        · rw [if_neg n3]
          by_cases n4 : n = 4
          · have hc : call_Check.f kd a b r bd ty sz y = some (if callOk kd a b r bd ty sz y = true then 0 else 150) := Check_f ⟨wa, wb, wr⟩
            rw [if_pos n4, hc, Option.bind_some, num_eq, Option.bind_some, if_neg (show ¬ n < 4 by omega)]
            by_cases k7 : kd = 7
            · rw [if_pos k7, if_pos (any_v (.inl k7) h y), if_pos rfl]
              exact hlive
            · rw [if_neg k7, Option.bind_some, num_eq, Option.bind_some]
              by_cases k8 : kd = 8
              · rw [if_pos k8, if_pos (any_v (.inr k8) h y), if_pos rfl]
                split <;> exact hlive
              · rw [if_neg k8, if_neg (fun hh => by have := (only (ok0 hh)).2.2.2.2.1; omega)]
                split <;> exact hlive
          · have hc : call_Check.f kd a a r bd ty sz v = some (if callOk kd a a r bd ty sz v = true then 0 else 150) := Check_f ⟨wa, wa, wr⟩
            have ha := hO.2.2.2.2.2.2
            have hyes : kd = 1 ∨ kd = 2 ∨ kd = 5 ∨ kd = 8 ∨ kd = 9 → (if n < 4 then ((garrisonlaw15_live.f).bind fun t => (some t)) else (if (if callOk kd a a r bd ty sz v = true then (0 : Int) else 150) = 0 then ((garrisonlaw15_live.f).bind fun t => (some t)) else (some false))) = some true := by
              intro hk
              rw [if_pos (any_b hk h ha), if_pos rfl]
              split <;> exact hlive
            rw [if_neg n4]
            by_cases k1 : kd = 1
            · rw [if_pos k1, hc, Option.bind_some, num_eq, Option.bind_some]
              exact hyes (.inl k1)
            · rw [if_neg k1]
              by_cases k2 : kd = 2
              · rw [if_pos k2, hc, Option.bind_some, num_eq, Option.bind_some]
                exact hyes (.inr (.inl k2))
              · rw [if_neg k2]
                by_cases k5 : kd = 5
                · rw [if_pos k5, hc, Option.bind_some, num_eq, Option.bind_some]
                  exact hyes (.inr (.inr (.inl k5)))
                · rw [if_neg k5]
                  by_cases k8 : kd = 8
                  · rw [if_pos k8, hc, Option.bind_some, num_eq, Option.bind_some]
                    exact hyes (.inr (.inr (.inr (.inl k8))))
                  · rw [if_neg k8, hc, Option.bind_some, num_eq, Option.bind_some]
                    by_cases k9 : kd = 9
                    · rw [if_pos k9]
                      exact hyes (.inr (.inr (.inr (.inr k9))))
                    · rw [if_neg k9, if_neg (fun hh => by have := (only (ok0 hh)).2.2.2.2.2.1; have := addr_nz ha; omega)]
                      split <;> exact hlive
theorem CallOnly : garrisonlaw15_CallOnly.Pure := by
  intro kd a b r bd ty sz v n y ht _ hy
  have hw := wf24 ht
  refine ⟨2, ?_⟩
  unfold garrisonlaw15_CallOnly.f
  rw [Check_f hw.1, Option.bind_some, num_eq, Option.bind_some]
  by_cases h : callOk kd a b r bd ty sz v = true
  · rw [if_pos h, if_pos rfl]
    by_cases hy0 : y = 0
    · rw [hy0]
      rfl
    · rw [beq_eq_false_iff_ne.2 hy0]
      exact only_j0 hw h hy0 (wf_i64 hy)
  · rw [if_neg h, if_neg (by decide)]
    rfl
end Go.Proofs.Ytikbldmlfjckkaa.Pure
