/- CallBack is true of every two calls and every words: no condition. -/
import Derived.Test.YtikbldmlfjckkaaCall1
import Derived.Test.YtikbldmlfjckkaaLive15
import Derived.Test.YtikbldmlfjckkaaPx10
namespace Go.Proofs.Ytikbldmlfjckkaa.Pure
open Go Go.RowKit Go.Proofs.YtikbldmlfjckkaaW.PrintWords Go.Proofs.YtikbldmlfjckkaaW.PrintLast Go.Proofs.YtikbldmlfjckkaaW.PrintMore Go.Proofs.Ytikbldmlfjckkaa.P Go.Proofs.Ytikbldmlfjckkaa.Given Go.Proofs.Ytikbldmlfjckkaa.Plain

theorem num_eq (a : Int) : garrisonlaw15_num.f a = some a := rfl
theorem live_eq {k : Nat} (h : 60 ≤ k) : ((garrisonlaw15_live.f k).bind fun t => some t) = some true := by rw [live15_mono h]; rfl
theorem j1_ok (l : List Int) (hl : wfl l) : garrisonlaw15_CallBack.j1 2000 l false = some true := by
  have hp : call_Parse.f l = some (parseC l) := by unfold call_Parse.f; rw [if_pos hl]
  simp only [garrisonlaw15_CallBack.j1]
  rw [if_neg (by decide), bind_of hp]
  by_cases h4 : ∃ x0 x1 x2 x3, l = [x0, x1, x2, x3] ∧ okC x0 x1 x2 x3 = true
  · obtain ⟨x0, x1, x2, x3, rfl, ho⟩ := h4
    obtain ⟨hw, hc, hb⟩ := put_parse hl ho
    rw [parseC_four, if_pos ho]
    unfold saidC
    have hput := Put_ok hw.1 hc
    rw [hb] at hput
    have hck := show call_Check.f _ _ _ _ _ _ _ _ = some 0 from (by unfold call_Check.f; rw [if_pos hw.1, if_pos hc])
    rw [bind_of (num_eq _), if_pos rfl, bind_of hput, bind_of (num_eq _), if_pos rfl, bind_of (Words_eq _ _ (by simp) (by decide)), if_pos (decide_eq_true rfl), bind_of hck, bind_of (num_eq _), if_pos rfl]
    exact live_eq (by decide)
  · have hz : parseC l = zeroC 150 := by
      unfold parseC
      split
      · rename_i x0 x1 x2 x3
        exact if_neg (fun ho => h4 ⟨x0, x1, x2, x3, rfl, ho⟩)
      · rfl
    rw [hz]
    unfold zeroC
    rw [bind_of (num_eq _), if_neg (by decide), if_pos (by decide)]
    exact live_eq (by decide)
theorem w00 : wrap64 ((0 : Int) + 0) = 0 := by unfold wrap64; omega
theorem w01 : wrap64 ((0 : Int) + 150) ≠ 0 := by unfold wrap64; omega
theorem w10 : wrap64 ((150 : Int) + 0) ≠ 0 := by unfold wrap64; omega
theorem w11 : wrap64 ((150 : Int) + 150) ≠ 0 := by unfold wrap64; omega
theorem j0_both (c0 c1 c2 c3 c4 c5 c6 c7 d0 d1 d2 d3 d4 d5 d6 d7 : Int) (l x y : List Int) (hl : wfl l) (hx : x.length ≤ 1000) (h : (decide (x = y) != (c0 == d0 && (c1 == d1 && (c2 == d2 && (c3 == d3 && (c4 == d4 && (c5 == d5 && (c6 == d6 && (c7 == d7))))))))) = false) :
    garrisonlaw15_CallBack.j0 2001 l x 0 y 0 c0 c1 c2 c3 c4 c5 c6 c7 d0 d1 d2 d3 d4 d5 d6 d7 = some true := by
  simp only [garrisonlaw15_CallBack.j0]
  rw [bind_of (num_eq _), bind_of (num_eq _), if_pos w00, bind_of (Words_eq x y hx (by decide)), h]
  exact j1_ok l hl
theorem j0_one (c0 c1 c2 c3 c4 c5 c6 c7 d0 d1 d2 d3 d4 d5 d6 d7 : Int) (l x y : List Int) (hl : wfl l) (e f : Int) (h : wrap64 (e + f) ≠ 0) : garrisonlaw15_CallBack.j0 2001 l x e y f c0 c1 c2 c3 c4 c5 c6 c7 d0 d1 d2 d3 d4 d5 d6 d7 = some true := by
  simp only [garrisonlaw15_CallBack.j0]
  rw [bind_of (num_eq _), bind_of (num_eq _), if_neg h]
  exact j1_ok l hl
theorem words_inj (c0 c1 c2 c3 c4 c5 c6 c7 d0 d1 d2 d3 d4 d5 d6 d7 : Int) (hc : wfCall c1 c2 c3 c7) (hd : wfCall d1 d2 d3 d7) (oc : callOk c0 c1 c2 c3 c4 c5 c6 c7 = true) (od : callOk d0 d1 d2 d3 d4 d5 d6 d7 = true) :
    (decide (wordsC c0 c1 c2 c3 c4 c5 c6 c7 = wordsC d0 d1 d2 d3 d4 d5 d6 d7) != (c0 == d0 && (c1 == d1 && (c2 == d2 && (c3 == d3 && (c4 == d4 && (c5 == d5 && (c6 == d6 && (c7 == d7))))))))) = false := by
  by_cases h : wordsC c0 c1 c2 c3 c4 c5 c6 c7 = wordsC d0 d1 d2 d3 d4 d5 d6 d7
  · have p := parse_put hc oc
    rw [h, parse_put hd od] at p
    simp only [Prod.mk.injEq] at p
    obtain ⟨rfl, rfl, rfl, rfl, rfl, rfl, rfl, rfl, _⟩ := p
    simp
  · rw [decide_eq_false h]
    rw [Bool.eq_false_iff]
    intro hn
    apply h
    simp only [bne_iff_ne, ne_eq, Bool.false_eq, Bool.not_eq_false, Bool.and_eq_true, beq_iff_eq] at hn
    obtain ⟨rfl, rfl, rfl, rfl, rfl, rfl, rfl, rfl⟩ := hn
    rfl
theorem parse_back {c0 c1 c2 c3 c4 c5 c6 c7 : Int} (hc : wfCall c1 c2 c3 c7) (oc : callOk c0 c1 c2 c3 c4 c5 c6 c7 = true) : call_Parse.f (wordsC c0 c1 c2 c3 c4 c5 c6 c7) = some (c0, c1, c2, c3, c4, c5, c6, c7, 0) := by
  unfold call_Parse.f
  rw [if_pos (wfl_words hc oc), parse_put hc oc]
theorem CallBack : garrisonlaw15_CallBack.Pure := by
  intro c0 c1 c2 c3 c4 c5 c6 c7 d0 d1 d2 d3 d4 d5 d6 d7 l hc hd _ hl
  have hc := wf24 hc
  have hd := wf24 hd
  have hl : wfl l := fun x hx => by
    obtain ⟨n, rfl, hn⟩ := wf_u64 (hl x hx)
    exact ⟨by omega, by omega⟩
  refine ⟨2001, ?_⟩
  unfold garrisonlaw15_CallBack.f
  by_cases h20 : (l.length : Int) > 20
  · rw [if_pos h20]
    exact live_eq (by decide)
  · rw [if_neg h20]
    by_cases oc : callOk c0 c1 c2 c3 c4 c5 c6 c7 = true
    · by_cases od : callOk d0 d1 d2 d3 d4 d5 d6 d7 = true
      · rw [bind_of (Put_ok hc.1 oc), bind_of (Put_ok hd.1 od), bind_of (num_eq _), if_pos rfl, bind_of (parse_back hc oc), bind_of (num_eq _), if_pos rfl, if_neg (by simp)]
        exact j0_both _ _ _ _ _ _ _ _ _ _ _ _ _ _ _ _ l _ _ hl (by simp [wordsC]) (words_inj _ _ _ _ _ _ _ _ _ _ _ _ _ _ _ _ hc hd oc od)
      · rw [bind_of (Put_ok hc.1 oc), bind_of (Put_bad hd.1 od), bind_of (num_eq _), if_pos rfl, bind_of (parse_back hc oc), bind_of (num_eq _), if_pos rfl, if_neg (by simp)]
        exact j0_one _ _ _ _ _ _ _ _ _ _ _ _ _ _ _ _ l _ _ hl _ _ w01
    · by_cases od : callOk d0 d1 d2 d3 d4 d5 d6 d7 = true
      · rw [bind_of (Put_bad hc.1 oc), bind_of (Put_ok hd.1 od), bind_of (num_eq _), if_neg (by decide)]
        exact j0_one _ _ _ _ _ _ _ _ _ _ _ _ _ _ _ _ l _ _ hl _ _ w10
      · rw [bind_of (Put_bad hc.1 oc), bind_of (Put_bad hd.1 od), bind_of (num_eq _), if_neg (by decide)]
        exact j0_one _ _ _ _ _ _ _ _ _ _ _ _ _ _ _ _ l _ _ hl _ _ w11
end Go.Proofs.Ytikbldmlfjckkaa.Pure
