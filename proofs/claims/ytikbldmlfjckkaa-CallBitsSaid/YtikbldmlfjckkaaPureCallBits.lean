/- CallBits: a call's words with a bit turned are another call's, or none's; three or five words are none's. -/
import Derived.Test.YtikbldmlfjckkaaCall1
import Derived.Test.YtikbldmlfjckkaaGLive
import Derived.Test.YtikbldmlfjckkaaPx12
namespace Go.Proofs.Ytikbldmlfjckkaa.Pure
open Go Go.RowKit Go.Proofs.YtikbldmlfjckkaaW.PrintWords Go.Proofs.YtikbldmlfjckkaaW.PrintLast Go.Proofs.YtikbldmlfjckkaaW.PrintMore Go.Proofs.Ytikbldmlfjckkaa.P Go.Proofs.Ytikbldmlfjckkaa.Given Go.Proofs.Ytikbldmlfjckkaa.Plain

theorem num_eq (a : Int) : garrisonlaw15_num.f a = some a := rfl
theorem xor_ne (w i : Nat) : w ^^^ 2 ^ i ≠ w := by
  intro h
  have h1 := congrArg (fun x => x.testBit i) h
  simp only [Nat.testBit_xor, Nat.testBit_two_pow_self] at h1
  cases hh : w.testBit i <;> rw [hh] at h1 <;> exact absurd h1 (by decide)
theorem turned {x j : Int} (hx : 0 ≤ x ∧ x < 18446744073709551616) (hj : 0 ≤ j ∧ j ≤ 63) : (0 ≤ Go.bits .xor .u64 x (shl .u64 1 j) ∧ Go.bits .xor .u64 x (shl .u64 1 j) < 18446744073709551616) ∧ Go.bits .xor .u64 x (shl .u64 1 j) ≠ x := by
  obtain ⟨X, rfl⟩ := Int.eq_ofNat_of_zero_le hx.1
  obtain ⟨J, rfl⟩ := Int.eq_ofNat_of_zero_le hj.1
  have hJ : J < 64 := by omega
  have hX : X < 18446744073709551616 := by omega
  have hs : shl .u64 1 (J : Int) = ((2 ^ J : Nat) : Int) := by
    have := shl64 1 J (by omega)
    rw [Nat.one_mul, Nat.mod_eq_of_lt (pow_lt64 hJ)] at this
    exact this
  have he : Go.bits .xor .u64 (X : Int) (shl .u64 1 (J : Int)) = ((X ^^^ 2 ^ J : Nat) : Int) := by
    rw [hs]
    exact xor64 X (2 ^ J) hX (pow_lt64 hJ)
  have hl : X ^^^ 2 ^ J < 18446744073709551616 := Nat.xor_lt_two_pow (n := 64) hX (pow_lt64 hJ)
  have hn := xor_ne X J
  rw [he]
  generalize X ^^^ 2 ^ J = Y at *
  omega
theorem parse_err {m : List Int} (hp : (parseC m).2.2.2.2.2.2.2.2 = 0) : ∃ x0 x1 x2 x3, m = [x0, x1, x2, x3] ∧ okC x0 x1 x2 x3 = true := by
  unfold parseC at hp
  split at hp
  · split at hp
    · exact ⟨_, _, _, _, rfl, by assumption⟩
    · exact absurd hp (by simp [zeroC])
  · exact absurd hp (by simp [zeroC])
theorem parse_back {m : List Int} (hm : wfl m) {kd a b r bd ty sz v : Int} (hp : parseC m = (kd, a, b, r, bd, ty, sz, v, 0)) : m = wordsC kd a b r bd ty sz v := by
  obtain ⟨x0, x1, x2, x3, rfl, ho⟩ := parse_err (m := m) (by rw [hp])
  have h3 := (put_parse hm ho).2.2
  rw [parseC_four, if_pos ho] at hp
  unfold saidC at hp
  simp only [Prod.mk.injEq] at hp
  obtain ⟨e0, e1, e2, e3, e4, e5, e6, e7, _⟩ := hp
  rw [e0, e3, e4, e5, e6, e7, e1, e2] at h3
  rw [h3, e1, e2]
theorem eight {P : Nine} {kd a b r bd ty sz v : Int} (hne : ¬ (P.1 = kd ∧ P.2.1 = a ∧ P.2.2.1 = b ∧ P.2.2.2.1 = r ∧ P.2.2.2.2.1 = bd ∧ P.2.2.2.2.2.1 = ty ∧ P.2.2.2.2.2.2.1 = sz ∧ P.2.2.2.2.2.2.2.1 = v)) :
    (!(P.1 == kd) || (!(P.2.1 == a) || (!(P.2.2.1 == b) || (!(P.2.2.2.1 == r) || (!(P.2.2.2.2.1 == bd) || (!(P.2.2.2.2.2.1 == ty) || (!(P.2.2.2.2.2.2.1 == sz) || (!(P.2.2.2.2.2.2.2.1 == v))))))))) = true := by
  cases hc : (!(P.1 == kd) || (!(P.2.1 == a) || (!(P.2.2.1 == b) || (!(P.2.2.2.1 == r) || (!(P.2.2.2.2.1 == bd) || (!(P.2.2.2.2.2.1 == ty) || (!(P.2.2.2.2.2.2.1 == sz) || (!(P.2.2.2.2.2.2.2.1 == v))))))))) with
  | true => rfl
  | false => exact absurd (by simpa using hc) hne
theorem Parse_f {l : List Int} (h : wfl l) : call_Parse.f l = some (parseC l) := by
  unfold call_Parse.f
  rw [if_pos h]
theorem bits_t (i j : Int) (l : List Int) (e kd a b r bd ty sz v : Int) (h : e = 0 → l.length = 4) : garrisonlaw15_CallBits.j0 2 i j l e true kd a b r bd ty sz v = some true := by
  have hlive : ((garrisonlaw15_live.f).bind fun t : Bool => (some t)) = some true := rfl
  rw [garrisonlaw15_CallBits.j0, if_pos rfl, num_eq, Option.bind_some]
  by_cases he : e = 0
  · rw [if_pos he, if_pos (by have := h he; omega)]
    exact hlive
  · rw [if_neg he]
    exact hlive
theorem bits_f {kd a b r bd ty sz v : Int} (hw : wfCall a b r v) (h : callOk kd a b r bd ty sz v = true) {i j : Int} (hi : 0 ≤ i ∧ i ≤ 3) (hj : 0 ≤ j ∧ j ≤ 63) :
    garrisonlaw15_CallBits.j0 2 i j (wordsC kd a b r bd ty sz v) 0 false kd a b r bd ty sz v = some true := by
  have hlive : ((garrisonlaw15_live.f).bind fun t : Bool => (some t)) = some true := rfl
  have hl := wfl_words hw h
  have h4 : (wordsC kd a b r bd ty sz v).length = 4 := rfl
  have t3 : parseC ((wordsC kd a b r bd ty sz v).take 3) = zeroC 150 := rfl
  have t5 : parseC (wordsC kd a b r bd ty sz v ++ [0]) = zeroC 150 := rfl
  have hback : ∀ m, wfl m → parseC m = (kd, a, b, r, bd, ty, sz, v, 0) → m = wordsC kd a b r bd ty sz v := fun m hm hp => parse_back hm hp
  generalize wordsC kd a b r bd ty sz v = l at *
  have hil : i.toNat < l.length := by omega
  have hrd : rd l i = l[i.toNat] := by
    unfold rd
    rw [List.getD_eq_getElem?_getD, List.getElem?_eq_getElem hil]
    rfl
  have hx : 0 ≤ rd l i ∧ rd l i < 18446744073709551616 := by
    rw [hrd]
    exact hl _ (List.getElem_mem hil)
  obtain ⟨ht1, ht2⟩ := turned hx hj
  have hm : wfl (l.set i.toNat (Go.bits .xor .u64 (rd l i) (shl .u64 1 j))) := by
    intro y hy
    rcases List.mem_or_eq_of_mem_set hy with h1 | h1
    · exact hl y h1
    · rw [h1]
      exact ht1
  have hne : l.set i.toNat (Go.bits .xor .u64 (rd l i) (shl .u64 1 j)) ≠ l := by
    intro e
    have e1 := congrArg (fun q => q[i.toNat]?) e
    simp only [List.getElem?_set_self hil, List.getElem?_eq_getElem hil, Option.some.injEq] at e1
    rw [← hrd] at e1
    exact ht2 e1
  have hm3 : wfl (l.take 3) := fun y hy => hl y (List.mem_of_mem_take hy)
  have hm5 : wfl (l ++ [0]) := by
    intro y hy
    rcases List.mem_append.1 hy with h1 | h1
    · exact hl y h1
    · rw [List.mem_singleton.1 h1]
      decide
  have hP := Parse_f hm
  have hP3 := Parse_f hm3
  have hP5 := Parse_f hm5
  rw [t3] at hP3
  rw [t5] at hP5
  have hlen : ([] : List Int).length + l.length < 17592186044416 := by
    show 0 + l.length < 17592186044416
    omega
  have z9 : (zeroC 150).2.2.2.2.2.2.2.2 = 150 := rfl
  rw [garrisonlaw15_CallBits.j0, if_neg Bool.false_ne_true, Option.bind_some, if_pos hlen, Option.bind_some, List.nil_append, if_pos hi.1, if_pos (by omega), if_pos hj.1, hP, Option.bind_some, if_pos (by omega), hP3, Option.bind_some, Option.bind_some, if_pos hlen, Option.bind_some, List.nil_append, if_pos (by omega), hP5, Option.bind_some, num_eq, Option.bind_some]
  by_cases he : (parseC (l.set i.toNat (Go.bits .xor .u64 (rd l i) (shl .u64 1 j)))).2.2.2.2.2.2.2.2 = 0
  · rw [if_pos he, if_pos (eight ?_), num_eq, Option.bind_some, if_pos z9, Option.bind_some, if_pos z9]
    · exact hlive
    · rintro ⟨e0, e1, e2, e3, e4, e5, e6, e7⟩
      refine hne (hback _ hm ?_)
      generalize parseC (l.set i.toNat (Go.bits .xor .u64 (rd l i) (shl .u64 1 j))) = P at *
      obtain ⟨p0, p1, p2, p3, p4, p5, p6, p7, p8⟩ := P
      simp only at e0 e1 e2 e3 e4 e5 e6 e7 he
      rw [e0, e1, e2, e3, e4, e5, e6, e7, he]
  · rw [if_neg he, num_eq, Option.bind_some, if_pos z9, Option.bind_some, if_pos z9]
    exact hlive
theorem CallBits : garrisonlaw15_CallBits.Pure := by
  intro kd a b r bd ty sz v i j ht _ _
  have hw := wf24 ht
  refine ⟨2, ?_⟩
  unfold garrisonlaw15_CallBits.f
  by_cases h : callOk kd a b r bd ty sz v = true
  · have h4 : (wordsC kd a b r bd ty sz v).length = 4 := rfl
    rw [Put_ok hw.1 h, Option.bind_some, num_eq, Option.bind_some, if_pos rfl]
    by_cases h1 : i < 0
    · rw [if_pos h1]
      exact bits_t _ _ _ _ _ _ _ _ _ _ _ _ (fun _ => h4)
    · rw [if_neg h1]
      by_cases h2 : i > 3
      · rw [if_pos h2]
        exact bits_t _ _ _ _ _ _ _ _ _ _ _ _ (fun _ => h4)
      · rw [if_neg h2]
        by_cases h3 : j < 0
        · rw [if_pos h3]
          exact bits_t _ _ _ _ _ _ _ _ _ _ _ _ (fun _ => h4)
        · rw [if_neg h3]
          by_cases h5 : j > 63
          · rw [if_pos h5]
            exact bits_t _ _ _ _ _ _ _ _ _ _ _ _ (fun _ => h4)
          · rw [if_neg h5, show (((wordsC kd a b r bd ty sz v).length : Int) != 4) = false from rfl]
            exact bits_f hw h ⟨by omega, by omega⟩ ⟨by omega, by omega⟩
  · rw [Put_bad hw.1 h, Option.bind_some, num_eq, Option.bind_some, if_neg (by decide)]
    exact bits_t _ _ _ _ _ _ _ _ _ _ _ _ (fun h0 => absurd h0 (by decide))
end Go.Proofs.Ytikbldmlfjckkaa.Pure
