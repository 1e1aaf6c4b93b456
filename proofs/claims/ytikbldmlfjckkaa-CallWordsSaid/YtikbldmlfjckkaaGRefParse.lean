/- garrisonref15.Parse answers as call.Parse does: its walk's own numbers in plain, and the contract. -/
import Derived.Test.YtikbldmlfjckkaaCall2
import Derived.Test.YtikbldmlfjckkaaGRefWalk
namespace Go.Proofs.Ytikbldmlfjckkaa.Given
open Go Go.RowKit Go.Proofs Go.Proofs.YtikbldmlfjckkaaW.PrintWords Go.Proofs.YtikbldmlfjckkaaW.PrintLast Go.Proofs.YtikbldmlfjckkaaW.PrintMore Go.Proofs.Ytikbldmlfjckkaa.P Go.Proofs.Ytikbldmlfjckkaa.Plain

theorem refParse15_four (L : Nat) (hL : L < 18446744073709551616) (x1 x2 x3 : Int) (h1 : 0 ≤ x1 ∧ x1 < 18446744073709551616) (h2 : 0 ≤ x2 ∧ x2 < 18446744073709551616) (hl : wfl [(L : Int), x1, x2, x3]) : garrisonref15_ParseP.f 1100 [(L : Int), x1, x2, x3] = some (parseC [(L : Int), x1, x2, x3]) := by
  have b0 := getN_lt L 0 4
  have b1 := getN_lt L 4 4
  have b2 := getN_lt L 8 4
  have b3 := getN_lt L 12 16
  have b4 := getN_lt L 28 21
  have q0 := refGet_yes (w := L) (a := 0) (n := 4) hL (by decide) (by decide) (k := 1100) (by omega)
  have q1 := refGet_yes (w := L) (a := 4) (n := 4) hL (by decide) (by decide) (k := 1100) (by omega)
  have q2 := refGet_yes (w := L) (a := 8) (n := 4) hL (by decide) (by decide) (k := 1100) (by omega)
  have q3 := refGet_yes (w := L) (a := 12) (n := 16) hL (by decide) (by decide) (k := 1100) (by omega)
  have q4 := refGet_yes (w := L) (a := 28) (n := 21) hL (by decide) (by decide) (k := 1100) (by omega)
  have r0 : rd [(L : Int), x1, x2, x3] 0 = (L : Int) := rfl
  have r1 : rd [(L : Int), x1, x2, x3] 1 = x1 := rfl
  have r2 : rd [(L : Int), x1, x2, x3] 2 = x2 := rfl
  have r3 : rd [(L : Int), x1, x2, x3] 3 = x3 := rfl
  have hn : (([(L : Int), x1, x2, x3] : List Int).length : Int) = 4 := rfl
  unfold garrisonref15_ParseP.f
  rw [hn, if_pos rfl, if_pos (by decide), r0, r1, r2, r3]
  erw [q0, Option.bind_some, q1, Option.bind_some, q2, Option.bind_some, q3, Option.bind_some, q4, Option.bind_some]
  rw [if_pos (by decide), if_pos (by decide), if_pos (by decide), wrapNat _ (by omega), wrapNat _ (by omega), wrapNat _ (by omega), wrapNat _ (by omega), wrapNat _ (by omega)]
  have hw : wfc x1 x2 ((getN L 4 4 : Nat) : Int) := ⟨h1, h2, by omega, by omega⟩
  have hok : okC (L : Int) x1 x2 x3 = (decide (L < 2 ^ 49) && callOk ((getN L 0 4 : Nat) : Int) x1 x2 ((getN L 4 4 : Nat) : Int) ((getN L 12 16 : Nat) : Int) ((getN L 8 4 : Nat) : Int) ((getN L 28 21 : Nat) : Int) (wrap64 x3)) := by
    unfold okC
    rw [Int.toNat_natCast]
  rw [parseC_four]
  by_cases hc : callOk ((getN L 0 4 : Nat) : Int) x1 x2 ((getN L 4 4 : Nat) : Int) ((getN L 12 16 : Nat) : Int) ((getN L 8 4 : Nat) : Int) ((getN L 28 21 : Nat) : Int) (wrap64 x3) = true
  · rw [refPut15_yes hw hc (by omega), Option.bind_some, if_pos rfl, Words_eq _ _ (by show 4 ≤ 1000; decide) (by omega), Option.bind_some]
    by_cases h49 : L < 2 ^ 49
    · have ho : okC (L : Int) x1 x2 x3 = true := by rw [hok, hc, decide_eq_true h49]; rfl
      have hb := (put_parse hl ho).2.2
      rw [Int.toNat_natCast] at hb
      rw [hb, if_pos (decide_eq_true rfl), if_pos ho]
      unfold saidC
      rw [Int.toNat_natCast]
    · have ho : ¬ okC (L : Int) x1 x2 x3 = true := by rw [hok, decide_eq_false h49]; simp
      have hne : ¬ wordsC ((getN L 0 4 : Nat) : Int) x1 x2 ((getN L 4 4 : Nat) : Int) ((getN L 12 16 : Nat) : Int) ((getN L 8 4 : Nat) : Int) ((getN L 28 21 : Nat) : Int) (wrap64 x3) = [(L : Int), x1, x2, x3] := by
        intro e
        unfold wordsC at e
        have e1 := (List.cons.inj e).1
        simp only [Int.toNat_natCast] at e1
        have e2 : wordN (getN L 0 4) (getN L 4 4) (getN L 8 4) (getN L 12 16) (getN L 28 21) = L := by omega
        have e3 := wordN_lt b0 b1 b2 b3 b4
        rw [e2] at e3
        exact h49 e3
      rw [if_neg (by rw [decide_eq_true_eq]; exact hne), if_neg ho]
      rfl
  · have ho : ¬ okC (L : Int) x1 x2 x3 = true := by rw [hok]; simp [hc]
    rw [refPut15_no hw hc, Option.bind_some, if_neg (by decide), if_neg ho]
    rfl
theorem refParse15_eq (l : List Int) (hl : wfl l) : garrisonref15_ParseP.f 1100 l = some (parseC l) := by
  by_cases h4 : ∃ x0 x1 x2 x3, l = [x0, x1, x2, x3]
  · obtain ⟨x0, x1, x2, x3, rfl⟩ := h4
    have h0 := hl x0 (by simp)
    obtain ⟨L, rfl⟩ := Int.eq_ofNat_of_zero_le h0.1
    exact refParse15_four L (by omega) x1 x2 x3 (hl x1 (by simp)) (hl x2 (by simp)) hl
  · have hn : ¬ (l.length : Int) = 4 := by
      intro h
      apply h4
      rcases l with _ | ⟨a, _ | ⟨b, _ | ⟨c, _ | ⟨d, _ | ⟨e, l⟩⟩⟩⟩⟩
      all_goals first | exact ⟨_, _, _, _, rfl⟩ | (simp only [List.length_cons, List.length_nil] at h; omega)
    unfold garrisonref15_ParseP.f
    rw [if_neg hn]
    unfold parseC
    split
    · exact absurd ⟨_, _, _, _, rfl⟩ h4
    · rfl
def garrisonref15_Parse.f (l : List Int) : Option Nine := if wfl l then some (parseC l) else none
theorem garrisonref15_Parse.calls (A0 : Option Addr) (c0 : Nat) (l0 : List Int) (r1 r2 r3 r4 r5 r6 r7 r8 r9 : Int) (w : World) (hr0 : Kd.C (Kd.int .u64) w A0 l0.length l0) (hc0 : l0.length ≤ c0) (h : garrisonref15_Parse.f l0 = some (r1, r2, r3, r4, r5, r6, r7, r8, r9)) :
    Calls Try.prog 12 #[.slice A0 l0.length c0] w fun e w' => e = .returned (.tuple #[.agg #[.int .i64 r1, .int .u64 r2, .int .u64 r3, .int .i64 r4, .int .i64 r5, .int .i64 r6, .int .i64 r7, .int .i64 r8], .int .i64 r9]) ∧ Below w.heap.size w w' := by
  unfold garrisonref15_Parse.f at h
  by_cases hw : wfl l0
  · rw [if_pos hw] at h
    exact garrisonref15_ParseP.calls 1100 A0 c0 l0 r1 r2 r3 r4 r5 r6 r7 r8 r9 w hr0 hc0 ((refParse15_eq l0 hw).trans h)
  · rw [if_neg hw] at h
    exact absurd h (by simp)
end Go.Proofs.Ytikbldmlfjckkaa.Given
