/- Calls and their words as numbers: there and back. No walk. -/
import Derived.Test.YtikbldmlfjckkaaGParse
import Derived.Test.YtikbldmlfjckkaaPx4
import Derived.Test.YtikbldmlfjckkaaPx7
namespace Go.Proofs.Ytikbldmlfjckkaa.Plain
open Go Go.RowKit Go.Proofs.YtikbldmlfjckkaaW.PrintWords Go.Proofs.YtikbldmlfjckkaaW.PrintLast Go.Proofs.YtikbldmlfjckkaaW.PrintMore Go.Proofs.Ytikbldmlfjckkaa.P Go.Proofs.Ytikbldmlfjckkaa.Given

theorem lt49 {w a n v : Nat} (hw : w < 2 ^ 49) (h : a + n ≤ 49) (hv : v < 2 ^ n) : putN w a n v < 2 ^ 49 := by
  apply Nat.lt_pow_two_of_testBit
  intro i hi
  rw [putN_bit w a n v i (Nat.lt_trans hw (by decide)) hv (by omega), if_neg (by omega)]
  exact Nat.testBit_lt_two_pow (Nat.lt_of_lt_of_le hw (Nat.pow_le_pow_right (by decide) hi))
theorem le49 {w : Nat} (h : w < 2 ^ 49) : w < 18446744073709551616 := Nat.lt_trans h (by decide)
section
variable {kd r ty bd sz : Nat} (h0 : kd < 2 ^ 4) (h1 : r < 2 ^ 4) (h2 : ty < 2 ^ 4) (h3 : bd < 2 ^ 16) (h4 : sz < 2 ^ 21)
include h0 h1 h2 h3 h4
theorem wordN_lt : wordN kd r ty bd sz < 2 ^ 49 := lt49 (lt49 (lt49 (lt49 (lt49 (by decide) (by decide) h0) (by decide) h1) (by decide) h2) (by decide) h3) (by decide) h4
theorem wordN_get : getN (wordN kd r ty bd sz) 0 4 = kd ∧ getN (wordN kd r ty bd sz) 4 4 = r ∧ getN (wordN kd r ty bd sz) 8 4 = ty ∧ getN (wordN kd r ty bd sz) 12 16 = bd ∧ getN (wordN kd r ty bd sz) 28 21 = sz := by
  have p0 : putN 0 0 4 kd < 18446744073709551616 := putN_lt _ _ _ _ (by decide) h0 (by decide)
  have p1 := putN_lt _ 4 4 r p0 h1 (by decide)
  have p2 := putN_lt _ 8 4 ty p1 h2 (by decide)
  have p3 := putN_lt _ 12 16 bd p2 h3 (by decide)
  unfold wordN
  refine ⟨?_, ?_, ?_, ?_, get_put _ _ _ _ p3 h4 (by decide)⟩
  · rw [get_put_other _ 28 21 _ 0 4 p3 h4 (by decide) (by decide), get_put_other _ 12 16 _ 0 4 p2 h3 (by decide) (by decide), get_put_other _ 8 4 _ 0 4 p1 h2 (by decide) (by decide), get_put_other _ 4 4 _ 0 4 p0 h1 (by decide) (by decide), get_put _ _ _ _ (by decide) h0 (by decide)]
  · rw [get_put_other _ 28 21 _ 4 4 p3 h4 (by decide) (by decide), get_put_other _ 12 16 _ 4 4 p2 h3 (by decide) (by decide), get_put_other _ 8 4 _ 4 4 p1 h2 (by decide) (by decide), get_put _ _ _ _ p0 h1 (by decide)]
  · rw [get_put_other _ 28 21 _ 8 4 p3 h4 (by decide) (by decide), get_put_other _ 12 16 _ 8 4 p2 h3 (by decide) (by decide), get_put _ _ _ _ p1 h2 (by decide)]
  · rw [get_put_other _ 28 21 _ 12 16 p3 h4 (by decide) (by decide), get_put _ _ _ _ p2 h3 (by decide)]
end
theorem wordN_back (L : Nat) (hL : L < 2 ^ 49) : wordN (getN L 0 4) (getN L 4 4) (getN L 8 4) (getN L 12 16) (getN L 28 21) = L := by
  have b0 := getN_lt L 0 4
  have b1 := getN_lt L 4 4
  have b2 := getN_lt L 8 4
  have b3 := getN_lt L 12 16
  have b4 := getN_lt L 28 21
  apply ext64 (le49 (wordN_lt b0 b1 b2 b3 b4)) (le49 hL)
  intro i hi
  have p0 : putN 0 0 4 (getN L 0 4) < 18446744073709551616 := putN_lt _ _ _ _ (by decide) b0 (by decide)
  have p1 := putN_lt _ 4 4 (getN L 4 4) p0 b1 (by decide)
  have p2 := putN_lt _ 8 4 (getN L 8 4) p1 b2 (by decide)
  have p3 := putN_lt _ 12 16 (getN L 12 16) p2 b3 (by decide)
  unfold wordN
  rw [putN_bit _ _ _ _ _ p3 b4 (by decide), putN_bit _ _ _ _ _ p2 b3 (by decide), putN_bit _ _ _ _ _ p1 b2 (by decide), putN_bit _ _ _ _ _ p0 b1 (by decide), putN_bit _ _ _ _ _ (by decide) b0 (by decide)]
  rw [getN_bit, getN_bit, getN_bit, getN_bit, getN_bit]
  by_cases c4 : 28 ≤ i ∧ i < 28 + 21
  · rw [if_pos c4, show 28 + (i - 28) = i by omega, decide_eq_true (show i - 28 < 21 by omega), Bool.true_and]
  · rw [if_neg c4]
    by_cases c3 : 12 ≤ i ∧ i < 12 + 16
    · rw [if_pos c3, show 12 + (i - 12) = i by omega, decide_eq_true (show i - 12 < 16 by omega), Bool.true_and]
    · rw [if_neg c3]
      by_cases c2 : 8 ≤ i ∧ i < 8 + 4
      · rw [if_pos c2, show 8 + (i - 8) = i by omega, decide_eq_true (show i - 8 < 4 by omega), Bool.true_and]
      · rw [if_neg c2]
        by_cases c1 : 4 ≤ i ∧ i < 4 + 4
        · rw [if_pos c1, show 4 + (i - 4) = i by omega, decide_eq_true (show i - 4 < 4 by omega), Bool.true_and]
        · rw [if_neg c1]
          by_cases c0 : 0 ≤ i ∧ i < 0 + 4
          · rw [if_pos c0, show 0 + (i - 0) = i by omega, decide_eq_true (show i - 0 < 4 by omega), Bool.true_and]
          · rw [if_neg c0, Nat.zero_testBit]
            exact (Nat.testBit_lt_two_pow (Nat.lt_of_lt_of_le hL (Nat.pow_le_pow_right (by decide) (by omega)))).symm

theorem wrapUI {v : Int} (h0 : -9223372036854775808 ≤ v) (h1 : v ≤ 9223372036854775807) : wrap64 (IntKind.u64.wrap v) = v := by
  rw [wu64]
  unfold wrap64
  omega
theorem wrapIU {v : Int} (h0 : 0 ≤ v) (h1 : v < 18446744073709551616) : IntKind.u64.wrap (wrap64 v) = v := by
  rw [wu64]
  unfold wrap64
  omega
/-- A call's numbers lie in their ranges. -/
def wfCall (a b r v : Int) : Prop := wfc a b r ∧ -9223372036854775808 ≤ v ∧ v ≤ 9223372036854775807
def wordsC (kd a b r bd ty sz v : Int) : List Int := [((wordN kd.toNat r.toNat ty.toNat bd.toNat sz.toNat : Nat) : Int), a, b, IntKind.u64.wrap v]
theorem Put_ok {kd a b r bd ty sz v : Int} (hw : wfc a b r) (h : callOk kd a b r bd ty sz v = true) : call_Put.f kd a b r bd ty sz v = some (wordsC kd a b r bd ty sz v, 0) := by
  unfold call_Put.f
  rw [if_pos hw, if_pos h]
  rfl
theorem Put_bad {kd a b r bd ty sz v : Int} (hw : wfc a b r) (h : ¬ callOk kd a b r bd ty sz v = true) : call_Put.f kd a b r bd ty sz v = some ([], 150) := by
  unfold call_Put.f
  rw [if_pos hw, if_neg h]
theorem wfl_words {kd a b r bd ty sz v : Int} (hw : wfCall a b r v) (h : callOk kd a b r bd ty sz v = true) : wfl (wordsC kd a b r bd ty sz v) := by
  obtain ⟨b0, b3, b4, b5, b6⟩ := callOk_bounds h
  obtain ⟨⟨ha, hb, _⟩, _⟩ := hw
  have hl := wordN_lt (kd := kd.toNat) (r := r.toNat) (ty := ty.toNat) (bd := bd.toNat) (sz := sz.toNat) (by omega) (by omega) (by omega) (by omega) (by omega)
  have hl' := le49 hl
  intro x hx
  unfold wordsC at hx
  simp only [List.mem_cons, List.not_mem_nil, or_false] at hx
  rcases hx with rfl | rfl | rfl | rfl
  · omega
  · exact ha
  · exact hb
  · rw [wu64]; omega
theorem parse_put {kd a b r bd ty sz v : Int} (hw : wfCall a b r v) (h : callOk kd a b r bd ty sz v = true) : parseC (wordsC kd a b r bd ty sz v) = (kd, a, b, r, bd, ty, sz, v, 0) := by
  obtain ⟨b0, b3, b4, b5, b6⟩ := callOk_bounds h
  have g := wordN_get (kd := kd.toNat) (r := r.toNat) (ty := ty.toNat) (bd := bd.toNat) (sz := sz.toNat) (by omega) (by omega) (by omega) (by omega) (by omega)
  have hl := wordN_lt (kd := kd.toNat) (r := r.toNat) (ty := ty.toNat) (bd := bd.toNat) (sz := sz.toNat) (by omega) (by omega) (by omega) (by omega) (by omega)
  obtain ⟨g0, g1, g2, g3, g4⟩ := g
  unfold wordsC
  rw [parseC_four]
  unfold okC saidC
  rw [Int.toNat_natCast, g0, g1, g2, g3, g4, wrapUI hw.2.1 hw.2.2, Int.toNat_of_nonneg (show 0 ≤ kd by omega), Int.toNat_of_nonneg b3.1, Int.toNat_of_nonneg b4.1, Int.toNat_of_nonneg b5.1, Int.toNat_of_nonneg b6.1, decide_eq_true hl, h]
  rfl
theorem put_parse {x0 x1 x2 x3 : Int} (hw : wfl [x0, x1, x2, x3]) (h : okC x0 x1 x2 x3 = true) :
    wfCall x1 x2 ((getN x0.toNat 4 4 : Nat) : Int) (wrap64 x3) ∧ callOk ((getN x0.toNat 0 4 : Nat) : Int) x1 x2 ((getN x0.toNat 4 4 : Nat) : Int) ((getN x0.toNat 12 16 : Nat) : Int) ((getN x0.toNat 8 4 : Nat) : Int) ((getN x0.toNat 28 21 : Nat) : Int) (wrap64 x3) = true ∧
    wordsC ((getN x0.toNat 0 4 : Nat) : Int) x1 x2 ((getN x0.toNat 4 4 : Nat) : Int) ((getN x0.toNat 12 16 : Nat) : Int) ((getN x0.toNat 8 4 : Nat) : Int) ((getN x0.toNat 28 21 : Nat) : Int) (wrap64 x3) = [x0, x1, x2, x3] := by
  unfold okC at h
  simp only [Bool.and_eq_true, decide_eq_true_eq] at h
  have h0 := hw x0 (by simp)
  have h1 := hw x1 (by simp)
  have h2 := hw x2 (by simp)
  have h3 := hw x3 (by simp)
  have b1 := getN_lt x0.toNat 4 4
  refine ⟨⟨⟨h1, h2, by omega, by omega⟩, by unfold wrap64; omega, by unfold wrap64; omega⟩, h.2, ?_⟩
  unfold wordsC
  rw [Int.toNat_natCast, Int.toNat_natCast, Int.toNat_natCast, Int.toNat_natCast, Int.toNat_natCast, wordN_back _ h.1, wrapIU h3.1 h3.2, Int.toNat_of_nonneg h0.1]

theorem rdI (l : List Int) (i : Nat) (h : i < l.length) : rd l (i : Int) = l[i] := by
  unfold rd
  rw [Int.toNat_natCast, List.getD_eq_getElem?_getD, List.getElem?_eq_getElem h]
  rfl
theorem Words_loop (l m : List Int) (hl : l.length = m.length) (h4 : l.length ≤ 1000) (d : Nat) : ∀ (k i : Nat), i + d = l.length → d < k → garrisonref15_Words.l0 k l m (i : Int) = some (decide (l.drop i = m.drop i)) := by
  induction d with
  | zero =>
    intro k i hd hk
    obtain ⟨k, rfl⟩ : ∃ m, k = m + 1 := ⟨k - 1, by omega⟩
    simp only [garrisonref15_Words.l0]
    rw [if_neg (by omega), List.drop_eq_nil_of_le (by omega), List.drop_eq_nil_of_le (by omega)]
    simp
  | succ d ih =>
    intro k i hd hk
    obtain ⟨k, rfl⟩ : ∃ m, k = m + 1 := ⟨k - 1, by omega⟩
    have hi : i < l.length := by omega
    have hj : i < m.length := by omega
    simp only [garrisonref15_Words.l0]
    rw [if_pos (by omega), if_pos (by omega), if_pos (by omega), rdI l i hi, rdI m i hj, wc (i + 1) ((i : Int) + 1) (by push_cast; rfl) (by omega), ih k (i + 1) (by omega) (by omega), List.drop_eq_getElem_cons hi, List.drop_eq_getElem_cons hj]
    by_cases h0 : l[i] = m[i]
    · rw [if_pos h0, h0]
      congr 1
      apply decide_eq_decide.2
      exact ⟨fun h => by rw [h], fun h => (List.cons.inj h).2⟩
    · rw [if_neg h0, decide_eq_false (fun h => h0 (List.cons.inj h).1)]
theorem Words_eq (l m : List Int) (h4 : l.length ≤ 1000) {k : Nat} (hk : 1001 ≤ k) : garrisonref15_Words.f k l m = some (decide (l = m)) := by
  unfold garrisonref15_Words.f
  by_cases h : l.length = m.length
  · rw [if_pos (by omega)]
    have := Words_loop l m h h4 l.length k 0 (by omega) (by omega)
    simp only [List.drop_zero] at this
    exact this
  · rw [if_neg (by omega), decide_eq_false (fun e : l = m => h (by rw [e]))]
theorem wf24 {kd a b r bd ty sz v : Int} (h : (Lit.int .i64 kd).wf = true ∧ ((Lit.int .u64 a).wf = true ∧ ((Lit.int .u64 b).wf = true ∧ ((Lit.int .i64 r).wf = true ∧ ((Lit.int .i64 bd).wf = true ∧ ((Lit.int .i64 ty).wf = true ∧ ((Lit.int .i64 sz).wf = true ∧ (Lit.int .i64 v).wf = true))))))) : wfCall a b r v := by
  obtain ⟨_, h1, h2, h3, _, _, _, h7⟩ := h
  obtain ⟨n1, rfl, e1⟩ := wf_u64 h1
  obtain ⟨n2, rfl, e2⟩ := wf_u64 h2
  exact ⟨⟨⟨by omega, by omega⟩, ⟨by omega, by omega⟩, wf_i64 h3⟩, wf_i64 h7⟩
end Go.Proofs.Ytikbldmlfjckkaa.Plain
