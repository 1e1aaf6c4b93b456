/- The reference's words of a call, as numbers. No walk. -/
import Derived.Test.YtikbldmlfjckkaaCall1
import Derived.Test.YtikbldmlfjckkaaPx3
import Derived.Test.YtikbldmlfjckkaaPx4
namespace Go.Proofs.Ytikbldmlfjckkaa.Plain
open Go Go.RowKit Go.Proofs.YtikbldmlfjckkaaW.PrintWords Go.Proofs.YtikbldmlfjckkaaW.PrintLast Go.Proofs.YtikbldmlfjckkaaW.PrintMore Go.Proofs.Ytikbldmlfjckkaa.P Go.Proofs.Ytikbldmlfjckkaa.Given

theorem back64i {v : Int} (h0 : 0 ≤ v) (h1 : v < 18446744073709551616) : IntKind.u64.wrap v = v := by rw [wu64]; omega
theorem wrapNat (n : Nat) (h : n < 9223372036854775808) : wrap64 (n : Int) = (n : Int) := w64 (by omega) (by omega)
theorem Is15 {kd a b r bd ty sz v : Int} (hw : wfc a b r) : garrisonref15_Is.f kd a b r bd ty sz v = some (callOk kd a b r bd ty sz v) := by
  unfold garrisonref15_Is.f
  rw [if_pos hw]
theorem refPut15_yes {kd a b r bd ty sz v : Int} (hw : wfc a b r) (h : callOk kd a b r bd ty sz v = true) {k : Nat} (hk : 200 < k) : garrisonref15_Put.f k kd a b r bd ty sz v = some (wordsC kd a b r bd ty sz v, 0) := by
  obtain ⟨b0, b3, b4, b5, b6⟩ := callOk_bounds h
  unfold garrisonref15_Put.f
  rw [Is15 hw, h, Option.bind_some, if_pos rfl]
  unfold wordsC wordN
  clear h hw
  obtain ⟨k, rfl⟩ : ∃ m, k = m + 6 := ⟨k - 6, by omega⟩
  obtain ⟨T, rfl⟩ := Int.eq_ofNat_of_zero_le (show 0 ≤ kd by omega)
  obtain ⟨R, rfl⟩ := Int.eq_ofNat_of_zero_le b3.1
  obtain ⟨B, rfl⟩ := Int.eq_ofNat_of_zero_le b4.1
  obtain ⟨O, rfl⟩ := Int.eq_ofNat_of_zero_le b5.1
  obtain ⟨G, rfl⟩ := Int.eq_ofNat_of_zero_le b6.1
  have h0 : T < 2 ^ 4 := by omega
  have h1 : R < 2 ^ 4 := by omega
  have h2 : O < 2 ^ 4 := by omega
  have h3 : B < 2 ^ 16 := by omega
  have h4 : G < 2 ^ 21 := by omega
  have p0 : putN 0 0 4 T < 18446744073709551616 := putN_lt _ _ _ _ (by decide) h0 (by decide)
  have p1 := putN_lt _ 4 4 R p0 h1 (by decide)
  have p2 := putN_lt _ 8 4 O p1 h2 (by decide)
  have p3 := putN_lt _ 12 16 B p2 h3 (by decide)
  have q0 := refPut_yes (w := 0) (a := 0) (n := 4) (v := T) (by decide) (by decide) (by decide) h0 (k := k + 5) (by omega)
  have q1 := refPut_yes (a := 4) (n := 4) (v := R) p0 (by decide) (by decide) h1 (k := k + 4) (by omega)
  have q2 := refPut_yes (a := 8) (n := 4) (v := O) p1 (by decide) (by decide) h2 (k := k + 3) (by omega)
  have q3 := refPut_yes (a := 12) (n := 16) (v := B) p2 (by decide) (by decide) h3 (k := k + 2) (by omega)
  have q4 := refPut_yes (a := 28) (n := 21) (v := G) p3 (by decide) (by decide) h4 (k := k + 1) (by omega)
  have e0 : garrisonref01_Put.f (k + 5) 0 (rd [0, 4, 8, 12, 28] 0) (rd [4, 4, 4, 16, 21] 0) (IntKind.u64.wrap (rd [(T : Int), R, O, B, G] 0)) = some (((putN 0 0 4 T : Nat) : Int), 0) := by
    rw [show rd [(T : Int), R, O, B, G] 0 = (T : Int) from rfl, back64i (by omega) (by omega)]
    exact q0
  have e1 : garrisonref01_Put.f (k + 4) (putN 0 0 4 T : Nat) (rd [0, 4, 8, 12, 28] 1) (rd [4, 4, 4, 16, 21] 1) (IntKind.u64.wrap (rd [(T : Int), R, O, B, G] 1)) = some (((putN (putN 0 0 4 T) 4 4 R : Nat) : Int), 0) := by
    rw [show rd [(T : Int), R, O, B, G] 1 = (R : Int) from rfl, back64i (by omega) (by omega)]
    exact q1
  have e2 : garrisonref01_Put.f (k + 3) (putN (putN 0 0 4 T) 4 4 R : Nat) (rd [0, 4, 8, 12, 28] 2) (rd [4, 4, 4, 16, 21] 2) (IntKind.u64.wrap (rd [(T : Int), R, O, B, G] 2)) = some (((putN (putN (putN 0 0 4 T) 4 4 R) 8 4 O : Nat) : Int), 0) := by
    rw [show rd [(T : Int), R, O, B, G] 2 = (O : Int) from rfl, back64i (by omega) (by omega)]
    exact q2
  have e3 : garrisonref01_Put.f (k + 2) (putN (putN (putN 0 0 4 T) 4 4 R) 8 4 O : Nat) (rd [0, 4, 8, 12, 28] 3) (rd [4, 4, 4, 16, 21] 3) (IntKind.u64.wrap (rd [(T : Int), R, O, B, G] 3)) = some (((putN (putN (putN (putN 0 0 4 T) 4 4 R) 8 4 O) 12 16 B : Nat) : Int), 0) := by
    rw [show rd [(T : Int), R, O, B, G] 3 = (B : Int) from rfl, back64i (by omega) (by omega)]
    exact q3
  have e4 : garrisonref01_Put.f (k + 1) (putN (putN (putN (putN 0 0 4 T) 4 4 R) 8 4 O) 12 16 B : Nat) (rd [0, 4, 8, 12, 28] 4) (rd [4, 4, 4, 16, 21] 4) (IntKind.u64.wrap (rd [(T : Int), R, O, B, G] 4)) = some (((putN (putN (putN (putN (putN 0 0 4 T) 4 4 R) 8 4 O) 12 16 B) 28 21 G : Nat) : Int), 0) := by
    rw [show rd [(T : Int), R, O, B, G] 4 = (G : Int) from rfl, back64i (by omega) (by omega)]
    exact q4
  have w1 : wrap64 (0 + 1) = 1 := by unfold wrap64; omega
  have w2 : wrap64 (1 + 1) = 2 := by unfold wrap64; omega
  have w3 : wrap64 (2 + 1) = 3 := by unfold wrap64; omega
  have w4 : wrap64 (3 + 1) = 4 := by unfold wrap64; omega
  have w5 : wrap64 (4 + 1) = 5 := by unfold wrap64; omega
  have hl : ∀ a b c d e : Int, (([a, b, c, d, e] : List Int).length : Int) = 5 := fun _ _ _ _ _ => rfl
  rw [garrisonref15_Put.l0, hl, hl, hl, if_pos (by decide), if_pos (by decide), if_pos (by decide), if_pos (by decide), if_pos (by decide), e0, Option.bind_some, w1]
  rw [garrisonref15_Put.l0, hl, hl, hl, if_pos (by decide), if_pos (by decide), if_pos (by decide), if_pos (by decide), if_pos (by decide), e1, Option.bind_some, w2]
  rw [garrisonref15_Put.l0, hl, hl, hl, if_pos (by decide), if_pos (by decide), if_pos (by decide), if_pos (by decide), if_pos (by decide), e2, Option.bind_some, w3]
  rw [garrisonref15_Put.l0, hl, hl, hl, if_pos (by decide), if_pos (by decide), if_pos (by decide), if_pos (by decide), if_pos (by decide), e3, Option.bind_some, w4]
  rw [garrisonref15_Put.l0, hl, hl, hl, if_pos (by decide), if_pos (by decide), if_pos (by decide), if_pos (by decide), if_pos (by decide), e4, Option.bind_some, w5]
  rw [garrisonref15_Put.l0, if_neg (by decide)]
  rfl
theorem refPut15_no {kd a b r bd ty sz v : Int} (hw : wfc a b r) (h : ¬ callOk kd a b r bd ty sz v = true) (k : Nat) : garrisonref15_Put.f k kd a b r bd ty sz v = some ([], 150) := by
  unfold garrisonref15_Put.f
  rw [Is15 hw, Option.bind_some, if_neg h]
end Go.Proofs.Ytikbldmlfjckkaa.Plain
