/- The reference's words. No walk. -/
import Derived.Test.YtmcgdopgpjjkbaaDoorCap2
import Derived.Test.YtmcgdopgpjjkbaaDoorBits2
import Derived.Test.YtmcgdopgpjjkbaaDoorPx6
namespace Go.Proofs.YtmcgdopgpjjkbaaDoor.Plain
open Go Go.RowKit Go.Proofs.YtmcgdopgpjjkbaaDoorW.PrintWords Go.Proofs.YtmcgdopgpjjkbaaDoorW.PrintLast Go.Proofs.YtmcgdopgpjjkbaaDoorW.PrintMore Go.Proofs.YtmcgdopgpjjkbaaDoor.P Go.Proofs.YtmcgdopgpjjkbaaDoor.Given

theorem back64i {v : Int} (h0 : 0 ≤ v) (h1 : v < 18446744073709551616) : IntKind.u64.wrap v = v := by rw [wu64]; omega
theorem wrapN (n : Nat) (h : n < 9223372036854775808) : wrap64 (n : Int) = (n : Int) := w64 (by omega) (by omega)
theorem refWord_yes {t r b o g : Int} (h : capOk t r b o g = true) {k : Nat} (hk : 200 < k) : garrisonref03_Word.f k t r b o g = some (((wordC t r b o g : Nat) : Int), 0) := by
  obtain ⟨b0, b1, b2, b3, b4⟩ := capOk_bounds h
  unfold garrisonref03_Word.f
  rw [refIs_eq, h]
  simp only [Option.bind_some, if_true]
  obtain ⟨k, rfl⟩ : ∃ m, k = m + 6 := ⟨k - 6, by omega⟩
  obtain ⟨T, rfl⟩ := Int.eq_ofNat_of_zero_le b0.1
  obtain ⟨R, rfl⟩ := Int.eq_ofNat_of_zero_le b1.1
  obtain ⟨B, rfl⟩ := Int.eq_ofNat_of_zero_le b2.1
  obtain ⟨O, rfl⟩ := Int.eq_ofNat_of_zero_le b3.1
  obtain ⟨G, rfl⟩ := Int.eq_ofNat_of_zero_le b4.1
  have h0 : T < 2 ^ 4 := by omega
  have h1 : R < 2 ^ 4 := by omega
  have h2 : B < 2 ^ 16 := by omega
  have h3 : O < 2 ^ 10 := by omega
  have h4 : G < 2 ^ 12 := by omega
  have p0 : putN 0 0 4 T < 18446744073709551616 := putN_lt _ _ _ _ (by decide) h0 (by decide)
  have p1 := putN_lt _ 4 4 R p0 h1 (by decide)
  have p2 := putN_lt _ 8 16 B p1 h2 (by decide)
  have p3 := putN_lt _ 24 10 O p2 h3 (by decide)
  have q0 := refPut_yes (w := 0) (a := 0) (n := 4) (v := T) (by decide) (by decide) (by decide) h0 (k := k + 5) (by omega)
  have q1 := refPut_yes (w := putN 0 0 4 T) (a := 4) (n := 4) (v := R) p0 (by decide) (by decide) h1 (k := k + 4) (by omega)
  have q2 := refPut_yes (w := putN (putN 0 0 4 T) 4 4 R) (a := 8) (n := 16) (v := B) p1 (by decide) (by decide) h2 (k := k + 3) (by omega)
  have q3 := refPut_yes (a := 24) (n := 10) (v := O) p2 (by decide) (by decide) h3 (k := k + 2) (by omega)
  have q4 := refPut_yes (a := 34) (n := 12) (v := G) p3 (by decide) (by decide) h4 (k := k + 1) (by omega)
  have e0 : garrisonref01_Put.f (k + 5) 0 (rd [0, 4, 8, 24, 34] 0) (rd [4, 4, 16, 10, 12] 0) (IntKind.u64.wrap (rd [(T : Int), R, B, O, G] 0)) = some (((putN 0 0 4 T : Nat) : Int), 0) := by
    rw [show rd [(T : Int), R, B, O, G] 0 = (T : Int) from rfl, back64i (by omega) (by omega)]
    exact q0
  have e1 : garrisonref01_Put.f (k + 4) (putN 0 0 4 T : Nat) (rd [0, 4, 8, 24, 34] 1) (rd [4, 4, 16, 10, 12] 1) (IntKind.u64.wrap (rd [(T : Int), R, B, O, G] 1)) = some (((putN (putN 0 0 4 T) 4 4 R : Nat) : Int), 0) := by
    rw [show rd [(T : Int), R, B, O, G] 1 = (R : Int) from rfl, back64i (by omega) (by omega)]
    exact q1
  have e2 : garrisonref01_Put.f (k + 3) (putN (putN 0 0 4 T) 4 4 R : Nat) (rd [0, 4, 8, 24, 34] 2) (rd [4, 4, 16, 10, 12] 2) (IntKind.u64.wrap (rd [(T : Int), R, B, O, G] 2)) = some (((putN (putN (putN 0 0 4 T) 4 4 R) 8 16 B : Nat) : Int), 0) := by
    rw [show rd [(T : Int), R, B, O, G] 2 = (B : Int) from rfl, back64i (by omega) (by omega)]
    exact q2
  have e3 : garrisonref01_Put.f (k + 2) (putN (putN (putN 0 0 4 T) 4 4 R) 8 16 B : Nat) (rd [0, 4, 8, 24, 34] 3) (rd [4, 4, 16, 10, 12] 3) (IntKind.u64.wrap (rd [(T : Int), R, B, O, G] 3)) = some (((putN (putN (putN (putN 0 0 4 T) 4 4 R) 8 16 B) 24 10 O : Nat) : Int), 0) := by
    rw [show rd [(T : Int), R, B, O, G] 3 = (O : Int) from rfl, back64i (by omega) (by omega)]
    exact q3
  have e4 : garrisonref01_Put.f (k + 1) (putN (putN (putN (putN 0 0 4 T) 4 4 R) 8 16 B) 24 10 O : Nat) (rd [0, 4, 8, 24, 34] 4) (rd [4, 4, 16, 10, 12] 4) (IntKind.u64.wrap (rd [(T : Int), R, B, O, G] 4)) = some (((putN (putN (putN (putN (putN 0 0 4 T) 4 4 R) 8 16 B) 24 10 O) 34 12 G : Nat) : Int), 0) := by
    rw [show rd [(T : Int), R, B, O, G] 4 = (G : Int) from rfl, back64i (by omega) (by omega)]
    exact q4
  have w1 : wrap64 (0 + 1) = 1 := by unfold wrap64; omega
  have w2 : wrap64 (1 + 1) = 2 := by unfold wrap64; omega
  have w3 : wrap64 (2 + 1) = 3 := by unfold wrap64; omega
  have w4 : wrap64 (3 + 1) = 4 := by unfold wrap64; omega
  have w5 : wrap64 (4 + 1) = 5 := by unfold wrap64; omega
  have hl : ∀ a b c d e : Int, (([a, b, c, d, e] : List Int).length : Int) = 5 := fun _ _ _ _ _ => rfl
  rw [garrisonref03_Word.l0, hl, hl, hl, if_pos (by decide), if_pos (by decide), if_pos (by decide), if_pos (by decide), if_pos (by decide), e0, Option.bind_some, w1]
  rw [garrisonref03_Word.l0, hl, hl, hl, if_pos (by decide), if_pos (by decide), if_pos (by decide), if_pos (by decide), if_pos (by decide), e1, Option.bind_some, w2]
  rw [garrisonref03_Word.l0, hl, hl, hl, if_pos (by decide), if_pos (by decide), if_pos (by decide), if_pos (by decide), if_pos (by decide), e2, Option.bind_some, w3]
  rw [garrisonref03_Word.l0, hl, hl, hl, if_pos (by decide), if_pos (by decide), if_pos (by decide), if_pos (by decide), if_pos (by decide), e3, Option.bind_some, w4]
  rw [garrisonref03_Word.l0, hl, hl, hl, if_pos (by decide), if_pos (by decide), if_pos (by decide), if_pos (by decide), if_pos (by decide), e4, Option.bind_some, w5]
  rw [garrisonref03_Word.l0, if_neg (by decide)]
  rfl
theorem refWord_no {t r b o g : Int} (h : ¬ capOk t r b o g = true) (k : Nat) : garrisonref03_Word.f k t r b o g = some (0, 30) := by
  unfold garrisonref03_Word.f
  rw [refIs_eq, Option.bind_some, if_neg h]
theorem refParse_eq (L : Nat) (hL : L < 18446744073709551616) {k : Nat} (hk : 200 < k) : garrisonref03_Parse.f k (L : Int) = some (parseC L) := by
  have b0 := getN_lt L 0 4
  have b1 := getN_lt L 4 4
  have b2 := getN_lt L 8 16
  have b3 := getN_lt L 24 10
  have b4 := getN_lt L 34 12
  have q0 := refGet_yes (w := L) (a := 0) (n := 4) hL (by decide) (by decide) (k := k) (by omega)
  have q1 := refGet_yes (w := L) (a := 4) (n := 4) hL (by decide) (by decide) (k := k) (by omega)
  have q2 := refGet_yes (w := L) (a := 8) (n := 16) hL (by decide) (by decide) (k := k) (by omega)
  have q3 := refGet_yes (w := L) (a := 24) (n := 10) hL (by decide) (by decide) (k := k) (by omega)
  have q4 := refGet_yes (w := L) (a := 34) (n := 12) hL (by decide) (by decide) (k := k) (by omega)
  unfold garrisonref03_Parse.f
  erw [q0, Option.bind_some, q1, Option.bind_some, q2, Option.bind_some, q3, Option.bind_some, q4, Option.bind_some]
  rw [wrapN _ (by omega), wrapN _ (by omega), wrapN _ (by omega), wrapN _ (by omega), wrapN _ (by omega)]
  have hw : wordOk L = (capOk (getN L 0 4 : Nat) (getN L 4 4 : Nat) (getN L 8 16 : Nat) (getN L 24 10 : Nat) (getN L 34 12 : Nat) && (wordC (getN L 0 4 : Nat) (getN L 4 4 : Nat) (getN L 8 16 : Nat) (getN L 24 10 : Nat) (getN L 34 12 : Nat) == L)) := by
    unfold wordOk wordC
    simp only [Int.toNat_natCast]
  by_cases hk' : capOk (getN L 0 4 : Nat) (getN L 4 4 : Nat) (getN L 8 16 : Nat) (getN L 24 10 : Nat) (getN L 34 12 : Nat) = true
  · rw [refWord_yes hk' hk, Option.bind_some]
    simp only [if_true]
    by_cases he : wordC (getN L 0 4 : Nat) (getN L 4 4 : Nat) (getN L 8 16 : Nat) (getN L 24 10 : Nat) (getN L 34 12 : Nat) = L
    · rw [if_pos (by rw [he]), parse_yes (by rw [hw, hk', he]; simp)]
    · rw [if_neg (by omega), parse_no (by rw [hw, hk']; simpa using he)]
  · rw [refWord_no hk' k, Option.bind_some, if_neg (by decide), parse_no (by rw [hw]; simp [hk'])]
end Go.Proofs.YtmcgdopgpjjkbaaDoor.Plain
