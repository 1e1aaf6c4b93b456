/- A text as a word, sign by sign: what Parse and the document's Parse do at one sign. -/
import Derived.Test.YthmedgennlcigaaDoorBits4
import Derived.Test.YthmedgennlcigaaDoorPx3
namespace Go.Proofs.YthmedgennlcigaaDoor.Plain
open Go Go.RowKit Go.Proofs.YthmedgennlcigaaDoorW.PrintWords Go.Proofs.YthmedgennlcigaaDoorW.PrintLast Go.Proofs.YthmedgennlcigaaDoorW.PrintMore Go.Proofs.YthmedgennlcigaaDoor.P Go.Proofs.YthmedgennlcigaaDoor.Given

/-- The digit that a sign stands for. -/
def digOf (c : Int) : Option Nat := if 48 ≤ c ∧ c ≤ 57 then some (c - 48).toNat else if 97 ≤ c ∧ c ≤ 102 then some (c - 87).toNat else none
theorem digOf_lt {c : Int} {d : Nat} (h : digOf c = some d) : d < 16 := by
  unfold digOf at h
  split at h
  · have := Option.some.inj h; omega
  · split at h
    · have := Option.some.inj h; omega
    · cases h
theorem digOf_sign (d : Nat) (h : d < 16) : digOf (sign (d : Int)) = some d := by
  unfold digOf sign
  by_cases h1 : (d : Int) < 10
  · rw [if_pos h1, if_pos (by omega)]
    congr 1; omega
  · rw [if_neg h1, if_neg (by omega), if_pos (by omega)]
    congr 1; omega
/-- The word with one digit more. -/
def nxt (w d : Nat) : Nat := w * 16 % 18446744073709551616 + d
theorem nxt_lt (w d : Nat) (h : d < 16) : nxt w d < 18446744073709551616 := by unfold nxt; omega
theorem wrap16 (w : Nat) : IntKind.u64.wrap ((w : Int) * 16) = ((w * 16 % 18446744073709551616 : Nat) : Int) := by rw [wu64]; omega
theorem or_dig (w d : Nat) (e : Int) (he : e = (d : Int)) (h : d < 16) : bits .or .u64 (IntKind.u64.wrap ((w : Int) * 16)) e = ((nxt w d : Nat) : Int) := by
  rw [he, wrap16, or64 _ _ (Nat.mod_lt _ (by decide)) (by omega)]
  congr 1
  unfold nxt
  obtain ⟨q, hq⟩ : ∃ q, w * 16 % 18446744073709551616 = 2 ^ 4 * q := ⟨w * 16 % 18446744073709551616 / 16, by omega⟩
  rw [hq]
  exact (Nat.two_pow_add_eq_or_of_lt (i := 4) h q).symm
theorem add_dig (w d : Nat) (e : Int) (he : e = (d : Int)) (h : d < 16) : IntKind.u64.wrap (IntKind.u64.wrap ((w : Int) * 16) + e) = ((nxt w d : Nat) : Int) := by
  rw [he, wrap16, ← Int.natCast_add]
  exact back64 (nxt w d) (nxt_lt w d h)
theorem add_dig2 (w d : Nat) (e : Int) (he : e + 10 = (d : Int)) (h0 : 0 ≤ e) (h : d < 16) : IntKind.u64.wrap (IntKind.u64.wrap (IntKind.u64.wrap ((w : Int) * 16) + e) + 10) = ((nxt w d : Nat) : Int) := by
  obtain ⟨f, rfl⟩ := Int.eq_ofNat_of_zero_le h0
  rw [add_dig w f _ rfl (by omega), show ((nxt w f : Nat) : Int) + 10 = ((nxt w d : Nat) : Int) from by unfold nxt; omega, back64 _ (nxt_lt w d h)]

theorem suc (i : Nat) (h : i < 16) : wrap64 ((i : Int) + 1) = ((i + 1 : Nat) : Int) := by rw [w64 (by omega) (by omega)]; rfl

theorem parse_none {s : ByteArray} (hs : (s.size : Int) = 16) (k : Nat) (w : Int) (i : Nat) (hi : i < 16) (h : digOf (bt s i) = none) : bits_Parse.l0 (k + 1) s w 16 (i : Int) = some (0, 10) := by
  have hb := bt_range s i
  have g0 : (i : Int) < 16 := by omega
  have g1 : (0 : Int) ≤ (i : Int) := by omega
  have g2 : (i : Int) < (s.size : Int) := by omega
  simp only [bits_Parse.l0]
  rw [if_pos g0, if_pos g1, if_pos g2]
  clear g0 g1 g2
  generalize bt s (i : Int) = c at *
  unfold digOf at h
  by_cases h1 : c ≥ 97
  · rw [if_pos h1]
    have h2 : (c - 97 + 10) % 256 > 15 := by
      by_cases h3 : c ≤ 102
      · rw [if_neg (by omega), if_pos (by omega)] at h; cases h
      · omega
    rw [if_pos h2]
  · rw [if_neg h1]
    by_cases h2 : (c - 48) % 256 > 15
    · rw [if_pos h2]
    · rw [if_neg h2, if_pos (by omega)]
      have h3 : (c - 48) % 256 > 9 := by
        by_cases h4 : 48 ≤ c ∧ c ≤ 57
        · rw [if_pos h4] at h; cases h
        · omega
      rw [if_pos h3]
theorem parse_some {s : ByteArray} (hs : (s.size : Int) = 16) (k w : Nat) (i : Nat) (hi : i < 16) {d : Nat} (h : digOf (bt s i) = some d) : bits_Parse.l0 (k + 1) s (w : Int) 16 (i : Int) = bits_Parse.l0 k s ((nxt w d : Nat) : Int) 16 ((i + 1 : Nat) : Int) := by
  have hb := bt_range s i
  have hd := digOf_lt h
  have g0 : (i : Int) < 16 := by omega
  have g1 : (0 : Int) ≤ (i : Int) := by omega
  have g2 : (i : Int) < (s.size : Int) := by omega
  have g3 := suc i hi
  simp only [bits_Parse.l0]
  rw [if_pos g0, if_pos g1, if_pos g2, g3]
  clear g0 g1 g2 g3
  generalize ((i + 1 : Nat) : Int) = j
  generalize bt s (i : Int) = c at *
  unfold digOf at h
  by_cases h1 : c ≥ 97
  · rw [if_neg (by omega)] at h
    by_cases h3 : 97 ≤ c ∧ c ≤ 102
    · rw [if_pos h3] at h
      have h4 := Option.some.inj h
      rw [if_pos h1, if_neg (by omega), if_neg (by omega), or_dig w d _ (by omega) hd]
    · rw [if_neg h3] at h; cases h
  · by_cases h3 : 48 ≤ c ∧ c ≤ 57
    · rw [if_pos h3] at h
      have h4 := Option.some.inj h
      rw [if_neg h1, if_neg (by omega), if_pos (by omega), if_neg (by omega), or_dig w d _ (by omega) hd]
    · rw [if_neg h3, if_neg (by omega)] at h; cases h

theorem ref_none {s : ByteArray} (hs : (s.size : Int) = 16) (k : Nat) (w : Int) (i : Nat) (hi : i < 16) (h : digOf (bt s i) = none) : garrisonref01_Parse.l0 (k + 2) s w (i : Int) = some (0, 10) := by
  have hb := bt_range s i
  have g0 : (i : Int) < 16 := by omega
  have g1 : (0 : Int) ≤ (i : Int) := by omega
  have g2 : (i : Int) < (s.size : Int) := by omega
  simp only [garrisonref01_Parse.l0]
  rw [if_pos g0, if_pos g1, if_pos g2]
  clear g0 g1 g2
  generalize bt s (i : Int) = c at *
  unfold digOf at h
  have h57 : ¬ (48 ≤ c ∧ c ≤ 57) := fun e => by rw [if_pos e] at h; cases h
  rw [if_neg h57] at h
  have h102 : ¬ (97 ≤ c ∧ c ≤ 102) := fun e => by rw [if_pos e] at h; cases h
  have tail : ∀ x, garrisonref01_Parse.j1 (k + 1) s w x c false = some (0, 10) := fun x => by
    simp only [garrisonref01_Parse.j1]
    rw [if_neg (by decide)]
    by_cases h1 : c ≥ 97
    · rw [if_pos h1, if_neg (fun e => h102 ⟨h1, e⟩)]
    · rw [if_neg h1]
  by_cases h1 : c ≥ 48
  · rw [if_pos h1, decide_eq_false (fun e => h57 ⟨h1, e⟩), tail]
  · rw [if_neg h1, tail]
theorem ref_some {s : ByteArray} (hs : (s.size : Int) = 16) (k w : Nat) (i : Nat) (hi : i < 16) {d : Nat} (h : digOf (bt s i) = some d) : garrisonref01_Parse.l0 (k + 2) s (w : Int) (i : Int) = garrisonref01_Parse.l0 k s ((nxt w d : Nat) : Int) ((i + 1 : Nat) : Int) := by
  have hb := bt_range s i
  have hd := digOf_lt h
  have g0 : (i : Int) < 16 := by omega
  have g1 : (0 : Int) ≤ (i : Int) := by omega
  have g2 : (i : Int) < (s.size : Int) := by omega
  have g3 := suc i hi
  rw [← g3]
  simp only [garrisonref01_Parse.l0]
  rw [if_pos g0, if_pos g1, if_pos g2]
  clear g0 g1 g2 g3
  generalize bt s (i : Int) = c at *
  unfold digOf at h
  by_cases h3 : 48 ≤ c ∧ c ≤ 57
  · rw [if_pos h3] at h
    have h4 := Option.some.inj h
    rw [if_pos h3.1, decide_eq_true h3.2]
    simp only [garrisonref01_Parse.j1]
    rw [if_pos trivial, add_dig w d _ (by omega) hd]
  · rw [if_neg h3] at h
    by_cases h5 : 97 ≤ c ∧ c ≤ 102
    · rw [if_pos h5] at h
      have h4 := Option.some.inj h
      have h6 : c ≥ 48 := by omega
      rw [if_pos h6, decide_eq_false (fun e => h3 ⟨h6, e⟩)]
      simp only [garrisonref01_Parse.j1]
      rw [if_neg (by decide), if_pos h5.1, if_pos h5.2, add_dig2 w d _ (by omega) (by omega) hd]
    · rw [if_neg h5] at h; cases h

theorem both_parse {s : ByteArray} (hs : (s.size : Int) = 16) (e : Nat) : ∀ (i w k k' : Nat), i + e = 16 → e < k → 2 * e < k' → ∃ r, bits_Parse.l0 k s (w : Int) 16 (i : Int) = some r ∧ garrisonref01_Parse.l0 k' s (w : Int) (i : Int) = some r := by
  induction e with
  | zero =>
    intro i w k k' hi hk hk'
    obtain ⟨k, rfl⟩ : ∃ m, k = m + 1 := ⟨k - 1, by omega⟩
    obtain ⟨k', rfl⟩ : ∃ m, k' = m + 1 := ⟨k' - 1, by omega⟩
    have g : ¬ (i : Int) < 16 := by omega
    refine ⟨((w : Int), 0), ?_, ?_⟩
    · simp only [bits_Parse.l0]
      rw [if_neg g]
    · simp only [garrisonref01_Parse.l0]
      rw [if_neg g]
  | succ e ih =>
    intro i w k k' hi hk hk'
    obtain ⟨k, rfl⟩ : ∃ m, k = m + 1 := ⟨k - 1, by omega⟩
    obtain ⟨k', rfl⟩ : ∃ m, k' = m + 2 := ⟨k' - 2, by omega⟩
    cases h : digOf (bt s i) with
    | none => exact ⟨(0, 10), parse_none hs k w i (by omega) h, ref_none hs k' w i (by omega) h⟩
    | some d =>
      rw [parse_some hs k w i (by omega) h, ref_some hs k' w i (by omega) h]
      exact ih (i + 1) (nxt w d) k k' (by omega) (by omega) (by omega)
theorem both_Parse (s : ByteArray) {k : Nat} (hk : 40 < k) : ∃ r, bits_Parse.f k s = some r ∧ garrisonref01_Parse.f k s = some r := by
  unfold bits_Parse.f garrisonref01_Parse.f
  by_cases h : (s.size : Int) = 16
  · rw [if_pos h, if_pos h, h]
    exact both_parse h 16 0 0 k k rfl (by omega) (by omega)
  · rw [if_neg h, if_neg h]
    exact ⟨_, rfl, rfl⟩
end Go.Proofs.YthmedgennlcigaaDoor.Plain
