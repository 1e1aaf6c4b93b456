/- BitsCounts is true at all words: no condition. -/
import Derived.Test.YthmedgennlcigaaDoorBits4
import Derived.Test.YthmedgennlcigaaDoorPx3
namespace Go.Proofs.YthmedgennlcigaaDoor.Pure
open Go Go.RowKit Go.Proofs.YthmedgennlcigaaDoorW.PrintWords Go.Proofs.YthmedgennlcigaaDoorW.PrintLast Go.Proofs.YthmedgennlcigaaDoorW.PrintMore Go.Proofs.YthmedgennlcigaaDoor.P Go.Proofs.YthmedgennlcigaaDoor.Given Go.Proofs.YthmedgennlcigaaDoor.Plain

theorem pc_not : ∀ (k x : Nat), x < 2 ^ k → pc k x + pc k (2 ^ k - 1 - x) = k
  | 0, _, _ => rfl
  | k + 1, x, h => by
    show x % 2 + pc k (x / 2) + ((2 ^ (k + 1) - 1 - x) % 2 + pc k ((2 ^ (k + 1) - 1 - x) / 2)) = k + 1
    have hp : 2 ^ (k + 1) = 2 * 2 ^ k := by rw [Nat.pow_succ, Nat.mul_comm]
    have hx : x / 2 < 2 ^ k := by omega
    have e : (2 ^ (k + 1) - 1 - x) / 2 = 2 ^ k - 1 - x / 2 := by omega
    have := pc_not k (x / 2) hx
    rw [e]
    omega
theorem pc_and_or : ∀ (k x y : Nat), pc k (x &&& y) + pc k (x ||| y) = pc k x + pc k y
  | 0, _, _ => rfl
  | k + 1, x, y => by
    show (x &&& y) % 2 + pc k ((x &&& y) / 2) + ((x ||| y) % 2 + pc k ((x ||| y) / 2)) = x % 2 + pc k (x / 2) + (y % 2 + pc k (y / 2))
    have h := pc_and_or k (x / 2) (y / 2)
    have e1 : (x &&& y) % 2 = (x % 2) &&& (y % 2) := Nat.and_mod_two_pow (n := 1)
    have e2 : (x ||| y) % 2 = (x % 2) ||| (y % 2) := Nat.or_mod_two_pow (n := 1)
    have e3 : (x &&& y) / 2 = (x / 2) &&& (y / 2) := Nat.and_div_two_pow (n := 1)
    have e4 : (x ||| y) / 2 = (x / 2) ||| (y / 2) := Nat.or_div_two_pow (n := 1)
    have e5 : ((x % 2) &&& (y % 2)) + ((x % 2) ||| (y % 2)) = x % 2 + y % 2 := by
      rcases Nat.mod_two_eq_zero_or_one x with h1 | h1 <;> rcases Nat.mod_two_eq_zero_or_one y with h2 | h2 <;> rw [h1, h2] <;> rfl
    rw [e1, e2, e3, e4]
    omega
theorem pc_xor : ∀ (k x y : Nat), pc k (x ^^^ y) + pc k (x &&& y) = pc k (x ||| y)
  | 0, _, _ => rfl
  | k + 1, x, y => by
    show (x ^^^ y) % 2 + pc k ((x ^^^ y) / 2) + ((x &&& y) % 2 + pc k ((x &&& y) / 2)) = (x ||| y) % 2 + pc k ((x ||| y) / 2)
    have h := pc_xor k (x / 2) (y / 2)
    have e1 : (x &&& y) % 2 = (x % 2) &&& (y % 2) := Nat.and_mod_two_pow (n := 1)
    have e2 : (x ||| y) % 2 = (x % 2) ||| (y % 2) := Nat.or_mod_two_pow (n := 1)
    have e3 : (x &&& y) / 2 = (x / 2) &&& (y / 2) := Nat.and_div_two_pow (n := 1)
    have e4 : (x ||| y) / 2 = (x / 2) ||| (y / 2) := Nat.or_div_two_pow (n := 1)
    have e6 : (x ^^^ y) % 2 = (x % 2) ^^^ (y % 2) := Nat.xor_mod_two_pow (n := 1)
    have e7 : (x ^^^ y) / 2 = (x / 2) ^^^ (y / 2) := Nat.xor_div_two_pow (n := 1)
    have e5 : ((x % 2) ^^^ (y % 2)) + ((x % 2) &&& (y % 2)) = (x % 2) ||| (y % 2) := by
      rcases Nat.mod_two_eq_zero_or_one x with h1 | h1 <;> rcases Nat.mod_two_eq_zero_or_one y with h2 | h2 <;> rw [h1, h2] <;> rfl
    rw [e1, e2, e3, e4, e6, e7]
    omega
theorem xor_max (x : Nat) (h : x < 18446744073709551616) : 18446744073709551615 ^^^ x = notN x := by
  apply ext64 (Nat.xor_lt_two_pow (n := 64) (by decide) h) (notN_lt x)
  intro i hi
  rw [notN_bit x i h, Nat.testBit_xor, show (18446744073709551615 : Nat) = 2 ^ 64 - 1 from rfl, Nat.testBit_two_pow_sub_one]
  simp [hi]
theorem pc_notN (x : Nat) (h : x < 18446744073709551616) : pc 64 x + pc 64 (notN x) = 64 := by
  have e : notN x = 2 ^ 64 - 1 - x := by unfold notN; omega
  rw [e]
  exact pc_not 64 x h

theorem counts_fin (x1 x2 x3 x4 x5 x6 : Int) (h1 : 0 ≤ x1) (h2 : 0 ≤ x2) (h4 : 0 ≤ x4) (h5 : 0 ≤ x5) (h6 : 0 ≤ x6) (q1 : x6 + x4 = 64) (q2 : x1 + x2 = x5 + x6) (q3 : x3 + x1 = x2) (b1 : x5 ≤ 64) :
    ((some x6).bind fun t189 => (some x4).bind fun t190 => if wrap64 (t189 + t190) = 64 then
      (some x1).bind fun t191 => (some x2).bind fun t192 => (some x5).bind fun t193 => (some x6).bind fun t194 =>
        if wrap64 (t191 + t192) = wrap64 (t193 + t194) then (some x3).bind fun t195 => if t195 = wrap64 (t192 - t191) then (some true).bind fun t196 => some t196 else some false else some false
      else some false) = some true := by
  have d3 : x3 = x2 - x1 := by omega
  have e1 : wrap64 (x6 + x4) = x6 + x4 := w64 (by omega) (by omega)
  have e2 : wrap64 (x1 + x2) = x1 + x2 := w64 (by clear e1; omega) (by clear e1; omega)
  have e3 : wrap64 (x5 + x6) = x5 + x6 := w64 (by clear e1 e2; omega) (by clear e1 e2; omega)
  have e4 : wrap64 (x2 - x1) = x2 - x1 := w64 (by clear e1 e2 e3; omega) (by clear e1 e2 e3; omega)
  simp only [Option.bind_some]
  rw [e1, if_pos q1, e2, e3, if_pos q2, e4, if_pos d3]
theorem max64 : IntKind.u64.max = ((18446744073709551615 : Nat) : Int) := by decide +kernel

theorem BitsCounts : garrisonlaw01_BitsCounts.Pure := by
  intro v w hV hW
  obtain ⟨v, rfl, hv⟩ := wf_u64 hV
  obtain ⟨w, rfl, hw⟩ := wf_u64 hW
  refine ⟨140, ?_⟩
  unfold garrisonlaw01_BitsCounts.f
  have ha : v &&& w < 18446744073709551616 := Nat.lt_of_le_of_lt Nat.and_le_left hv
  have ho : v ||| w < 18446744073709551616 := Nat.or_lt_two_pow (n := 64) hv hw
  have hx : v ^^^ w < 18446744073709551616 := Nat.xor_lt_two_pow (n := 64) hv hw
  have hn := notN_lt w
  rw [max64, xor64 _ _ (by decide) hw, xor_max w hw, and64 _ _ hv hw, or64 _ _ hv hw, xor64 _ _ hv hw, Count_eq _ hv, Count_eq _ hw, Count_eq _ ha, Count_eq _ ho, Count_eq _ hx, Count_eq _ hn, live_ok (by decide)]
  have q1 := pc_notN w hw
  have q2 := pc_and_or 64 v w
  have q3 := pc_xor 64 v w
  have b1 := pc_le 64 v
  have b2 := pc_le 64 w
  exact counts_fin _ _ _ _ _ _ (Int.natCast_nonneg _) (Int.natCast_nonneg _) (Int.natCast_nonneg _) (Int.natCast_nonneg _) (Int.natCast_nonneg _) (by rw [← Int.natCast_add, q1]; rfl) (by rw [← Int.natCast_add, ← Int.natCast_add, q2]) (by rw [← Int.natCast_add, q3]) (Int.ofNat_le.2 b1)
end Go.Proofs.YthmedgennlcigaaDoor.Pure
