/- BitsRises is true at all words: no condition. -/
import Derived.Test.YthmedgennlcigaaDoorBits5
namespace Go.Proofs.YthmedgennlcigaaDoor.Pure
open Go Go.RowKit Go.Proofs.YthmedgennlcigaaDoorW.PrintWords Go.Proofs.YthmedgennlcigaaDoorW.PrintLast Go.Proofs.YthmedgennlcigaaDoorW.PrintMore Go.Proofs.YthmedgennlcigaaDoor.P Go.Proofs.YthmedgennlcigaaDoor.Given Go.Proofs.YthmedgennlcigaaDoor.Plain

theorem sign_range (d : Nat) (h : d < 16) : 48 ≤ sign (d : Int) ∧ sign (d : Int) ≤ 102 := by
  unfold sign
  split <;> omega
theorem sign_mono (a b : Nat) (ha : a < 16) (hb : b < 16) (h : a < b) : sign (a : Int) < sign (b : Int) := by
  unfold sign
  split <;> split <;> omega
theorem signAt_nat (v j : Nat) : signAt (v : Int) j = sign ((v / 2 ^ (60 - 4 * j) % 16 : Nat) : Int) := by
  unfold signAt
  push_cast
  rfl
def byteOf (d : Nat) : UInt8 := UInt8.ofNat (sign (d : Int)).toNat
theorem byteOf_nat (d : Nat) (h : d < 16) : ((byteOf d).toNat : Int) = sign (d : Int) := by
  have := sign_range d h
  unfold byteOf
  rw [UInt8.toNat_ofNat']
  omega
theorem text_get (v i : Nat) (hi : i < 16) : (strOfNums (rowT (v : Int) 16)).data.toList[i]? = some (byteOf (v / 2 ^ (60 - 4 * i) % 16)) := by
  rw [strOfNums_data, List.getElem?_map, rowT_get _ _ _ hi, if_pos hi, signAt_nat]
  rfl
theorem text_size (v : Int) : (strOfNums (rowT v 16)).size = 16 := by rw [strOfNums_size, rowT_length]
theorem bt_text (v i : Nat) (hi : i < 16) : bt (strOfNums (rowT (v : Int) 16)) (i : Int) = sign ((v / 2 ^ (60 - 4 * i) % 16 : Nat) : Int) := by
  have hs : ((i : Int)).toNat < (strOfNums (rowT (v : Int) 16)).size := by rw [text_size]; omega
  rw [← bt_at _ _ hs, ← byteOf_nat _ (Nat.mod_lt _ (by decide))]
  congr 2
  have h := text_get v i hi
  rw [Array.getElem?_toList, Array.getElem?_eq_getElem (by have := hs; simpa using this)] at h
  exact Option.some.inj h

theorem parse_text (v : Nat) (hv : v < 18446744073709551616) (e : Nat) : ∀ (k i : Nat), i + e = 16 → e < k → bits_Parse.l0 k (strOfNums (rowT (v : Int) 16)) ((v / 2 ^ (64 - 4 * i) : Nat) : Int) 16 (i : Int) = some ((v : Int), 0) := by
  have hs : ((strOfNums (rowT (v : Int) 16)).size : Int) = 16 := by rw [text_size]; rfl
  induction e with
  | zero =>
    intro k i hi hk
    obtain ⟨k, rfl⟩ : ∃ m, k = m + 1 := ⟨k - 1, by omega⟩
    have g : ¬ (i : Int) < 16 := by omega
    simp only [bits_Parse.l0]
    rw [if_neg g, show 64 - 4 * i = 0 from by omega, Nat.pow_zero, Nat.div_one]
  | succ e ih =>
    intro k i hi hk
    obtain ⟨k, rfl⟩ : ∃ m, k = m + 1 := ⟨k - 1, by omega⟩
    have hd : digOf (bt (strOfNums (rowT (v : Int) 16)) (i : Int)) = some (v / 2 ^ (60 - 4 * i) % 16) := by
      rw [bt_text v i (by omega), digOf_sign _ (Nat.mod_lt _ (by decide))]
    rw [parse_some hs k _ i (by omega) hd]
    have en : nxt (v / 2 ^ (64 - 4 * i)) (v / 2 ^ (60 - 4 * i) % 16) = v / 2 ^ (64 - 4 * (i + 1)) := by
      rw [show 64 - 4 * (i + 1) = 60 - 4 * i from by omega, show 64 - 4 * i = (60 - 4 * i) + 4 from by omega, Nat.pow_add, ← Nat.div_div_eq_div_mul]
      have : v / 2 ^ (60 - 4 * i) ≤ v := Nat.div_le_self _ _
      unfold nxt
      omega
    rw [en]
    exact ih k (i + 1) (by omega) (by omega)
theorem Parse_text (v : Nat) (hv : v < 18446744073709551616) {k : Nat} (hk : 16 < k) : bits_Parse.f k (strOfNums (rowT (v : Int) 16)) = some ((v : Int), 0) := by
  have hs : ((strOfNums (rowT (v : Int) 16)).size : Int) = 16 := by rw [text_size]; rfl
  unfold bits_Parse.f
  rw [if_pos hs, hs]
  have := parse_text v hv 16 k 0 rfl hk
  rw [show v / 2 ^ (64 - 4 * 0) = 0 from Nat.div_eq_of_lt hv] at this
  exact this

/-- The last m signs of a word's text. -/
def T : Nat → Nat → List UInt8
  | 0, _ => []
  | m + 1, v => byteOf (v / 16 ^ m % 16) :: T m v
theorem T_length : ∀ m v, (T m v).length = m
  | 0, _ => rfl
  | m + 1, v => by simp [T, T_length m v]
theorem T_get : ∀ m v i, i < m → (T m v)[i]? = some (byteOf (v / 16 ^ (m - 1 - i) % 16))
  | m + 1, v, 0, _ => rfl
  | m + 1, v, i + 1, h => by
    show (T m v)[i]? = _
    rw [T_get m v i (by omega), show m - 1 - i = m + 1 - 1 - (i + 1) from by omega]
theorem text_T (v : Nat) : (strOfNums (rowT (v : Int) 16)).data.toList = T 16 v := by
  apply List.ext_getElem?
  intro i
  by_cases hi : i < 16
  · rw [text_get v i hi, T_get 16 v i hi, show (16 : Nat) ^ (16 - 1 - i) = 2 ^ (60 - 4 * i) from by
      rw [show (16 : Nat) = 2 ^ 4 from rfl, ← Nat.pow_mul]
      congr 1
      omega]
  · have h1 : (strOfNums (rowT (v : Int) 16)).data.toList.length = 16 := by rw [data_length, text_size]
    rw [List.getElem?_eq_none (by omega), List.getElem?_eq_none (by rw [T_length]; omega)]
theorem byte_lt (a b : Nat) (ha : a < 16) (hb : b < 16) : decide (byteOf a < byteOf b) = decide (a < b) := by
  apply decide_eq_decide.2
  rw [UInt8.lt_iff_toNat_lt]
  have h1 := byteOf_nat a ha
  have h2 := byteOf_nat b hb
  constructor
  · intro h
    rcases Nat.lt_or_ge a b with h3 | h3
    · exact h3
    · rcases Nat.lt_or_ge b a with h4 | h4
      · have := sign_mono b a hb ha h4
        omega
      · obtain rfl : a = b := by omega
        omega
  · intro h
    have := sign_mono a b ha hb h
    omega
theorem byte_eq (a b : Nat) (ha : a < 16) (hb : b < 16) : (byteOf a == byteOf b) = decide (a = b) := by
  by_cases h : a = b
  · subst h
    simp
  · rw [decide_eq_false h, beq_eq_false_iff_ne]
    intro e
    have h1 := byteOf_nat a ha
    have h2 := byteOf_nat b hb
    rw [e] at h1
    rcases Nat.lt_or_ge a b with h3 | h3
    · have := sign_mono a b ha hb h3
      omega
    · have := sign_mono b a hb ha (by omega)
      omega
theorem less_T : ∀ m v w, Op.bytesLess (T m v) (T m w) = decide (v % 16 ^ m < w % 16 ^ m)
  | 0, v, w => by simp [T, Op.bytesLess, Nat.mod_one]
  | m + 1, v, w => by
    have ha : v / 16 ^ m % 16 < 16 := Nat.mod_lt _ (by decide)
    have hb : w / 16 ^ m % 16 < 16 := Nat.mod_lt _ (by decide)
    show (decide (byteOf (v / 16 ^ m % 16) < byteOf (w / 16 ^ m % 16)) || (byteOf (v / 16 ^ m % 16) == byteOf (w / 16 ^ m % 16) && Op.bytesLess (T m v) (T m w))) = _
    rw [byte_lt _ _ ha hb, byte_eq _ _ ha hb, less_T m v w]
    have e1 : v % 16 ^ (m + 1) = v % 16 ^ m + 16 ^ m * (v / 16 ^ m % 16) := Nat.mod_pow_succ
    have e2 : w % 16 ^ (m + 1) = w % 16 ^ m + 16 ^ m * (w / 16 ^ m % 16) := Nat.mod_pow_succ
    have l1 : v % 16 ^ m < 16 ^ m := Nat.mod_lt _ (Nat.pow_pos (by decide))
    have l2 : w % 16 ^ m < 16 ^ m := Nat.mod_lt _ (Nat.pow_pos (by decide))
    rw [e1, e2]
    generalize v / 16 ^ m % 16 = a at *
    generalize w / 16 ^ m % 16 = b at *
    generalize v % 16 ^ m = x at *
    generalize w % 16 ^ m = y at *
    generalize 16 ^ m = p at *
    rcases Nat.lt_trichotomy a b with h | h | h
    · have : p * (a + 1) ≤ p * b := Nat.mul_le_mul_left _ h
      rw [Nat.mul_add, Nat.mul_one] at this
      rw [decide_eq_true h, Bool.true_or, decide_eq_true (by omega)]
    · subst h
      rw [decide_eq_false (Nat.lt_irrefl a), decide_eq_true (rfl : a = a), Bool.false_or, Bool.true_and]
      apply decide_eq_decide.2
      omega
    · have : p * (b + 1) ≤ p * a := Nat.mul_le_mul_left _ h
      rw [Nat.mul_add, Nat.mul_one] at this
      rw [decide_eq_false (by omega), decide_eq_false (by omega), Bool.false_and, decide_eq_false (by omega)]
      rfl

theorem BitsRises : garrisonlaw01_BitsRises.Pure := by
  intro v w hV hW
  obtain ⟨v, rfl, hv⟩ := wf_u64 hV
  obtain ⟨w, rfl, hw⟩ := wf_u64 hW
  refine ⟨140, ?_⟩
  unfold garrisonlaw01_BitsRises.f bits_Text.f
  have L : garrisonlaw01_live.f 140 = some true := live_ok (by decide)
  have c1 : (0 : Int) ≤ (v : Int) := by omega
  have c2 : (v : Int) < 18446744073709551616 := by omega
  have c3 : (0 : Int) ≤ (w : Int) := by omega
  have c4 : (w : Int) < 18446744073709551616 := by omega
  rw [if_pos c1, if_pos c2, if_pos c3, if_pos c4, L]
  simp only [Option.bind_some, Parse_text v hv (show 16 < 140 by decide), num_eq, if_true]
  have hl : Op.bytesLess (strOfNums (rowT (v : Int) 16)).toList (strOfNums (rowT (w : Int) 16)).toList = decide ((v : Int) < (w : Int)) := by
    rw [ByteArray.toList_eq, ByteArray.toList_eq, text_T, text_T, less_T, Nat.mod_eq_of_lt (show v < 16 ^ 16 from hv), Nat.mod_eq_of_lt (show w < 16 ^ 16 from hw)]
    apply decide_eq_decide.2
    omega
  rw [hl, beq_self_eq_true, if_pos rfl, text_size]
  rfl
end Go.Proofs.YthmedgennlcigaaDoor.Pure
