/- garrisonref01.Text at this program: what the call answers. -/
import Derived.WalkKit
import Derived.Outline
import Derived.Lib.Hide
import Derived.Laws.Strings2
import Derived.Test.YthmedgennlcigaaDoorGText
namespace Go.Proofs.YthmedgennlcigaaDoor.Given
open Go Go.RowKit Go.Proofs

abbrev dig16 : ByteArray := ⟨#[48, 49, 50, 51, 52, 53, 54, 55, 56, 57, 97, 98, 99, 100, 101, 102]⟩
theorem dig_cut (q : Nat) (h : q < 16) : dig16.extract q (q + 1) = strOfNums [sign q] := by
  have : q = 0 ∨ q = 1 ∨ q = 2 ∨ q = 3 ∨ q = 4 ∨ q = 5 ∨ q = 6 ∨ q = 7 ∨ q = 8 ∨ q = 9 ∨ q = 10 ∨ q = 11 ∨ q = 12 ∨ q = 13 ∨ q = 14 ∨ q = 15 := by omega
  rcases this with rfl | rfl | rfl | rfl | rfl | rfl | rfl | rfl | rfl | rfl | rfl | rfl | rfl | rfl | rfl | rfl <;> rfl
theorem strOfNums_append (xs ys : List Int) : strOfNums xs ++ strOfNums ys = strOfNums (xs ++ ys) := by
  apply ByteArray.ext
  rw [ByteArray.data_append]
  simp [strOfNums]
def signs (x : Int) (j : Nat) : List Int := (List.range j).map (signAt x)
theorem signs_snoc (x : Int) (j : Nat) : signs x (j + 1) = signs x j ++ [signAt x j] := by simp [signs, List.range_succ]
theorem signs_row (x : Int) : signs x 16 = rowT x 16 := by
  unfold signs rowT
  apply List.map_congr_left
  intro j hj
  rw [if_pos (List.mem_range.1 hj)]

def RefPost (x : Int) (w : World) (e : Ending) (w' : World) : Prop := ∃ s, s = strOfNums (rowT x 16) ∧ e = .returned (.string s) ∧ w' = w

set_option maxRecDepth 100000 in
set_option maxHeartbeats 1000000 in
theorem refText_calls (x : Int) (w : World) (h0 : 0 ≤ x) (h1 : x < 18446744073709551616) : Calls Tryd.prog 23 #[.int .u64 x] w (RefPost x w) := by
  go_enter Tryd.func23, Tryd.ntmps23
  go_wp2
  go_loop [4, 5] (fun s i => ∃ (j : Nat) (t : ByteArray), j ≤ 16 ∧ Hid (t = strOfNums (signs x j)) ∧ t.size ≤ 16 ∧ s = .string t ∧ i = .int .i64 (60 - 4 * (j : Int))) (fun _ i => (intOf i + 4).toNat)
  case atStart => exact ⟨0, ⟨#[]⟩, by omega, Lib.hid rfl, by decide, rfl, by simp⟩
  case round =>
    obtain ⟨j, t, hj, ht, hts, rfl, rfl⟩ := hrel
    by_cases hlt : j < 16
    · have b0 : (0 : Int) ≤ 60 - 4 * (j : Int) := by omega
      have b1 : 60 - 4 * (j : Int) ≤ 64 := by omega
      have hz0 : 0 ≤ x / 2 ^ (60 - 4 * j) := Int.ediv_nonneg h0 (Int.pow_nonneg (by decide))
      have hz1 : x / 2 ^ (60 - 4 * j) < 18446744073709551616 := Int.lt_of_le_of_lt (Int.ediv_le_self _ h0) h1
      have ha := and15 _ hz0 hz1
      obtain ⟨q, hq⟩ : ∃ q : Nat, bits .and .u64 (x / 2 ^ (60 - 4 * j)) 15 = (q : Int) := ⟨(bits .and .u64 (x / 2 ^ (60 - 4 * j)) 15).toNat, by rw [Int.toNat_of_nonneg (by rw [ha]; omega)]⟩
      have hql : (q : Int) < 16 := by omega
      have hsg : sign (q : Int) = signAt x j := by unfold signAt; rw [← ha, hq]
      have HS := Lib.hid hsg
      clear ha hsg hz0 hz1
      have hsl : ∀ w : World, (Instr.slice 9 (.string dig16) (some (.int .i64 (q : Int))) (some (.int .i64 ((q : Int) + 1))) none).run Tryd.prog w = .ok (.string (strOfNums [sign q])) w := fun w => by
        have hql' : q < 16 := by omega
        rw [run_slice_string w 9 dig16 .i64 .i64 (q : Int) ((q : Int) + 1) Tryd.underlying9 (by omega) (by omega) (show (q : Int) + 1 ≤ ((16 : Nat) : Int) by omega)]
        rw [show ((q : Int)).toNat = q by omega, show ((q : Int) + 1).toNat = q + 1 by omega, dig_cut q hql']
      have hsz : (strOfNums [sign (q : Int)]).size = 1 := strOfNums_size _
      go_wp2
      go_round
      case rel =>
        refine ⟨j + 1, t ++ strOfNums [sign q], by omega, Lib.hid ?_, ?_, rfl, ?_⟩
        · rw [ht.out, HS.out, signs_snoc, strOfNums_append]
        · rw [ByteArray.size_append, hsz]
          have : t.size = j := by rw [ht.out, strOfNums_size]; simp [signs]
          omega
        · congr 1; omega
      case measure => simp [intOf]; omega
    · obtain rfl : j = 16 := by omega
      have HT := Lib.hid ht.out
      go_wp2
      go_ret
      exact ⟨t, by rw [ht.out, signs_row], rfl, rfl⟩
end Go.Proofs.YthmedgennlcigaaDoor.Given
