/- bits.Text at this program: what the call answers. -/
import Derived.WalkKit
import Derived.Outline
import Derived.Lib.Hide
import Derived.Laws.Rows
import Derived.Laws.BytesArg
import Derived.RangeFuncOwn
import Derived.Laws.Bits64b
import Derived.Test.YthmedgennlcigaaDoorProg
namespace Go.Proofs.YthmedgennlcigaaDoor.Given
open Go Go.RowKit Go.Proofs

theorem setCell_blk {w : World} {g : Nat} {t : TypeId} {cs : Array Value} (h : w.heap[g]? = some (.cells cs t (0, 0))) (i : Nat) (u : Value) : (w.setCell ⟨g, i, none⟩ u).heap[g]? = some (.cells (cs.setIfInBounds i u) t (0, 0)) := by
  simp [World.setCell, Array.getElem?_modify, h]

/-- The sign of a digit below 16. -/
def sign (d : Int) : Int := if d < 10 then 48 + d else 87 + d
/-- The sign at place j of a word's text. -/
def signAt (x : Int) (j : Nat) : Int := sign (x / 2 ^ (60 - 4 * j) % 16)
def rowT (x : Int) (k : Nat) : List Int := (List.range 16).map fun j => if j < k then signAt x j else 0
def cellsT (x : Int) (k : Nat) : Array Value := ((rowT x k).map fun n => Value.int .u8 n).toArray

theorem rowT_length (x : Int) (k : Nat) : (rowT x k).length = 16 := by simp [rowT]
theorem rowT_get (x : Int) (k j : Nat) (h : j < 16) : (rowT x k)[j]? = some (if j < k then signAt x j else 0) := by simp [rowT, h]
theorem cellsT_get (x : Int) (k j : Nat) (h : j < 16) : (cellsT x k)[j]? = some (.int .u8 (if j < k then signAt x j else 0)) := by
  simp [cellsT, rowT_get x k j h]
theorem cellsT_set (x : Int) (k : Nat) (h : k < 16) : (cellsT x k).setIfInBounds k (.int .u8 (signAt x k)) = cellsT x (k + 1) := by
  apply Array.ext_getElem?
  intro j
  by_cases hj : j < 16
  · rw [cellsT_get x (k + 1) j hj, Array.getElem?_setIfInBounds]
    have hs : k < (cellsT x k).size := by simp [cellsT, rowT_length, h]
    by_cases e : k = j
    · subst e; simp [hs]
    · rw [if_neg e, cellsT_get x k j hj]
      have : (j < k) = (j < k + 1) := by apply propext; omega
      simp only [this]
  · have h1 : (cellsT x (k + 1)).size = 16 := by simp [cellsT, rowT_length]
    have h2 : ((cellsT x k).setIfInBounds k (.int .u8 (signAt x k))).size = 16 := by simp [cellsT, rowT_length]
    rw [Array.getElem?_eq_none (by omega), Array.getElem?_eq_none (by omega)]

theorem and15 (z : Int) (h0 : 0 ≤ z) (h1 : z < 18446744073709551616) : bits .and .u64 z 15 = z % 16 :=
  bits_mask .u64 64 (by decide) (fun n a b => by rw [show IntKind.u64.wrap n = n % 18446744073709551616 from by simp [IntKind.wrap, IntKind.signed, IntKind.bits]]; omega) 4 (by decide) z h0 h1
theorem sign_at (d : Nat) (h : d < 16) (h' : d < (⟨#[48, 49, 50, 51, 52, 53, 54, 55, 56, 57, 97, 98, 99, 100, 101, 102]⟩ : ByteArray).size) :
    (((⟨#[48, 49, 50, 51, 52, 53, 54, 55, 56, 57, 97, 98, 99, 100, 101, 102]⟩ : ByteArray)[d]'h').toNat : Int) = sign d := by
  unfold sign
  have : d = 0 ∨ d = 1 ∨ d = 2 ∨ d = 3 ∨ d = 4 ∨ d = 5 ∨ d = 6 ∨ d = 7 ∨ d = 8 ∨ d = 9 ∨ d = 10 ∨ d = 11 ∨ d = 12 ∨ d = 13 ∨ d = 14 ∨ d = 15 := by omega
  rcases this with rfl | rfl | rfl | rfl | rfl | rfl | rfl | rfl | rfl | rfl | rfl | rfl | rfl | rfl | rfl | rfl <;> rfl

def TextPost (x : Int) (w : World) (e : Ending) (w' : World) : Prop := ∃ s, s = strOfNums (rowT x 16) ∧ e = .returned (.string s) ∧ Below w.heap.size w w'

set_option maxRecDepth 100000 in
set_option maxHeartbeats 1000000 in
theorem text_calls (x : Int) (w : World) (h0 : 0 ≤ x) (h1 : x < 18446744073709551616) : Calls Tryd.prog 22 #[.int .u64 x] w (TextPost x w) := by
  go_enter Tryd.func22, Tryd.ntmps22
  go_wp2
  go_loopw [5] (fun i wr => ∃ k : Nat, k ≤ 16 ∧ i = .int .i64 k ∧ wr.heap[w.heap.size]? = some (.cells (cellsT x k) 50 (0, 0)) ∧ Below w.heap.size w wr) (fun i _ => 16 - (intOf i).toNat)
  case atStart =>
    refine ⟨0, by omega, rfl, ?_, (Below.refl _ _).alloc (Nat.le_refl _) _⟩
    have h := World.alloc_heap_new w (.cells (cellsT x 0) 50)
    exact h
  case round =>
    obtain ⟨k, hk, rfl, hblk, hB⟩ := hrel
    by_cases hlt : k < 16
    · have hd : decide ((k : Int) < 16) = true := decide_eq_true (by omega)
      have hcell : wr.cell? ⟨w.heap.size, k, none⟩ = some (.int .u8 0) := by unfold World.cell?; rw [hblk]; simpa using cellsT_get x k k hlt
      have hfr : wr.frozen? ⟨w.heap.size, k, none⟩ = false := by unfold World.frozen?; rw [hblk]; simp
      have b0 : (0 : Int) ≤ 60 - 4 * (k : Int) := by omega
      have b1 : 60 - 4 * (k : Int) ≤ 64 := by omega
      have hlt' : (k : Int) < 16 := by omega
      have hz0 : 0 ≤ x / 2 ^ (60 - 4 * k) := Int.ediv_nonneg h0 (Int.pow_nonneg (by decide))
      have hz1 : x / 2 ^ (60 - 4 * k) < 18446744073709551616 := Int.lt_of_le_of_lt (Int.ediv_le_self _ h0) h1
      have ha := and15 _ hz0 hz1
      have hq0 : 0 ≤ bits .and .u64 (x / 2 ^ (60 - 4 * k)) 15 := by rw [ha]; omega
      have hq1 : bits .and .u64 (x / 2 ^ (60 - 4 * k)) 15 < 16 := by rw [ha]; omega
      have HA := Lib.hid ha
      clear ha hz0 hz1
      go_wp2
      go_roundw
      case rel =>
        refine ⟨k + 1, by omega, by go_num, ?_, hB.setCell (p := ⟨w.heap.size, k, none⟩) (Nat.le_refl _) _⟩
        have hs : ∀ h', (((⟨#[48, 49, 50, 51, 52, 53, 54, 55, 56, 57, 97, 98, 99, 100, 101, 102]⟩ : ByteArray)[(bits .and .u64 (x / 2 ^ (60 - 4 * k)) 15).toNat]'h').toNat : Int) = signAt x k := by
          intro h'
          rw [sign_at _ (by omega)]
          unfold signAt
          rw [← HA.out]
          congr 1
        rw [hs]
        rw [← cellsT_set x k hlt]
        exact setCell_blk hblk k _
      case measure => simp [intOf]; omega
    · obtain rfl : k = 16 := by omega
      have hlen : wr.heap[w.heap.size]? = some (.cells (cellsT x 16) 50 (0, 0)) := hblk
      have hconv := run_convert_bytes_arg (P := Tryd.prog) wr 51 5 Tryd.underlying51 Tryd.underlying5 w.heap.size 0 16 16 (rowT x 16) (rowT_length x 16) (fun i hi => by
        unfold World.cell?
        rw [hlen]
        simp only [Nat.zero_add]
        rw [List.getD_eq_getElem?_getD, rowT_get x 16 i hi]
        exact cellsT_get x 16 i hi) 9 Tryd.underlying9
      go_wp2
      go_ret
      exact ⟨_, rfl, rfl, hB⟩
end Go.Proofs.YthmedgennlcigaaDoor.Given
