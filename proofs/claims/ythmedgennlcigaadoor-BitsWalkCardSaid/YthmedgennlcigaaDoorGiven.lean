/- bits.Text and bits.Next as plain functions, and that the calls answer so, under the table of math/bits. -/
import Derived.Laws.Bits64b
import Derived.Test.YthmedgennlcigaaDoorGText
import Derived.Test.YthmedgennlcigaaDoorGNext
import Derived.Test.YthmedgennlcigaaDoorGRefText
import Derived.Test.YthmedgennlcigaaDoorShelf
import Derived.Test.YthmedgennlcigaaDoorWWords
namespace Go.Proofs.YthmedgennlcigaaDoor.Given
open Go Go.RowKit Go.Proofs Go.Shelf

theorem u64_signed : IntKind.u64.signed = false := rfl

/-- The table lies in its variable. -/
def GL (w : World) : Prop := TabAt 0 Lib.deBruijn64tab w

theorem GL.pos {w : World} (h : GL w) : 0 < w.heap.size := World.block_lt_of_cell? w ⟨0, 0, none⟩ (h 0 (by decide))
theorem GL.below {w w' : World} (h : GL w) (hb : Below w.heap.size w w') : GL w' := fun j hj => (hb.cell (p := ⟨0, j, none⟩) h.pos).trans (h j hj)

def bits_Text.f (a0 : Int) : Option ByteArray := if 0 ≤ a0 then (if a0 < 18446744073709551616 then some (strOfNums (rowT a0 16)) else none) else none

theorem bits_Text.calls (a0 : Int) (r : ByteArray) (w : World) (h : bits_Text.f a0 = some r) :
    Calls Tryd.prog 22 #[.int .u64 a0] w fun e w' => e = .returned (.string r) ∧ Below w.heap.size w w' := by
  unfold bits_Text.f at h
  by_cases h0 : 0 ≤ a0
  · rw [if_pos h0] at h
    by_cases h1 : a0 < 18446744073709551616
    · rw [if_pos h1] at h
      obtain rfl := Option.some.inj h
      refine (text_calls a0 w h0 h1).mono ?_
      rintro e w' ⟨s, rfl, rfl, hb⟩
      exact ⟨rfl, hb⟩
    · rw [if_neg h1] at h; cases h
  · rw [if_neg h0] at h; cases h

def garrisonref01_Text.f (a0 : Int) : Option ByteArray := if 0 ≤ a0 then (if a0 < 18446744073709551616 then some (strOfNums (rowT a0 16)) else none) else none

theorem garrisonref01_Text.calls (a0 : Int) (r : ByteArray) (w : World) (h : garrisonref01_Text.f a0 = some r) :
    Calls Tryd.prog 23 #[.int .u64 a0] w fun e w' => e = .returned (.string r) ∧ Below w.heap.size w w' := by
  unfold garrisonref01_Text.f at h
  by_cases h0 : 0 ≤ a0
  · rw [if_pos h0] at h
    by_cases h1 : a0 < 18446744073709551616
    · rw [if_pos h1] at h
      obtain rfl := Option.some.inj h
      refine (refText_calls a0 w h0 h1).mono ?_
      rintro e w' ⟨s, rfl, rfl, rfl⟩
      exact ⟨rfl, Below.refl _ _⟩
    · rw [if_neg h1] at h; cases h
  · rw [if_neg h0] at h; cases h

def bits_Len64.f (a0 : Int) : Option Int := if 0 ≤ a0 then (if a0 ≤ 18446744073709551615 then some ((Lib.bitLen a0.toNat : Nat) : Int) else none) else none

theorem bits_Len64.calls (a0 : Int) (r : Int) (w : World) (h : bits_Len64.f a0 = some r) :
    Calls Tryd.prog 36 #[.int .u64 a0] w fun e w' => e = .returned (.int .i64 r) ∧ Go.Proofs.YthmedgennlcigaaDoorW.PrintWords.Drawn0 w w' := by
  unfold bits_Len64.f at h
  by_cases h0 : 0 ≤ a0
  · rw [if_pos h0] at h
    by_cases h1 : a0 ≤ 18446744073709551615
    · rw [if_pos h1] at h
      obtain rfl := Option.some.inj h
      refine (Tryd.bits_Len64 a0 w h0 h1).mono ?_
      rintro e w' ⟨rfl, rfl⟩
      exact ⟨rfl, Go.Proofs.YthmedgennlcigaaDoorW.PrintWords.Drawn0.refl _⟩
    · rw [if_neg h1] at h; cases h
  · rw [if_neg h0] at h; cases h

/-- The bits of x from a on. -/
def upper (x a : Nat) : Nat := x &&& (18446744073709551615 * 2 ^ a % 18446744073709551616)
def nextOf (x : Nat) (a : Int) : Int × Bool :=
  if 64 ≤ a then (0, false) else if upper x a.toNat = 0 then (0, false) else ((Lib.ctz 64 (upper x a.toNat) : Nat), true)
def bits_Next.f (a0 a1 : Int) : Option (Int × Bool) := if 0 ≤ a0 then (if a0 < 18446744073709551616 then some (nextOf a0.toNat a1) else none) else none

theorem cast_pow (c a : Nat) : ((c : Nat) : Int) * 2 ^ a = ((c * 2 ^ a : Nat) : Int) := by push_cast; rfl
theorem upper_bits (x a : Nat) (hx : x < 18446744073709551616) : bits .and .u64 (x : Int) (IntKind.u64.wrap (18446744073709551615 * 2 ^ a)) = ((upper x a : Nat) : Int) := by
  have e : IntKind.u64.wrap (18446744073709551615 * 2 ^ a) = ((18446744073709551615 * 2 ^ a % 18446744073709551616 : Nat) : Int) := by
    rw [IntKind.wrap_u64]
    rw [show (18446744073709551615 * 2 ^ a : Int) = ((18446744073709551615 * 2 ^ a : Nat) : Int) from cast_pow 18446744073709551615 a]
    exact (Int.natCast_emod _ _).symm
  rw [e, bits_and_u64_nat x _ hx (Nat.mod_lt _ (by decide))]
  rfl
theorem upper_lt (x a : Nat) (hx : x < 18446744073709551616) : upper x a < 18446744073709551616 := Nat.lt_of_le_of_lt (Nat.and_le_left) hx

theorem bits_Next.calls (a0 a1 : Int) (r1 : Int) (r2 : Bool) (w : World) (hG : GL w) (h : bits_Next.f a0 a1 = some (r1, r2)) :
    Calls Tryd.prog 29 #[.int .u64 a0, .int .i64 a1] w fun e w' => e = .returned (.tuple #[.int .i64 r1, .bool r2]) ∧ Below w.heap.size w w' := by
  unfold bits_Next.f at h
  by_cases h0 : 0 ≤ a0
  · rw [if_pos h0] at h
    by_cases h1 : a0 < 18446744073709551616
    · rw [if_pos h1] at h
      obtain ⟨x, rfl⟩ := Int.eq_ofNat_of_zero_le h0
      have hx : x < 18446744073709551616 := by omega
      have h2 := Option.some.inj h
      rw [Int.toNat_natCast] at h2
      unfold nextOf at h2
      by_cases h3 : 64 ≤ a1
      · rw [if_pos h3] at h2
        obtain ⟨rfl, rfl⟩ := Prod.mk.inj h2
        exact (next_far x a1 w h3).mono (fun e w' hh => hh)
      · rw [if_neg h3] at h2
        have hz : upper x a1.toNat = 0 → r1 = 0 ∧ r2 = false := fun e => by
          rw [if_pos e] at h2
          obtain ⟨rfl, rfl⟩ := Prod.mk.inj h2
          exact ⟨rfl, rfl⟩
        have hn : upper x a1.toNat ≠ 0 → r1 = (Lib.ctz 64 (upper x a1.toNat) : Nat) ∧ r2 = true := fun e => by
          rw [if_neg e] at h2
          obtain ⟨rfl, rfl⟩ := Prod.mk.inj h2
          exact ⟨rfl, rfl⟩
        by_cases h4 : a1 < 0
        · have e0 : a1.toNat = 0 := by omega
          rw [e0] at hz hn
          exact (callsIn_wide.1 (next_neg x (upper x 0) a1 r1 r2 w hG hG.pos h4 (upper_bits x 0 hx) (upper_lt x 0 hx) hz hn)).mono (fun e w' hh => hh)
        · obtain ⟨a, rfl⟩ := Int.eq_ofNat_of_zero_le (by omega : 0 ≤ a1)
          rw [Int.toNat_natCast] at hz hn
          exact (callsIn_wide.1 (next_pos x (upper x a) a r1 r2 w hG hG.pos (by omega) (upper_bits x a hx) (upper_lt x a hx) hz hn)).mono (fun e w' hh => hh)
    · rw [if_neg h1] at h; cases h
  · rw [if_neg h0] at h; cases h
end Go.Proofs.YthmedgennlcigaaDoor.Given
