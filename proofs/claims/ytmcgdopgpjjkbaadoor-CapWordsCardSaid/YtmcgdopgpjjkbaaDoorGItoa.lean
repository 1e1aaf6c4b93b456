/- strconv.Itoa at this program: what the call answers, under the library's table of powers. -/
import Derived.Test.YtmcgdopgpjjkbaaDoorShelf
import Derived.Test.YtmcgdopgpjjkbaaDoorWWords
import Derived.Lib.LaidTab
import Derived.Lib.AppendIntMem
import Derived.Lib.ItoaMem
import Derived.Lib.ItoaLen
namespace Go.Proofs.YtmcgdopgpjjkbaaDoor.Given
open Go Go.RowKit Go.Proofs Go.Proofs.YtmcgdopgpjjkbaaDoorW.PrintWords Go.Lib Go.Sort

/-- The table lies in its variable. -/
def GL (w : World) : Prop := Lib.TabIs Tryd.prog w "internal/strconv.uint64pow10" .u64 Lib.pow10Tab
theorem GL.below {w w' : World} (h : GL w) (hb : Below w.heap.size w w') : GL w' := ((Lib.tabBelow_of_tabIs h).on hb).here
theorem below_grow (w : World) (k : Nat) (os : Array Obj) : Below w.heap.size w (grow (w.drewN k) os) :=
  ⟨rfl, rfl, rfl, by simp [grow, World.drewN], fun i hi => by simp [grow, World.drewN, Array.getElem?_append_left hi]⟩
/-- A number as text. -/
def itoS (n : Int) : ByteArray := ⟨(Lib.itoa n).toArray⟩
def strconv_Itoa.f (n : Int) : Option ByteArray := if -9223372036854775808 ≤ n ∧ n ≤ 9223372036854775807 then some (itoS n) else none
theorem strconv_Itoa.calls (n : Int) (r : ByteArray) (w : World) (hG : GL w) (h : strconv_Itoa.f n = some r) : Calls Tryd.prog 36 #[.int .i64 n] w fun e w' => e = .returned (.string r) ∧ Below w.heap.size w w' := by
  unfold strconv_Itoa.f at h
  by_cases hn : -9223372036854775808 ≤ n ∧ n ≤ 9223372036854775807
  · rw [if_pos hn] at h
    obtain rfl := Option.some.inj h
    refine Calls.mono (Any.strconv_Itoa Tryd.itoaM n hn.1 hn.2 w hG) ?_
    rintro e w' ⟨rfl, k, os, rfl⟩
    exact ⟨rfl, below_grow w k os⟩
  · rw [if_neg hn] at h
    cases h
end Go.Proofs.YtmcgdopgpjjkbaaDoor.Given
