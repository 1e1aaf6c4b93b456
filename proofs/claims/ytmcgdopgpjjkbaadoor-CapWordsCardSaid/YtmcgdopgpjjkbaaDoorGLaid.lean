/- From the listed table of internal/strconv to the walks' fact; and a world in which the listed tables lie so. -/
import Derived.Test.YtmcgdopgpjjkbaaDoorRows
import Derived.Test.YtmcgdopgpjjkbaaDoorGItoa
import Derived.ProofKit
import Derived.LaidLaws
import Derived.ChangeSame
import Derived.ChangeVars
namespace Go.Proofs.YtmcgdopgpjjkbaaDoor.Given
open Go Go.RowKit Go.Proofs Go.Shelf

theorem pow_eq {H : Type} : (Rows.laid_internal_strconv_uint64pow10 : DataW H) = Lib.tabData .u64 Lib.pow10Tab := rfl
theorem GL_of_laid {W : World} (h : laidMet Tryd.prog Rows.capWordsRow.laid W) : GL W := by
  obtain ⟨ps, h0, _⟩ := h
  obtain ⟨_, _, _, _, _, _, _, _, _, _, h1, _⟩ := h0
  obtain ⟨_, _, _, _, _, _, _, _, _, _, h2, _⟩ := h1
  obtain ⟨g, t, cs, fuel, p, q, hg, ht, hvar, hd, _, _⟩ := h2
  have e0 : some g = some 0 := hg.symm.trans (by kernel_rfl)
  obtain rfl := Option.some.inj e0
  have e1 : some t = some 77 := ht.symm.trans (by kernel_rfl)
  obtain rfl := Option.some.inj e1
  have hd' : DataW.trod _ Tryd.prog W _ _ _ fuel 77 cs.toList = some (Lib.tabData .u64 Lib.pow10Tab, p) := hd
  have hc := Lib.cells_of_tab Tryd.underlying77 Tryd.underlying24 (by kernel_rfl) (by kernel_rfl) hd'
  unfold GL Lib.TabIs
  rw [hvar, ← hc]

def cells8 (l : List Int) : Array Value := (l.map fun x => Value.int .u8 x).toArray
def tab32 : List Int := [0, 1, 28, 2, 29, 14, 24, 3, 30, 22, 20, 15, 25, 17, 4, 8, 31, 27, 13, 23, 21, 19, 16, 7, 26, 12, 18, 6, 11, 5, 10, 9]
def tab64 : List Int := [0, 1, 56, 2, 57, 49, 28, 3, 61, 58, 42, 50, 38, 29, 17, 4, 62, 47, 59, 36, 45, 43, 51, 22, 53, 39, 33, 30, 24, 18, 12, 5, 63, 55, 48, 27, 60, 41, 37, 16, 46, 35, 44, 21, 52, 32, 23, 11, 54, 26, 40, 15, 34, 20, 31, 10, 25, 14, 19, 9, 13, 8, 7, 6]
noncomputable def laidWorld (os : Os) : World :=
  let w0 := World.holding Tryd.prog os ⟨#[], #[], []⟩
  { w0 with heap := ((w0.heap.modify 0 fun
      | .cells _ t frozen => .cells (Lib.pow10Tab.map fun x => Value.int .u64 x).toArray t frozen
      | o => o).modify 1 fun
      | .cells _ t frozen => .cells (cells8 tab32) t frozen
      | o => o).modify 2 fun
      | .cells _ t frozen => .cells (cells8 tab64) t frozen
      | o => o }
set_option maxRecDepth 1000000 in
theorem laidWorld_met (os : Os) (args : Array Value) : laidMet Tryd.prog Rows.capWordsRow.laid ((laidWorld os).forCall (fun _ _ => 0) ⟨#[], args, []⟩).memory :=
  laidMet_of_run' 8 (by kernel_rfl) (by kernel_rfl)
end Go.Proofs.YtmcgdopgpjjkbaaDoor.Given
