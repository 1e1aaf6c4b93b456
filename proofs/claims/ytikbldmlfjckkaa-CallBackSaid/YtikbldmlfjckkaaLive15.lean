/- garrisonlaw15.live tells true. -/
import Derived.Test.YtikbldmlfjckkaaPx6
import Derived.Test.YtikbldmlfjckkaaGParse
namespace Go.Proofs.Ytikbldmlfjckkaa.Given
open Go Go.RowKit Go.Proofs Go.Proofs.YtikbldmlfjckkaaW.PrintWords Go.Proofs.YtikbldmlfjckkaaW.PrintLast Go.Proofs.YtikbldmlfjckkaaW.PrintMore Go.Proofs.Ytikbldmlfjckkaa.P Go.Proofs.Ytikbldmlfjckkaa.Plain

theorem live15_ok : garrisonlaw15_live.f 60 = some true := by decide +kernel
theorem live15_mono {k : Nat} (h : 60 ≤ k) : garrisonlaw15_live.f k = some true := by
  obtain ⟨d, rfl⟩ : ∃ d, k = 60 + d := ⟨k - 60, by omega⟩
  clear h
  induction d with
  | zero => exact live15_ok
  | succ d ih => exact garrisonlaw15_live.mono (60 + d) true ih
theorem live15_calls (w : World) : Calls Try.prog 8 #[] w fun e w' => e = .returned (.bool true) ∧ Below w.heap.size w w' := garrisonlaw15_live.calls 60 true w live15_ok
end Go.Proofs.Ytikbldmlfjckkaa.Given
