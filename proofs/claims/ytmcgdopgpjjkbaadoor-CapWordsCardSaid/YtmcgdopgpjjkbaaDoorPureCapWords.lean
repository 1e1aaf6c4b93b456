/- CapWords: words, there and back, the checks and the texts are the reference's. -/
import Derived.Test.YtmcgdopgpjjkbaaDoorCap5
import Derived.Test.YtmcgdopgpjjkbaaDoorCap6
import Derived.Test.YtmcgdopgpjjkbaaDoorPx8
namespace Go.Proofs.YtmcgdopgpjjkbaaDoor.Pure
open Go.RowKit Go.Proofs.YtmcgdopgpjjkbaaDoor.P Go.Proofs.YtmcgdopgpjjkbaaDoor.Plain Go.Proofs.YtmcgdopgpjjkbaaDoor.Given

theorem CapWords : garrisonlaw03_CapWords.Pure := by
  intro t r b o g a ht ha
  obtain ⟨L, rfl, hL⟩ := wf_u64 ha
  refine ⟨300, ?_⟩
  unfold garrisonlaw03_CapWords.f
  rw [Parse_f L hL, refParse_eq L hL (by omega), check_ok, refIs_eq, refText_eq]
  by_cases h : capOk t r b o g = true
  · rw [Word_yes h, refWord_yes h (by omega)]
    simp [num_f, live_f, Text_f, h]
  · rw [Word_no h, refWord_no h]
    simp [num_f, live_f, Text_f, h]
end Go.Proofs.YtmcgdopgpjjkbaaDoor.Pure
