/- OrderTells: every keys: whether they may be, which one is less, their cells; every cell's key: the code's answers are the document's. -/
import Derived.Test.YtcjipaemlipfgaaOrd2
import Derived.Test.YtcjipaemlipfgaaPx5
namespace Go.Proofs.Ytcjipaemlipfgaa.Pure
open Go.RowKit Go.Proofs.Ytcjipaemlipfgaa.P Go.Proofs.Ytcjipaemlipfgaa.Ord Go.Proofs.Ytcjipaemlipfgaa.Given

theorem OrderTells : garrisonlaw06_OrderTells.Pure := by
  intro a0 a1 b0 b1 c _ _ hc
  obtain ⟨h1, h2⟩ := wf64 hc
  refine ⟨3, ?_⟩
  unfold garrisonlaw06_OrderTells.f
  rw [okey_f c h1 h2, rkey_f c h1 h2, check_f', is_f', oless_f' 3 (by omega), rless_f', ocell_f, rcell_f]
  simp only [Option.bind_some, num_f, live_f]
  have e : (((if okK ⟨a0, a1⟩ = true then (0 : Int) else 2) == 0) == okK ⟨a0, a1⟩) = true := by
    cases okK ⟨a0, a1⟩ <;> decide
  rw [if_pos e]
  simp only [beq_self_eq_true, if_true, Bool.and_self]
end Go.Proofs.Ytcjipaemlipfgaa.Pure
