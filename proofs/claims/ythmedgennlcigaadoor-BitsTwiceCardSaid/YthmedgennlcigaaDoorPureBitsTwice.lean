/- BitsTwice is true at every word, every field, all values: no condition. -/
import Derived.Test.YthmedgennlcigaaDoorBits4
import Derived.Test.YthmedgennlcigaaDoorPx3
namespace Go.Proofs.YthmedgennlcigaaDoor.Pure
open Go Go.RowKit Go.Proofs.YthmedgennlcigaaDoorW.PrintWords Go.Proofs.YthmedgennlcigaaDoorW.PrintLast Go.Proofs.YthmedgennlcigaaDoorW.PrintMore Go.Proofs.YthmedgennlcigaaDoor.P Go.Proofs.YthmedgennlcigaaDoor.Given Go.Proofs.YthmedgennlcigaaDoor.Plain

theorem put_twice (w a n v u : Nat) (hw : w < 18446744073709551616) (hv : v < 2 ^ n) (hu : u < 2 ^ n) (h : a + n ≤ 64) : putN (putN w a n v) a n u = putN w a n u := by
  have h1 := putN_lt w a n v hw hv h
  apply ext64 (putN_lt _ a n u h1 hu h) (putN_lt _ a n u hw hu h)
  intro i hi
  rw [putN_bit _ _ _ _ _ h1 hu h, putN_bit _ _ _ _ _ hw hv h, putN_bit _ _ _ _ _ hw hu h]
  by_cases e1 : a ≤ i ∧ i < a + n
  · rw [if_pos e1, if_pos e1]
  · rw [if_neg e1, if_neg e1, if_neg e1]
theorem put_all (w v : Nat) (hw : w < 18446744073709551616) (hv : v < 18446744073709551616) : putN w 0 64 v = v := by
  apply ext64 (putN_lt w 0 64 v hw hv (by decide)) hv
  intro i hi
  rw [putN_bit _ _ _ _ _ hw hv (by decide), if_pos (by omega), Nat.sub_zero]
theorem get_all (w : Nat) (hw : w < 18446744073709551616) : getN w 0 64 = w := by
  unfold getN
  rw [Nat.pow_zero, Nat.div_one]
  exact Nat.mod_eq_of_lt hw

theorem BitsTwice : garrisonlaw01_BitsTwice.Pure := by
  intro w a n v u hW _ _ hV hU
  obtain ⟨w, rfl, hw⟩ := wf_u64 hW
  obtain ⟨v, rfl, hv⟩ := wf_u64 hV
  obtain ⟨u, rfl, hu⟩ := wf_u64 hU
  refine ⟨140, ?_⟩
  unfold garrisonlaw01_BitsTwice.f
  have L : garrisonlaw01_live.f 139 = some true := live_ok (by decide)
  have p64 : bits_Put.f (w : Int) 0 64 (v : Int) = some ((v : Int), 0) := by
    have := Put_yes (w := w) (a := 0) (n := 64) (v := v) hw (by decide) (by decide) hv
    rw [put_all w v hw hv] at this
    exact this
  have g64 : bits_Get.f (w : Int) 0 64 = some (w : Int) := by
    have := Get_yes (w := w) (a := 0) (n := 64) hw (by decide) (by decide)
    rw [get_all w hw] at this
    exact this
  rw [p64, g64]
  by_cases h : fieldP a n
  · obtain ⟨a, n, rfl, rfl, h1, h2⟩ := fieldP_nat h
    rcases Nat.lt_or_ge v (2 ^ n) with h3 | h3
    · have p1 := putN_lt w a n v hw h3 h2
      rw [Put_yes hw h1 h2 h3]
      rcases Nat.lt_or_ge u (2 ^ n) with g3 | g3
      · rw [Put_yes hw h1 h2 g3]
        simp only [Option.bind_some]
        rw [Put_yes p1 h1 h2 g3, put_twice w a n v u hw h3 g3 h2]
        simp [num_eq, garrisonlaw01_BitsTwice.j0, L]
      · rw [Put_big hu h1 h2 g3]
        simp only [Option.bind_some]
        rw [Put_big hu h1 h2 g3]
        simp [num_eq, garrisonlaw01_BitsTwice.j0, L]
    · rw [Put_big hv h1 h2 h3]
      rcases Nat.lt_or_ge u (2 ^ n) with g3 | g3
      · rw [Put_yes hw h1 h2 g3]
        simp only [Option.bind_some]
        rw [show (0 : Int) = ((0 : Nat) : Int) from rfl, Put_yes (by decide) h1 h2 g3]
        simp [num_eq, garrisonlaw01_BitsTwice.j0, L]
      · rw [Put_big hu h1 h2 g3]
        simp only [Option.bind_some]
        rw [Put_big hu h1 h2 g3]
        simp [num_eq, garrisonlaw01_BitsTwice.j0, L]
  · rw [Put_no h, Put_no h]
    simp only [Option.bind_some]
    rw [Put_no h]
    simp [num_eq, garrisonlaw01_BitsTwice.j0, L]
end Go.Proofs.YthmedgennlcigaaDoor.Pure
