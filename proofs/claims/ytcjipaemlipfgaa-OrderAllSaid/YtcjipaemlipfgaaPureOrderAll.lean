/- OrderAll: what is sorted rises, has all that was given, and no others, whatever their order. -/
import Derived.Test.YtcjipaemlipfgaaOrd2
import Derived.Test.YtcjipaemlipfgaaPx10
namespace Go.Proofs.Ytcjipaemlipfgaa.Pure
open Go.RowKit Go.Proofs.Ytcjipaemlipfgaa.P Go.Proofs.Ytcjipaemlipfgaa.Ord Go.Proofs.Ytcjipaemlipfgaa.Given

theorem all_l1 (m p : List S23) (hm : m.length ≤ 100) (hp : p.length ≤ 100) (hs : ∀ x, x ∈ p → x ∈ m) (d : Nat) : ∀ (k i : Nat), i ≤ p.length → p.length - i = d → d + 200 < k → garrisonlaw06_OrderAll.l1 k m p (i : Int) = some true := by
  induction d with
  | zero =>
    intro k i h1 h2 h3
    obtain ⟨k, rfl⟩ : ∃ q, k = q + 1 := ⟨k - 1, by omega⟩
    simp only [garrisonlaw06_OrderAll.l1]
    rw [if_neg (by omega)]
    rfl
  | succ d ih =>
    intro k i h1 h2 h3
    obtain ⟨k, rfl⟩ : ∃ q, k = q + 1 := ⟨k - 1, by omega⟩
    have hi : i < p.length := by omega
    have hw : wrap64 ((i : Int) + 1) = ((i + 1 : Nat) : Int) := by unfold wrap64; omega
    simp only [garrisonlaw06_OrderAll.l1]
    rw [if_pos (by omega), if_pos (by omega), rd_get p i hi, rhas_f m _ _ (by omega) k (by omega), any_mem.2 (hs _ (List.getElem_mem hi)), hw]
    simp only [Option.bind_some, if_true]
    exact ih k (i + 1) (by omega) (by omega) (by omega)
theorem all_l0 (m p : List S23) (hm : m.length ≤ 100) (hp : p.length ≤ 100) (hs : ∀ x, x ∈ p ↔ x ∈ m) (d : Nat) : ∀ (k i : Nat), i ≤ m.length → m.length - i = d → d + 400 < k → garrisonlaw06_OrderAll.l0 k m p (i : Int) = some true := by
  induction d with
  | zero =>
    intro k i h1 h2 h3
    obtain ⟨k, rfl⟩ : ∃ q, k = q + 1 := ⟨k - 1, by omega⟩
    simp only [garrisonlaw06_OrderAll.l0]
    rw [if_neg (by omega)]
    exact all_l1 m p hm hp (fun x => (hs x).1) p.length k 0 (Nat.zero_le _) rfl (by omega)
  | succ d ih =>
    intro k i h1 h2 h3
    obtain ⟨k, rfl⟩ : ∃ q, k = q + 1 := ⟨k - 1, by omega⟩
    have hi : i < m.length := by omega
    have hw : wrap64 ((i : Int) + 1) = ((i + 1 : Nat) : Int) := by unfold wrap64; omega
    simp only [garrisonlaw06_OrderAll.l0]
    rw [if_pos (by omega), if_pos (by omega), rd_get m i hi, ohas_f p _ _ (by omega) k (by omega), any_mem.2 ((hs _).2 (List.getElem_mem hi)), hw]
    simp only [Option.bind_some, if_true]
    exact ih k (i + 1) (by omega) (by omega) (by omega)
theorem OrderAll : garrisonlaw06_OrderAll.Pure := by
  intro l c hl0 _ hc
  refine ⟨1000, ?_⟩
  have ht : garrisonlaw06_OrderAll.j0 1000 l c true = some true := by simp only [garrisonlaw06_OrderAll.j0, live_f, Option.bind_some, if_true]
  unfold garrisonlaw06_OrderAll.f
  by_cases hl : (l.length : Int) > 100
  · rw [if_pos hl]
    exact ht
  · rw [if_neg hl]
    by_cases h0 : c < 0
    · rw [if_pos h0]
      exact ht
    · rw [if_neg h0]
      by_cases h1 : c > (l.length : Int)
      · rw [decide_eq_true h1]
        exact ht
      · rw [decide_eq_false h1]
        obtain ⟨n, rfl⟩ := Int.eq_ofNat_of_zero_le (show 0 ≤ c by omega)
        simp only [garrisonlaw06_OrderAll.j0]
        unfold order_Sort.f
        rw [if_neg (by decide), if_pos (show l.length ≤ 1000 by omega)]
        simp only [Option.bind_some, num_f, live_f, List.nil_append, List.length_nil, Int.toNat_natCast, List.length_append, List.length_drop, List.length_take]
        have hperm : ∀ x, x ∈ l.drop n ++ l.take n ↔ x ∈ l := fun x => by
          rw [List.mem_append, or_comm, ← List.mem_append, List.take_append_drop]
        by_cases hk : l.all okK = true
        · have hk2 : (l.drop n ++ l.take n).all okK = true := by
            rw [List.all_eq_true] at hk ⊢
            exact fun x hx => hk x ((hperm x).1 hx)
          have hsame : sortU (l.drop n ++ l.take n) = sortU l := up_unique _ _ (up_sortU _) (up_sortU _) (fun x => by rw [mem_sortU, mem_sortU, hperm])
          have hlen := length_sortU l
          rw [if_pos hk, if_pos rfl, if_pos (by omega), if_pos (by omega), if_pos (by omega), if_pos (by omega), if_pos (by omega)]
          simp only [Option.bind_some, hk2, if_true, hsame]
          rw [same_f _ _ (by omega) (by omega), orising_f _ (by omega) _ (by omega), upB_of (up_sortU l), decide_eq_false (by omega)]
          simp only [Option.bind_some, if_true, garrisonlaw06_OrderAll.j1, Bool.false_eq_true, if_false]
          exact all_l0 l (sortU l) (by omega) (by omega) (mem_sortU l) l.length 998 0 (Nat.zero_le _) rfl (by omega)
        · rw [if_neg hk, if_neg (by decide)]
          rfl
end Go.Proofs.Ytcjipaemlipfgaa.Pure
