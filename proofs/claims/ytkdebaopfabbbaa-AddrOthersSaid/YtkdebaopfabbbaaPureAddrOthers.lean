/- AddrOthers is true of all inputs: no condition. -/
import Derived.Test.YtkdebaopfabbbaaAddr4
import Derived.Test.YtkdebaopfabbbaaPx7
import Derived.Test.YtkdebaopfabbbaaPx14
import Derived.Test.YtkdebaopfabbbaaPx15
namespace Go.Proofs.Ytkdebaopfabbbaa.Pure
open Go Go.RowKit Go.Proofs.YtkdebaopfabbbaaW.PrintWords Go.Proofs.YtkdebaopfabbbaaW.PrintLast Go.Proofs.YtkdebaopfabbbaaW.PrintMore Go.Proofs.Ytkdebaopfabbbaa.P Go.Proofs.Ytkdebaopfabbbaa.Given Go.Proofs.Ytkdebaopfabbbaa.Plain

theorem rdR (l : List Ref) (i : Nat) (h : i < l.length) : rd_T45 l (i : Int) = l[i] := by
  unfold rd_T45
  rw [Int.toNat_natCast, List.getD_eq_getElem?_getD, List.getElem?_eq_getElem h]
  rfl
/-- A row is the same as itself. -/
theorem Same_self (p : List Ref) (h : p.length ≤ 1000) (d : Nat) : ∀ k i, i + d = p.length → d < k → garrisonref06_Same.l0 k p p (i : Int) = some true := by
  induction d with
  | zero =>
    intro k i hd hk
    obtain ⟨k, rfl⟩ : ∃ m, k = m + 1 := ⟨k - 1, by omega⟩
    simp only [garrisonref06_Same.l0]
    rw [if_neg (by omega)]
  | succ d ih =>
    intro k i hd hk
    obtain ⟨k, rfl⟩ : ∃ m, k = m + 1 := ⟨k - 1, by omega⟩
    simp only [garrisonref06_Same.l0]
    rw [if_pos (by omega), if_pos (by omega), if_pos (by omega), if_neg (by simp), wc (i + 1) _ (by omega) (by omega)]
    exact ih _ _ (by omega) (by omega)
/-- What Has denies is not among them. -/
theorem Has_loop (p : List Ref) (h : p.length ≤ 1000) (a b : Int) (d : Nat) : ∀ k i, i + d = p.length → d < k → ∃ t, garrisonref06_Has.l0 k p (i : Int) a b = some t ∧ (t = false → ∀ j, i ≤ j → p[j]? ≠ some ⟨a, b⟩) := by
  induction d with
  | zero =>
    intro k i hd hk
    obtain ⟨k, rfl⟩ : ∃ m, k = m + 1 := ⟨k - 1, by omega⟩
    simp only [garrisonref06_Has.l0]
    rw [if_neg (by omega)]
    exact ⟨_, rfl, fun _ j hj => by rw [List.getElem?_eq_none (by omega)]; exact fun h => by cases h⟩
  | succ d ih =>
    intro k i hd hk
    obtain ⟨k, rfl⟩ : ∃ m, k = m + 1 := ⟨k - 1, by omega⟩
    simp only [garrisonref06_Has.l0]
    rw [if_pos (by omega), if_pos (by omega), rdR p i (by omega)]
    by_cases hc : (p[i].f0 == a && p[i].f1 == b) = true
    · rw [if_pos hc]
      exact ⟨_, rfl, fun h => by cases h⟩
    · rw [if_neg hc, wc (i + 1) _ (by omega) (by omega)]
      obtain ⟨t, ht, hn⟩ := ih k (i + 1) (by omega) (by omega)
      refine ⟨t, ht, fun h0 j hj => ?_⟩
      by_cases hji : j = i
      · subst hji
        rw [List.getElem?_eq_getElem (by omega)]
        intro h2
        injection h2 with h2
        exact hc (by rw [h2]; simp)
      · exact hn h0 j (by omega)
/-! ### the copy -/
theorem rdL (t : List (List Cap)) (i : Nat) (h : i < t.length) : rd_L5 t (i : Int) = t[i] := by
  unfold rd_L5
  rw [Int.toNat_natCast, List.getD_eq_getElem?_getD, List.getElem?_eq_getElem h]
  rfl
theorem copy_loop (t : List (List Cap)) (l : List Step) (p : List Ref) (h40 : t.length ≤ 40) (h20 : ∀ j, j < t.length → (rd_L5 t (j : Int)).length ≤ 20) (a b c d e f g c0 c1 c2 c3 c4 u v : Int) (m : Nat) : ∀ k i, i + m = t.length →
    garrisonlaw12_AddrOthers.l0 (k + m) t l p (t.take i) (i : Int) a b c d e f g c0 c1 c2 c3 c4 u v = garrisonlaw12_AddrOthers.l0 k t l p t (t.length : Int) a b c d e f g c0 c1 c2 c3 c4 u v := by
  induction m with
  | zero =>
    intro k i hi
    rw [show i = t.length from by omega, List.take_length]
    rfl
  | succ m ih =>
    intro k i hi
    rw [show k + (m + 1) = (k + m) + 1 from rfl]
    have h1 := h20 i (by omega)
    rw [← ih k (i + 1) (by omega), garrisonlaw12_AddrOthers.l0, if_pos (by omega), bind_of rfl, if_pos (by omega), if_pos (by simp only [List.length_nil]; omega), if_pos (by rw [List.length_take]; omega), wc (i + 1) _ (by omega) (by omega), List.nil_append, rdL t i (by omega), List.take_succ_eq_append_getElem (by omega)]
/-- What a slot that is there tells. -/
theorem Get_true {t : List (List Cap)} {n p : Int} {g : Int × Int × Int × Int × Int × Bool} (h : addr_Get.f t n p = some g) (hg : g.2.2.2.2.2 = true) : 0 ≤ n ∧ n < t.length ∧ 0 ≤ p ∧ p < 8 ∧ (rd_L5 t n).length = 8 := by
  unfold addr_Get.f at h
  by_cases h0 : n < 0
  · rw [if_pos h0] at h; injection h with h; subst h; cases hg
  · rw [if_neg h0] at h
    by_cases h1 : n ≥ (t.length : Int)
    · rw [if_pos h1] at h; injection h with h; subst h; cases hg
    · rw [if_neg h1, if_pos (by omega), if_pos (by omega)] at h
      by_cases h8 : ((rd_L5 t n).length : Int) = 8
      · rw [if_pos h8] at h
        unfold addr_isPart.f at h
        by_cases hp : 0 ≤ p
        · rw [if_pos hp, bind_of rfl] at h
          by_cases hq : p < 8
          · exact ⟨by omega, by omega, hp, hq, by omega⟩
          · rw [if_neg (by simp [hq])] at h; injection h with h; subst h; cases hg
        · rw [if_neg hp, bind_of rfl, if_neg (by decide)] at h; injection h with h; subst h; cases hg
      · rw [if_neg h8] at h; injection h with h; subst h; cases hg
theorem num_eqO (n : Int) : garrisonlaw12_num.f n = some n := rfl
theorem j0_trueO (k : Nat) (t : List (List Cap)) (l : List Step) (p : List Ref) (a b c d e f g c0 c1 c2 c3 c4 u v : Int) : garrisonlaw12_AddrOthers.j0 (k + 1) t l p true a b c d e f g c0 c1 c2 c3 c4 u v = some true := by
  simp only [garrisonlaw12_AddrOthers.j0]
  rw [if_pos trivial]
  rfl
theorem Find_ok {t : List (List Cap)} {l : List Step} {k : Nat} {a b c d e : Int} {r : Int × Int × (List Ref) × Int} (hf : addr_Find.f k t a b c d e l = some r) (hr : r.2.2.2 = 0) : okA l ∧ addr_Find.l0 k t [] l (l.length : Int) ((0 : Nat) : Int) 0 0 a b c d e = some r := by
  unfold addr_Find.f at hf
  rw [bind_of (Check_eq _)] at hf
  by_cases h : okA l
  · rw [if_pos h, if_pos rfl] at hf
    exact ⟨h, hf⟩
  · rw [if_neg h, if_neg (by decide)] at hf
    injection hf with hf; subst hf; exact absurd hr (by decide)
theorem others_end (t : List (List Cap)) (l : List Step) (K : Nat) (a b c d e n p c0 c1 c2 c3 c4 : Int) {r : Int × Int × (List Ref) × Int} {g : Int × Int × Int × Int × Int × Bool}
    (hf : ∀ k, 20 ≤ k → addr_Find.f k t a b c d e l = some r) (hr : r.2.2.2 = 0) (hg : addr_Get.f t n p = some g) (hg1 : g.2.2.2.2.2 = true) (hK : 1000 ≤ K)
    (hz : ∀ j : Nat, j + 1 < r.2.2.1.length → r.2.2.1[j]? ≠ some ⟨n, p⟩) :
    garrisonlaw12_AddrOthers.l0 (K + 1) t l r.2.2.1 t (t.length : Int) a b c d e n p c0 c1 c2 c3 c4 r.1 r.2.1 = some true := by
  obtain ⟨h0, h1, h2, h3, h8⟩ := Get_true hg hg1
  obtain ⟨hok, hfl⟩ := Find_ok (hf K (by omega)) hr
  obtain ⟨s, hs, hsl⟩ := Find_way hok.2.1 l.length K 0 [] 0 0 a b c d e r (by omega) hfl hr
  obtain ⟨n, rfl⟩ := Int.eq_ofNat_of_zero_le h0
  obtain ⟨p, rfl⟩ := Int.eq_ofNat_of_zero_le h2
  have hfu : addr_Find.f K (t.set n ((rd_L5 t (n : Int)).set p ⟨c0, c1, c2, c3, c4⟩)) a b c d e l = some r := by
    unfold addr_Find.f
    rw [bind_of (Check_eq _), if_pos hok, if_pos rfl]
    exact Find_set hok.2.1 ⟨(n : Int), (p : Int)⟩ (fun n' p' hne => Get_set n' p' (fun h => hne (by rw [h.1, h.2]))) (fun n' p' r' h hr' => Get_set_ok n' p' r' h hr') l.length K 0 [] 0 0 a b c d e r (by omega) hfl hr (fun j _ hj => hz j hj)
  have hlen : r.2.2.1.length ≤ 1000 := by
    have := hok.2.1
    rw [hs, List.nil_append, hsl]
    omega
  have hsame : garrisonref06_Same.f K r.2.2.1 r.2.2.1 = some true := by
    unfold garrisonref06_Same.f
    rw [if_pos rfl]
    exact Same_self r.2.2.1 hlen r.2.2.1.length K 0 (by omega) (by have := hok.2.1; rw [hs, List.nil_append, hsl]; omega)
  simp only [garrisonlaw12_AddrOthers.l0]
  rw [if_neg (by omega), if_pos (by omega), if_pos (by omega), if_pos (by omega), if_pos (by omega), Int.toNat_natCast, Int.toNat_natCast, bind_of hfu, bind_of (num_eqO _), if_pos hr, if_pos (by rw [beq_self_eq_true, beq_self_eq_true]; rfl), bind_of hsame, if_pos rfl]
  rfl
theorem AddrOthers : garrisonlaw12_AddrOthers.Pure := by
  intro t a b c d e l n p c0 c1 c2 c3 c4 _ _ _ _ _ _ _
  refine ⟨2000, ?_⟩
  unfold garrisonlaw12_AddrOthers.f
  obtain ⟨s, hs⟩ := small_total t l (k := 2000) (by decide)
  rw [bind_of hs]
  cases s with
  | false => rfl
  | true =>
    obtain ⟨h40, h20⟩ := small_len t l 41 2000 0 (by omega) hs
    obtain ⟨r, hr, hc⟩ := Find_total t a b c d e l (k := 20) (by decide)
    have hf : ∀ k, 20 ≤ k → addr_Find.f k t a b c d e l = some r := fun k hk => at_rounds (g := fun k => addr_Find.f k t a b c d e l) (addr_Find.mono _ _ _ _ _ _ _) hk hr
    obtain ⟨g, hg⟩ := Get_total t n p
    rw [if_pos rfl, bind_of (hf 2000 (by decide)), bind_of hg, bind_of (num_eqO _)]
    by_cases hz : r.2.2.2 = 0
    · rw [if_pos hz]
      by_cases hg1 : g.2.2.2.2.2 = true
      · rw [if_pos hg1]
        by_cases hl1 : (r.2.2.1.length : Int) < 1
        · rw [if_pos hl1]
          exact j0_trueO _ ..
        · obtain ⟨hok, hfl⟩ := Find_ok (hf 2000 (by decide)) hz
          obtain ⟨s, hs2, hsl⟩ := Find_way hok.2.1 l.length 2000 0 [] 0 0 a b c d e r (by omega) hfl hz
          have hle : r.2.2.1.length ≤ 4 := by rw [hs2, List.nil_append, hsl]; exact hok.2.1
          have hw : wrap64 ((r.2.2.1.length : Int) - 1) = ((r.2.2.1.length - 1 : Nat) : Int) := wc (r.2.2.1.length - 1) _ (by omega) (by omega)
          rw [if_neg hl1, hw, if_pos (by omega), if_pos (by omega), Int.toNat_natCast]
          obtain ⟨q, hq, hqn⟩ := Has_loop (r.2.2.1.take (r.2.2.1.length - 1)) (by rw [List.length_take]; omega) n p (r.2.2.1.take (r.2.2.1.length - 1)).length 2000 0 (by omega) (by rw [List.length_take]; omega)
          have hq2 : garrisonref06_Has.f 2000 (r.2.2.1.take (r.2.2.1.length - 1)) n p = some q := hq
          rw [bind_of hq2]
          cases q with
          | true => exact j0_trueO _ ..
          | false =>
            rw [show (2000 : Nat) = 1999 + 1 from rfl]
            simp only [garrisonlaw12_AddrOthers.j0]
            rw [if_neg (by decide)]
            have hcp := copy_loop t l r.2.2.1 h40 (fun j hj => h20 j (Nat.zero_le _) hj) a b c d e n p c0 c1 c2 c3 c4 r.1 r.2.1 t.length (1999 - t.length) 0 (by omega)
            rw [show 1999 - t.length + t.length = 1999 by omega] at hcp
            refine hcp.trans ?_
            rw [show 1999 - t.length = (1998 - t.length) + 1 by omega]
            refine others_end t l (1998 - t.length) a b c d e n p c0 c1 c2 c3 c4 hf hz hg hg1 (by omega) (fun j hj => ?_)
            have := hqn rfl j (Nat.zero_le _)
            rw [List.getElem?_take_of_lt (by omega)] at this
            exact this
      · rw [if_neg hg1]
        exact j0_trueO _ ..
    · rw [if_neg hz]
      exact j0_trueO _ ..
end Go.Proofs.Ytkdebaopfabbbaa.Pure
