/- addr.Find in plain words: it answers; another guard, or a root without the right, leads nowhere. -/
import Derived.Test.YtkdebaopfabbbaaAddr2
import Derived.Test.YtkdebaopfabbbaaPx10
import Derived.Test.YtkdebaopfabbbaaPx12
import Derived.Test.YtkdebaopfabbbaaPx13
namespace Go.Proofs.Ytkdebaopfabbbaa.Plain
open Go Go.RowKit Go.Proofs.YtkdebaopfabbbaaW.PrintWords Go.Proofs.YtkdebaopfabbbaaW.PrintLast Go.Proofs.YtkdebaopfabbbaaW.PrintMore Go.Proofs.Ytkdebaopfabbbaa.P Go.Proofs.Ytkdebaopfabbbaa.Given

abbrev Cap := S42
abbrev Ref := S45
def rightsB (r : Int) : Bool := decide (0 ≤ r ∧ r ≤ 15)
theorem i64_andNot15 {r : Int} (h0 : -9223372036854775808 ≤ r) (h1 : r ≤ 9223372036854775807) : (Go.bits .andNot .i64 r 15 == 0) = rightsB r := by
  have hm : (~~~(BitVec.ofInt 64 15)).toNat = notN (2 ^ 4 - 1) := by decide
  have hn : (BitVec.ofInt 64 r).toNat = (r % 18446744073709551616).toNat := by simp [BitVec.toNat_ofInt]
  have e : Go.bits .andNot .i64 r 15 = IntKind.i64.wrap ((((BitVec.ofInt 64 r) &&& ~~~(BitVec.ofInt 64 15)).toNat : Nat) : Int) := rfl
  rw [e, BitVec.toNat_and, hm, hn, IntKind.wrap_i64]
  have hv : (r % 18446744073709551616).toNat < 18446744073709551616 := by omega
  have hx := high_none hv (n := 4) (by decide)
  have hl : (r % 18446744073709551616).toNat &&& notN (2 ^ 4 - 1) < 18446744073709551616 := Nat.lt_of_le_of_lt Nat.and_le_left hv
  have h16 : (r % 18446744073709551616).toNat < 2 ^ 4 ↔ (0 ≤ r ∧ r ≤ 15) := by omega
  generalize (r % 18446744073709551616).toNat &&& notN (2 ^ 4 - 1) = x at *
  unfold rightsB
  by_cases h : 0 ≤ r ∧ r ≤ 15
  · have := hx.2 (h16.2 h)
    subst this
    rw [decide_eq_true h]
    rfl
  · have h0' : x ≠ 0 := fun h2 => h (h16.1 (hx.1 h2))
    rw [decide_eq_false h]
    exact beq_eq_false_iff_ne.2 (by omega)
theorem rightsIs_eq {r : Int} (h0 : -9223372036854775808 ≤ r) (h1 : r ≤ 9223372036854775807) : rights_Is.f r = some (rightsB r) := by
  unfold rights_Is.f
  rw [i64_andNot15 h0 h1]
/-- What May answers of the first right. -/
theorem Within_total (a b : Int) : ∃ t, rights_Within.f a b = some t := by
  unfold rights_Within.f rights_Is.f
  simp only [Option.bind_some]
  split
  · split
    · exact ⟨_, rfl⟩
    · exact ⟨_, rfl⟩
  · exact ⟨_, rfl⟩
theorem isOne_total (a b c d e : Int) : ∃ t, cap_isOne.f a b c d e = some t := by
  unfold cap_isOne.f cap_Check.f
  split
  · exact ⟨_, rfl⟩
  · exact ⟨_, rfl⟩
theorem May_total (a b c d e g : Int) : ∃ t, cap_May.f a b c d e g = some t := by
  unfold cap_May.f
  obtain ⟨t, ht⟩ := isOne_total a b c d e
  rw [bind_of ht]
  split
  · obtain ⟨u, hu⟩ := Within_total g b
    rw [bind_of hu]
    exact ⟨_, rfl⟩
  · exact ⟨_, rfl⟩
theorem Within_next : ∀ n : Fin 16, rights_Within.f 1 ((n.val : Nat) : Int) = some true → rights_Within.f 1 (wrap64 (((n.val : Nat) : Int) - 1)) = some false := by decide +kernel
theorem May_next {a b c d e : Int} (h0 : -9223372036854775808 ≤ b) (h1 : b ≤ 9223372036854775807) (h : cap_May.f a b c d e 1 = some true) : cap_May.f a (wrap64 (b - 1)) c d e 1 = some false := by
  unfold cap_May.f at h ⊢
  obtain ⟨t, ht⟩ := isOne_total a b c d e
  obtain ⟨u, hu⟩ := isOne_total a (wrap64 (b - 1)) c d e
  rw [bind_of ht] at h
  rw [bind_of hu]
  cases t with
  | false => simp at h
  | true =>
    rw [if_pos rfl] at h
    obtain ⟨v, hv⟩ := Within_total 1 b
    rw [bind_of hv] at h
    have hv1 : v = true := by injection h
    subst hv1
    have hw : rights_Within.f 1 (wrap64 (b - 1)) = some false := by
      have hr : rightsB b = true := by
        unfold rights_Within.f at hv
        rw [bind_of (rightsIs_eq (by decide) (by decide)), if_pos (by decide), bind_of (rightsIs_eq h0 h1)] at hv
        by_cases hb : rightsB b = true
        · exact hb
        · rw [if_neg hb] at hv; simp at hv
      have hb := of_decide_eq_true hr
      have := Within_next ⟨b.toNat, by omega⟩
      rw [show (((⟨b.toNat, by omega⟩ : Fin 16).val : Nat) : Int) = b from by show ((b.toNat : Nat) : Int) = b; omega] at this
      exact this hv
    cases u with
    | false => rfl
    | true => rw [if_pos rfl, bind_of hw]
/-! ### small -/
theorem small_loop (t : List (List Cap)) (l : List Step) (d : Nat) : ∀ k (i : Nat), i + d = 41 → 2 * d + 2 ≤ k → ∃ b, garrisonlaw12_small.l0 k t l (i : Int) = some b := by
  have hj : ∀ k (i : Int), ∃ b, garrisonlaw12_small.j1 (k + 1) t l i false = some b := by
    intro k i
    simp only [garrisonlaw12_small.j1]
    rw [if_neg (by decide)]
    split
    · exact ⟨_, rfl⟩
    · exact ⟨_, rfl⟩
  induction d with
  | zero =>
    intro k i hi hk
    obtain ⟨k, rfl⟩ : ∃ m, k = m + 2 := ⟨k - 2, by omega⟩
    rw [show k + 2 = (k + 1) + 1 from rfl]
    simp only [garrisonlaw12_small.l0]
    rw [show decide ((i : Int) ≤ 40) = false from decide_eq_false (by omega)]
    split
    · exact hj _ _
    · exact hj _ _
  | succ d ih =>
    intro k i hi hk
    obtain ⟨k, rfl⟩ : ∃ m, k = m + 2 := ⟨k - 2, by omega⟩
    rw [show k + 2 = (k + 1) + 1 from rfl]
    simp only [garrisonlaw12_small.l0]
    split
    · rename_i hl
      rw [show decide ((i : Int) ≤ 40) = true from decide_eq_true (by omega)]
      simp only [garrisonlaw12_small.j1]
      rw [if_pos trivial, if_pos (by omega), if_pos hl]
      split
      · exact ⟨_, rfl⟩
      · rw [wc (i + 1) _ (by omega) (by omega)]
        exact ih _ _ (by omega) (by omega)
    · exact hj _ _
theorem small_total (t : List (List Cap)) (l : List Step) {k : Nat} (hk : 100 ≤ k) : ∃ b, garrisonlaw12_small.f k t l = some b := small_loop t l 41 k 0 (by omega) (by omega)
/-! ### Find answers -/
theorem Get_total (t : List (List Cap)) (n p : Int) : ∃ r, addr_Get.f t n p = some r := by
  unfold addr_Get.f
  split
  · exact ⟨_, rfl⟩
  · rename_i h0
    split
    · exact ⟨_, rfl⟩
    · rename_i h1
      rw [if_pos (by omega), if_pos (by omega)]
      split
      · rename_i h8
        unfold addr_isPart.f
        by_cases hp : p ≥ 0
        · rw [if_pos hp, bind_of rfl]
          by_cases hq : p < 8
          · rw [if_pos (decide_eq_true hq), if_pos hp, if_pos (by omega)]
            exact ⟨_, rfl⟩
          · rw [if_neg (by simp [hq])]
            exact ⟨_, rfl⟩
        · rw [if_neg hp, bind_of rfl, if_neg (by decide)]
          exact ⟨_, rfl⟩
      · exact ⟨_, rfl⟩
theorem Find_j1_true (k : Nat) (t : List (List Cap)) (q : List Ref) (l : List Step) (n i : Int) (a b c d e f g : Int) : addr_Find.j1 (k + 1) t q l n i true a b c d e f g = some (0, 0, [], 120) := by
  simp only [addr_Find.j1]
  rw [if_pos trivial]
theorem Find_loop (t : List (List Cap)) (l : List Step) (h4 : l.length ≤ 4) (m : Nat) : ∀ k (i : Nat) (q : List Ref) (u v a b c d e : Int), i + m = l.length → 2 * m + 2 ≤ k → q.length = i →
    ∃ r, addr_Find.l0 k t q l (l.length : Int) (i : Int) u v a b c d e = some r ∧ (r.2.2.2 = 0 ∨ r.2.2.2 = 120) := by
  induction m with
  | zero =>
    intro k i q u v a b c d e hi hk hq
    obtain ⟨k, rfl⟩ : ∃ m, k = m + 1 := ⟨k - 1, by omega⟩
    simp only [addr_Find.l0]
    rw [if_neg (by omega)]
    exact ⟨_, rfl, .inl rfl⟩
  | succ m ih =>
    intro k i q u v a b c d e hi hk hq
    obtain ⟨k, rfl⟩ : ∃ m, k = m + 2 := ⟨k - 2, by omega⟩
    rw [show k + 2 = (k + 1) + 1 from rfl]
    simp only [addr_Find.l0]
    rw [if_pos (by omega), if_pos (by omega), if_pos (by omega), Find_j1_true]
    have bad : ∃ r : Int × Int × (List Ref) × Int, some ((0 : Int), (0 : Int), ([] : List Ref), (120 : Int)) = some r ∧ (r.2.2.2 = 0 ∨ r.2.2.2 = 120) := ⟨_, rfl, .inr rfl⟩
    split
    · split
      · obtain ⟨x, hx⟩ := May_total a b c d e 1
        rw [bind_of hx]
        cases x with
        | false => rw [show (!false) = true from rfl, Find_j1_true]; exact bad
        | true =>
          rw [show (!true) = false from rfl]
          simp only [addr_Find.j1]
          rw [if_neg (by decide)]
          obtain ⟨g, hg⟩ := Get_total t d (rd_T53 l (i : Int)).f1
          rw [bind_of hg]
          split
          · rw [if_pos (by omega), wc (i + 1) _ (by omega) (by omega)]
            exact ih _ _ _ _ _ _ _ _ _ _ (by omega) (by omega) (by simp; omega)
          · exact bad
      · exact bad
    · exact bad
theorem Find_total (t : List (List Cap)) (a b c d e : Int) (l : List Step) {k : Nat} (hk : 20 ≤ k) : ∃ r, addr_Find.f k t a b c d e l = some r ∧ (r.2.2.2 = 0 ∨ r.2.2.2 = 120) := by
  unfold addr_Find.f
  rw [bind_of (Check_eq l)]
  by_cases h : okA l
  · rw [if_pos h, if_pos rfl]
    exact Find_loop t l h.2.1 l.length k 0 [] 0 0 a b c d e (by omega) (by have := h.2.1; omega) rfl
  · rw [if_neg h, if_neg (by decide)]
    exact ⟨_, rfl, .inr rfl⟩
/-! ### another guard -/
theorem Find_other (t : List (List Cap)) (l l' : List Step) (h4 : l.length ≤ 4) (hl : l'.length = l.length) (j : Nat) (hj : j < l.length)
    (hs : ∀ i : Nat, i < j → rd_T53 l' (i : Int) = rd_T53 l (i : Int)) (hn : (rd_T53 l' (j : Int)).f0 ≠ (rd_T53 l (j : Int)).f0) (m : Nat) :
    ∀ k (i : Nat) (q : List Ref) (u v a b c d e : Int) r, i + m = j → addr_Find.l0 k t q l (l.length : Int) (i : Int) u v a b c d e = some r → r.2.2.2 = 0 →
      addr_Find.l0 k t q l' (l.length : Int) (i : Int) u v a b c d e = some (0, 0, [], 120) := by
  induction m with
  | zero =>
    intro k i q u v a b c d e r hi hf hr
    have hij : i = j := by omega
    subst hij
    match k, hf with
    | 0, hf => simp only [addr_Find.l0] at hf; cases hf
    | 1, hf =>
      rw [show (1 : Nat) = 0 + 1 from rfl] at hf
      simp only [addr_Find.l0, addr_Find.j1] at hf
      rw [if_pos (by omega), if_pos (by omega), if_pos (by omega)] at hf
      exfalso
      split at hf
      · split at hf
        · obtain ⟨x, hx⟩ := May_total a b c d e 1
          rw [bind_of hx] at hf; cases hf
        · cases hf
      · cases hf
    | k + 2, hf =>
      rw [show k + 2 = (k + 1) + 1 from rfl] at hf ⊢
      simp only [addr_Find.l0] at hf ⊢
      rw [if_pos (by omega), if_pos (by omega), if_pos (by omega), Find_j1_true] at hf
      rw [if_pos (by omega), if_pos (by omega), if_pos (by omega), Find_j1_true]
      by_cases ha : a = 2
      · rw [if_pos ha] at hf ⊢
        by_cases hc : c = (rd_T53 l (i : Int)).f0
        · rw [if_neg (fun h2 => hn (by rw [← h2, ← hc]))]
        · rw [if_neg hc] at hf
          injection hf with hf; subst hf; exact absurd hr (by decide)
      · rw [if_neg ha] at hf
        injection hf with hf; subst hf; exact absurd hr (by decide)
  | succ m ih =>
    intro k i q u v a b c d e r hi hf hr
    have hij := hs i (by omega)
    match k, hf with
    | 0, hf => simp only [addr_Find.l0] at hf; cases hf
    | 1, hf =>
      rw [show (1 : Nat) = 0 + 1 from rfl] at hf
      simp only [addr_Find.l0, addr_Find.j1] at hf
      rw [if_pos (by omega), if_pos (by omega), if_pos (by omega)] at hf
      exfalso
      split at hf
      · split at hf
        · obtain ⟨x, hx⟩ := May_total a b c d e 1
          rw [bind_of hx] at hf; cases hf
        · cases hf
      · cases hf
    | k + 2, hf =>
      rw [show k + 2 = (k + 1) + 1 from rfl] at hf ⊢
      simp only [addr_Find.l0] at hf ⊢
      rw [if_pos (by omega), if_pos (by omega), if_pos (by omega), Find_j1_true] at hf
      rw [if_pos (by omega), if_pos (by omega), if_pos (by omega), Find_j1_true, hij]
      by_cases ha : a = 2
      · rw [if_pos ha] at hf ⊢
        by_cases hc : c = (rd_T53 l (i : Int)).f0
        · rw [if_pos hc] at hf ⊢
          obtain ⟨x, hx⟩ := May_total a b c d e 1
          rw [bind_of hx] at hf ⊢
          cases x with
          | false =>
            rw [show (!false) = true from rfl, Find_j1_true] at hf
            injection hf with hf; subst hf; exact absurd hr (by decide)
          | true =>
            rw [show (!true) = false from rfl] at hf ⊢
            simp only [addr_Find.j1] at hf ⊢
            rw [if_neg (by decide)] at hf ⊢
            obtain ⟨g, hg⟩ := Get_total t d (rd_T53 l (i : Int)).f1
            rw [bind_of hg] at hf ⊢
            by_cases hg1 : g.2.2.2.2.2 = true
            · rw [if_pos hg1] at hf ⊢
              by_cases hq : q.length < 8796093022208
              · rw [if_pos hq] at hf ⊢
                rw [wc (i + 1) _ (by omega) (by omega)] at hf ⊢
                exact ih _ _ _ _ _ _ _ _ _ _ _ (by omega) hf hr
              · rw [if_neg hq] at hf; cases hf
            · rw [if_neg hg1] at hf
              injection hf with hf; subst hf; exact absurd hr (by decide)
        · rw [if_neg hc] at hf
          injection hf with hf; subst hf; exact absurd hr (by decide)
      · rw [if_neg ha] at hf
        injection hf with hf; subst hf; exact absurd hr (by decide)
/-! ### a root without the right -/
theorem Find_less (t : List (List Cap)) {a b c d e : Int} (l : List Step) (h0 : -9223372036854775808 ≤ b) (h1 : b ≤ 9223372036854775807) {k : Nat} (hk : 20 ≤ k) {r : Int × Int × (List Ref) × Int} (hf : addr_Find.f k t a b c d e l = some r) (hr : r.2.2.2 = 0) :
    addr_Find.f k t a (wrap64 (b - 1)) c d e l = some (0, 0, [], 120) := by
  unfold addr_Find.f at hf ⊢
  rw [bind_of (Check_eq l)] at hf ⊢
  by_cases h : okA l
  · rw [if_pos h, if_pos rfl] at hf ⊢
    have hl := h.1
    obtain ⟨k, rfl⟩ : ∃ m, k = m + 2 := ⟨k - 2, by omega⟩
    rw [show k + 2 = (k + 1) + 1 from rfl] at hf ⊢
    simp only [addr_Find.l0] at hf ⊢
    rw [if_pos (by omega), if_pos (by omega), if_pos (by omega), Find_j1_true] at hf
    rw [if_pos (by omega), if_pos (by omega), if_pos (by omega), Find_j1_true]
    by_cases ha : a = 2
    · rw [if_pos ha] at hf ⊢
      by_cases hc : c = (rd_T53 l 0).f0
      · rw [if_pos hc] at hf ⊢
        obtain ⟨x, hx⟩ := May_total a b c d e 1
        rw [bind_of hx] at hf
        cases x with
        | false =>
          rw [show (!false) = true from rfl, Find_j1_true] at hf
          injection hf with hf; subst hf; exact absurd hr (by decide)
        | true => rw [bind_of (May_next h0 h1 hx), show (!false) = true from rfl, Find_j1_true]
      · rw [if_neg hc] at hf
        injection hf with hf; subst hf; exact absurd hr (by decide)
    · rw [if_neg ha] at hf
      injection hf with hf; subst hf; exact absurd hr (by decide)
  · rw [if_neg h, if_neg (by decide)] at hf
    injection hf with hf; subst hf; exact absurd hr (by decide)
end Go.Proofs.Ytkdebaopfabbbaa.Plain
