/- addr.Find over a table with another capability in one slot; what Find's way is. -/
import Derived.Test.YtkdebaopfabbbaaAddr3
namespace Go.Proofs.Ytkdebaopfabbbaa.Plain
open Go Go.RowKit Go.Proofs.YtkdebaopfabbbaaW.PrintWords Go.Proofs.YtkdebaopfabbbaaW.PrintLast Go.Proofs.YtkdebaopfabbbaaW.PrintMore Go.Proofs.Ytkdebaopfabbbaa.P Go.Proofs.Ytkdebaopfabbbaa.Given

/-- One step of the walk that ends well. -/
theorem Find_step {t : List (List Cap)} {l : List Step} (h4 : l.length ≤ 4) {k i : Nat} {q : List Ref} {x y a b c d e : Int} {r : Int × Int × (List Ref) × Int} (hi : i < l.length)
    (hf : addr_Find.l0 k t q l (l.length : Int) (i : Int) x y a b c d e = some r) (hr : r.2.2.2 = 0) :
    ∃ k' g, k = k' + 2 ∧ a = 2 ∧ c = (rd_T53 l (i : Int)).f0 ∧ cap_May.f a b c d e 1 = some true ∧ addr_Get.f t d (rd_T53 l (i : Int)).f1 = some g ∧ g.2.2.2.2.2 = true ∧ q.length < 8796093022208 ∧
      addr_Find.l0 k' t (q ++ [⟨d, (rd_T53 l (i : Int)).f1⟩]) l (l.length : Int) ((i + 1 : Nat) : Int) d (rd_T53 l (i : Int)).f1 g.1 g.2.1 g.2.2.1 g.2.2.2.1 g.2.2.2.2.1 = some r := by
  match k, hf with
  | 0, hf => simp only [addr_Find.l0] at hf; cases hf
  | 1, hf =>
    rw [show (1 : Nat) = 0 + 1 from rfl] at hf
    simp only [addr_Find.l0, addr_Find.j1] at hf
    rw [if_pos (by omega), if_pos (by omega), if_pos (by omega)] at hf
    exfalso
    split at hf
    · split at hf
      · obtain ⟨x, hx⟩ := May_total a b c d e 1
        rw [bind_of hx] at hf; cases hf
      · cases hf
    · cases hf
  | k + 2, hf =>
    rw [show k + 2 = (k + 1) + 1 from rfl] at hf
    simp only [addr_Find.l0] at hf
    rw [if_pos (by omega), if_pos (by omega), if_pos (by omega), Find_j1_true] at hf
    by_cases ha : a = 2
    · rw [if_pos ha] at hf
      by_cases hc : c = (rd_T53 l (i : Int)).f0
      · rw [if_pos hc] at hf
        obtain ⟨x, hx⟩ := May_total a b c d e 1
        rw [bind_of hx] at hf
        cases x with
        | false =>
          rw [show (!false) = true from rfl, Find_j1_true] at hf
          injection hf with hf; subst hf; exact absurd hr (by decide)
        | true =>
          rw [show (!true) = false from rfl] at hf
          simp only [addr_Find.j1] at hf
          rw [if_neg (by decide)] at hf
          obtain ⟨g, hg⟩ := Get_total t d (rd_T53 l (i : Int)).f1
          rw [bind_of hg] at hf
          by_cases hg1 : g.2.2.2.2.2 = true
          · rw [if_pos hg1] at hf
            by_cases hq : q.length < 8796093022208
            · rw [if_pos hq, wc (i + 1) _ (by omega) (by omega)] at hf
              exact ⟨k, g, rfl, ha, hc, hx, hg, hg1, hq, hf⟩
            · rw [if_neg hq] at hf; cases hf
          · rw [if_neg hg1] at hf
            injection hf with hf; subst hf; exact absurd hr (by decide)
      · rw [if_neg hc] at hf
        injection hf with hf; subst hf; exact absurd hr (by decide)
    · rw [if_neg ha] at hf
      injection hf with hf; subst hf; exact absurd hr (by decide)
/-- The same step, forward. -/
theorem Find_go {t : List (List Cap)} {l : List Step} (h4 : l.length ≤ 4) {k i : Nat} {q : List Ref} {x y a b c d e : Int} {g : Int × Int × Int × Int × Int × Bool} (hi : i < l.length)
    (ha : a = 2) (hc : c = (rd_T53 l (i : Int)).f0) (hm : cap_May.f a b c d e 1 = some true) (hg : addr_Get.f t d (rd_T53 l (i : Int)).f1 = some g) (hg1 : g.2.2.2.2.2 = true) (hq : q.length < 8796093022208) :
    addr_Find.l0 (k + 2) t q l (l.length : Int) (i : Int) x y a b c d e = addr_Find.l0 k t (q ++ [⟨d, (rd_T53 l (i : Int)).f1⟩]) l (l.length : Int) ((i + 1 : Nat) : Int) d (rd_T53 l (i : Int)).f1 g.1 g.2.1 g.2.2.1 g.2.2.2.1 g.2.2.2.2.1 := by
  rw [show k + 2 = (k + 1) + 1 from rfl]
  simp only [addr_Find.l0]
  rw [if_pos (by omega), if_pos (by omega), if_pos (by omega), if_pos ha, if_pos hc, bind_of hm, show (!true) = false from rfl]
  simp only [addr_Find.j1]
  rw [if_neg (by decide), bind_of hg, if_pos hg1, if_pos hq, wc (i + 1) _ (by omega) (by omega)]
theorem Find_end {t : List (List Cap)} {l : List Step} {k i : Nat} {q : List Ref} {x y a b c d e : Int} {r : Int × Int × (List Ref) × Int} (hi : i = l.length) (hf : addr_Find.l0 k t q l (l.length : Int) (i : Int) x y a b c d e = some r) :
    r = (x, y, q, 0) ∧ ∃ k', k = k' + 1 := by
  match k, hf with
  | 0, hf => simp only [addr_Find.l0] at hf; cases hf
  | k + 1, hf =>
    simp only [addr_Find.l0] at hf
    rw [if_neg (by omega)] at hf
    injection hf with hf
    exact ⟨hf.symm, k, rfl⟩
/-- The way is told step by step. -/
theorem Find_way {t : List (List Cap)} {l : List Step} (h4 : l.length ≤ 4) (m : Nat) : ∀ (k i : Nat) (q : List Ref) (x y a b c d e : Int) r, i + m = l.length → addr_Find.l0 k t q l (l.length : Int) (i : Int) x y a b c d e = some r → r.2.2.2 = 0 →
    ∃ s, r.2.2.1 = q ++ s ∧ s.length = m := by
  induction m with
  | zero =>
    intro k i q x y a b c d e r hi hf hr
    obtain ⟨rfl, _⟩ := Find_end (by omega) hf
    exact ⟨[], by simp, rfl⟩
  | succ m ih =>
    intro k i q x y a b c d e r hi hf hr
    obtain ⟨k', g, rfl, _, _, _, _, _, _, h2⟩ := Find_step h4 (by omega) hf hr
    obtain ⟨s, hs, hl⟩ := ih _ _ _ _ _ _ _ _ _ _ _ (by omega) h2 hr
    exact ⟨⟨d, (rd_T53 l (i : Int)).f1⟩ :: s, by rw [hs, List.append_assoc]; rfl, by simp [hl]⟩
/-- Another capability in a slot that is no place ahead of the last one. -/
theorem Find_set {t u : List (List Cap)} {l : List Step} (h4 : l.length ≤ 4) (z : Ref) (hg : ∀ n p, (⟨n, p⟩ : Ref) ≠ z → addr_Get.f u n p = addr_Get.f t n p)
    (ho : ∀ n p r, addr_Get.f t n p = some r → r.2.2.2.2.2 = true → ∃ r', addr_Get.f u n p = some r' ∧ r'.2.2.2.2.2 = true) (m : Nat) : ∀ (k i : Nat) (q : List Ref) (x y a b c d e : Int) r, i + m = l.length →
      addr_Find.l0 k t q l (l.length : Int) (i : Int) x y a b c d e = some r → r.2.2.2 = 0 → (∀ j, q.length ≤ j → j + 1 < r.2.2.1.length → r.2.2.1[j]? ≠ some z) → addr_Find.l0 k u q l (l.length : Int) (i : Int) x y a b c d e = some r := by
  induction m with
  | zero =>
    intro k i q x y a b c d e r hi hf hr hz
    obtain ⟨rfl, k', rfl⟩ := Find_end (by omega) hf
    simp only [addr_Find.l0]
    rw [if_neg (by omega)]
  | succ m ih =>
    intro k i q x y a b c d e r hi hf hr hz
    obtain ⟨k', g, rfl, ha, hc, hm, hgt, hg1, hq, h2⟩ := Find_step h4 (by omega) hf hr
    obtain ⟨s, hs, hl⟩ := Find_way h4 m _ _ _ _ _ _ _ _ _ _ _ (by omega) h2 hr
    cases m with
    | zero =>
      obtain ⟨g', hgu, hgu1⟩ := ho _ _ _ hgt hg1
      rw [Find_go h4 (by omega) ha hc hm hgu hgu1 hq]
      obtain ⟨rfl, k'', rfl⟩ := Find_end (by omega) h2
      simp only [addr_Find.l0]
      rw [if_neg (by omega)]
    | succ m =>
      have hne : (⟨d, (rd_T53 l (i : Int)).f1⟩ : Ref) ≠ z := fun h => hz q.length (Nat.le_refl _) (by rw [hs]; simp; omega) (by rw [hs]; simp [h])
      rw [Find_go h4 (by omega) ha hc hm (by rw [hg _ _ hne]; exact hgt) hg1 hq]
      exact ih _ _ _ _ _ _ _ _ _ _ _ (by omega) h2 hr (fun j h1 h2 => hz j (by simp at h1; omega) h2)
/-! ### what small tells -/
theorem small_len (t : List (List Cap)) (l : List Step) (d : Nat) : ∀ k (i : Nat), i + d = 41 → garrisonlaw12_small.l0 k t l (i : Int) = some true → t.length ≤ 40 ∧ ∀ j, i ≤ j → j < t.length → (rd_L5 t (j : Int)).length ≤ 20 := by
  have hj : ∀ k (i : Int), garrisonlaw12_small.j1 k t l i false = some true → t.length ≤ 40 := by
    intro k i h
    cases k with
    | zero => simp only [garrisonlaw12_small.j1] at h; cases h
    | succ k =>
      simp only [garrisonlaw12_small.j1] at h
      rw [if_neg (by decide)] at h
      by_cases h4 : (t.length : Int) ≤ 40
      · omega
      · rw [if_neg h4] at h; cases h
  induction d with
  | zero =>
    intro k i hi h
    cases k with
    | zero => simp only [garrisonlaw12_small.l0] at h; cases h
    | succ k =>
      simp only [garrisonlaw12_small.l0] at h
      rw [show decide ((i : Int) ≤ 40) = false from decide_eq_false (by omega), ite_self] at h
      have := hj _ _ h
      exact ⟨this, fun j h1 h2 => by omega⟩
  | succ d ih =>
    intro k i hi h
    cases k with
    | zero => simp only [garrisonlaw12_small.l0] at h; cases h
    | succ k =>
      simp only [garrisonlaw12_small.l0] at h
      by_cases hl : (i : Int) < (t.length : Int)
      · rw [if_pos hl, show decide ((i : Int) ≤ 40) = true from decide_eq_true (by omega)] at h
        cases k with
        | zero => simp only [garrisonlaw12_small.j1] at h; cases h
        | succ k =>
          simp only [garrisonlaw12_small.j1] at h
          rw [if_pos trivial, if_pos (by omega), if_pos hl] at h
          by_cases h20 : ((rd_L5 t (i : Int)).length : Int) > 20
          · rw [if_pos h20] at h; cases h
          · rw [if_neg h20, wc (i + 1) _ (by omega) (by omega)] at h
            obtain ⟨h1, h2⟩ := ih _ _ (by omega) h
            refine ⟨h1, fun j hj1 hj2 => ?_⟩
            by_cases e : j = i
            · subst e; omega
            · exact h2 j (by omega) hj2
      · rw [if_neg hl] at h
        exact ⟨hj _ _ h, fun j h1 h2 => by omega⟩
/-! ### another capability in one slot -/
theorem rdL_set {t : List (List Cap)} {x : List Cap} {a : Nat} {n : Int} (_h0 : 0 ≤ n) : rd_L5 (t.set a x) n = if n.toNat = a ∧ a < t.length then x else rd_L5 t n := by
  unfold rd_L5
  rw [List.getD_eq_getElem?_getD, List.getD_eq_getElem?_getD, List.getElem?_set]
  by_cases h : a = n.toNat
  · subst h
    by_cases h2 : n.toNat < t.length
    · rw [if_pos rfl, if_pos h2, if_pos ⟨rfl, h2⟩]; rfl
    · rw [if_pos rfl, if_neg h2, if_neg (fun h => h2 h.2), List.getElem?_eq_none (by omega)]
  · rw [if_neg h, if_neg (fun h2 => h h2.1.symm)]
theorem rdT_set {t : List Cap} {x : Cap} {a : Nat} {n : Int} (hn : n.toNat ≠ a) : rd_T42 (t.set a x) n = rd_T42 t n := by
  unfold rd_T42
  rw [List.getD_eq_getElem?_getD, List.getD_eq_getElem?_getD, List.getElem?_set, if_neg (fun h => hn h.symm)]
theorem Get_set {t : List (List Cap)} {x : Cap} {a s : Nat} (n p : Int) (hne : ¬ (n = (a : Int) ∧ p = (s : Int))) :
    addr_Get.f (t.set a ((rd_L5 t (a : Int)).set s x)) n p = addr_Get.f t n p := by
  unfold addr_Get.f
  rw [List.length_set]
  by_cases h0 : n < 0
  · rw [if_pos h0, if_pos h0]
  · rw [if_neg h0, if_neg h0]
    by_cases h1 : n ≥ (t.length : Int)
    · rw [if_pos h1, if_pos h1]
    · rw [if_neg h1, if_neg h1, rdL_set (by omega)]
      by_cases ha : n.toNat = a ∧ a < t.length
      · rw [if_pos ha, List.length_set]
        obtain rfl : n = (a : Int) := by omega
        by_cases hp : p = (s : Int)
        · exact absurd ⟨rfl, hp⟩ hne
        · by_cases hp0 : 0 ≤ p
          · rw [rdT_set (by omega)]
          · unfold addr_isPart.f
            rw [if_neg hp0]
            simp only [Option.bind_some]
            simp
      · rw [if_neg ha]
theorem Get_set_ok {t : List (List Cap)} {x : Cap} {a s : Nat} (n p : Int) (r : Int × Int × Int × Int × Int × Bool) (h : addr_Get.f t n p = some r) (hr : r.2.2.2.2.2 = true) :
    ∃ r', addr_Get.f (t.set a ((rd_L5 t (a : Int)).set s x)) n p = some r' ∧ r'.2.2.2.2.2 = true := by
  by_cases hne : n = (a : Int) ∧ p = (s : Int)
  · obtain ⟨rfl, rfl⟩ := hne
    unfold addr_Get.f at h ⊢
    rw [List.length_set]
    by_cases h0 : (a : Int) < 0
    · omega
    · rw [if_neg h0] at h ⊢
      by_cases h1 : (a : Int) ≥ (t.length : Int)
      · rw [if_pos h1] at h; injection h with h; subst h; cases hr
      · rw [if_neg h1, if_pos (by omega), if_pos (by omega)] at h ⊢
        have hcond : (a : Int).toNat = a ∧ a < t.length := ⟨Int.toNat_natCast a, by omega⟩
        rw [rdL_set (by omega), if_pos hcond, List.length_set]
        by_cases h8 : ((rd_L5 t (a : Int)).length : Int) = 8
        · rw [if_pos h8] at h ⊢
          unfold addr_isPart.f at h ⊢
          rw [if_pos (by omega), bind_of rfl] at h ⊢
          by_cases hq : (s : Int) < 8
          · rw [if_pos (decide_eq_true hq), if_pos (by omega), if_pos (by omega)] at h ⊢
            exact ⟨_, rfl, rfl⟩
          · rw [if_neg (by simp [hq])] at h; injection h with h; subst h; cases hr
        · rw [if_neg h8] at h; injection h with h; subst h; cases hr
  · exact ⟨r, by rw [Get_set n p hne]; exact h, hr⟩
end Go.Proofs.Ytkdebaopfabbbaa.Plain
