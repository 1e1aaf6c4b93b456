/- AddrFronts is true of all inputs: no condition. -/
import Derived.Test.YtkdebaopfabbbaaAddr4
import Derived.Test.YtkdebaopfabbbaaPx7
import Derived.Test.YtkdebaopfabbbaaPx14
import Derived.Test.YtkdebaopfabbbaaPx17
namespace Go.Proofs.Ytkdebaopfabbbaa.Pure
open Go Go.RowKit Go.Proofs.YtkdebaopfabbbaaW.PrintWords Go.Proofs.YtkdebaopfabbbaaW.PrintLast Go.Proofs.YtkdebaopfabbbaaW.PrintMore Go.Proofs.Ytkdebaopfabbbaa.P Go.Proofs.Ytkdebaopfabbbaa.Given Go.Proofs.Ytkdebaopfabbbaa.Plain

theorem rdF (l : List Ref) (i : Nat) (h : i < l.length) : rd_T45 l (i : Int) = l[i] := by
  unfold rd_T45
  rw [Int.toNat_natCast, List.getD_eq_getElem?_getD, List.getElem?_eq_getElem h]
  rfl
/-- A row is the same as itself. -/
theorem SameF (p : List Ref) (h : p.length ≤ 1000) (d : Nat) : ∀ k i, i + d = p.length → d < k → garrisonref06_Same.l0 k p p (i : Int) = some true := by
  induction d with
  | zero =>
    intro k i hd hk
    obtain ⟨k, rfl⟩ : ∃ m, k = m + 1 := ⟨k - 1, by omega⟩
    simp only [garrisonref06_Same.l0]
    rw [if_neg (by omega)]
  | succ d ih =>
    intro k i hd hk
    obtain ⟨k, rfl⟩ : ∃ m, k = m + 1 := ⟨k - 1, by omega⟩
    simp only [garrisonref06_Same.l0]
    rw [if_pos (by omega), if_pos (by omega), if_pos (by omega), if_neg (by simp), wc (i + 1) _ (by omega) (by omega)]
    exact ih _ _ (by omega) (by omega)
theorem Find_bad (t : List (List Cap)) (l : List Step) (h4 : l.length ≤ 4) (m : Nat) : ∀ k (i : Nat) (q : List Ref) (u v a b c d e : Int), i + m = l.length → 2 * m + 2 ≤ k → q.length = i →
    ∃ r, addr_Find.l0 k t q l (l.length : Int) (i : Int) u v a b c d e = some r ∧ (r.2.2.2 = 0 ∨ r = (0, 0, [], 120)) := by
  induction m with
  | zero =>
    intro k i q u v a b c d e hi hk hq
    obtain ⟨k, rfl⟩ : ∃ m, k = m + 1 := ⟨k - 1, by omega⟩
    simp only [addr_Find.l0]
    rw [if_neg (by omega)]
    exact ⟨_, rfl, .inl rfl⟩
  | succ m ih =>
    intro k i q u v a b c d e hi hk hq
    obtain ⟨k, rfl⟩ : ∃ m, k = m + 2 := ⟨k - 2, by omega⟩
    rw [show k + 2 = (k + 1) + 1 from rfl]
    simp only [addr_Find.l0]
    rw [if_pos (by omega), if_pos (by omega), if_pos (by omega), Find_j1_true]
    have bad : ∃ r : Int × Int × (List Ref) × Int, some ((0 : Int), (0 : Int), ([] : List Ref), (120 : Int)) = some r ∧ (r.2.2.2 = 0 ∨ r = (0, 0, [], 120)) := ⟨_, rfl, .inr rfl⟩
    split
    · split
      · obtain ⟨x, hx⟩ := May_total a b c d e 1
        rw [bind_of hx]
        cases x with
        | false => rw [show (!false) = true from rfl, Find_j1_true]; exact bad
        | true =>
          rw [show (!true) = false from rfl]
          simp only [addr_Find.j1]
          rw [if_neg (by decide)]
          obtain ⟨g, hg⟩ := Get_total t d (rd_T53 l (i : Int)).f1
          rw [bind_of hg]
          split
          · rw [if_pos (by omega), wc (i + 1) _ (by omega) (by omega)]
            exact ih _ _ _ _ _ _ _ _ _ _ (by omega) (by omega) (by simp; omega)
          · exact bad
      · exact bad
    · exact bad
theorem FindF (t : List (List Cap)) (a b c d e : Int) (l : List Step) : ∃ r, (∀ k, 20 ≤ k → addr_Find.f k t a b c d e l = some r) ∧ (r.2.2.2 = 0 ∨ r = (0, 0, [], 120)) := by
  have h20 : ∃ r, addr_Find.f 20 t a b c d e l = some r ∧ (r.2.2.2 = 0 ∨ r = (0, 0, [], 120)) := by
    unfold addr_Find.f
    rw [bind_of (Check_eq l)]
    by_cases h : okA l
    · rw [if_pos h, if_pos rfl]
      exact Find_bad t l h.2.1 l.length 20 0 [] 0 0 a b c d e (by omega) (by have := h.2.1; omega) rfl
    · rw [if_neg h, if_neg (by decide)]
      exact ⟨_, rfl, .inr rfl⟩
  obtain ⟨r, hr, hc⟩ := h20
  exact ⟨r, fun k hk => at_rounds (g := fun k => addr_Find.f k t a b c d e l) (addr_Find.mono _ _ _ _ _ _ _) hk hr, hc⟩
/-- What an address finds, and what its front finds. -/
theorem Find_front {t : List (List Cap)} {l : List Step} (h4 : l.length ≤ 4) {n : Nat} (hn : l.length = n + 1) (m : Nat) : ∀ (k i : Nat) (q : List Ref) (x y a b c d e : Int) r, i + m = n → addr_Find.l0 k t q l (l.length : Int) (i : Int) x y a b c d e = some r → r.2.2.2 = 0 →
    ∃ (x' y' : Int) (q' : List Ref) (a' b' c' d' e' : Int), addr_Find.l0 k t q (l.take n) ((l.take n).length : Int) (i : Int) x y a b c d e = some (x', y', q', 0) ∧
      r = (d', (rd_T53 l (n : Int)).f1, q' ++ [⟨d', (rd_T53 l (n : Int)).f1⟩], 0) ∧ a' = 2 ∧ c' = (rd_T53 l (n : Int)).f0 ∧ cap_May.f a' b' c' d' e' 1 = some true ∧ q'.length = q.length + m ∧
      (m = 0 → x' = x ∧ y' = y ∧ a' = a ∧ b' = b ∧ c' = c ∧ d' = d ∧ e' = e) ∧ (1 ≤ m → addr_Get.f t x' y' = some (a', b', c', d', e', true) ∧ ∃ q0, q' = q0 ++ [⟨x', y'⟩]) := by
  have hlt : (l.take n).length = n := by rw [List.length_take]; omega
  induction m with
  | zero =>
    intro k i q x y a b c d e r hi hf hr
    obtain rfl : i = n := by omega
    obtain ⟨k', g, rfl, ha, hc, hm, hgt, hg1, hq, h2⟩ := Find_step h4 (by omega) hf hr
    obtain ⟨rfl, _⟩ := Find_end (by omega) h2
    refine ⟨x, y, q, a, b, c, d, e, ?_, rfl, ha, hc, hm, rfl, fun _ => ⟨rfl, rfl, rfl, rfl, rfl, rfl, rfl⟩, fun h => by omega⟩
    rw [show k' + 2 = (k' + 1) + 1 from rfl]
    simp only [addr_Find.l0]
    rw [if_neg (by omega)]
  | succ m ih =>
    intro k i q x y a b c d e r hi hf hr
    obtain ⟨k', g, rfl, ha, hc, hm, hgt, hg1, hq, h2⟩ := Find_step h4 (by omega) hf hr
    have hrd : rd_T53 (l.take n) (i : Int) = rd_T53 l (i : Int) := by
      rw [rdS _ i (by omega), rdS _ i (by omega), List.getElem_take]
    obtain ⟨x', y', q', a', b', c', d', e', h3, h4', h5, h6, h7, h8, h9, h10⟩ := ih _ _ _ _ _ _ _ _ _ _ _ (by omega) h2 hr
    refine ⟨x', y', q', a', b', c', d', e', ?_, h4', h5, h6, h7, by rw [h8, List.length_append]; simp only [List.length_cons, List.length_nil]; omega, fun h => by omega, fun _ => ?_⟩
    · rw [Find_go (by omega) (by omega) ha (by rw [hrd]; exact hc) hm (by rw [hrd]; exact hgt) hg1 hq, hrd]
      exact h3
    · by_cases hm0 : m = 0
      · obtain ⟨rfl, rfl, rfl, rfl, rfl, rfl, rfl⟩ := h9 hm0
        refine ⟨?_, ?_⟩
        · rw [hgt, ← hg1]
        · subst hm0
          rw [hlt, show ((i + 1 : Nat) : Int) = (n : Int) by omega] at h3
          obtain ⟨k3, rfl⟩ : ∃ k3, k' = k3 + 1 := by
            cases k' with
            | zero => simp only [addr_Find.l0] at h3; cases h3
            | succ k3 => exact ⟨k3, rfl⟩
          simp only [addr_Find.l0] at h3
          rw [if_neg (by omega)] at h3
          injection h3 with h3
          exact ⟨q, (congrArg (fun z : Int × Int × List Ref × Int => z.2.2.1) h3).symm⟩
      · exact h10 (by omega)
theorem num_eqF (n : Int) : garrisonlaw12_num.f n = some n := rfl
theorem j0_trueF (k : Nat) (t : List (List Cap)) (l : List Step) (a b c d e : Int) : garrisonlaw12_AddrFronts.j0 (k + 1) t l true a b c d e = some true := by
  simp only [garrisonlaw12_AddrFronts.j0]
  rw [if_pos trivial]
  rfl
theorem May_odd {a b c d e : Int} (h0 : -9223372036854775808 ≤ b) (h1 : b ≤ 9223372036854775807) (h : cap_May.f a b c d e 1 = some true) : Int.tmod b 2 = 1 := by
  unfold cap_May.f at h
  obtain ⟨t, ht⟩ := isOne_total a b c d e
  rw [bind_of ht] at h
  cases t with
  | false => simp at h
  | true =>
    rw [if_pos rfl] at h
    obtain ⟨v, hv⟩ := Within_total 1 b
    rw [bind_of hv] at h
    have hv1 : v = true := by injection h
    subst hv1
    have hr : rightsB b = true := by
      have hv2 := hv
      unfold rights_Within.f at hv2
      rw [bind_of (rightsIs_eq (by decide) (by decide)), if_pos (by decide), bind_of (rightsIs_eq h0 h1)] at hv2
      by_cases hb : rightsB b = true
      · exact hb
      · rw [if_neg hb] at hv2; simp at hv2
    have hb := of_decide_eq_true hr
    have key : ∀ n : Fin 16, rights_Within.f 1 ((n.val : Nat) : Int) = some true → Int.tmod ((n.val : Nat) : Int) 2 = 1 := by decide +kernel
    have h2 := key ⟨b.toNat, by omega⟩
    rw [show (((⟨b.toNat, by omega⟩ : Fin 16).val : Nat) : Int) = b from by show ((b.toNat : Nat) : Int) = b; omega] at h2
    exact h2 hv
theorem wfCap {t : List (List Cap)} (hw : ∀ x : List Cap, x ∈ t → ∀ y : Cap, y ∈ x → ((Lit.int .i64 y.f0).wf = true ∧ ((Lit.int .i64 y.f1).wf = true ∧ ((Lit.int .i64 y.f2).wf = true ∧ ((Lit.int .i64 y.f3).wf = true ∧ (Lit.int .i64 y.f4).wf = true)))))
    {n p a b c d e : Int} (h : addr_Get.f t n p = some (a, b, c, d, e, true)) : -9223372036854775808 ≤ b ∧ b ≤ 9223372036854775807 := by
  unfold addr_Get.f at h
  by_cases h0 : n < 0
  · rw [if_pos h0] at h; injection h with h; simp at h
  · rw [if_neg h0] at h
    by_cases h1 : n ≥ (t.length : Int)
    · rw [if_pos h1] at h; injection h with h; simp at h
    · rw [if_neg h1, if_pos (by omega), if_pos (by omega)] at h
      by_cases h8 : ((rd_L5 t n).length : Int) = 8
      · rw [if_pos h8] at h
        unfold addr_isPart.f at h
        by_cases hp : 0 ≤ p
        · rw [if_pos hp, bind_of rfl] at h
          by_cases hq : p < 8
          · rw [if_pos (decide_eq_true hq), if_pos hp, if_pos (by omega)] at h
            injection h with h
            obtain ⟨n, rfl⟩ := Int.eq_ofNat_of_zero_le (show 0 ≤ n by omega)
            obtain ⟨p, rfl⟩ := Int.eq_ofNat_of_zero_le hp
            have hn : n < t.length := by omega
            have er : rd_L5 t (n : Int) = t[n] := by
              unfold rd_L5
              rw [Int.toNat_natCast, List.getD_eq_getElem?_getD, List.getElem?_eq_getElem hn]
              rfl
            have hpl : p < (rd_L5 t (n : Int)).length := by omega
            have ep : rd_T42 (rd_L5 t (n : Int)) (p : Int) = (rd_L5 t (n : Int))[p] := by
              unfold rd_T42
              rw [Int.toNat_natCast, List.getD_eq_getElem?_getD, List.getElem?_eq_getElem hpl]
              rfl
            have hrow : rd_L5 t (n : Int) ∈ t := by rw [er]; exact List.getElem_mem hn
            have hwf := (hw _ hrow _ (List.getElem_mem hpl)).2.1
            have eb : (rd_T42 (rd_L5 t (n : Int)) (p : Int)).f1 = b := congrArg (fun z : Int × Int × Int × Int × Int × Bool => z.2.1) h
            rw [ep] at eb
            rw [eb] at hwf
            exact ⟨by simpa [Lit.wf, IntKind.min, IntKind.max, IntKind.signed, IntKind.bits] using (show -9223372036854775808 ≤ b from (by have := hwf; simp [Lit.wf, IntKind.min, IntKind.max, IntKind.signed, IntKind.bits] at this; exact this.1)), (by have := hwf; simp [Lit.wf, IntKind.min, IntKind.max, IntKind.signed, IntKind.bits] at this; exact this.2)⟩
          · rw [if_neg (by simp [hq])] at h; injection h with h; simp at h
        · rw [if_neg hp, bind_of rfl, if_neg (by decide)] at h; injection h with h; simp at h
      · rw [if_neg h8] at h; injection h with h; simp at h
theorem AddrFronts : garrisonlaw12_AddrFronts.Pure := by
  intro t a b c d e l _ hw _ _ _
  refine ⟨1000, ?_⟩
  unfold garrisonlaw12_AddrFronts.f
  obtain ⟨s, hs⟩ := small_total t l (k := 1000) (by decide)
  rw [bind_of hs]
  cases s with
  | false => rw [if_neg (by decide)]; exact j0_trueF _ ..
  | true =>
    rw [if_pos rfl]
    by_cases hl2 : (l.length : Int) < 2
    · rw [decide_eq_true hl2]
      exact j0_trueF _ ..
    · rw [decide_eq_false hl2, show (1000 : Nat) = 999 + 1 from rfl]
      simp only [garrisonlaw12_AddrFronts.j0]
      rw [if_neg (by decide)]
      obtain ⟨r, hr, hc⟩ := FindF t a b c d e l
      rw [bind_of (hr 999 (by decide)), bind_of (num_eqF _)]
      by_cases hz : r.2.2.2 = 0
      · obtain ⟨n, hn⟩ : ∃ n, l.length = n + 1 := ⟨l.length - 1, by omega⟩
        obtain ⟨hok, hfl⟩ : okA l ∧ addr_Find.l0 20 t [] l (l.length : Int) ((0 : Nat) : Int) 0 0 a b c d e = some r := by
          have hf := hr 20 (by decide)
          unfold addr_Find.f at hf
          rw [bind_of (Check_eq _)] at hf
          by_cases h : okA l
          · rw [if_pos h, if_pos rfl] at hf
            exact ⟨h, hf⟩
          · rw [if_neg h, if_neg (by decide)] at hf
            injection hf with hf; subst hf; exact absurd hz (by decide)
        have h4 := hok.2.1
        obtain ⟨x', y', q', a', b', c', d', e', h3, hrr, ha, hcc, hm, hql, _, hget⟩ := Find_front h4 hn n 20 0 [] 0 0 a b c d e r (by omega) hfl hz
        obtain ⟨hg, q0, hq0⟩ := hget (by omega)
        have hokf : okA (l.take n) := ⟨by rw [List.length_take]; omega, by rw [List.length_take]; omega, fun s hs => hok.2.2 s (List.mem_of_mem_take hs)⟩
        have hff : addr_Find.f 999 t a b c d e (l.take n) = some (x', y', q', 0) := by
          refine at_rounds (g := fun k => addr_Find.f k t a b c d e (l.take n)) (addr_Find.mono _ _ _ _ _ _ _) (show 20 ≤ 999 by decide) ?_
          show addr_Find.f 20 t a b c d e (l.take n) = _
          unfold addr_Find.f
          rw [bind_of (Check_eq _), if_pos hokf, if_pos rfl]
          exact h3
        have hodd := May_odd (wfCap hw hg).1 (wfCap hw hg).2 hm
        rw [List.length_nil, Nat.zero_add] at hql
        have hrl : r.2.2.1.length = n + 1 := by rw [hrr]; simp [hql]
        have htk : r.2.2.1.take n = q' := by rw [hrr]; simp [← hql]
        have hsame : garrisonref06_Same.f 999 q' q' = some true := by
          unfold garrisonref06_Same.f
          rw [if_pos rfl]
          exact SameF q' (by omega) q'.length 999 0 (by omega) (by omega)
        have hlast : rd_T45 r.2.2.1 ((n : Nat) : Int) = ⟨d', (rd_T53 l (n : Int)).f1⟩ := by
          rw [rdF _ n (by omega)]
          simp only [hrr]
          rw [List.getElem_append_right (by omega)]
          simp [hql]
        have hprev : rd_T45 r.2.2.1 ((n - 1 : Nat) : Int) = ⟨x', y'⟩ := by
          rw [rdF _ (n - 1) (by omega)]
          simp only [hrr]
          rw [List.getElem_append_left (by omega)]
          simp only [hq0]
          have hq0l : q0.length = n - 1 := by
            have := congrArg List.length hq0
            rw [List.length_append] at this
            simp only [List.length_cons, List.length_nil] at this
            omega
          rw [List.getElem_append_right (by omega)]
          simp [hq0l]
        have hr1 : r.1 = d' := by rw [hrr]
        have hr2 : r.2.1 = (rd_T53 l (n : Int)).f1 := by rw [hrr]
        have hend : garrisonlaw12_AddrFronts.j1 999 t l (n : Int) false r.1 r.2.1 x' y' = some true := by
          rw [show (999 : Nat) = 998 + 1 from rfl]
          simp only [garrisonlaw12_AddrFronts.j1]
          rw [if_neg (by decide), bind_of hg, if_pos rfl, if_pos ha, if_pos (by omega), if_pos (by omega), if_pos hcc, if_pos hodd, if_pos (by rw [hr1, hr2, beq_self_eq_true, beq_self_eq_true]; rfl)]
          rfl
        have hb1 : ¬ ((!(x' == x') || !(y' == y')) = true) := by simp
        have hb2 : (!(r.1 == d') || !(r.2.1 == (rd_T53 l (n : Int)).f1)) = false := by rw [hr1, hr2]; simp
        have f1 : (0 : Int) ≤ (n : Int) := by omega
        have f2 : (n : Int) ≤ (l.length : Int) := by omega
        have f3 : (r.2.2.1.length : Int) = ((n + 1 : Nat) : Int) := by omega
        have f4 : (n : Int) ≤ (r.2.2.1.length : Int) := by omega
        have f5 : (0 : Int) ≤ ((n - 1 : Nat) : Int) := by omega
        have f6 : ((n - 1 : Nat) : Int) < (r.2.2.1.length : Int) := by omega
        have f7 : (n : Int) < (r.2.2.1.length : Int) := by omega
        have g1 : (l.length : Int) - 1 = (n : Int) := by omega
        have g2 : (n : Int) + 1 = ((n + 1 : Nat) : Int) := by omega
        have g3 : (n : Int) - 1 = ((n - 1 : Nat) : Int) := by omega
        have n1 : n ≤ 1000000 := by omega
        have n2 : n + 1 ≤ 1000000 := by omega
        have n3 : n - 1 ≤ 1000000 := by omega
        have hw1 : wrap64 ((l.length : Int) - 1) = (n : Int) := wc n _ g1 n1
        have hw2 : wrap64 ((n : Int) + 1) = ((n + 1 : Nat) : Int) := wc (n + 1) _ g2 n2
        have hw3 : wrap64 ((n : Int) - 1) = ((n - 1 : Nat) : Int) := wc (n - 1) _ g3 n3
        rw [if_pos hz, hw1, if_pos f1, if_pos f2, Int.toNat_natCast, bind_of hff, bind_of (num_eqF _), if_pos rfl, hw2, if_pos f3, if_pos f4, htk, bind_of hsame, if_pos rfl, hw3, if_pos f5, if_pos f6, hprev, if_neg hb1, if_pos f7, hlast, hb2]
        exact hend
      · rcases hc with hc | hc
        · exact absurd hc hz
        · subst hc
          rw [if_neg (by decide), if_pos (by decide), if_pos (by decide)]
          rfl
end Go.Proofs.Ytkdebaopfabbbaa.Pure
