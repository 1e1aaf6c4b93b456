/- What the functions of chapter 06 come to, told in plain. -/
import Derived.Test.YtcjipaemlipfgaaGRef
import Derived.Test.YtcjipaemlipfgaaGLive
import Derived.Test.YtcjipaemlipfgaaPx2
import Derived.Test.YtcjipaemlipfgaaPx3
import Derived.Test.YtcjipaemlipfgaaPx4
import Derived.Test.YtcjipaemlipfgaaPx6
namespace Go.Proofs.Ytcjipaemlipfgaa.Ord
open Go.RowKit Go.Proofs.YtcjipaemlipfgaaW.PrintWords Go.Proofs.YtcjipaemlipfgaaW.PrintLast Go.Proofs.YtcjipaemlipfgaaW.PrintMore Go.Proofs.Ytcjipaemlipfgaa.P Go.Proofs.Ytcjipaemlipfgaa.Given

theorem num_f (e : Int) : garrisonlaw06_num.f e = some e := rfl
theorem key_f (a b : Int) : garrisonlaw06_key.f a b = some (a, b) := rfl
theorem live_f : garrisonlaw06_live.f = some true := rfl
theorem oless_f (k : Nat) (hk : 3 ≤ k) (x y : S23) : order_Less.f k x.f0 x.f1 y.f0 y.f1 = some (ltB x y) := by
  have h := at_rounds (g := fun k => order_compare.f k x.f0 x.f1 y.f0 y.f1) (order_compare.mono _ _ _ _) hk (compare_f x y)
  unfold order_Less.f
  rw [h]
  simp only [Option.bind_some]
  exact congrArg some (ltOf_ltB x y)
theorem oless_f' (k : Nat) (hk : 3 ≤ k) (a b c d : Int) : order_Less.f k a b c d = some (ltB ⟨a, b⟩ ⟨c, d⟩) := oless_f k hk ⟨a, b⟩ ⟨c, d⟩
theorem rless_f' (a b c d : Int) : garrisonref06_Less.f a b c d = some (ltB ⟨a, b⟩ ⟨c, d⟩) := less_f ⟨a, b⟩ ⟨c, d⟩
theorem check_f' (a b : Int) : order_Check.f a b = some (if okK ⟨a, b⟩ = true then 0 else 2) := check_f ⟨a, b⟩
theorem is_f' (a b : Int) : garrisonref06_Is.f a b = some (okK ⟨a, b⟩) := is_f ⟨a, b⟩
theorem okK_iff (a b : Int) : okK ⟨a, b⟩ = true ↔ 0 ≤ a ∧ a ≤ 1023 ∧ -1 ≤ b ∧ b ≤ 7 := by
  unfold okK
  simp only [Bool.and_eq_true, decide_eq_true_eq]
  omega
/-- A key's cell. -/
def cellK (a b : Int) : Int := if okK ⟨a, b⟩ = true then 9 * a + b + 1 else -1
theorem w64 {n : Int} (h1 : -9223372036854775808 ≤ n) (h2 : n ≤ 9223372036854775807) : wrap64 n = n := by unfold wrap64; omega
theorem ocell_f (a b : Int) : order_Cell.f a b = some (cellK a b) := by
  unfold order_Cell.f cellK
  rw [check_f']
  simp only [Option.bind_some]
  by_cases h : okK ⟨a, b⟩ = true
  · rw [if_pos h, if_pos rfl, if_pos h]
    rw [okK_iff] at h
    rw [w64 (n := 9 * a) (by omega) (by omega), w64 (n := 9 * a + b) (by omega) (by omega), w64 (by omega) (by omega)]
  · rw [if_neg h, if_neg (by decide), if_neg h]
theorem rcell_f (a b : Int) : garrisonref06_Cell.f a b = some (cellK a b) := by
  unfold garrisonref06_Cell.f cellK
  rw [is_f']
  simp only [Option.bind_some]
  by_cases h : okK ⟨a, b⟩ = true
  · rw [h]
    rw [okK_iff] at h
    have e : wrap64 (wrap64 (wrap64 (9 * a) + b) + 1) = 9 * a + b + 1 := by
      rw [w64 (n := 9 * a) (by omega) (by omega), w64 (n := 9 * a + b) (by omega) (by omega), w64 (by omega) (by omega)]
    simp [e]
  · rw [Bool.not_eq_true] at h
    rw [h]
    simp
theorem okey_f (c : Int) (h1 : -9223372036854775808 ≤ c) (h2 : c ≤ 9223372036854775807) : order_Key.f c = some (if 0 ≤ c ∧ c < 9216 then (c / 9, c % 9 - 1, 0) else (0, 0, 2)) := by
  unfold order_Key.f
  by_cases h : c < 0
  · rw [if_pos h, if_neg (by omega)]
  · by_cases h' : c ≥ 9216
    · rw [if_neg h, if_pos h', if_neg (by omega)]
    · rw [if_neg h, if_neg h', if_pos (by omega), Int.tdiv_eq_ediv_of_nonneg (by omega), Int.tmod_eq_emod_of_nonneg (by omega), w64 (n := c / 9) (by omega) (by omega), w64 (by omega) (by omega)]
theorem rkey_f (c : Int) (h1 : -9223372036854775808 ≤ c) (h2 : c ≤ 9223372036854775807) : garrisonref06_Key.f c = some (if 0 ≤ c ∧ c < 9216 then (c / 9, c % 9 - 1, 0) else (0, 0, 2)) := by
  unfold garrisonref06_Key.f
  by_cases h : c < 0
  · simp only [is_f', Option.bind_some]
    rw [if_pos h, if_neg (by omega)]
  · have e1 : wrap64 (Int.tdiv c 9) = c / 9 := by rw [Int.tdiv_eq_ediv_of_nonneg (by omega), w64 (by omega) (by omega)]
    have e2 : wrap64 (Int.tmod c 9 - 1) = c % 9 - 1 := by rw [Int.tmod_eq_emod_of_nonneg (by omega), w64 (by omega) (by omega)]
    simp only [is_f', Option.bind_some, e1, e2]
    clear e1 e2
    rw [if_neg h]
    by_cases h' : c < 9216
    · have hok : okK ⟨c / 9, c % 9 - 1⟩ = true := (okK_iff _ _).2 (by omega)
      have hin : 0 ≤ c ∧ c < 9216 := by omega
      rw [hok, if_pos rfl, if_pos hin]
    · have hok : okK ⟨c / 9, c % 9 - 1⟩ = false := by
        rw [← Bool.not_eq_true, okK_iff]
        omega
      have hin : ¬ (0 ≤ c ∧ c < 9216) := by omega
      rw [hok, if_neg hin]
      rfl
theorem same_self (m : List S23) (d : Nat) : ∀ (k i : Nat), i ≤ m.length → m.length - i = d → d < k → m.length ≤ 5000 → garrisonref06_Same.l0 k m m (i : Int) = some true := by
  induction d with
  | zero =>
    intro k i h1 h2 h3 _
    obtain ⟨k, rfl⟩ : ∃ q, k = q + 1 := ⟨k - 1, by omega⟩
    simp only [garrisonref06_Same.l0]
    rw [if_neg (by omega)]
  | succ d ih =>
    intro k i h1 h2 h3 h4
    obtain ⟨k, rfl⟩ : ∃ q, k = q + 1 := ⟨k - 1, by omega⟩
    have hw : wrap64 ((i : Int) + 1) = ((i + 1 : Nat) : Int) := by unfold wrap64; omega
    simp only [garrisonref06_Same.l0]
    rw [if_pos (by omega), if_pos (by omega), if_pos (by omega), hw]
    simp only [beq_self_eq_true, Bool.not_true, Bool.or_self, Bool.false_eq_true, if_false]
    exact ih k (i + 1) (by omega) (by omega) (by omega) h4
theorem same_f (m : List S23) (k : Nat) (hk : m.length < k) (hm : m.length ≤ 5000) : garrisonref06_Same.f k m m = some true := by
  unfold garrisonref06_Same.f
  rw [if_pos rfl]
  exact same_self m m.length k 0 (Nat.zero_le _) rfl hk hm
/-- Does a list rise behind a key? -/
def upL : S23 → List S23 → Bool
  | _, [] => true
  | p, x :: l => ltB p x && upL x l
def upB : List S23 → Bool
  | [] => true
  | x :: l => upL x l
theorem upL_of (l : List S23) : ∀ p, Up (p :: l) → upL p l = true := by
  induction l with
  | nil => intro p _; rfl
  | cons x l ih =>
    intro p h
    obtain ⟨h1, h2⟩ := List.pairwise_cons.1 h
    unfold upL
    rw [h1 x (List.mem_cons_self ..), ih x h2]
    rfl
theorem upB_of {l : List S23} (h : Up l) : upB l = true := by
  cases l with
  | nil => rfl
  | cons x l => exact upL_of l x h
theorem oris_l0 (m : List S23) (hm : m.length ≤ 5000) (d : Nat) : ∀ (k i : Nat), i < m.length → m.length - (i + 1) = d → d + 4 < k → order_Rising.l0 k m (m.length : Int) ((i + 1 : Nat) : Int) = some (upL (rd_T23 m (i : Int)) (m.drop (i + 1))) := by
  induction d with
  | zero =>
    intro k i h1 h2 h3
    obtain ⟨k, rfl⟩ : ∃ q, k = q + 1 := ⟨k - 1, by omega⟩
    simp only [order_Rising.l0]
    rw [if_neg (by omega), List.drop_eq_nil_of_le (by omega)]
    rfl
  | succ d ih =>
    intro k i h1 h2 h3
    obtain ⟨k, rfl⟩ : ∃ q, k = q + 1 := ⟨k - 1, by omega⟩
    have hw : wrap64 (((i + 1 : Nat) : Int) + 1) = ((i + 1 + 1 : Nat) : Int) := by unfold wrap64; omega
    have hw2 : wrap64 (((i + 1 : Nat) : Int) - 1) = (i : Int) := by unfold wrap64; omega
    have hi : i + 1 < m.length := by omega
    have hdrop : m.drop (i + 1) = m[i + 1] :: m.drop (i + 1 + 1) := List.drop_eq_getElem_cons hi
    simp only [order_Rising.l0]
    rw [if_pos (by omega), if_pos (by omega), hw2, if_pos (by omega), if_pos (by omega), if_pos (by omega), if_pos (by omega), oless_f k (by omega)]
    simp only [Option.bind_some]
    rw [hdrop, rd_get m (i + 1) hi, hw]
    unfold upL
    cases ltB (rd_T23 m (i : Int)) m[i + 1] with
    | true =>
      rw [if_pos rfl, ih k (i + 1) (by omega) (by omega) (by omega), rd_get m (i + 1) hi]
      rfl
    | false => rfl
theorem orising_f (m : List S23) (hm : m.length ≤ 5000) (k : Nat) (hk : m.length + 6 ≤ k) : order_Rising.f k m = some (upB m) := by
  unfold order_Rising.f
  obtain ⟨k, rfl⟩ : ∃ q, k = q + 1 := ⟨k - 1, by omega⟩
  simp only [order_Rising.l0]
  cases m with
  | nil => rfl
  | cons x l =>
    have hw : wrap64 (0 + 1) = ((0 + 1 : Nat) : Int) := by unfold wrap64; omega
    rw [if_pos (by simp only [List.length_cons]; omega), if_neg (by omega), hw, oris_l0 _ hm _ k 0 (by simp) rfl (by simp only [List.length_cons] at *; omega)]
    rfl
theorem rris_l0 (m : List S23) (hm : m.length ≤ 5000) (d : Nat) : ∀ (k i : Nat), i < m.length → m.length - (i + 1) = d → d < k → garrisonref06_Rising.l0 k m ((i + 1 : Nat) : Int) = some (upL (rd_T23 m (i : Int)) (m.drop (i + 1))) := by
  induction d with
  | zero =>
    intro k i h1 h2 h3
    obtain ⟨k, rfl⟩ : ∃ q, k = q + 1 := ⟨k - 1, by omega⟩
    simp only [garrisonref06_Rising.l0]
    rw [if_neg (by omega), List.drop_eq_nil_of_le (by omega)]
    rfl
  | succ d ih =>
    intro k i h1 h2 h3
    obtain ⟨k, rfl⟩ : ∃ q, k = q + 1 := ⟨k - 1, by omega⟩
    have hw : wrap64 (((i + 1 : Nat) : Int) + 1) = ((i + 1 + 1 : Nat) : Int) := by unfold wrap64; omega
    have hw2 : wrap64 (((i + 1 : Nat) : Int) - 1) = (i : Int) := by unfold wrap64; omega
    have hi : i + 1 < m.length := by omega
    have hdrop : m.drop (i + 1) = m[i + 1] :: m.drop (i + 1 + 1) := List.drop_eq_getElem_cons hi
    simp only [garrisonref06_Rising.l0]
    rw [if_pos (by omega), hw2, if_pos (by omega), if_pos (by omega), if_pos (by omega), less_f]
    simp only [Option.bind_some]
    rw [hdrop, rd_get m (i + 1) hi, hw]
    unfold upL
    cases ltB (rd_T23 m (i : Int)) m[i + 1] with
    | true =>
      rw [if_pos rfl, ih k (i + 1) (by omega) (by omega) (by omega), rd_get m (i + 1) hi]
      rfl
    | false => rfl
theorem rrising_f (m : List S23) (hm : m.length ≤ 5000) (k : Nat) (hk : m.length + 6 ≤ k) : garrisonref06_Rising.f k m = some (upB m) := by
  unfold garrisonref06_Rising.f
  obtain ⟨k, rfl⟩ : ∃ q, k = q + 1 := ⟨k - 1, by omega⟩
  cases m with
  | nil =>
    simp only [garrisonref06_Rising.l0]
    rfl
  | cons x l =>
    have h := rris_l0 (x :: l) hm _ (k + 1) 0 (by simp) rfl (by simp only [List.length_cons] at *; omega)
    exact h
theorem ohas_l0 (m : List S23) (x : S23) (hm : m.length ≤ 5000) (d : Nat) : ∀ (k i : Nat), i ≤ m.length → m.length - i = d → d < k →
    ∃ r : Int, api_Key_42.l0 k m (m.length : Int) (i : Int) x.f0 x.f1 = some r ∧ (0 ≤ r ↔ (m.drop i).any (eqB x) = true) := by
  induction d with
  | zero =>
    intro k i h1 h2 h3
    obtain ⟨k, rfl⟩ : ∃ q, k = q + 1 := ⟨k - 1, by omega⟩
    refine ⟨-1, ?_, ?_⟩
    · simp only [api_Key_42.l0]
      rw [if_neg (by omega)]
    · rw [List.drop_eq_nil_of_le (by omega)]
      simp
  | succ d ih =>
    intro k i h1 h2 h3
    obtain ⟨k, rfl⟩ : ∃ q, k = q + 1 := ⟨k - 1, by omega⟩
    have hi : i < m.length := by omega
    have hw : wrap64 ((i : Int) + 1) = ((i + 1 : Nat) : Int) := by unfold wrap64; omega
    have hdrop : m.drop i = m[i] :: m.drop (i + 1) := List.drop_eq_getElem_cons hi
    have e : ((x.f0 == m[i].f0) && (x.f1 == m[i].f1)) = eqB x m[i] := rfl
    simp only [api_Key_42.l0]
    rw [if_pos (by omega), if_pos (by omega), if_pos (by omega), rd_get m i hi, e, hdrop, hw, List.any_cons]
    cases eqB x m[i] with
    | true => exact ⟨i, rfl, by simp⟩
    | false =>
      obtain ⟨r, hr, h⟩ := ih k (i + 1) (by omega) (by omega) (by omega)
      exact ⟨r, hr, by simpa using h⟩
theorem ohas_f (m : List S23) (a b : Int) (hm : m.length ≤ 5000) (k : Nat) (hk : m.length < k) : order_Has.f k m a b = some (m.any (eqB ⟨a, b⟩)) := by
  obtain ⟨r, hr, h⟩ := ohas_l0 m ⟨a, b⟩ hm m.length k 0 (Nat.zero_le _) rfl hk
  rw [List.drop_zero] at h
  unfold order_Has.f api_Key_36.f api_Key_42.f
  have hr' : api_Key_42.l0 k m (m.length : Int) 0 a b = some r := hr
  rw [hr']
  simp only [Option.bind_some]
  refine congrArg some ?_
  rw [Bool.eq_iff_iff, ← h]
  simp
theorem rhas_l0 (m : List S23) (x : S23) (hm : m.length ≤ 5000) (d : Nat) : ∀ (k i : Nat), i ≤ m.length → m.length - i = d → d < k →
    garrisonref06_Has.l0 k m (i : Int) x.f0 x.f1 = some ((m.drop i).any (eqB x)) := by
  induction d with
  | zero =>
    intro k i h1 h2 h3
    obtain ⟨k, rfl⟩ : ∃ q, k = q + 1 := ⟨k - 1, by omega⟩
    simp only [garrisonref06_Has.l0]
    rw [if_neg (by omega), List.drop_eq_nil_of_le (by omega)]
    rfl
  | succ d ih =>
    intro k i h1 h2 h3
    obtain ⟨k, rfl⟩ : ∃ q, k = q + 1 := ⟨k - 1, by omega⟩
    have hi : i < m.length := by omega
    have hw : wrap64 ((i : Int) + 1) = ((i + 1 : Nat) : Int) := by unfold wrap64; omega
    have hdrop : m.drop i = m[i] :: m.drop (i + 1) := List.drop_eq_getElem_cons hi
    have e : ((m[i].f0 == x.f0) && (m[i].f1 == x.f1)) = eqB x m[i] := by
      unfold eqB
      rw [Bool.beq_comm (a := m[i].f0), Bool.beq_comm (a := m[i].f1)]
    simp only [garrisonref06_Has.l0]
    rw [if_pos (by omega), if_pos (by omega), rd_get m i hi, e, hdrop, hw, List.any_cons]
    cases eqB x m[i] with
    | true => rfl
    | false =>
      rw [if_neg (by simp), ih k (i + 1) (by omega) (by omega) (by omega)]
      rfl
theorem rhas_f (m : List S23) (a b : Int) (hm : m.length ≤ 5000) (k : Nat) (hk : m.length < k) : garrisonref06_Has.f k m a b = some (m.any (eqB ⟨a, b⟩)) := by
  have h := rhas_l0 m ⟨a, b⟩ hm m.length k 0 (Nat.zero_le _) rfl hk
  rw [List.drop_zero] at h
  exact h
theorem any_mem {m : List S23} {x : S23} : m.any (eqB x) = true ↔ x ∈ m := by
  rw [List.any_eq_true]
  constructor
  · rintro ⟨y, hy, h⟩
    rw [eqB_iff] at h
    exact h ▸ hy
  · intro h
    exact ⟨x, h, eqB_iff.2 rfl⟩
theorem wf64 {n : Int} (h : (Lit.int .i64 n).wf = true) : -9223372036854775808 ≤ n ∧ n ≤ 9223372036854775807 := by
  simp only [Lit.wf, Bool.and_eq_true, decide_eq_true_eq] at h
  exact h
end Go.Proofs.Ytcjipaemlipfgaa.Ord
