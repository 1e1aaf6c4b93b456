/- Windows of scripts and rounds, over lists. -/
namespace Go.Proofs.YthifdmelanbgmaaDoor.Plain

/-- The widest gap between a core's picks: from the place `i` on, where its last pick lay at `last`. -/
def gp (c : Int) : List Int → Int → Int → Int
  | [], i, last => i - last
  | x :: l, i, last => if x = c then max (i - last) (gp c l (i + 1) i) else gp c l (i + 1) last
theorem gp_ge (c : Int) (l : List Int) : ∀ i last, i - last ≤ gp c l i last := by
  induction l with
  | nil => intro i last; exact Int.le_refl _
  | cons x l ih =>
    intro i last
    unfold gp
    split
    · omega
    · have := ih (i + 1) last; omega
theorem gp_le (c : Int) (l : List Int) : ∀ i last, last < i → gp c l i last ≤ i + l.length - last := by
  induction l with
  | nil => intro i last _; simp [gp]
  | cons x l ih =>
    intro i last h
    unfold gp
    simp only [List.length_cons]
    split
    · have := ih (i + 1) i (by omega); omega
    · have := ih (i + 1) last (by omega); omega
theorem gp_absent (c : Int) (l : List Int) : ∀ (_ : c ∉ l) (m : List Int) (i last : Int), gp c (l ++ m) i last = gp c m (i + l.length) last := by
  induction l with
  | nil => intro _ m i last; simp
  | cons x l ih =>
    intro h m i last
    rw [List.cons_append, gp, if_neg (fun e => h (by simp [e])), ih (fun e => h (by simp [e]))]
    simp only [List.length_cons]
    congr 1
    omega
theorem gp_none (c : Int) (l : List Int) (h : c ∉ l) (i last : Int) : gp c l i last = i + l.length - last := by
  have := gp_absent c l h [] i last
  rw [List.append_nil] at this
  rw [this]; rfl
theorem gp_max (c x : Int) (l : List Int) (i last w : Int) : gp c (x :: l) i last ≤ w ↔ if x = c then i - last ≤ w ∧ gp c l (i + 1) i ≤ w else gp c l (i + 1) last ≤ w := by
  rw [gp]
  split
  · omega
  · exact Iff.rfl

theorem pigeon : ∀ (n : Nat) (l : List Int), (∀ c : Int, 0 ≤ c → c < n → c ∈ l) → n ≤ l.length := by
  intro n
  induction n with
  | zero => intro l _; omega
  | succ n ih =>
    intro l h
    have h1 := ih (l.filter fun x => x != (n : Int)) (fun c h0 h1 => by
      rw [List.mem_filter]
      exact ⟨h c h0 (by omega), by simp; omega⟩)
    have h2 : (l.filter fun x => x != (n : Int)).length < l.length :=
      List.length_filter_lt_length_iff_exists.2 ⟨(n : Int), h n (by omega) (by omega), by simp⟩
    omega

/-- With so many picks a script is fair, the cores below n. -/
def Fr (l : List Int) (n w : Int) : Prop := 1 ≤ w ∧ (w ≤ l.length → ∀ c : Int, 0 ≤ c → c < n → gp c l 0 (-1) ≤ w)
/-- What a window is. -/
def IsWin (l : List Int) (n x : Int) : Prop := 1 ≤ x ∧ x ≤ l.length + 1 ∧ ∀ w : Int, 1 ≤ w → (Fr l n w ↔ x ≤ w)
theorem win_one {l : List Int} {n x y : Int} (hx : IsWin l n x) (hy : IsWin l n y) : x = y := by
  have h1 := (hx.2.2 y hy.1).1 ((hy.2.2 y hy.1).2 (Int.le_refl _))
  have h2 := (hy.2.2 x hx.1).1 ((hx.2.2 x hx.1).2 (Int.le_refl _))
  omega
theorem win_few (l : List Int) (n : Int) (h : n < 1) : IsWin l n 1 :=
  ⟨by omega, by omega, fun w hw => ⟨fun _ => hw, fun _ => ⟨hw, fun _ c h0 h1 => by omega⟩⟩⟩
theorem win_many (l : List Int) (n : Int) (h : l.length < n) : IsWin l n (l.length + 1) := by
  refine ⟨by omega, by omega, fun w hw => ⟨fun hf => ?_, fun hx => ⟨hw, fun h2 => by omega⟩⟩⟩
  by_cases h2 : w ≤ l.length
  · exfalso
    have hall := hf.2 h2
    have := pigeon n.toNat l (fun c h0 h1 => by
      by_cases hm : c ∈ l
      · exact hm
      · have h3 := hall c h0 (by omega)
        rw [gp_none c l hm] at h3
        omega)
    omega
  · omega
theorem win_mid (l : List Int) (n x : Int) (h : ∀ w, x ≤ w ↔ 1 ≤ w ∧ ∀ c : Int, 0 ≤ c → c < n → gp c l 0 (-1) ≤ w) : IsWin l n x := by
  have h1 := (h x).1 (Int.le_refl _)
  have h2 : x ≤ l.length + 1 := (h _).2 ⟨by omega, fun c _ _ => by have := gp_le c l 0 (-1) (by omega); omega⟩
  refine ⟨h1.1, h2, fun w hw => ⟨fun hf => ?_, fun hx => ⟨hw, fun _ => ((h w).1 hx).2⟩⟩⟩
  by_cases h3 : w ≤ l.length
  · exact (h w).2 ⟨hw, hf.2 h3⟩
  · omega

/-! ### rounds -/
def rnd (n : Nat) : List Int := (List.range n).map fun j : Nat => (j : Int)
def rnds (n : Nat) : Nat → List Int
  | 0 => []
  | k + 1 => rnd n ++ rnds n k
theorem rnd_len (n : Nat) : (rnd n).length = n := by simp [rnd]
theorem rnds_len (n k : Nat) : (rnds n k).length = n * k := by
  induction k with
  | zero => rfl
  | succ k ih => rw [rnds, List.length_append, rnd_len, ih, Nat.mul_succ]; omega
theorem rnd_split (n c : Nat) (h : c < n) : ∃ a b, rnd n = a ++ (c : Int) :: b ∧ (c : Int) ∉ a ∧ (c : Int) ∉ b ∧ a.length = c ∧ b.length = n - 1 - c := by
  refine ⟨(List.range c).map fun j : Nat => (j : Int), (List.range' (c + 1) (n - 1 - c)).map fun j : Nat => (j : Int), ?_, ?_, ?_, ?_, ?_⟩
  · have e : List.range n = List.range c ++ c :: List.range' (c + 1) (n - 1 - c) := by
      rw [List.range_eq_range', List.range_eq_range', show n = c + (1 + (n - 1 - c)) by omega, ← List.range'_append_1, Nat.add_comm 1 _, List.range'_succ]
      simp
    unfold rnd
    rw [e]
    simp
  · simp; omega
  · simp; omega
  · simp
  · simp
theorem gp_round (n c : Nat) (h : c < n) (m : List Int) (i last : Int) : gp c (rnd n ++ m) i last = max (i + c - last) (gp c m (i + n) (i + c)) := by
  obtain ⟨a, b, e, ha, hb, la, lb⟩ := rnd_split n c h
  rw [e, List.append_assoc, List.cons_append, gp_absent _ a ha, gp, if_pos rfl, gp_absent _ b hb, la, lb]
  congr 2
  omega
theorem gp_rounds (n c : Nat) (h : c < n) (k : Nat) : ∀ i : Int, gp c (rnds n k) i (i - n + c) = if k = 0 then (n : Int) - c else n := by
  induction k with
  | zero => intro i; show i - (i - n + c) = _; rw [if_pos rfl]; omega
  | succ k ih =>
    intro i
    have h2 := ih (i + n)
    rw [show i + (n : Int) - n + c = i + c by omega] at h2
    rw [rnds, gp_round n c h, h2, if_neg (by omega : ¬ k + 1 = 0)]
    split <;> omega
theorem gp_all (n c : Nat) (h : c < n) (k : Nat) (hk : 2 ≤ k) : gp c (rnds n k) 0 (-1) = n := by
  obtain ⟨k, rfl⟩ : ∃ m, k = m + 2 := ⟨k - 2, by omega⟩
  have h2 := gp_rounds n c h (k + 1) (n : Int)
  rw [show (n : Int) - n + c = c by omega, if_neg (by omega)] at h2
  rw [rnds, gp_round n c h, show (0 : Int) + n = n by omega, show (0 : Int) + c = c by omega, h2]
  omega
theorem win_rounds (n k : Nat) (hn : 1 ≤ n) (hk : 2 ≤ k) : IsWin (rnds n k) n n := by
  have hl := rnds_len n k
  have h2 : n * 2 ≤ n * k := Nat.mul_le_mul_left n hk
  refine win_mid _ _ _ fun w => ?_
  constructor
  · intro hw
    refine ⟨by omega, fun c h0 h1 => ?_⟩
    obtain ⟨c, rfl⟩ := Int.eq_ofNat_of_zero_le h0
    rw [gp_all n c (by omega) k hk]
    exact hw
  · rintro ⟨_, h⟩
    have := h ((0 : Nat) : Int) (by omega) (by omega)
    rw [gp_all n 0 (by omega) k hk] at this
    exact this
/-- The rounds, as remainders. -/
theorem rnds_get (n : Nat) (k : Nat) : ∀ i, i < n * k → (rnds n k)[i]? = some (((i % n : Nat)) : Int) := by
  induction k with
  | zero => intro i hi; omega
  | succ k ih =>
    intro i hi
    rw [rnds]
    by_cases h : i < n
    · rw [List.getElem?_append_left (by rw [rnd_len]; exact h), Nat.mod_eq_of_lt h]
      unfold rnd
      rw [List.getElem?_map, List.getElem?_range h]
      rfl
    · rw [List.getElem?_append_right (by rw [rnd_len]; omega), rnd_len, ih (i - n) (by rw [Nat.mul_succ] at hi; omega)]
      rw [Nat.mod_eq_sub_mod (by omega : n ≤ i)]
theorem mem_rnds (n k : Nat) (c : Int) : c ∈ rnds n k → 0 ≤ c ∧ c < n := by
  induction k with
  | zero => intro h; simp [rnds] at h
  | succ k ih =>
    intro h
    rw [rnds, List.mem_append] at h
    rcases h with h | h
    · unfold rnd at h
      rw [List.mem_map] at h
      obtain ⟨j, hj, rfl⟩ := h
      rw [List.mem_range] at hj
      omega
    · exact ih h
theorem count_rnd (n c : Nat) (h : c < n) : (rnd n).count (c : Int) = 1 := by
  obtain ⟨a, b, e, ha, hb, _, _⟩ := rnd_split n c h
  rw [e, List.count_append, List.count_cons_self, List.count_eq_zero_of_not_mem ha, List.count_eq_zero_of_not_mem hb]
theorem count_rnds (n c k : Nat) (h : c < n) : (rnds n k).count (c : Int) = k := by
  induction k with
  | zero => rfl
  | succ k ih => rw [rnds, List.count_append, count_rnd n c h, ih]; omega
/-- The cores' picks are all picks. -/
theorem count_sum (n : Nat) (l : List Int) : (∀ c ∈ l, 0 ≤ c ∧ c < n) → ((List.range n).map fun j : Nat => l.count (j : Int)).sum = l.length := by
  induction l with
  | nil => intro _; simp; induction List.range n with
    | nil => rfl
    | cons a t ih => simpa using ih
  | cons x l ih =>
    intro h
    have hx := h x (by simp)
    obtain ⟨x, rfl⟩ := Int.eq_ofNat_of_zero_le hx.1
    have key : ∀ m : List Nat, (m.map fun j : Nat => ((x : Int) :: l).count (j : Int)).sum = (m.map fun j : Nat => l.count (j : Int)).sum + m.count x := by
      intro m
      induction m with
      | nil => rfl
      | cons a t iht =>
        rw [List.map_cons, List.map_cons, List.sum_cons, List.sum_cons, iht, List.count_cons, List.count_cons]
        by_cases e : a = x
        · subst e; simp; omega
        · have e2 : ¬ ((x : Int) = (a : Int)) := by omega
          simp [e, beq_eq_false_iff_ne.2 e2]; omega
    rw [key, ih (fun c hc => h c (by simp [hc])), List.length_cons]
    congr 1
    have h2 : x < n := by omega
    have hm : x ∈ List.range n := List.mem_range.2 h2
    rw [List.Nodup.count List.nodup_range, if_pos hm]
end Go.Proofs.YthifdmelanbgmaaDoor.Plain
