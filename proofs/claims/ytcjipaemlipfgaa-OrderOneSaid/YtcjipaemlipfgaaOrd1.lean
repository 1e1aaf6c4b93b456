/- Keys in their order, plain: insertion of a key once; two lists that rise strictly and have the same members are one. -/
import Derived.Test.YtcjipaemlipfgaaPx0
namespace Go.Proofs.Ytcjipaemlipfgaa.Ord
open Go.Proofs.Ytcjipaemlipfgaa.P

/-- One key is ahead of another one. -/
def ltB (x y : S23) : Bool := decide (x.f0 < y.f0 ∨ x.f0 = y.f0 ∧ x.f1 < y.f1)
def eqB (x y : S23) : Bool := (x.f0 == y.f0) && (x.f1 == y.f1)
theorem eqB_iff {x y : S23} : eqB x y = true ↔ x = y := by
  cases x; cases y; simp [eqB]
theorem eqB_false {x y : S23} : eqB x y = false ↔ x ≠ y := by
  rw [ne_eq, ← eqB_iff, Bool.not_eq_true]
theorem ltB_irrefl (x : S23) : ltB x x = false := by simp [ltB]
theorem ltB_trans {x y z : S23} (h1 : ltB x y = true) (h2 : ltB y z = true) : ltB x z = true := by
  simp only [ltB, decide_eq_true_eq] at *; omega
theorem ltB_asymm {x y : S23} (h1 : ltB x y = true) : ltB y x = false := by
  simp only [ltB, decide_eq_true_eq, decide_eq_false_iff_not] at *; omega
theorem ltB_total {x y : S23} (h1 : ltB x y = false) (h2 : x ≠ y) : ltB y x = true := by
  cases x; cases y
  simp only [ltB, decide_eq_true_eq, decide_eq_false_iff_not, ne_eq, S23.mk.injEq] at *
  omega

/-- A key in its place, once. -/
def insK : List S23 → S23 → List S23
  | [], k => [k]
  | x :: l, k => if ltB x k = true then x :: insK l k else if eqB x k = true then x :: l else k :: x :: l
def sortU (l : List S23) : List S23 := l.foldl insK []
/-- A list that rises. -/
def Up (l : List S23) : Prop := l.Pairwise fun x y => ltB x y = true

theorem mem_insK (l : List S23) (k x : S23) : x ∈ insK l k ↔ x = k ∨ x ∈ l := by
  induction l with
  | nil => simp [insK]
  | cons y l ih =>
    unfold insK
    split
    · simp only [List.mem_cons, ih]
      constructor
      · rintro (h | h | h) <;> simp [h]
      · rintro (h | h | h) <;> simp [h]
    · split
      · rename_i he
        rw [eqB_iff] at he
        subst he
        simp only [List.mem_cons]
        constructor
        · intro h; exact .inr h
        · rintro (h | h)
          · exact .inl h
          · exact h
      · simp [List.mem_cons]
theorem up_insK (l : List S23) (k : S23) (h : Up l) : Up (insK l k) := by
  induction l with
  | nil => simp [insK, Up]
  | cons y l ih =>
    obtain ⟨h1, h2⟩ := List.pairwise_cons.1 h
    unfold insK
    split
    · rename_i hlt
      refine List.pairwise_cons.2 ⟨fun z hz => ?_, ih h2⟩
      rcases (mem_insK _ _ _).1 hz with rfl | hz
      · exact hlt
      · exact h1 z hz
    · rename_i hlt
      split
      · exact h
      · rename_i hne
        have hky : ltB k y = true := ltB_total (by simpa using hlt) (fun e => hne (eqB_iff.2 e))
        refine List.pairwise_cons.2 ⟨fun z hz => ?_, h⟩
        rcases List.mem_cons.1 hz with rfl | hz
        · exact hky
        · exact ltB_trans hky (h1 z hz)
theorem fold_up (l : List S23) : ∀ out, Up out → Up (l.foldl insK out) := by
  induction l with
  | nil => intro out h; exact h
  | cons x l ih => intro out h; exact ih _ (up_insK _ _ h)
theorem mem_fold (l : List S23) (x : S23) : ∀ out, x ∈ l.foldl insK out ↔ x ∈ out ∨ x ∈ l := by
  induction l with
  | nil => intro out; simp
  | cons y l ih =>
    intro out
    rw [List.foldl_cons, ih, mem_insK, List.mem_cons]
    constructor
    · rintro ((h | h) | h)
      · exact .inr (.inl h)
      · exact .inl h
      · exact .inr (.inr h)
    · rintro (h | h | h)
      · exact .inl (.inr h)
      · exact .inl (.inl h)
      · exact .inr h
theorem up_sortU (l : List S23) : Up (sortU l) := fold_up l [] List.Pairwise.nil
theorem mem_sortU (l : List S23) (x : S23) : x ∈ sortU l ↔ x ∈ l := by
  rw [sortU, mem_fold]; simp
/-- Two lists that rise and have the same members are one. -/
theorem up_unique : ∀ (a b : List S23), Up a → Up b → (∀ x, x ∈ a ↔ x ∈ b) → a = b := by
  intro a
  induction a with
  | nil =>
    intro b _ _ h
    cases b with
    | nil => rfl
    | cons y b => have := (h y).2 (List.mem_cons_self ..); simp at this
  | cons x a ih =>
    intro b ha hb h
    cases b with
    | nil => have := (h x).1 (List.mem_cons_self ..); simp at this
    | cons y b =>
      obtain ⟨ha1, ha2⟩ := List.pairwise_cons.1 ha
      obtain ⟨hb1, hb2⟩ := List.pairwise_cons.1 hb
      have hxy : x = y := by
        rcases List.mem_cons.1 ((h x).1 (List.mem_cons_self ..)) with e | e
        · exact e
        · rcases List.mem_cons.1 ((h y).2 (List.mem_cons_self ..)) with f | f
          · exact f.symm
          · have h1 := hb1 x e
            have h2 := ha1 y f
            rw [ltB_asymm h1] at h2
            cases h2
      subst hxy
      congr 1
      refine ih b ha2 hb2 fun z => ?_
      constructor
      · intro hz
        rcases List.mem_cons.1 ((h z).1 (List.mem_cons_of_mem _ hz)) with e | e
        · subst e
          have := ha1 z hz
          rw [ltB_irrefl] at this
          cases this
        · exact e
      · intro hz
        rcases List.mem_cons.1 ((h z).2 (List.mem_cons_of_mem _ hz)) with e | e
        · subst e
          have := hb1 z hz
          rw [ltB_irrefl] at this
          cases this
        · exact e

/-- What is told of a list whose neighbours are unlike: a key is laid behind a list unless it is its last one. -/
def pushK (out : List S23) (x : S23) : List S23 := if out.length = 0 then out ++ [x] else if eqB (rd_T23 out ((out.length : Int) - 1)) x = true then out else out ++ [x]
theorem rd_last (out : List S23) (x : S23) : rd_T23 (out ++ [x]) (((out ++ [x]).length : Int) - 1) = x := by
  unfold rd_T23
  have : (((out ++ [x]).length : Int) - 1).toNat = out.length := by simp
  rw [this, List.getD_eq_getElem?_getD, List.getElem?_append_right (Nat.le_refl _)]
  simp
theorem push_snoc (out : List S23) (x y : S23) : pushK (out ++ [x]) y = if eqB x y = true then out ++ [x] else out ++ [x] ++ [y] := by
  unfold pushK
  rw [if_neg (by simp), rd_last]
/-- A sorted list, each key once: it rises, with the same members. -/
theorem push_fold (l : List S23) : ∀ out x, Up (out ++ [x]) → (x :: l).Pairwise (fun a b => ltB b a = false) →
    Up (l.foldl pushK (out ++ [x])) ∧ ∀ z, z ∈ l.foldl pushK (out ++ [x]) ↔ z ∈ out ++ [x] ∨ z ∈ l := by
  induction l with
  | nil => intro out x h _; exact ⟨h, fun z => by simp⟩
  | cons y l ih =>
    intro out x h hs
    obtain ⟨h1, h2⟩ := List.pairwise_cons.1 hs
    rw [List.foldl_cons, push_snoc]
    by_cases he : eqB x y = true
    · rw [if_pos he]
      rw [eqB_iff] at he
      subst he
      obtain ⟨h3, h4⟩ := ih out x h h2
      refine ⟨h3, fun z => ?_⟩
      rw [h4]
      simp only [List.mem_append, List.mem_cons, List.not_mem_nil, or_false]
      constructor
      · rintro ((h | h) | h) <;> simp [h]
      · rintro ((h | h) | h | h) <;> simp [h]
    · rw [if_neg he]
      have hxy : ltB x y = true := ltB_total (h1 y (List.mem_cons_self ..)) (fun e => he (eqB_iff.2 e.symm))
      have hup : Up (out ++ [x] ++ [y]) := by
        refine List.pairwise_append.2 ⟨h, List.pairwise_singleton .., fun a ha b hb => ?_⟩
        rw [List.mem_singleton] at hb
        subst hb
        rcases List.mem_append.1 ha with ha | ha
        · exact ltB_trans ((List.pairwise_append.1 h).2.2 a ha x (List.mem_singleton_self x)) hxy
        · rw [List.mem_singleton] at ha
          subst ha
          exact hxy
      obtain ⟨h3, h4⟩ := ih (out ++ [x]) y hup h2
      refine ⟨h3, fun z => ?_⟩
      rw [h4]
      simp only [List.mem_append, List.mem_cons, List.not_mem_nil, or_false]
      constructor
      · rintro (((h | h) | h) | h) <;> simp [h]
      · rintro ((h | h) | h | h) <;> simp [h]
theorem push_sorted (l m : List S23) (hs : m.Pairwise (fun a b => ltB b a = false)) (hm : ∀ z, z ∈ m ↔ z ∈ l) : m.foldl pushK [] = sortU l := by
  cases m with
  | nil =>
    have : l = [] := by
      cases l with
      | nil => rfl
      | cons a l => have := (hm a).2 (List.mem_cons_self ..); simp at this
    subst this
    rfl
  | cons x m =>
    have e : pushK [] x = [] ++ [x] := rfl
    rw [List.foldl_cons, e]
    obtain ⟨h1, h2⟩ := push_fold m [] x (by simp [Up]) hs
    refine up_unique _ _ h1 (up_sortU l) fun z => ?_
    rw [h2, mem_sortU, ← hm]
    simp
theorem length_insK (l : List S23) (k : S23) : (insK l k).length ≤ l.length + 1 := by
  induction l with
  | nil => simp [insK]
  | cons y l ih =>
    unfold insK
    split
    · simp only [List.length_cons]; omega
    · split <;> simp
theorem length_fold (l : List S23) : ∀ out, (l.foldl insK out).length ≤ out.length + l.length := by
  induction l with
  | nil => intro out; simp
  | cons y l ih =>
    intro out
    have h1 := ih (insK out y)
    have h2 := length_insK out y
    simp only [List.foldl_cons, List.length_cons] at *
    omega
theorem length_sortU (l : List S23) : (sortU l).length ≤ l.length := by
  have := length_fold l []
  simpa [sortU] using this
end Go.Proofs.Ytcjipaemlipfgaa.Ord
