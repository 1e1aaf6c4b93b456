/- What came in as data, told by kinds: numbers, texts, structs, rows of such, rows of rows. -/
import Derived.DataElems
import Derived.Test.YtkdebaopfabbbaaWWords
namespace Go.Proofs.Ytkdebaopfabbbaa.Opens
open Go Go.RowKit Go.Proofs.YtkdebaopfabbbaaW.PrintWords

theorem mapM_map {α β : Type} (f : α → Option β) : ∀ (l : List α) (xs : List β), l.mapM f = some xs → l.map f = xs.map some := by
  intro l
  induction l with
  | nil => intro xs h; simp at h; subst h; rfl
  | cons a l ih =>
    intro xs h
    simp only [List.mapM_cons, Option.bind_eq_bind, Option.bind_eq_some_iff, Option.pure_def, Option.some.injEq] at h
    obtain ⟨y, hy, ys, hys, rfl⟩ := h
    simp [hy, ih ys hys]
theorem mapM_range {β : Type} {f : Nat → Option β} {n : Nat} {xs : List β} (h : (List.range n).mapM f = some xs) : xs.length = n ∧ ∀ i, i < n → ∃ y, xs[i]? = some y ∧ f i = some y := by
  have hm := mapM_map _ _ _ h
  have hl : xs.length = n := by have := congrArg List.length hm; simp at this; exact this.symm
  refine ⟨hl, fun i hi => ?_⟩
  have hi' := congrArg (fun l => l[i]?) hm
  simp only [List.getElem?_map, List.getElem?_range hi, Option.map_some] at hi'
  cases hx : xs[i]? with
  | none => rw [hx] at hi'; simp at hi'
  | some y =>
    rw [hx, Option.map_some, Option.some.injEq] at hi'
    exact ⟨y, rfl, hi'⟩

/-- A value of type t that reads as data is told by d, in the world as it is; wf is what its numbers' ranges say. -/
def Opens {α : Type} (P : Program) (t : TypeId) (d : Kd α) (wf : α → Prop) : Prop :=
  ∀ {H : Type} (enc : TypeId × Value → H) (w : World) (base : Nat) (sp : Nat → Bool) (held : Bool) (fuel : Nat) (cs : List Value) (y : DataW H × List MemPlace),
    DataW.trod enc P w base sp held fuel t cs = some y → ∃ x, d.K w x cs ∧ wf x

variable {P : Program}

theorem opens_int {t : TypeId} {k : IntKind} (ht : P.underlying t = some (.int k)) : Opens P t (Kd.int k) (fun n => (Lit.int k n).wf = true) := by
  intro H enc w base sp held fuel cs y h
  cases fuel with
  | zero => simp [DataW.trod] at h
  | succ fuel =>
    rcases cs with _ | ⟨c, _ | ⟨c2, cs⟩⟩
    · simp [DataW.trod, ht] at h
    · cases c <;> simp [DataW.trod, ht] at h
      rename_i k' n
      obtain ⟨⟨rfl, hw⟩, rfl⟩ := h
      exact ⟨n, rfl, hw⟩
    · simp [DataW.trod, ht] at h
theorem opens_bool {t : TypeId} (ht : P.underlying t = some .bool) : Opens P t Kd.bool (fun _ => True) := by
  intro H enc w base sp held fuel cs y h
  cases fuel with
  | zero => simp [DataW.trod] at h
  | succ fuel =>
    rcases cs with _ | ⟨c, _ | ⟨c2, cs⟩⟩
    · simp [DataW.trod, ht] at h
    · cases c <;> simp [DataW.trod, ht] at h
      rename_i b
      exact ⟨b, rfl, trivial⟩
    · simp [DataW.trod, ht] at h
theorem opens_string {t : TypeId} (ht : P.underlying t = some .string) : Opens P t Kd.string (fun s => s.size ≤ maxLen) := by
  intro H enc w base sp held fuel cs y h
  cases fuel with
  | zero => simp [DataW.trod] at h
  | succ fuel =>
    rcases cs with _ | ⟨c, _ | ⟨c2, cs⟩⟩
    · simp [DataW.trod, ht] at h
    · cases c <;> simp [DataW.trod, ht] at h
      rename_i s
      exact ⟨s, rfl, h.1⟩
    · simp [DataW.trod, ht] at h

theorem cells_get {w : World} {base : Nat} {a : Addr} {n : Nat} {cs : List Value} (h : w.cells? base a n = some cs) : cs.length = n ∧ ∀ i u, cs[i]? = some u → w.cell? (a.add i) = some u := by
  unfold World.cells? at h
  split at h
  · obtain ⟨hl, hg⟩ := mapM_range h
    refine ⟨hl, fun i u hu => ?_⟩
    have hi : i < n := by rw [← hl]; exact (List.getElem?_eq_some_iff.1 hu).1
    obtain ⟨y, h1, h2⟩ := hg i hi
    rw [hu, Option.some.injEq] at h1
    rw [h2, h1]
  · cases h

theorem opens_slice {α : Type} {t e : TypeId} {d : Kd α} {wf : α → Prop} (ht : P.underlying t = some (.slice e)) (hs : P.cellsOf e = d.sz) (he : Opens P e d wf) :
    Opens P t (Kd.slice e d) (fun xs => ∀ x ∈ xs, wf x) := by
  intro H enc w base sp held fuel cs y h
  cases fuel with
  | zero => simp [DataW.trod] at h
  | succ fuel =>
    have nil : ∃ x : List α, (Kd.slice e d).K w x [.slice none 0 0] ∧ ∀ z ∈ x, wf z := ⟨[], ⟨none, 0, rfl, Nat.le_refl _, rfl, by simp, fun h => absurd h (Nat.lt_irrefl 0)⟩, fun z hz => by cases hz⟩
    rcases cs with _ | ⟨c, _ | ⟨c2, cs⟩⟩
    · simp [DataW.trod, ht] at h
    · cases c <;> simp only [DataW.trod, ht] at h
      all_goals try (cases h; done)
      rename_i ad len cap
      cases ad with
      | none =>
        cases len with
        | zero =>
          cases cap with
          | zero => exact nil
          | succ _ => simp at h
        | succ _ => simp at h
      | some a =>
        simp only [hs] at h
        split at h
        · rename_i hb
          obtain ⟨elems, hel, h2⟩ := Option.bind_eq_some_iff.1 h
          obtain ⟨hlen, hg⟩ := mapM_range hel
          have each : ∀ i : Fin len, ∃ x : α, ∃ c : List Value, c.length = d.sz ∧ d.K w x c ∧ wf x ∧ ∀ j u, c[j]? = some u → w.cell? ((a.add (i.val * d.sz)).add j) = some u := fun i => by
            obtain ⟨y, _, hy⟩ := hg i.val i.isLt
            obtain ⟨c, hc, hd⟩ := Option.bind_eq_some_iff.1 hy
            obtain ⟨x, hx, hw⟩ := he enc w base sp held fuel c y hd
            obtain ⟨h3, h4⟩ := cells_get hc
            exact ⟨x, c, h3, hx, hw, h4⟩
          obtain ⟨f, hf⟩ := Classical.axiomOfChoice each
          refine ⟨List.ofFn f, ⟨some a, cap, by rw [List.length_ofFn], by rw [List.length_ofFn]; exact hb.2.1, rfl, ?_, fun _ => ⟨a, rfl, fun j p hp => ?_⟩⟩, fun x hx => ?_⟩
          · rw [List.length_ofFn]
            have := hb.2.1
            have := hb.2.2
            unfold maxLen at this
            omega
          · have hj : j < len := by have := (List.getElem?_eq_some_iff.1 hp).1; rwa [List.length_ofFn] at this
            obtain ⟨c, h3, h4, _, h5⟩ := hf ⟨j, hj⟩
            rw [List.getElem?_ofFn, dif_pos hj, Option.some.injEq] at hp
            subst hp
            exact ⟨c, h3, h4, fun i u hu => by rw [← Addr.add_add]; exact h5 i u hu⟩
          · obtain ⟨i, rfl⟩ := List.mem_ofFn.1 hx
            obtain ⟨c, _, _, hw, _⟩ := hf i
            exact hw
        · cases h
    · simp [DataW.trod, ht] at h

/-- The fields from offset o on. -/
def OpensF {α : Type} (P : Program) (fs : List Field) (o total : Nat) (d : Kd α) (wf : α → Prop) : Prop :=
  ∀ {H : Type} (enc : TypeId × Value → H) (w : World) (base : Nat) (sp : Nat → Bool) (held : Bool) (fuel : Nat) (cs : List Value) (ys : List (DataW H × List MemPlace)), cs.length = total →
    (fs.mapM fun f => DataW.trod enc P w base sp held fuel f.type ((cs.drop f.offset).take (P.cellsOf f.type))) = some ys → ∃ x, d.K w x (cs.drop o) ∧ wf x
theorem opensF_last {α : Type} {f : Field} {o total : Nat} {d : Kd α} {wf : α → Prop} (hf : Opens P f.type d wf) (hn : P.cellsOf f.type = total - o) (ho : f.offset = o) : OpensF P [f] o total d wf := by
  intro H enc w base sp held fuel cs ys hl h
  simp only [List.mapM_cons, List.mapM_nil, Option.bind_eq_bind, Option.bind_eq_some_iff, Option.pure_def, Option.some.injEq] at h
  obtain ⟨y, hy, _⟩ := h
  rw [ho, hn, List.take_of_length_le (by rw [List.length_drop, hl]; exact Nat.le_refl _)] at hy
  exact hf enc w base sp held fuel _ y hy
theorem opensF_cons {α β : Type} {f : Field} {fs : List Field} {o o2 total : Nat} {d : Kd α} {d2 : Kd β} {wf : α → Prop} {wf2 : β → Prop} (hf : Opens P f.type d wf) (hn : P.cellsOf f.type = o2 - o) (ho : f.offset = o) (hle : o ≤ o2) (hr : OpensF P fs o2 total d2 wf2) :
    OpensF P (f :: fs) o total (Kd.pair d d2) (fun x => wf x.1 ∧ wf2 x.2) := by
  intro H enc w base sp held fuel cs ys hl h
  simp only [List.mapM_cons, Option.bind_eq_bind, Option.bind_eq_some_iff, Option.pure_def, Option.some.injEq] at h
  obtain ⟨y, hy, zs, hz, _⟩ := h
  rw [ho, hn] at hy
  obtain ⟨x, hx, hw⟩ := hf enc w base sp held fuel _ y hy
  obtain ⟨x2, hx2, hw2⟩ := hr enc w base sp held fuel cs zs hl hz
  refine ⟨(x, x2), ⟨(cs.drop o).take (o2 - o), cs.drop o2, ?_, hx, hx2⟩, hw, hw2⟩
  have := List.take_append_drop (o2 - o) (cs.drop o)
  rw [List.drop_drop, show o + (o2 - o) = o2 from by omega] at this
  exact this.symm
theorem opens_struct {α β : Type} {t : TypeId} {fs : Array Field} {total : Nat} {d : Kd β} {wf : β → Prop} (f : α → β) (g : β → α) (hfg : ∀ x, f (g x) = x) (ht : P.underlying t = some (.struct fs)) (hct : P.cellsOf t = total)
    (h : OpensF P fs.toList 0 total d wf) : Opens P t (Kd.iso d f) (fun x => wf (f x)) := by
  intro H enc w base sp held fuel cs y hy
  cases fuel with
  | zero => simp [DataW.trod] at hy
  | succ fuel =>
    simp only [DataW.trod, ht, hct] at hy
    split at hy
    · rename_i hl
      obtain ⟨ys, h1, _⟩ := Option.map_eq_some_iff.1 hy
      obtain ⟨x, hx, hw⟩ := h enc w base sp held fuel cs ys hl h1
      refine ⟨g x, ?_, by show wf (f (g x)); rw [hfg]; exact hw⟩
      show d.K w (f (g x)) cs
      rw [hfg]
      exact hx
    · cases hy
end Go.Proofs.Ytkdebaopfabbbaa.Opens
