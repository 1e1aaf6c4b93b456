/- From the listed table of math/bits to its cells; and a world in which it lies so. -/
import Derived.Test.YthmedgennlcigaaDoorRows
import Derived.Test.YthmedgennlcigaaDoorGiven
import Derived.ProofKit
import Derived.LaidLaws
import Derived.ChangeSame
import Derived.ChangeVars
namespace Go.Proofs.YthmedgennlcigaaDoor.Given
open Go Go.RowKit Go.Proofs Go.Shelf

theorem mapM_map {α β : Type} (f : α → Option β) : ∀ (l : List α) (xs : List β), l.mapM f = some xs → l.map f = xs.map some := by
  intro l
  induction l with
  | nil => intro xs h; simp at h; subst h; rfl
  | cons a l ih =>
    intro xs h
    simp only [List.mapM_cons, Option.bind_eq_bind, Option.bind_eq_some_iff, Option.pure_def, Option.some.injEq] at h
    obtain ⟨y, hy, ys, hys, rfl⟩ := h
    simp [hy, ih ys hys]

theorem int_of_trod1 {H : Type} {enc : TypeId × Value → H} {P : Program} {w : World} {base : Nat} {sp : Nat → Bool} {held : Bool} {fuel : Nat} {t : TypeId} {k : IntKind} {c : Value} {y : DataW H × List MemPlace}
    (ht : P.underlying t = some (.int k)) (h : DataW.trod enc P w base sp held fuel t [c] = some y) : ∃ n, c = .int k n ∧ y = (.lit (.int k n), []) := by
  cases fuel with
  | zero => simp [DataW.trod] at h
  | succ fuel =>
    cases c <;> simp [DataW.trod, ht] at h
    rename_i k' n
    obtain ⟨⟨rfl, _⟩, rfl⟩ := h
    exact ⟨n, rfl, rfl⟩

theorem arr_ints {H : Type} {enc : TypeId × Value → H} {P : Program} {w : World} {base : Nat} {sp : Nat → Bool} {held : Bool} {fuel : Nat} {t e : TypeId} {n : Nat} {k : IntKind} {cs : List Value} {ds : List (DataW H)} {p : List MemPlace}
    (ht : P.underlying t = some (.array n e)) (he : P.underlying e = some (.int k)) (hce : P.cellsOf e = 1) (hct : P.cellsOf t = n)
    (h : DataW.trod enc P w base sp held fuel t cs = some (.agg ds, p)) : ∀ i, i < n → ∃ z, cs[i]? = some (.int k z) ∧ ds[i]? = some (.lit (.int k z)) := by
  cases fuel with
  | zero => simp [DataW.trod] at h
  | succ fuel =>
    simp only [DataW.trod, ht, hce, hct] at h
    split at h
    · rename_i hl
      obtain ⟨xs, hx, hq⟩ := Option.map_eq_some_iff.1 h
      simp only [Prod.mk.injEq, DataW.agg.injEq] at hq
      obtain ⟨rfl, _⟩ := hq
      have hm := mapM_map _ _ _ hx
      intro i hi
      have hi' := congrArg (fun l => l[i]?) hm
      simp only [List.getElem?_map, List.getElem?_range hi, Option.map_some, Nat.mul_one] at hi'
      cases hxi : xs[i]? with
      | none => rw [hxi] at hi'; simp at hi'
      | some y =>
        rw [hxi, Option.map_some, Option.some.injEq] at hi'
        have hil : i < cs.length := by omega
        have hdt : (cs.drop i).take 1 = [cs[i]] := by rw [List.drop_eq_getElem_cons hil]; rfl
        rw [hdt] at hi'
        obtain ⟨z, hz, rfl⟩ := int_of_trod1 he hi'
        exact ⟨z, by rw [List.getElem?_eq_getElem hil, hz], by rw [List.getElem?_map, hxi]; rfl⟩
    · cases h

theorem table_eq {H : Type} : (Rows.laid_math_bits_deBruijn64tab : DataW H) = .agg (Lib.deBruijn64tab.map fun x => .lit (.int .u8 ((x : Nat) : Int))) := rfl

theorem GL_of_laid {W : World} (h : laidMet Tryd.prog Rows.bitsFieldsRow.laid W) : GL W := by
  obtain ⟨ps, ⟨g, t, cs, fuel, p, q, hg, ht, hvar, hd, _, _⟩, _⟩ := h
  have e0 : some g = some 0 := hg.symm.trans (by kernel_rfl)
  obtain rfl := Option.some.inj e0
  have e1 : some t = some 56 := ht.symm.trans (by kernel_rfl)
  obtain rfl := Option.some.inj e1
  rw [table_eq] at hd
  have hc := arr_ints (n := 64) (k := .u8) Tryd.underlying56 Tryd.underlying5 (by kernel_rfl) (by kernel_rfl) hd
  intro j hj
  obtain ⟨z, h1, h2⟩ := hc j hj
  rw [World.var?_cell hg hvar j]
  rw [List.getElem?_map, List.getElem?_eq_getElem hj, Option.map_some, Option.some.injEq] at h2
  have h3 : ((Lib.deBruijn64tab[j] : Nat) : Int) = z := by injection h2 with h2; injection h2
  rw [← Array.getElem?_toList, h1, ← h3, List.getD_eq_getElem?_getD, List.getElem?_eq_getElem hj]
  rfl

def tabCells : Array Value := (Lib.deBruijn64tab.map fun x => Value.int .u8 ((x : Nat) : Int)).toArray
noncomputable def laidWorld (os : Os) : World :=
  let w0 := World.holding Tryd.prog os ⟨#[], #[], []⟩
  { w0 with heap := w0.heap.modify 0 fun
      | .cells _ t frozen => .cells tabCells t frozen
      | o => o }
set_option maxRecDepth 1000000 in
theorem laidWorld_met (os : Os) (args : Array Value) : laidMet Tryd.prog Rows.bitsFieldsRow.laid ((laidWorld os).forCall (fun _ _ => 0) ⟨#[], args, []⟩).memory :=
  laidMet_of_run' 8 (by kernel_rfl) (by kernel_rfl)
end Go.Proofs.YthmedgennlcigaaDoor.Given
