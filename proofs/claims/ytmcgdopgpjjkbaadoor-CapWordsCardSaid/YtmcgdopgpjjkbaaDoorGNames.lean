/- cap.Names at this program: what the call answers (arrays are compared). -/
import Derived.Shelf.SlSortCmp.QuietGrown
import Derived.Test.YtmcgdopgpjjkbaaDoorGCap
import Derived.Deep.QuietTactic
import Derived.BigQuiet
import Derived.ChangeKeysEq
import Derived.Lib.Hide
namespace Go.Proofs.YtmcgdopgpjjkbaaDoor.Given
open Go Go.RowKit Go.Proofs Go.Proofs.YtmcgdopgpjjkbaaDoorW.PrintWords Go.Proofs.YtmcgdopgpjjkbaaDoorW.PrintLast Go.Proofs.YtmcgdopgpjjkbaaDoorW.PrintMore Go.Proofs.YtmcgdopgpjjkbaaDoor.P Go.Sort
set_option linter.unusedVariables false
set_option linter.unusedSimpArgs false
attribute [local go_sem high] capEq

theorem grow_alloc (w : World) (os : Array Obj) (o : Obj) : (grow w os).alloc o = grow w (os.push o) := by
  rw [alloc_eq_grow, grow_grow, Array.append_singleton]
theorem grow_start (w : World) : w = grow (w.drewN 0) #[] := by rw [grow_empty]; rfl
set_option maxHeartbeats 400000 in
theorem named_calls (t r b o g : Int) (w : World) : Calls Tryd.prog 43 #[.agg #[.int .i64 t, .int .i64 r, .int .i64 b, .int .i64 o, .int .i64 g]] w fun e w' => e = .returned (.agg #[.int .i64 t, .int .i64 o, .int .i64 g]) ∧ ∃ q os, w' = grow (w.drewN q) os := by
  go_enter Tryd.func43, Tryd.ntmps43
  go_wp2
  refine bodyPost_ret (v := .agg #[.int .i64 t, .int .i64 o, .int .i64 g]) ?_ rfl ⟨rfl, ?_⟩
  · have hres : Tryd.f43.results = #[.cell 2 64] := rfl
    simp only [results, hres]
    go_simp
  · refine ⟨0, #[.cells #[.int .i64 t, .int .i64 r, .int .i64 b, .int .i64 o, .int .i64 g] 23 (0, 0), .cells #[.int .i64 t, .int .i64 o, .int .i64 g] 64 (0, 0)], ?_⟩
    rw [alloc_eq_grow w, grow_alloc]
    rfl
/-- Do two name one object? -/
def namesB (t o g t' o' g' : Int) : Bool := (t == t') && ((o == o') && (g == g'))
theorem eqi_cons {P : Program} {w : World} {d : Nat} {e : TypeId} {c : Nat} {xs ys : Array Value} {i : Nat} {is : List Nat} {a b : Value} {r s : Bool} (ha : (part e xs (i * c)).run P w = .ok a w) (hb : (part e ys (i * c)).run P w = .ok b w) (he : (Op.equalIn d e a b).run P w = .ok r w) (hr : (Op.eqItems d e c xs ys is).run P w = .ok s w) : (Op.eqItems d e c xs ys (i :: is)).run P w = .ok (r && s) w := by
  simp only [Op.eqItems, Sem.run_bind, ha, hb, he, Result.andThen_ok]
  cases r
  · simp
  · simpa using hr
theorem eqi_nil {P : Program} {w : World} {d : Nat} {e : TypeId} {c : Nat} {xs ys : Array Value} : (Op.eqItems d e c xs ys []).run P w = .ok true w := by simp [Op.eqItems]
theorem namedEq (d : Nat) (w : World) (x0 y0 : Int) (x1 y1 : Int) (x2 y2 : Int) :
    (Op.equalIn (d + 2) 64 (.agg #[.int .i64 x0, .int .i64 x1, .int .i64 x2]) (.agg #[.int .i64 y0, .int .i64 y1, .int .i64 y2])).run Tryd.prog w = .ok (namesB x0 x1 x2 y0 y1 y2) w := by
  obtain ⟨i, hi⟩ : ∃ i, Tryd.prog.info? 3 = some i := Option.isSome_iff_exists.1 (by kernel_rfl)
  rw [run_equalIn_array w (d + 1) _ _ Tryd.underlying64 hi]
  have hc : Tryd.prog.cellsOf 3 = 1 := by kernel_rfl
  rw [hc]
  have e3 : List.range 3 = [0, 1, 2] := rfl
  rw [e3]
  have h := eqi_cons (P := Tryd.prog) (w := w) (d := d + 1) (e := 3) (c := 1) (xs := #[.int .i64 x0, .int .i64 x1, .int .i64 x2]) (ys := #[.int .i64 y0, .int .i64 y1, .int .i64 y2]) (i := 0) (is := [1, 2]) (a := .int .i64 x0) (b := .int .i64 y0) (r := x0 == y0) (by first | (go_simp; done) | (go_simp; rfl)) (by first | (go_simp; done) | (go_simp; rfl)) (by go_simp)
    (eqi_cons (i := 1) (is := [2]) (a := .int .i64 x1) (b := .int .i64 y1) (r := x1 == y1) (by first | (go_simp; done) | (go_simp; rfl)) (by first | (go_simp; done) | (go_simp; rfl)) (by go_simp) (eqi_cons (i := 2) (is := []) (a := .int .i64 x2) (b := .int .i64 y2) (r := x2 == y2) (by first | (go_simp; done) | (go_simp; rfl)) (by first | (go_simp; done) | (go_simp; rfl)) (by go_simp) eqi_nil))
  rw [Bool.and_true] at h
  exact h
attribute [local go_sem high] namedEq
set_option maxHeartbeats 1000000 in
theorem names_calls (t r b o g t' r' b' o' g' : Int) (w : World) (h1 : capZero t r b o g = false) (h2 : capZero t' r' b' o' g' = false) : Calls Tryd.prog 25 #[.agg #[.int .i64 t, .int .i64 r, .int .i64 b, .int .i64 o, .int .i64 g], .agg #[.int .i64 t', .int .i64 r', .int .i64 b', .int .i64 o', .int .i64 g']] w fun e w' =>
    e = .returned (.bool (namesB t o g t' o' g')) ∧ Below w.heap.size w w' := by
  have hu := Tryd.underlying23
  have h1' : ((t == 0) && ((r == 0) && ((b == 0) && ((o == 0) && (g == 0))))) = false := h1
  have h2' : ((t' == 0) && ((r' == 0) && ((b' == 0) && ((o' == 0) && (g' == 0))))) = false := h2
  clear h1 h2
  go_enter Tryd.func25, Tryd.ntmps25
  go_wp2
  obtain ⟨W, hW⟩ : ∃ W, W = (w.alloc (.cells #[.int .i64 t, .int .i64 r, .int .i64 b, .int .i64 o, .int .i64 g] 23 (0, 0))).alloc (.cells #[.int .i64 t', .int .i64 r', .int .i64 b', .int .i64 o', .int .i64 g'] 23 (0, 0)) := ⟨_, rfl⟩
  rw [← hW]
  have B0 : W.heap[w.heap.size]? = some (.cells #[.int .i64 t, .int .i64 r, .int .i64 b, .int .i64 o, .int .i64 g] 23 (0, 0)) := by rw [hW]; exact blk_alloc (blk_new _ _) _
  have B1 : W.heap[w.heap.size + 1]? = some (.cells #[.int .i64 t', .int .i64 r', .int .i64 b', .int .i64 o', .int .i64 g'] 23 (0, 0)) := by rw [hW, ← show (w.alloc (.cells #[.int .i64 t, .int .i64 r, .int .i64 b, .int .i64 o, .int .i64 g] 23 (0, 0))).heap.size = w.heap.size + 1 by simp]; exact blk_new _ _
  have HB := Aside0.mk (show Below w.heap.size w W by rw [hW]; exact ((Below.refl _ _).alloc (Nat.le_refl _) _).alloc (by simp) _)
  have hs : W.heap.size = w.heap.size + 2 := by rw [hW]; simp
  have HS := Lib.hid hs
  clear hW
  have p0 : ∀ n os, (grow (W.drewN n) os).cell? ⟨w.heap.size, 0, none⟩ = some (.int .i64 t) := fun n os => cell_grown (by simp; omega) ((blk_cell B0 0).trans rfl) n os
  have p1 : ∀ n os, (grow (W.drewN n) os).cell? ⟨w.heap.size, 1, none⟩ = some (.int .i64 r) := fun n os => cell_grown (by simp; omega) ((blk_cell B0 1).trans rfl) n os
  have p2 : ∀ n os, (grow (W.drewN n) os).cell? ⟨w.heap.size, 2, none⟩ = some (.int .i64 b) := fun n os => cell_grown (by simp; omega) ((blk_cell B0 2).trans rfl) n os
  have p3 : ∀ n os, (grow (W.drewN n) os).cell? ⟨w.heap.size, 3, none⟩ = some (.int .i64 o) := fun n os => cell_grown (by simp; omega) ((blk_cell B0 3).trans rfl) n os
  have p4 : ∀ n os, (grow (W.drewN n) os).cell? ⟨w.heap.size, 4, none⟩ = some (.int .i64 g) := fun n os => cell_grown (by simp; omega) ((blk_cell B0 4).trans rfl) n os
  have q0 : ∀ n os, (grow (W.drewN n) os).cell? ⟨w.heap.size + 1, 0, none⟩ = some (.int .i64 t') := fun n os => cell_grown (by simp; omega) ((blk_cell B1 0).trans rfl) n os
  have q1 : ∀ n os, (grow (W.drewN n) os).cell? ⟨w.heap.size + 1, 1, none⟩ = some (.int .i64 r') := fun n os => cell_grown (by simp; omega) ((blk_cell B1 1).trans rfl) n os
  have q2 : ∀ n os, (grow (W.drewN n) os).cell? ⟨w.heap.size + 1, 2, none⟩ = some (.int .i64 b') := fun n os => cell_grown (by simp; omega) ((blk_cell B1 2).trans rfl) n os
  have q3 : ∀ n os, (grow (W.drewN n) os).cell? ⟨w.heap.size + 1, 3, none⟩ = some (.int .i64 o') := fun n os => cell_grown (by simp; omega) ((blk_cell B1 3).trans rfl) n os
  have q4 : ∀ n os, (grow (W.drewN n) os).cell? ⟨w.heap.size + 1, 4, none⟩ = some (.int .i64 g') := fun n os => cell_grown (by simp; omega) ((blk_cell B1 4).trans rfl) n os
  clear hs B0 B1
  have mixed : Tryd.prog.follows .mixedOrders = true := by kernel_rfl
  go_quiet_grown (first | (go_at_call 43; refine Calls.grown_of (named_calls _ _ _ _ _ _)))
  go_wp2
  go_ret
  exact ⟨rfl, HB.out.trans (Below.mono (show Below W.heap.size W _ from ⟨rfl, rfl, rfl, by simp [grow, World.drewN], fun i hi => by simp [grow, World.drewN, Array.getElem?_append_left hi]⟩) HB.out.size)⟩
theorem names_no (t r b o g t' r' b' o' g' : Int) (w : World) (h : capZero t r b o g = true ∨ capZero t' r' b' o' g' = true) : Calls Tryd.prog 25 #[.agg #[.int .i64 t, .int .i64 r, .int .i64 b, .int .i64 o, .int .i64 g], .agg #[.int .i64 t', .int .i64 r', .int .i64 b', .int .i64 o', .int .i64 g']] w fun e w' =>
    e = .returned (.bool false) ∧ Below w.heap.size w w' := by
  have hu := Tryd.underlying23
  by_cases h1 : capZero t r b o g = true
  · have h1' : ((t == 0) && ((r == 0) && ((b == 0) && ((o == 0) && (g == 0))))) = true := h1
    clear h h1
    go_enter Tryd.func25, Tryd.ntmps25
    go_wp2
    go_ret
    exact ⟨rfl, ((Below.refl _ _).alloc (Nat.le_refl _) _).alloc (by simp) _⟩
  · have h1' : ((t == 0) && ((r == 0) && ((b == 0) && ((o == 0) && (g == 0))))) = false := by simpa [capZero] using h1
    have h2' : ((t' == 0) && ((r' == 0) && ((b' == 0) && ((o' == 0) && (g' == 0))))) = true := h.resolve_left h1
    clear h h1
    go_enter Tryd.func25, Tryd.ntmps25
    go_wp2
    go_ret
    exact ⟨rfl, ((Below.refl _ _).alloc (Nat.le_refl _) _).alloc (by simp) _⟩
def cap_Names.b (t r b o g t' r' b' o' g' : Int) : Bool := !(capZero t r b o g) && (!(capZero t' r' b' o' g') && namesB t o g t' o' g')
def cap_Names.f (t r b o g t' r' b' o' g' : Int) : Option Bool := some (cap_Names.b t r b o g t' r' b' o' g')
theorem cap_Names.calls (t r b o g t' r' b' o' g' : Int) (res : Bool) (w : World) (h : cap_Names.f t r b o g t' r' b' o' g' = some res) : Calls Tryd.prog 25 #[.agg #[.int .i64 t, .int .i64 r, .int .i64 b, .int .i64 o, .int .i64 g], .agg #[.int .i64 t', .int .i64 r', .int .i64 b', .int .i64 o', .int .i64 g']] w fun e w' =>
    e = .returned (.bool res) ∧ Below w.heap.size w w' := by
  obtain rfl := Option.some.inj h
  unfold cap_Names.b
  cases h1 : capZero t r b o g with
  | true => exact names_no t r b o g t' r' b' o' g' w (.inl h1)
  | false =>
    cases h2 : capZero t' r' b' o' g' with
    | true => exact names_no t r b o g t' r' b' o' g' w (.inr h2)
    | false => exact names_calls t r b o g t' r' b' o' g' w h1 h2
end Go.Proofs.YtmcgdopgpjjkbaaDoor.Given
