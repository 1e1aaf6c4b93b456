/- bits.set, its iterator, bits.Next at this program: what the calls answer. -/
import Derived.RangeFuncNested
import Derived.RangeFuncBound
import Derived.RangeFuncCalls
import Derived.RangeFuncLeaves
import Derived.Shelf.Abstract
import Derived.Shelf.RegionOpen
import Derived.WalkKit
import Derived.OwnWalkIn
import Derived.TacticsInMore
import Derived.LoopNIn
import Derived.LoopIn
import Derived.BigRegionIn
import Derived.Outline
import Derived.Lib.Hide
import Derived.Test.YthmedgennlcigaaDoorGTz
import Derived.Test.YthmedgennlcigaaDoorRangeFirst
namespace Go.Proofs.YthmedgennlcigaaDoor.Given
open Go Go.RowKit Go.Shelf Go.Proofs
attribute [local go_sem] Oper.semAt_some

set_option maxHeartbeats 400000 in
theorem set_calls (v : Value) (at0 : Int) (x : Int) (w : World) (hv : v = .int .u64 x) :
    Calls Tryd.prog 37 #[v, .int .i64 at0] w fun e w' => e = .returned (.func (.func 38) #[] #[.pointer (some ⟨w.heap.size, 0, none⟩), .pointer (some ⟨w.heap.size + 1, 0, none⟩)]) ∧
      w' = (w.alloc (.cells #[.int .u64 x] 22)).alloc (.cells #[.int .i64 at0] 3) := by
  subst hv
  go_enter Tryd.func37, Tryd.ntmps37
  go_wp2
  go_ret
  exact ⟨rfl, rfl⟩

def IterPost (m : Nat) (J : World → Prop) (Jx : Nat → World → Prop) (e : Ending) (W' : World) : Prop :=
  (∃ v, e = .returned v) ∧ ((m = 0 ∧ J W') ∨ (∃ x, (m ≠ 0 ∧ x = Lib.ctz 64 m) ∧ Jx x W'))

set_option maxRecDepth 100000 in
set_option maxHeartbeats 1000000 in
theorem iter_first (b : Nat) (x at0 m : Nat) (w : World) (hat : at0 < 64) (hT : TabAt 0 Lib.deBruijn64tab w) (hb0 : 0 < b)
    (hm : bits .and .u64 (x : Int) (IntKind.u64.wrap (18446744073709551615 * 2 ^ at0)) = (m : Int)) (hml : m < 18446744073709551616)
    (hc : w.cell? ⟨b, 0, none⟩ = some (.int .u64 x)) (hf : w.frozen? ⟨b, 0, none⟩ = false) (hc2 : w.cell? ⟨b + 1, 0, none⟩ = some (.int .i64 at0)) :
    SeqFirst Fence.wide 5 Tryd.prog 38 #[.pointer (some ⟨b, 0, none⟩), .pointer (some ⟨b + 1, 0, none⟩)] (fun y : Nat => #[.int .i64 y]) b (m = 0) (fun y => m ≠ 0 ∧ y = Lib.ctz 64 m) w := by
  intro l J Jx W hgW hJ hY h0
  show CallsIn _ _ _ _ _ _ (IterPost m J Jx)
  have hlt : b < w.heap.size := World.block_lt_of_cell? w ⟨b, 0, none⟩ hc
  have hc' : W.cell? ⟨b, 0, none⟩ = some (.int .u64 x) := hgW.cell hc (by simp)
  have hc2' : W.cell? ⟨b + 1, 0, none⟩ = some (.int .i64 at0) := hgW.cell hc2 (by simp)
  have hf' : W.frozen? ⟨b, 0, none⟩ = false := (World.frozen?_of_block (hgW.block b hlt (by simp))).trans hf
  have hT' : TabAt 0 Lib.deBruijn64tab W := fun j hj => hgW.cell (hT j hj) (by simp)
  have hM := Lib.hid hm
  clear hm hc hc2 hf hT
  refine callsIn_of_wp Tryd.func38 rfl trivial ?_ rfl
  simp only [Tryd.ntmps38, List.size_toArray, List.length_cons, List.length_nil, Nat.reduceAdd, Nat.reduceSub, Array.replicate_succ, Array.replicate_zero, List.push_toArray, List.append_toArray, List.nil_append, List.cons_append]
  have hb1 : (0 : Int) ≤ at0 := by omega
  have hb2 : (at0 : Int) ≤ 64 := by omega
  gi_wp2
  gi_region
  all_goals gi_wp2
  all_goals refine wpIn_loop_rounds 1 ?_
  all_goals rw [roundsIn_succ]
  all_goals rw [hM.out]
  obtain ⟨W2, hW2⟩ : ∃ W2, (W.setCell ⟨b, 0, none⟩ (Value.int IntKind.u64 (m : Int))).drew = W2 := ⟨_, rfl⟩
  have hg2 : W.grownBy W2 (some b) := by
    rw [← hW2]
    exact ⟨rfl, rfl, rfl, by simp, fun k _ hk => Below.heap_setCell W ⟨b, 0, none⟩ _ k (fun e => hk (by rw [e]))⟩
  have hJ2 : J W2 := hJ _ _ _ h0 hg2 (fun r e => by cases e; rfl)
  have hc2 : W2.cell? ⟨b, 0, none⟩ = some (.int .u64 m) := by
    rw [← hW2]
    exact World.cell?_setCell_same' W ⟨b, 0, none⟩ _ (by rw [hc']; rfl)
  have hT2 : TabAt 0 Lib.deBruijn64tab W2 := fun j hj => hg2.cell (hT' j hj) (by simp; omega)
  rw [hW2]
  clear hW2 hg2 hT' hf' hc2' hc' h0 hJ hgW
  by_cases hm0 : m = 0
  · subst hm0
    gi_wp2
    go_end0
    exact ⟨⟨_, rfl⟩, .inl ⟨rfl, hJ2⟩⟩
  · have hmb : ((m : Int) != 0) = true := by simp; omega
    have hy := hY _ W2 ⟨hm0, rfl⟩ hJ2
    obtain ⟨fn, tmps, assign, body, hyy, hR⟩ := hy
    gi_wp2_with (refine ⟨trivial, ?_⟩; gi_at_call 39; refine (callsIn_wide.2 (tz64 m hml hm0 _ hT2)).mono ?_; rintro e w' ⟨rfl, rfl⟩)
    refine hR.mono ?_
    rintro e W3 ⟨rfl, hJx3⟩
    gi_wp2
    refine bodyPost_ret (results_none rfl _ _ _) rfl ?_
    exact ⟨⟨_, rfl⟩, .inr ⟨_, ⟨hm0, rfl⟩, hJx3⟩⟩

theorem cell_new_g (w : World) (v : Value) (t : TypeId) : (w.alloc (.cells #[v] t)).cell? ⟨w.heap.size, 0, none⟩ = some v ∧ (w.alloc (.cells #[v] t)).frozen? ⟨w.heap.size, 0, none⟩ = false := by
  have h := World.alloc_heap_new w (.cells #[v] t)
  exact ⟨by unfold World.cell?; rw [h]; rfl, by unfold World.frozen?; rw [h]; rfl⟩
theorem cell_alloc_g {w : World} {a : Addr} {v : Value} (o : Obj) (h : w.cell? a = some v) : (w.alloc o).cell? a = some v := (World.grownBy_alloc w o none).cell h (by simp)
theorem frozen_alloc_g {w : World} {a : Addr} {v : Value} {b : Bool} (o : Obj) (h : w.cell? a = some v) (hf : w.frozen? a = b) : (w.alloc o).frozen? a = b :=
  (World.frozen?_of_block ((World.grownBy_alloc w o none).block _ (World.block_lt_of_cell? w a h) (by simp))).trans hf

def NextPost (r1 : Int) (r2 : Bool) (w : World) (e : Ending) (w' : World) : Prop := e = .returned (.tuple #[.int .i64 r1, .bool r2]) ∧ Below w.heap.size w w'

set_option maxRecDepth 100000 in
set_option maxHeartbeats 1000000 in
theorem next_far (x : Int) (at0 : Int) (w : World) (h : 64 ≤ at0) : Calls Tryd.prog 29 #[.int .u64 x, .int .i64 at0] w (NextPost 0 false w) := by
  have h' : decide (64 ≤ at0) = true := decide_eq_true h
  go_enter Tryd.func29, Tryd.ntmps29
  go_wp2
  exact bodyPost_ret (v := .tuple #[.int .i64 0, .bool false]) (by simp [results, Tryd.f29, go_sem]) rfl ⟨rfl, ((Below.refl _ _).alloc (Nat.le_refl _) _).alloc (by simp) _⟩

set_option maxRecDepth 100000 in
set_option maxHeartbeats 2000000 in
theorem next_pos (x m : Nat) (a : Nat) (r1 : Int) (r2 : Bool) (w : World) (hT : TabAt 0 Lib.deBruijn64tab w) (hB : 0 < w.heap.size)
    (h : a < 64) (hm : bits .and .u64 (x : Int) (IntKind.u64.wrap (18446744073709551615 * 2 ^ a)) = (m : Int)) (hml : m < 18446744073709551616)
    (hz : m = 0 → r1 = 0 ∧ r2 = false) (hnz : m ≠ 0 → r1 = (Lib.ctz 64 m : Nat) ∧ r2 = true) :
    CallsIn Fence.wide 6 Tryd.prog 29 #[.int .u64 x, .int .i64 (a : Int)] w (NextPost r1 r2 w) := by
  have hM := Lib.hid hm
  have hZ := Lib.hid hz
  have hN := Lib.hid hnz
  have hn : (((a : Nat)) : Int) < 64 := by omega
  have h' : decide ((64 : Int) ≤ (a : Int)) = false := decide_eq_false (by omega)
  clear hm hz hnz
  refine callsIn_of_wp_marks Tryd.func29 rfl trivial ?_ rfl
  simp only [Tryd.ntmps29, List.size_toArray, List.length_cons, List.length_nil, Nat.reduceAdd, Nat.reduceSub, Array.replicate_succ, Array.replicate_zero, List.push_toArray, List.append_toArray, List.nil_append, List.cons_append]
  gi_wp2_with (refine ⟨trivial, ?_⟩; gi_at_call 37; refine (callsIn_wide.2 (set_calls _ _ x _ rfl)).mono ?_; rintro e w' ⟨rfl, rfl⟩)
  have c0 := cell_new_g w (.int .i64 0) 3
  have c1 := cell_new_g (w.alloc (.cells #[.int .i64 0] 3)) (.bool false) 4
  have c2 := cell_new_g ((w.alloc (.cells #[.int .i64 0] 3)).alloc (.cells #[.bool false] 4)) (.int .u64 (x : Int)) 22
  have c3 := cell_new_g (((w.alloc (.cells #[.int .i64 0] 3)).alloc (.cells #[.bool false] 4)).alloc (.cells #[.int .u64 (x : Int)] 22)) (.int .i64 (a : Int)) 3
  simp only [World.size_alloc] at c1 c2 c3
  obtain ⟨W0, hW0⟩ : ∃ W0, (((w.alloc (.cells #[.int .i64 0] 3)).alloc (.cells #[.bool false] 4)).alloc (.cells #[.int .u64 (x : Int)] 22)).alloc (.cells #[.int .i64 (a : Int)] 3) = W0 := ⟨_, rfl⟩
  have hsz : W0.heap.size = w.heap.size + 4 := by rw [← hW0]; simp
  have hB0 : Below w.heap.size w W0 := by rw [← hW0]; exact ((((Below.refl _ w).alloc (Nat.le_refl _) _).alloc (by simp) _).alloc (by simp; omega) _).alloc (by simp; omega) _
  have d0 : W0.cell? ⟨w.heap.size, 0, none⟩ = some (.int .i64 0) ∧ W0.frozen? ⟨w.heap.size, 0, none⟩ = false := by
    rw [← hW0]; exact ⟨cell_alloc_g _ (cell_alloc_g _ (cell_alloc_g _ c0.1)), frozen_alloc_g _ (cell_alloc_g _ (cell_alloc_g _ c0.1)) (frozen_alloc_g _ (cell_alloc_g _ c0.1) (frozen_alloc_g _ c0.1 c0.2))⟩
  have d1 : W0.cell? ⟨w.heap.size + 1, 0, none⟩ = some (.bool false) ∧ W0.frozen? ⟨w.heap.size + 1, 0, none⟩ = false := by
    rw [← hW0]; exact ⟨cell_alloc_g _ (cell_alloc_g _ c1.1), frozen_alloc_g _ (cell_alloc_g _ c1.1) (frozen_alloc_g _ c1.1 c1.2)⟩
  have d2 : W0.cell? ⟨w.heap.size + 1 + 1, 0, none⟩ = some (.int .u64 (x : Int)) ∧ W0.frozen? ⟨w.heap.size + 1 + 1, 0, none⟩ = false := by
    rw [← hW0]; exact ⟨cell_alloc_g _ c2.1, frozen_alloc_g _ c2.1 c2.2⟩
  have d3 : W0.cell? ⟨w.heap.size + 1 + 1 + 1, 0, none⟩ = some (.int .i64 (a : Int)) := by rw [← hW0]; exact c3.1
  have hT0 : TabAt 0 Lib.deBruijn64tab W0 := fun j hj => (hB0.cell (p := ⟨0, j, none⟩) hB).trans (hT j hj)
  rw [hW0]
  clear hW0 c0 c1 c2 c3
  refine wpIn_rangeFunc_first rfl (by omega) (gf := 38) (lb := #[.pointer (some ⟨w.heap.size + 1 + 1, 0, none⟩), .pointer (some ⟨w.heap.size + 1 + 1 + 1, 0, none⟩)]) rfl trivial (enters_of Tryd.func38 (by kernel_rfl) rfl)
    (b := w.heap.size + 1 + 1) (by omega) (iter_first (w.heap.size + 1 + 1) x (a) m W0 (by omega) hT0 (by omega) hM.out hml d2.1 d2.2 d3) (fun _ => rfl)
    (fun W => (W.cell? ⟨w.heap.size, 0, none⟩ = some (.int .i64 0) ∧ W.frozen? ⟨w.heap.size, 0, none⟩ = false) ∧ (W.cell? ⟨w.heap.size + 1, 0, none⟩ = some (.bool false) ∧ W.frozen? ⟨w.heap.size + 1, 0, none⟩ = false) ∧ Below w.heap.size w W)
    (fun y W => W.cell? ⟨w.heap.size, 0, none⟩ = some (.int .i64 (y : Int)) ∧ W.cell? ⟨w.heap.size + 1, 0, none⟩ = some (.bool true) ∧ Below w.heap.size w W)
    ?hI ?hIx ⟨d0, d1, hB0⟩
    (fun y => { tmps := #[.int .u64 x, .int .i64 (a : Int), undef, undef, .pointer (some ⟨w.heap.size, 0, none⟩), .pointer (some ⟨w.heap.size + 1, 0, none⟩), .int .i64 (y : Int), .int .i64 (a : Int), .bool false, .int .u64 x, .int .i64 (a : Int), .int .i64 (a : Int), .func (.func 38) #[] #[.pointer (some ⟨w.heap.size + 1 + 1, 0, none⟩), .pointer (some ⟨w.heap.size + 1 + 1 + 1, 0, none⟩)], .int .i64 (y : Int), undef], defers := [] }) ?assign ?body ?done ?stop
  case hI =>
    intro A B row hA hg hr
    obtain ⟨⟨a1, a2⟩, ⟨a3, a4⟩, a5⟩ := hA
    have n0 : some w.heap.size ≠ row := fun e => by
      have := hr _ e.symm; omega
    have n1 : some (w.heap.size + 1) ≠ row := fun e => by
      have := hr _ e.symm; omega
    have l0 := World.block_lt_of_cell? A _ a1
    have l1 := World.block_lt_of_cell? A _ a3
    exact ⟨⟨hg.cell a1 n0, (World.frozen?_of_block (hg.block _ l0 n0)).trans a2⟩, ⟨hg.cell a3 n1, (World.frozen?_of_block (hg.block _ l1 n1)).trans a4⟩,
      a5.grown hg a5.size (fun k e => by have := hr k e; omega)⟩
  case hIx =>
    intro y A B row hA hg hr
    obtain ⟨a1, a3, a5⟩ := hA
    have n0 : some w.heap.size ≠ row := fun e => by
      have := (hr _ e.symm).1; omega
    have n1 : some (w.heap.size + 1) ≠ row := fun e => by
      have := (hr _ e.symm).1; omega
    exact ⟨hg.cell a1 n0, hg.cell a3 n1, a5.grown hg a5.size (fun k e => by have := (hr k e).1; omega)⟩
  case assign =>
    intro l y W K hK
    gi_wp2
    exact hK
  case body =>
    rintro l y W hsp ⟨⟨a1, a2⟩, ⟨a3, a4⟩, a5⟩
    clear hsp
    gi_wp2
    have k1 := KeepsOthers.setCell W ⟨w.heap.size, 0, none⟩ (.int .i64 (y : Int))
    have k2 := KeepsOthers.setCell (W.setCell ⟨w.heap.size, 0, none⟩ (.int .i64 (y : Int))) ⟨w.heap.size + 1, 0, none⟩ (.bool true)
    refine ⟨k1.trans k2, ?_, ?_, ?_⟩
    · exact (World.cell?_of_block (Below.heap_setCell _ ⟨w.heap.size + 1, 0, none⟩ _ _ (by simp))).trans (World.cell?_setCell_same' W ⟨w.heap.size, 0, none⟩ _ (by rw [a1]; rfl))
    · exact World.cell?_setCell_same' _ ⟨w.heap.size + 1, 0, none⟩ _ (by rw [show (W.setCell ⟨w.heap.size, 0, none⟩ (.int .i64 (y : Int))).cell? ⟨w.heap.size + 1, 0, none⟩ = W.cell? ⟨w.heap.size + 1, 0, none⟩ from World.cell?_of_block (Below.heap_setCell _ ⟨w.heap.size, 0, none⟩ _ _ (by simp)), a3]; rfl)
    · exact (a5.setCell (p := ⟨w.heap.size, 0, none⟩) (Nat.le_refl _) _).setCell (p := ⟨w.heap.size + 1, 0, none⟩) (by simp) _
  case done =>
    rintro D W hD hm0 ⟨⟨a1, a2⟩, ⟨a3, a4⟩, a5⟩ hK
    obtain ⟨rfl, rfl⟩ := hZ.out hm0
    clear hZ hN hm0
    gi_wp2
    obtain ⟨W2, hW2⟩ : ∃ W2, (W.setCell ⟨w.heap.size, 0, none⟩ (.int .i64 0)).setCell ⟨w.heap.size + 1, 0, none⟩ (.bool false) = W2 := ⟨_, rfl⟩
    have k12 : KeepsOthers W W2 := by rw [← hW2]; exact (KeepsOthers.setCell W ⟨w.heap.size, 0, none⟩ _).trans (KeepsOthers.setCell _ ⟨w.heap.size + 1, 0, none⟩ _)
    have e0 : W2.cell? ⟨w.heap.size, 0, none⟩ = some (.int .i64 0) := by
      rw [← hW2]
      exact (World.cell?_of_block (Below.heap_setCell _ ⟨w.heap.size + 1, 0, none⟩ _ _ (by simp))).trans (World.cell?_setCell_same' W ⟨w.heap.size, 0, none⟩ _ (by rw [a1]; rfl))
    have e1 : W2.cell? ⟨w.heap.size + 1, 0, none⟩ = some (.bool false) := by
      rw [← hW2]
      exact World.cell?_setCell_same' _ ⟨w.heap.size + 1, 0, none⟩ _ (by rw [show (W.setCell ⟨w.heap.size, 0, none⟩ (.int .i64 0)).cell? ⟨w.heap.size + 1, 0, none⟩ = W.cell? ⟨w.heap.size + 1, 0, none⟩ from World.cell?_of_block (Below.heap_setCell _ ⟨w.heap.size, 0, none⟩ _ _ (by simp)), a3]; rfl)
    have b2 : Below w.heap.size w W2 := by rw [← hW2]; exact (a5.setCell (p := ⟨w.heap.size, 0, none⟩) (Nat.le_refl _) _).setCell (p := ⟨w.heap.size + 1, 0, none⟩) (by simp) _
    have hK' := k12.same D _ hK rfl
    rw [hW2]
    clear hW2
    refine ⟨by simp, .inl ⟨_, _, rfl, run_takeDeferred hK', ?_⟩⟩
    have hc4 := cell_kept e0 (grownBy_putObj' _ D (.deferred none)) (fun r e => by cases e; exact ⟨_, hK', rfl⟩)
    have hc5 := cell_kept e1 (grownBy_putObj' _ D (.deferred none)) (fun r e => by cases e; exact ⟨_, hK', rfl⟩)
    refine ⟨.tuple #[.int .i64 0, .bool false], ?_, rfl, b2.trans (belowK_b (w := w) (Nat.le_refl _) _ D _ _ (by omega) hK' rfl rfl)⟩
    simp [results, Tryd.f29, go_sem, hc4, hc5]
  case stop =>
    rintro D y W hD ⟨hm0, rfl⟩ ⟨a1, a3, a5⟩ hK
    obtain ⟨rfl, rfl⟩ := hN.out hm0
    clear hZ hN hm0
    gi_wp2
    refine ⟨by simp, .inl ⟨_, _, rfl, run_takeDeferred hK, ?_⟩⟩
    have hc4 := cell_kept a1 (grownBy_putObj' _ D (.deferred none)) (fun r e => by cases e; exact ⟨_, hK, rfl⟩)
    have hc5 := cell_kept a3 (grownBy_putObj' _ D (.deferred none)) (fun r e => by cases e; exact ⟨_, hK, rfl⟩)
    refine ⟨.tuple #[.int .i64 (Lib.ctz 64 m : Nat), .bool true], ?_, rfl, a5.trans (belowK_b (w := w) (Nat.le_refl _) W D _ _ (by omega) hK rfl rfl)⟩
    simp [results, Tryd.f29, go_sem, hc4, hc5]

set_option maxRecDepth 100000 in
set_option maxHeartbeats 2000000 in
theorem next_neg (x m : Nat) (at0 : Int) (r1 : Int) (r2 : Bool) (w : World) (hT : TabAt 0 Lib.deBruijn64tab w) (hB : 0 < w.heap.size)
    (h : at0 < 0) (hm : bits .and .u64 (x : Int) (IntKind.u64.wrap (18446744073709551615 * 2 ^ 0)) = (m : Int)) (hml : m < 18446744073709551616)
    (hz : m = 0 → r1 = 0 ∧ r2 = false) (hnz : m ≠ 0 → r1 = (Lib.ctz 64 m : Nat) ∧ r2 = true) :
    CallsIn Fence.wide 6 Tryd.prog 29 #[.int .u64 x, .int .i64 at0] w (NextPost r1 r2 w) := by
  have hM := Lib.hid hm
  have hZ := Lib.hid hz
  have hN := Lib.hid hnz
  have h' : decide ((64 : Int) ≤ at0) = false := decide_eq_false (by omega)
  clear hm hz hnz
  refine callsIn_of_wp_marks Tryd.func29 rfl trivial ?_ rfl
  simp only [Tryd.ntmps29, List.size_toArray, List.length_cons, List.length_nil, Nat.reduceAdd, Nat.reduceSub, Array.replicate_succ, Array.replicate_zero, List.push_toArray, List.append_toArray, List.nil_append, List.cons_append]
  gi_wp2_with (refine ⟨trivial, ?_⟩; gi_at_call 37; refine (callsIn_wide.2 (set_calls _ _ x _ rfl)).mono ?_; rintro e w' ⟨rfl, rfl⟩)
  have c0 := cell_new_g w (.int .i64 0) 3
  have c1 := cell_new_g (w.alloc (.cells #[.int .i64 0] 3)) (.bool false) 4
  have c2 := cell_new_g ((w.alloc (.cells #[.int .i64 0] 3)).alloc (.cells #[.bool false] 4)) (.int .u64 (x : Int)) 22
  have c3 := cell_new_g (((w.alloc (.cells #[.int .i64 0] 3)).alloc (.cells #[.bool false] 4)).alloc (.cells #[.int .u64 (x : Int)] 22)) (.int .i64 0) 3
  simp only [World.size_alloc] at c1 c2 c3
  obtain ⟨W0, hW0⟩ : ∃ W0, (((w.alloc (.cells #[.int .i64 0] 3)).alloc (.cells #[.bool false] 4)).alloc (.cells #[.int .u64 (x : Int)] 22)).alloc (.cells #[.int .i64 0] 3) = W0 := ⟨_, rfl⟩
  have hsz : W0.heap.size = w.heap.size + 4 := by rw [← hW0]; simp
  have hB0 : Below w.heap.size w W0 := by rw [← hW0]; exact ((((Below.refl _ w).alloc (Nat.le_refl _) _).alloc (by simp) _).alloc (by simp; omega) _).alloc (by simp; omega) _
  have d0 : W0.cell? ⟨w.heap.size, 0, none⟩ = some (.int .i64 0) ∧ W0.frozen? ⟨w.heap.size, 0, none⟩ = false := by
    rw [← hW0]; exact ⟨cell_alloc_g _ (cell_alloc_g _ (cell_alloc_g _ c0.1)), frozen_alloc_g _ (cell_alloc_g _ (cell_alloc_g _ c0.1)) (frozen_alloc_g _ (cell_alloc_g _ c0.1) (frozen_alloc_g _ c0.1 c0.2))⟩
  have d1 : W0.cell? ⟨w.heap.size + 1, 0, none⟩ = some (.bool false) ∧ W0.frozen? ⟨w.heap.size + 1, 0, none⟩ = false := by
    rw [← hW0]; exact ⟨cell_alloc_g _ (cell_alloc_g _ c1.1), frozen_alloc_g _ (cell_alloc_g _ c1.1) (frozen_alloc_g _ c1.1 c1.2)⟩
  have d2 : W0.cell? ⟨w.heap.size + 1 + 1, 0, none⟩ = some (.int .u64 (x : Int)) ∧ W0.frozen? ⟨w.heap.size + 1 + 1, 0, none⟩ = false := by
    rw [← hW0]; exact ⟨cell_alloc_g _ c2.1, frozen_alloc_g _ c2.1 c2.2⟩
  have d3 : W0.cell? ⟨w.heap.size + 1 + 1 + 1, 0, none⟩ = some (.int .i64 0) := by rw [← hW0]; exact c3.1
  have hT0 : TabAt 0 Lib.deBruijn64tab W0 := fun j hj => (hB0.cell (p := ⟨0, j, none⟩) hB).trans (hT j hj)
  rw [hW0]
  clear hW0 c0 c1 c2 c3
  refine wpIn_rangeFunc_first rfl (by omega) (gf := 38) (lb := #[.pointer (some ⟨w.heap.size + 1 + 1, 0, none⟩), .pointer (some ⟨w.heap.size + 1 + 1 + 1, 0, none⟩)]) rfl trivial (enters_of Tryd.func38 (by kernel_rfl) rfl)
    (b := w.heap.size + 1 + 1) (by omega) (iter_first (w.heap.size + 1 + 1) x (0) m W0 (by omega) hT0 (by omega) hM.out hml d2.1 d2.2 d3) (fun _ => rfl)
    (fun W => (W.cell? ⟨w.heap.size, 0, none⟩ = some (.int .i64 0) ∧ W.frozen? ⟨w.heap.size, 0, none⟩ = false) ∧ (W.cell? ⟨w.heap.size + 1, 0, none⟩ = some (.bool false) ∧ W.frozen? ⟨w.heap.size + 1, 0, none⟩ = false) ∧ Below w.heap.size w W)
    (fun y W => W.cell? ⟨w.heap.size, 0, none⟩ = some (.int .i64 (y : Int)) ∧ W.cell? ⟨w.heap.size + 1, 0, none⟩ = some (.bool true) ∧ Below w.heap.size w W)
    ?hI ?hIx ⟨d0, d1, hB0⟩
    (fun y => { tmps := #[.int .u64 x, .int .i64 at0, undef, undef, .pointer (some ⟨w.heap.size, 0, none⟩), .pointer (some ⟨w.heap.size + 1, 0, none⟩), .int .i64 (y : Int), .int .i64 at0, .bool false, .int .u64 x, .int .i64 at0, .int .i64 0, .func (.func 38) #[] #[.pointer (some ⟨w.heap.size + 1 + 1, 0, none⟩), .pointer (some ⟨w.heap.size + 1 + 1 + 1, 0, none⟩)], .int .i64 (y : Int), undef], defers := [] }) ?assign ?body ?done ?stop
  case hI =>
    intro A B row hA hg hr
    obtain ⟨⟨a1, a2⟩, ⟨a3, a4⟩, a5⟩ := hA
    have n0 : some w.heap.size ≠ row := fun e => by
      have := hr _ e.symm; omega
    have n1 : some (w.heap.size + 1) ≠ row := fun e => by
      have := hr _ e.symm; omega
    have l0 := World.block_lt_of_cell? A _ a1
    have l1 := World.block_lt_of_cell? A _ a3
    exact ⟨⟨hg.cell a1 n0, (World.frozen?_of_block (hg.block _ l0 n0)).trans a2⟩, ⟨hg.cell a3 n1, (World.frozen?_of_block (hg.block _ l1 n1)).trans a4⟩,
      a5.grown hg a5.size (fun k e => by have := hr k e; omega)⟩
  case hIx =>
    intro y A B row hA hg hr
    obtain ⟨a1, a3, a5⟩ := hA
    have n0 : some w.heap.size ≠ row := fun e => by
      have := (hr _ e.symm).1; omega
    have n1 : some (w.heap.size + 1) ≠ row := fun e => by
      have := (hr _ e.symm).1; omega
    exact ⟨hg.cell a1 n0, hg.cell a3 n1, a5.grown hg a5.size (fun k e => by have := (hr k e).1; omega)⟩
  case assign =>
    intro l y W K hK
    gi_wp2
    exact hK
  case body =>
    rintro l y W hsp ⟨⟨a1, a2⟩, ⟨a3, a4⟩, a5⟩
    clear hsp
    gi_wp2
    have k1 := KeepsOthers.setCell W ⟨w.heap.size, 0, none⟩ (.int .i64 (y : Int))
    have k2 := KeepsOthers.setCell (W.setCell ⟨w.heap.size, 0, none⟩ (.int .i64 (y : Int))) ⟨w.heap.size + 1, 0, none⟩ (.bool true)
    refine ⟨k1.trans k2, ?_, ?_, ?_⟩
    · exact (World.cell?_of_block (Below.heap_setCell _ ⟨w.heap.size + 1, 0, none⟩ _ _ (by simp))).trans (World.cell?_setCell_same' W ⟨w.heap.size, 0, none⟩ _ (by rw [a1]; rfl))
    · exact World.cell?_setCell_same' _ ⟨w.heap.size + 1, 0, none⟩ _ (by rw [show (W.setCell ⟨w.heap.size, 0, none⟩ (.int .i64 (y : Int))).cell? ⟨w.heap.size + 1, 0, none⟩ = W.cell? ⟨w.heap.size + 1, 0, none⟩ from World.cell?_of_block (Below.heap_setCell _ ⟨w.heap.size, 0, none⟩ _ _ (by simp)), a3]; rfl)
    · exact (a5.setCell (p := ⟨w.heap.size, 0, none⟩) (Nat.le_refl _) _).setCell (p := ⟨w.heap.size + 1, 0, none⟩) (by simp) _
  case done =>
    rintro D W hD hm0 ⟨⟨a1, a2⟩, ⟨a3, a4⟩, a5⟩ hK
    obtain ⟨rfl, rfl⟩ := hZ.out hm0
    clear hZ hN hm0
    gi_wp2
    obtain ⟨W2, hW2⟩ : ∃ W2, (W.setCell ⟨w.heap.size, 0, none⟩ (.int .i64 0)).setCell ⟨w.heap.size + 1, 0, none⟩ (.bool false) = W2 := ⟨_, rfl⟩
    have k12 : KeepsOthers W W2 := by rw [← hW2]; exact (KeepsOthers.setCell W ⟨w.heap.size, 0, none⟩ _).trans (KeepsOthers.setCell _ ⟨w.heap.size + 1, 0, none⟩ _)
    have e0 : W2.cell? ⟨w.heap.size, 0, none⟩ = some (.int .i64 0) := by
      rw [← hW2]
      exact (World.cell?_of_block (Below.heap_setCell _ ⟨w.heap.size + 1, 0, none⟩ _ _ (by simp))).trans (World.cell?_setCell_same' W ⟨w.heap.size, 0, none⟩ _ (by rw [a1]; rfl))
    have e1 : W2.cell? ⟨w.heap.size + 1, 0, none⟩ = some (.bool false) := by
      rw [← hW2]
      exact World.cell?_setCell_same' _ ⟨w.heap.size + 1, 0, none⟩ _ (by rw [show (W.setCell ⟨w.heap.size, 0, none⟩ (.int .i64 0)).cell? ⟨w.heap.size + 1, 0, none⟩ = W.cell? ⟨w.heap.size + 1, 0, none⟩ from World.cell?_of_block (Below.heap_setCell _ ⟨w.heap.size, 0, none⟩ _ _ (by simp)), a3]; rfl)
    have b2 : Below w.heap.size w W2 := by rw [← hW2]; exact (a5.setCell (p := ⟨w.heap.size, 0, none⟩) (Nat.le_refl _) _).setCell (p := ⟨w.heap.size + 1, 0, none⟩) (by simp) _
    have hK' := k12.same D _ hK rfl
    rw [hW2]
    clear hW2
    refine ⟨by simp, .inl ⟨_, _, rfl, run_takeDeferred hK', ?_⟩⟩
    have hc4 := cell_kept e0 (grownBy_putObj' _ D (.deferred none)) (fun r e => by cases e; exact ⟨_, hK', rfl⟩)
    have hc5 := cell_kept e1 (grownBy_putObj' _ D (.deferred none)) (fun r e => by cases e; exact ⟨_, hK', rfl⟩)
    refine ⟨.tuple #[.int .i64 0, .bool false], ?_, rfl, b2.trans (belowK_b (w := w) (Nat.le_refl _) _ D _ _ (by omega) hK' rfl rfl)⟩
    simp [results, Tryd.f29, go_sem, hc4, hc5]
  case stop =>
    rintro D y W hD ⟨hm0, rfl⟩ ⟨a1, a3, a5⟩ hK
    obtain ⟨rfl, rfl⟩ := hN.out hm0
    clear hZ hN hm0
    gi_wp2
    refine ⟨by simp, .inl ⟨_, _, rfl, run_takeDeferred hK, ?_⟩⟩
    have hc4 := cell_kept a1 (grownBy_putObj' _ D (.deferred none)) (fun r e => by cases e; exact ⟨_, hK, rfl⟩)
    have hc5 := cell_kept a3 (grownBy_putObj' _ D (.deferred none)) (fun r e => by cases e; exact ⟨_, hK, rfl⟩)
    refine ⟨.tuple #[.int .i64 (Lib.ctz 64 m : Nat), .bool true], ?_, rfl, a5.trans (belowK_b (w := w) (Nat.le_refl _) W D _ _ (by omega) hK rfl rfl)⟩
    simp [results, Tryd.f29, go_sem, hc4, hc5]

end Go.Proofs.YthmedgennlcigaaDoor.Given
