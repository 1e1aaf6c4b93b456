/- Texts of this seat, joined. -/
import Derived.Test.YtmcjccigglekpaaGreatDoorL2
import Derived.Test.YtmcjccigglekpaaGreatDoorL8
import Derived.Test.YtmcjccigglekpaaGreatDoorL3
import Derived.Test.YtmcjccigglekpaaGreatDoorL6
namespace Go.Proofs.YtmcjccigglekpaaGreatDoor.Given
end Go.Proofs.YtmcjccigglekpaaGreatDoor.Given
namespace Go.Proofs.YtmcjccigglekpaaGreatDoor.P
open Go.Proofs.YtmcjccigglekpaaGreatDoor.Given
open Go.RowKit Go.Proofs.YtmcjccigglekpaaGreatDoorW.PrintWords Go.Proofs.YtmcjccigglekpaaGreatDoorW.PrintLast Go.Proofs.YtmcjccigglekpaaGreatDoorW.PrintMore
attribute [local go_sem] max2_int min2_int max_two min_two max_three min_three max_four min_four   -- for this text's walks alone
set_option linter.unusedVariables false
set_option linter.unusedSimpArgs false

/-! ### garrisonref09_New: function 59 -/
mutual
def garrisonref09_New.j0 : Nat → Int → Int → Bool → Option ((List (S70)) × (List (List Int)) × Int)
 | 0, _, _, _ => none
 | k + 1, x0, x1, x24 => if x24 = true then (some (([] : List (S70)), ([] : List (List Int)), 2)) else (garrisonref09_New.l0 k x0 x1 0 ([] : List (List Int)))
def garrisonref09_New.l0 : Nat → Int → Int → Int → List (List Int) → Option ((List (S70)) × (List (List Int)) × Int)
 | 0, _, _, _, _ => none
 | k + 1, x0, x1, x7, x226001 => if x7 < x1 then (garrisonref09_New.l1 k x0 x1 x7 ([] : List Int) x7 x226001) else (garrisonref09_New.l2 k x0 0 ([] : List (S70)) x226001)
def garrisonref09_New.l1 : Nat → Int → Int → Int → List Int → Int → List (List Int) → Option ((List (S70)) × (List (List Int)) × Int)
 | 0, _, _, _, _, _, _ => none
 | k + 1, x0, x1, x7, x8, x9, x226001 => if x9 < x0 then (if x8.length < 17592186044416 then (garrisonref09_New.l1 k x0 x1 x7 (x8 ++ [x9]) (wrap64 (x9 + x1)) x226001) else (none)) else (if x226001.length < 5864062014805 then (garrisonref09_New.l0 k x0 x1 (wrap64 (x7 + 1)) (x226001 ++ [x8])) else (none))
def garrisonref09_New.l2 : Nat → Int → Int → List (S70) → List (List Int) → Option ((List (S70)) × (List (List Int)) × Int)
 | 0, _, _, _, _ => none
 | k + 1, x0, x10, x226000, x226001 => if x10 < x0 then (if x226000.length < 2199023255552 then (garrisonref09_New.l2 k x0 (wrap64 (x10 + 1)) (x226000 ++ [(⟨0, 0, 0, 0, 0, 0, (-1), 0⟩ : S70)]) x226001) else (none)) else (some (x226000, x226001, 0))
end
def garrisonref09_New.f (k : Nat) (a0 : Int) (a1 : Int) : Option ((List (S70)) × (List (List Int)) × Int) := if a0 < 1 then (garrisonref09_New.j0 k a0 a1 true) else (if a0 > 64 then (garrisonref09_New.j0 k a0 a1 true) else (if a1 < 1 then (garrisonref09_New.j0 k a0 a1 true) else (garrisonref09_New.j0 k a0 a1 (decide (a1 > 64)))))
theorem garrisonref09_New.mono_l : ∀ k, (∀ y0 y1 y2, LeO (garrisonref09_New.j0 k y0 y1 y2) (garrisonref09_New.j0 (k + 1) y0 y1 y2)) ∧ (∀ y0 y1 y2 y3, LeO (garrisonref09_New.l0 k y0 y1 y2 y3) (garrisonref09_New.l0 (k + 1) y0 y1 y2 y3)) ∧ (∀ y0 y1 y2 y3 y4 y5, LeO (garrisonref09_New.l1 k y0 y1 y2 y3 y4 y5) (garrisonref09_New.l1 (k + 1) y0 y1 y2 y3 y4 y5)) ∧ (∀ y0 y1 y2 y3, LeO (garrisonref09_New.l2 k y0 y1 y2 y3) (garrisonref09_New.l2 (k + 1) y0 y1 y2 y3))
 | 0 => ⟨fun _ _ _ r h => by simp [garrisonref09_New.j0] at h, fun _ _ _ _ r h => by simp [garrisonref09_New.l0] at h, fun _ _ _ _ _ _ r h => by simp [garrisonref09_New.l1] at h, fun _ _ _ _ r h => by simp [garrisonref09_New.l2] at h⟩
 | k + 1 => by
  obtain ⟨ih0, ih1, ih2, ih3⟩ := garrisonref09_New.mono_l k
  refine ⟨?_, ?_, ?_, ?_⟩
  ·intro y0 y1 y2
   unfold garrisonref09_New.j0
   repeat' first
   | (with_reducible exact ih0 _ _ _)
   | (with_reducible exact ih1 _ _ _ _)
   | (with_reducible exact ih2 _ _ _ _ _ _)
   | (with_reducible exact ih3 _ _ _ _)
   | (with_reducible exact LeO.refl _)
   | (with_reducible exact LeO.none _)
   | (with_reducible refine LeO.ite ?_ ?_)
   | (with_reducible refine LeO.bind ?_ (fun _ => ?_))
   | exact ih0 _ _ _
   | exact ih1 _ _ _ _
   | exact ih2 _ _ _ _ _ _
   | exact ih3 _ _ _ _
   | exact LeO.none _
   | refine LeO.ite ?_ ?_
   | refine LeO.bind ?_ (fun _ => ?_)
  ·intro y0 y1 y2 y3
   unfold garrisonref09_New.l0
   repeat' first
   | (with_reducible exact ih0 _ _ _)
   | (with_reducible exact ih1 _ _ _ _)
   | (with_reducible exact ih2 _ _ _ _ _ _)
   | (with_reducible exact ih3 _ _ _ _)
   | (with_reducible exact LeO.refl _)
   | (with_reducible exact LeO.none _)
   | (with_reducible refine LeO.ite ?_ ?_)
   | (with_reducible refine LeO.bind ?_ (fun _ => ?_))
   | exact ih0 _ _ _
   | exact ih1 _ _ _ _
   | exact ih2 _ _ _ _ _ _
   | exact ih3 _ _ _ _
   | exact LeO.none _
   | refine LeO.ite ?_ ?_
   | refine LeO.bind ?_ (fun _ => ?_)
  ·intro y0 y1 y2 y3 y4 y5
   unfold garrisonref09_New.l1
   repeat' first
   | (with_reducible exact ih0 _ _ _)
   | (with_reducible exact ih1 _ _ _ _)
   | (with_reducible exact ih2 _ _ _ _ _ _)
   | (with_reducible exact ih3 _ _ _ _)
   | (with_reducible exact LeO.refl _)
   | (with_reducible exact LeO.none _)
   | (with_reducible refine LeO.ite ?_ ?_)
   | (with_reducible refine LeO.bind ?_ (fun _ => ?_))
   | exact ih0 _ _ _
   | exact ih1 _ _ _ _
   | exact ih2 _ _ _ _ _ _
   | exact ih3 _ _ _ _
   | exact LeO.none _
   | refine LeO.ite ?_ ?_
   | refine LeO.bind ?_ (fun _ => ?_)
  ·intro y0 y1 y2 y3
   unfold garrisonref09_New.l2
   repeat' first
   | (with_reducible exact ih0 _ _ _)
   | (with_reducible exact ih1 _ _ _ _)
   | (with_reducible exact ih2 _ _ _ _ _ _)
   | (with_reducible exact ih3 _ _ _ _)
   | (with_reducible exact LeO.refl _)
   | (with_reducible exact LeO.none _)
   | (with_reducible refine LeO.ite ?_ ?_)
   | (with_reducible refine LeO.bind ?_ (fun _ => ?_))
   | exact ih0 _ _ _
   | exact ih1 _ _ _ _
   | exact ih2 _ _ _ _ _ _
   | exact ih3 _ _ _ _
   | exact LeO.none _
   | refine LeO.ite ?_ ?_
   | refine LeO.bind ?_ (fun _ => ?_)
theorem garrisonref09_New.mono : ∀ a0 a1 k, LeO (garrisonref09_New.f k a0 a1) (garrisonref09_New.f (k + 1) a0 a1) := by
 intro a0 a1 k
 obtain ⟨ih0, ih1, ih2, ih3⟩ := garrisonref09_New.mono_l k
 unfold garrisonref09_New.f
 repeat' first
   | (with_reducible exact ih0 _ _ _)
   | (with_reducible exact ih1 _ _ _ _)
   | (with_reducible exact ih2 _ _ _ _ _ _)
   | (with_reducible exact ih3 _ _ _ _)
   | (with_reducible exact LeO.refl _)
   | (with_reducible exact LeO.none _)
   | (with_reducible refine LeO.ite ?_ ?_)
   | (with_reducible refine LeO.bind ?_ (fun _ => ?_))
   | exact ih0 _ _ _
   | exact ih1 _ _ _ _
   | exact ih2 _ _ _ _ _ _
   | exact ih3 _ _ _ _
   | exact LeO.none _
   | refine LeO.ite ?_ ?_
   | refine LeO.bind ?_ (fun _ => ?_)
set_option maxHeartbeats 8000000 in
set_option maxRecDepth 100000 in
theorem garrisonref09_New.calls (k : Nat) (a0 : Int) (a1 : Int) (r1 : List (S70)) (r2 : List (List Int)) (r3 : Int) (w : World) (h : garrisonref09_New.f k a0 a1 = some (r1, r2, r3)) :
  Calls Tryz.prog 59 #[.int .i64 a0, .int .i64 a1] w fun e w' => ∃ v0_ v1_ : Value, e = .returned (.tuple #[.agg #[v0_, v1_], .int .i64 r3]) ∧ Kd.R k70 70 w' w.heap.size (fun _ => True) v0_ r1 ∧ Kd.S (Kd.slice 3 (Kd.int .i64)) 29 w' w.heap.size (fun _ => True) v1_ r2 ∧ Below w.heap.size w w' := by
 have hu25 := Tryz.underlying25
 have hu70 := Tryz.underlying70
 have HB := Aside0.mk (Below.refl w.heap.size w)
 have H : (if a0 < 1 then (garrisonref09_New.j0 k a0 a1 true) else (if a0 > 64 then (garrisonref09_New.j0 k a0 a1 true) else (if a1 < 1 then (garrisonref09_New.j0 k a0 a1 true) else (garrisonref09_New.j0 k a0 a1 (decide (a1 > 64)))))) = some (r1, r2, r3) := h
 clear h
 have HC3 := Aside0.mk H
 clear H
 go_enter Tryz.func59, Tryz.ntmps59
 go_upto_region 1 with (first | ((with_reducible refine gate_dst (N := 4) rfl ?_); refine box_event ?hg (N := 4) ?hd (cs := #[.slice none 0 0, .slice none 0 0]) (t := 25) ?hr ?_; (case hd => rfl); (case hg => rfl); (case hr => first | (go_simp; done) | (go_simp; rfl)); intro gb224 hg w4 hbox hb; have n0_ := Aside0.mk (below_step (by repeat (first | (with_reducible first | exact HB.out | apply below_alloc | apply pw_below_drewN | apply below_drew1) | exact HB.out)) hb); have n1_ := Aside0.mk (hbox); have n2_ := Aside0.mk ((by rw [hg]; exact (below_size (by repeat (first | (with_reducible first | exact HB.out | apply below_alloc | apply pw_below_drewN | apply below_drew1) | exact HB.out))) : w.heap.size ≤ gb224)); have n3_ := Aside0.mk ((by rw [hg]; exact (below_size (by repeat (first | (with_reducible first | exact HB.out | apply below_alloc | apply pw_below_drewN | apply below_drew1) | exact HB.out))) : w.heap.size ≤ gb224)); clear HB; have HB := n0_; have BK224 := n1_; have GW224 := n2_; have GE224 := n3_; clear n0_ n1_ n2_ n3_; clear hb hbox hg))
 (try simp only [Act.put, List.setIfInBounds_toArray, List.set_cons_zero, List.set_cons_succ])
 go_cut [24] (fun v24 wc => ∃ (kq : Nat) (x24_2 : Bool), v24 = .bool x24_2 ∧ Aside0 (garrisonref09_New.j0 kq a0 a1 x24_2 = some (r1, r2, r3)) ∧ Aside0 (kq ≤ k) ∧ Aside0 (wc.heap[gb224]? = some (.cells #[(.slice none 0 0), (.slice none 0 0)] 25 (0, 0))) ∧ Aside0 (Below w.heap.size w wc))
 case first =>
  have H := HC3.out
  clear HC3
  by_cases c5 : a0 < 1
  ·rw [if_pos c5] at H
   have c5b0 : decide (a0 < 1) = true := decide_eq_true c5
   clear c5
   (first | rw [c5b0] | (simp only [i64_w, i32_w]; rw [c5b0]) | skip)
   have H' := Aside0.mk H
   clear H
   go_wp2
   go_meet
   case rel => exact ⟨_, (true), (by first | rfl | (simp; done) | (simp [*]; done)), H', ⟨by first | omega | exact Nat.le_refl _⟩, ⟨by (with_reducible repeat (first | refine blk_drewN ?_ _ | refine blk_drew ?_ | refine blk_alloc ?_ _)); exact BK224.out⟩, ⟨by repeat (first | (with_reducible first | exact HB.out | apply below_alloc | apply pw_below_drewN | apply below_drew1 | refine below_set ?_ GE224.out) | exact HB.out)⟩⟩
  ·rw [if_neg c5] at H
   have c5b0 : decide (a0 < 1) = false := decide_eq_false c5
   clear c5
   (first | rw [c5b0] | (simp only [i64_w, i32_w]; rw [c5b0]) | skip)
   by_cases c6 : a0 > 64
   ·rw [if_pos c6] at H
    have c6b0 : decide (64 < a0) = true := decide_eq_true c6
    clear c6
    have H' := Aside0.mk H
    clear H
    go_wp2
    go_meet
    case rel => exact ⟨_, (true), (by first | rfl | (simp; done) | (simp [*]; done)), H', ⟨by first | omega | exact Nat.le_refl _⟩, ⟨by (with_reducible repeat (first | refine blk_drewN ?_ _ | refine blk_drew ?_ | refine blk_alloc ?_ _)); exact BK224.out⟩, ⟨by repeat (first | (with_reducible first | exact HB.out | apply below_alloc | apply pw_below_drewN | apply below_drew1 | refine below_set ?_ GE224.out) | exact HB.out)⟩⟩
   ·rw [if_neg c6] at H
    have c6b0 : decide (64 < a0) = false := decide_eq_false c6
    clear c6
    by_cases c7 : a1 < 1
    ·rw [if_pos c7] at H
     have c7b0 : decide (a1 < 1) = true := decide_eq_true c7
     clear c7
     have H' := Aside0.mk H
     clear H
     go_wp2
     go_meet
     case rel => exact ⟨_, (true), (by first | rfl | (simp; done) | (simp [*]; done)), H', ⟨by first | omega | exact Nat.le_refl _⟩, ⟨by (with_reducible repeat (first | refine blk_drewN ?_ _ | refine blk_drew ?_ | refine blk_alloc ?_ _)); exact BK224.out⟩, ⟨by repeat (first | (with_reducible first | exact HB.out | apply below_alloc | apply pw_below_drewN | apply below_drew1 | refine below_set ?_ GE224.out) | exact HB.out)⟩⟩
    ·rw [if_neg c7] at H
     have c7b0 : decide (a1 < 1) = false := decide_eq_false c7
     clear c7
     have H' := Aside0.mk H
     clear H
     go_wp2
     go_meet
     case rel => exact ⟨_, (decide (a1 > 64)), (by first | rfl | (simp; done) | (simp [*]; done)), H', ⟨by first | omega | exact Nat.le_refl _⟩, ⟨by (with_reducible repeat (first | refine blk_drewN ?_ _ | refine blk_drew ?_ | refine blk_alloc ?_ _)); exact BK224.out⟩, ⟨by repeat (first | (with_reducible first | exact HB.out | apply below_alloc | apply pw_below_drewN | apply below_drew1 | refine below_set ?_ GE224.out) | exact HB.out)⟩⟩
 case rest =>
  clear HC3
  try clear p2
  try clear c5
  try clear c5b0
  try clear c6
  try clear c6b0
  try clear c7
  try clear c7b0
  obtain ⟨kq, x24_2, rfl, HA, HJ2, BK224, HB⟩ := hcut
  cases kq with
  | zero => exact absurd HA.out (by simp [garrisonref09_New.j0])
  | succ kj2 =>
   have H := HA.out
   clear HA
   simp only [garrisonref09_New.j0] at H
   by_cases c8 : x24_2 = true
   ·subst c8
    have H1 : (some (([] : List (S70)), ([] : List (List Int)), 2)) = some (r1, r2, r3) := by rw [if_pos rfl] at H; exact H
    clear H
    have H := H1
    clear H1
    simp only [Option.some.injEq, Prod.mk.injEq] at H
    obtain ⟨rfl, rfl, rfl⟩ := H
    have hcz9_0 : wc.cell? ⟨gb224, 0, none⟩ = some (.slice none 0 0) := (blk_cell BK224.out 0).trans rfl
    have hcz9_1 : wc.cell? ⟨gb224, 1, none⟩ = some (.slice none 0 0) := (blk_cell BK224.out 1).trans rfl
    have hfz9_0 := blk_frozen BK224.out 0
    have hfz9_1 := blk_frozen BK224.out 1
    go_wp2
    refine bodyPost_ret (results_ct rfl _ _ gb224 25 #[.slice none 0 0, .slice none 0 0] (0, 0) _ rfl (by (with_reducible repeat (first | refine blk_drewN ?_ _ | refine blk_drew ?_ | refine blk_alloc ?_ _)); refine blk_put (cs := #[.slice none 0 0, .slice none 0 0]) ?_ 1 _ rfl; (with_reducible repeat (first | refine blk_drewN ?_ _ | refine blk_drew ?_ | refine blk_alloc ?_ _)); refine blk_put (cs := #[.slice none 0 0, .slice none 0 0]) ?_ 0 _ rfl; (with_reducible repeat (first | refine blk_drewN ?_ _ | refine blk_drew ?_ | refine blk_alloc ?_ _)); exact BK224.out) Tryz.underlying25 rfl (by kernel_rfl)) rfl ?_
    exact ⟨_, _, by first | rfl | (simp [errW_none, errW_some] <;> rfl) | (simp [*, errW_none, errW_some] <;> rfl), by first | exact Kd.R_nil _ _ _ _ _ | exact Kd.N_nil _ _ _ _ _ | exact Kd.V_nil _ _ _ _ _ | exact Kd.Q_nil _ _ _ _ _ | exact Kd.S_nil _ _ _ _ _, by first | exact Kd.S_nil _ _ _ _ _ | exact Kd.N_nil _ _ _ _ _ | exact Kd.V_nil _ _ _ _ _ | exact Kd.Q_nil _ _ _ _ _ | exact Kd.R_nil _ _ _ _ _, by repeat (first | (with_reducible first | exact HB.out | apply below_alloc | apply pw_below_drewN | apply below_drew1 | refine below_set ?_ GE224.out) | exact HB.out)⟩
   ·replace c8 := Bool.eq_false_iff.mpr c8
    subst c8
    have H1 : (garrisonref09_New.l0 kj2 a0 a1 0 ([] : List (List Int))) = some (r1, r2, r3) := by rw [if_neg (show ¬ (false = true) by decide)] at H; exact H
    clear H
    have H := H1
    clear H1
    have H' := Aside0.mk H
    clear H
    go_wp2_with (first | ((with_reducible refine gate_dst (N := 6) rfl ?_); refine box_event ?hg (N := 6) ?hd (cs := #[.slice none 0 0, .slice none 0 0]) (t := 25) ?hr ?_; (case hd => rfl); (case hg => rfl); (case hr => first | (go_simp; done) | (go_simp; rfl)); intro gb225 hg w10 hbox hb; have n0_ := Aside0.mk (blk_below (g := gb224) (o := .cells #[.slice none 0 0, .slice none 0 0] 25 (0, 0)) (by (with_reducible repeat (first | refine blk_drewN ?_ _ | refine blk_drew ?_ | refine blk_alloc ?_ _)); exact BK224.out) hb); have n1_ := Aside0.mk (below_step (by repeat (first | (with_reducible first | exact HB.out | apply below_alloc | apply pw_below_drewN | apply below_drew1 | refine below_set ?_ GE224.out) | exact HB.out)) hb); have n2_ := Aside0.mk (hbox); have n3_ := Aside0.mk ((by rw [hg]; exact (below_size (by repeat (first | (with_reducible first | exact HB.out | apply below_alloc | apply pw_below_drewN | apply below_drew1 | refine below_set ?_ GE224.out) | exact HB.out))) : w.heap.size ≤ gb225)); have n4_ := Aside0.mk ((by rw [hg]; exact (below_size (by repeat (first | (with_reducible first | exact HB.out | apply below_alloc | apply pw_below_drewN | apply below_drew1 | refine below_set ?_ GE224.out) | exact HB.out))) : w.heap.size ≤ gb225)); have n5_ := Aside0.mk ((by rw [hg]; exact Nat.ne_of_lt (blk_lt (g := gb224) (o := .cells #[.slice none 0 0, .slice none 0 0] 25 (0, 0)) (by (with_reducible repeat (first | refine blk_drewN ?_ _ | refine blk_drew ?_ | refine blk_alloc ?_ _)); exact BK224.out)) : gb224 ≠ gb225)); have n6_ := Aside0.mk ((by rw [hg]; exact Nat.ne_of_gt (blk_lt (g := gb224) (o := .cells #[.slice none 0 0, .slice none 0 0] 25 (0, 0)) (by (with_reducible repeat (first | refine blk_drewN ?_ _ | refine blk_drew ?_ | refine blk_alloc ?_ _)); exact BK224.out)) : gb225 ≠ gb224)); clear BK224; clear HB; have BK224 := n0_; have HB := n1_; have BK225 := n2_; have GW225 := n3_; have GE225 := n4_; have NB224_225 := n5_; have NB225_224 := n6_; clear n0_ n1_ n2_ n3_ n4_ n5_ n6_; clear hb hbox hg; have hnb11 := NB225_224.out; have hnc11 := NB224_225.out; have hcz12_0 : w10.cell? ⟨gb225, 0, none⟩ = some (.slice none 0 0) := (blk_cell BK225.out 0).trans rfl; have hcz12_1 : w10.cell? ⟨gb225, 1, none⟩ = some (.slice none 0 0) := (blk_cell BK225.out 1).trans rfl; have hfz12_0 := blk_frozen BK225.out 0; have hfz12_1 := blk_frozen BK225.out 1))
    go_loopg [7] kj2 (fun kq v7 w' => ∃ (x7_2 : Int) (x226001_2 : List (List Int)) (u226001 : Value), v7 = .int .i64 x7_2 ∧ Aside0 (garrisonref09_New.l0 kq a0 a1 x7_2 x226001_2 = some (r1, r2, r3)) ∧ Aside0 (kq ≤ kj2) ∧ Aside0 (Kd.S (Kd.slice 3 (Kd.int .i64)) 29 w' w.heap.size (fun _ => True) u226001 x226001_2) ∧ Aside0 (w'.heap[gb224]? = some (.cells #[(.slice none 0 0), (.slice none 0 0)] 25 (0, 0))) ∧ Aside0 (w'.heap[gb225]? = some (.cells #[(.slice none 0 0), u226001] 25 (0, 0))) ∧ Aside0 (Below w.heap.size w w'))
    case atStart => exact ⟨(0), (([] : List (List Int))), (.slice none 0 0), (by first | rfl | (simp; done) | (simp [*]; done)), H', ⟨Nat.le_refl _⟩, ⟨by first | exact Kd.S_nil _ _ _ _ _ | exact Kd.N_nil _ _ _ _ _ | exact Kd.V_nil _ _ _ _ _ | exact Kd.Q_nil _ _ _ _ _ | exact Kd.R_nil _ _ _ _ _⟩, ⟨by (with_reducible repeat (first | refine blk_drewN ?_ _ | refine blk_drew ?_ | refine blk_alloc ?_ _)); refine blk_far ?_ NB224_225.out _; (with_reducible repeat (first | refine blk_drewN ?_ _ | refine blk_drew ?_ | refine blk_alloc ?_ _)); refine blk_far ?_ NB224_225.out _; (with_reducible repeat (first | refine blk_drewN ?_ _ | refine blk_drew ?_ | refine blk_alloc ?_ _)); exact BK224.out⟩, ⟨by (with_reducible repeat (first | refine blk_drewN ?_ _ | refine blk_drew ?_ | refine blk_alloc ?_ _)); refine blk_put (cs := #[.slice none 0 0, .slice none 0 0]) ?_ 1 _ rfl; (with_reducible repeat (first | refine blk_drewN ?_ _ | refine blk_drew ?_ | refine blk_alloc ?_ _)); refine blk_put (cs := #[.slice none 0 0, .slice none 0 0]) ?_ 0 _ rfl; (with_reducible repeat (first | refine blk_drewN ?_ _ | refine blk_drew ?_ | refine blk_alloc ?_ _)); exact BK225.out⟩, ⟨by repeat (first | (with_reducible first | exact HB.out | apply below_alloc | apply pw_below_drewN | apply below_drew1 | refine below_set ?_ GE224.out | refine below_set ?_ GE225.out) | exact HB.out)⟩⟩
    case round =>
     clear H'
     try clear c1
     try clear p2
     try clear c5
     try clear c5b0
     try clear c6
     try clear c6b0
     try clear c7
     try clear c7b0
     try clear c8
     try clear c11
     try clear hcz12_0
     try clear hcz12_1
     try clear hcz9_0
     try clear hcz9_1
     try clear hfz12_0
     try clear hfz12_1
     try clear hfz9_0
     try clear hfz9_1
     try clear p2
     obtain ⟨x7_2, x226001_2, u226001, rfl, HA, HK2, HO_226001, BK224, BK225, HB⟩ := hrel
     cases gk with
     | zero => exact absurd HA.out (by simp [garrisonref09_New.l0])
     | succ k2 =>
      have H := HA.out
      clear HA
      simp only [garrisonref09_New.l0] at H
      by_cases c13 : x7_2 < a1
      ·rw [if_pos c13] at H
       have c13b0 : decide (x7_2 < a1) = true := decide_eq_true c13
       clear c13
       have H' := Aside0.mk H
       clear H
       go_wp2
       go_loopg [8, 9] k2 (fun kq v8 v9 w' => ∃ (x8_3 : List Int) (x9_3 : Int), v9 = .int .i64 x9_3 ∧ Aside0 (garrisonref09_New.l1 kq a0 a1 x7_2 x8_3 x9_3 x226001_2 = some (r1, r2, r3)) ∧ Aside0 (kq ≤ k2) ∧ Aside0 (Kd.R (Kd.int .i64) 3 w' w.heap.size (fun _ => True) v8 x8_3) ∧ Aside0 (Kd.S (Kd.slice 3 (Kd.int .i64)) 29 w' w.heap.size (fun k_ => some k_ ≠ (v8 : Value).ownBlock) u226001 x226001_2) ∧ Aside0 (w'.heap[gb224]? = some (.cells #[(.slice none 0 0), (.slice none 0 0)] 25 (0, 0))) ∧ Aside0 (w'.heap[gb225]? = some (.cells #[(.slice none 0 0), u226001] 25 (0, 0))) ∧ Aside0 (Below w.heap.size w w'))
       case atStart => exact ⟨(([] : List Int)), (x7_2), (by first | rfl | (simp; done) | (simp [*]; done)), H', ⟨Nat.le_refl _⟩, ⟨by first | exact Kd.R_nil _ _ _ _ _ | exact Kd.N_nil _ _ _ _ _ | exact Kd.V_nil _ _ _ _ _ | exact Kd.Q_nil _ _ _ _ _ | exact Kd.S_nil _ _ _ _ _⟩, ⟨by (with_reducible repeat (first | apply Kd.S_alloc | apply Kd.S_drewN | apply Kd.S_drew)); exact Kd.S_mono HO_226001.out (fun _ hk => (by simp [Value.ownBlock]))⟩, ⟨by (with_reducible repeat (first | refine blk_drewN ?_ _ | refine blk_drew ?_ | refine blk_alloc ?_ _)); exact BK224.out⟩, ⟨by (with_reducible repeat (first | refine blk_drewN ?_ _ | refine blk_drew ?_ | refine blk_alloc ?_ _)); exact BK225.out⟩, ⟨by repeat (first | (with_reducible first | exact HB.out | apply below_alloc | apply pw_below_drewN | apply below_drew1 | refine below_set ?_ GE224.out | refine below_set ?_ GE225.out) | exact HB.out)⟩⟩
       case round =>
        clear H'
        try clear c1
        try clear p2
        try clear c5
        try clear c5b0
        try clear c6
        try clear c6b0
        try clear c7
        try clear c7b0
        try clear c8
        try clear c11
        try clear c13
        try clear c13b0
        try clear hcz12_0
        try clear hcz12_1
        try clear hcz9_0
        try clear hcz9_1
        try clear hfz12_0
        try clear hfz12_1
        try clear hfz9_0
        try clear hfz9_1
        try clear p2
        obtain ⟨x8_3, x9_3, rfl, HA, HK3, HO_8, HO_226001, BK224, BK225, HB⟩ := hrel
        cases gk with
        | zero => exact absurd HA.out (by simp [garrisonref09_New.l1])
        | succ k3 =>
         have H := HA.out
         clear HA
         simp only [garrisonref09_New.l1] at H
         by_cases c14 : x9_3 < a0
         ·rw [if_pos c14] at H
          have c14b0 : decide (x9_3 < a0) = true := decide_eq_true c14
          clear c14
          by_cases c15 : x8_3.length < 17592186044416
          ·rw [if_pos c15] at H
           have LMc15 := Aside0.mk c15
           clear c15
           obtain ⟨y226, hy226⟩ : ∃ y_ : List Int, y_ = (x8_3 ++ [x9_3]) := ⟨_, rfl⟩
           replace H : (garrisonref09_New.l1 k3 a0 a1 x7_2 y226 (wrap64 (x9_3 + a1)) x226001_2) = some (r1, r2, r3) := by first | (rw [hy226]; with_reducible exact H) | (have H2_ := (Option.bind_some _ _).symm.trans H; rw [hy226]; with_reducible exact H2_) | (have H2_ := (Option.bind_some _ _).symm.trans H; with_reducible exact H2_) | with_reducible exact H | (rw [hy226]; exact H) | exact H
           have Ny226 := Aside0.mk hy226
           clear hy226
           have H' := Aside0.mk H
           clear H
           go_wp2_with (first | ((with_reducible refine gate_builtin (b := .append) (xs := #[.tmp 39, .tmp 41]) rfl ?_); at_builtin; refine Kd.R_append (Kd.int .i64) (w0 := w) w.heap.size rfl (.tmp 39) (.tmp 41) 29 3 (.int .i64 0) 8 rfl Tryz.underlying29 info3 rfl (by decide) (by omega) u8 x8_3 x9_3 [.int .i64 x9_3] (fun _ => True) (fun _ => False) rfl rfl ?aP (fun _ hk => hk.elim) ?aF ?aO ?aB ?aS ?aL ?_; (case aP => exact rfl); (case aB => exact (by repeat (first | (with_reducible first | exact HB.out | apply below_alloc | apply pw_below_drewN | apply below_drew1 | refine below_set ?_ GE224.out | refine below_set ?_ GE225.out) | exact HB.out))); (case aF => exact (fun _ _ => trivial)); (case aO => exact (by (with_reducible repeat (first | apply Kd.R_alloc | apply Kd.R_drewN | apply Kd.R_drew)); exact HO_8.out)); (case aS => exact (below_size (by repeat (first | (with_reducible first | exact HB.out | apply below_alloc | apply pw_below_drewN | apply below_drew1 | refine below_set ?_ GE224.out | refine below_set ?_ GE225.out) | exact HB.out)))); (case aL => have := LMc15.out; omega); intro v227 w16 ho hb hg hat; rw [← Ny226.out] at ho; have n0_ := Aside0.mk (Kd.S_after (ok := (fun _ => True)) (by (with_reducible repeat (first | apply Kd.S_alloc | apply Kd.S_drewN | apply Kd.S_drew)); exact Kd.S_mono HO_226001.out (fun _ hk => ⟨trivial, hk⟩)) hg hat); have n1_ := Aside0.mk (blk_grown (g := gb224) (o := .cells #[.slice none 0 0, .slice none 0 0] 25 (0, 0)) (by (with_reducible repeat (first | refine blk_drewN ?_ _ | refine blk_drew ?_ | refine blk_alloc ?_ _)); exact BK224.out) hg (Kd.R_ne HO_8.out BK224.out (by decide))); have n2_ := Aside0.mk (blk_grown (g := gb225) (o := .cells #[.slice none 0 0, u226001] 25 (0, 0)) (by (with_reducible repeat (first | refine blk_drewN ?_ _ | refine blk_drew ?_ | refine blk_alloc ?_ _)); exact BK225.out) hg (Kd.R_ne HO_8.out BK225.out (by decide))); have n3_ := Aside0.mk (hb); have n4_ := Aside0.mk (ho); clear HO_226001; clear BK224; clear BK225; clear HB; clear HO_8; have HO_226001 := n0_; have BK224 := n1_; have BK225 := n2_; have HB := n3_; have HO228 := n4_; clear n0_ n1_ n2_ n3_ n4_; clear ho hb hg hat))
           go_roundg k3
           case measure => have := HJ2.out; have := HK2.out; have := HK3.out; omega
           case rel => exact ⟨(y226), (wrap64 (x9_3 + a1)), (by first | rfl | (simp; done) | (simp [*]; done)), H', ⟨by have := HJ2.out; have := HK2.out; have := HK3.out; omega⟩, ⟨by (with_reducible repeat (first | apply Kd.R_alloc | apply Kd.R_drewN | apply Kd.R_drew)); exact HO228.out⟩, ⟨by (with_reducible repeat (first | apply Kd.S_alloc | apply Kd.S_drewN | apply Kd.S_drew)); exact Kd.S_mono HO_226001.out (fun _ hk => hk.2)⟩, ⟨by (with_reducible repeat (first | refine blk_drewN ?_ _ | refine blk_drew ?_ | refine blk_alloc ?_ _)); exact BK224.out⟩, ⟨by (with_reducible repeat (first | refine blk_drewN ?_ _ | refine blk_drew ?_ | refine blk_alloc ?_ _)); exact BK225.out⟩, ⟨by repeat (first | (with_reducible first | exact HB.out | apply below_alloc | apply pw_below_drewN | apply below_drew1 | refine below_set ?_ GE224.out | refine below_set ?_ GE225.out) | exact HB.out)⟩⟩
          ·rw [if_neg c15] at H
           exact absurd H (by simp)
         ·rw [if_neg c14] at H
          have c14b0 : decide (x9_3 < a0) = false := decide_eq_false c14
          clear c14
          by_cases c17 : x226001_2.length < 5864062014805
          ·rw [if_pos c17] at H
           have LMc17 := Aside0.mk c17
           clear c17
           obtain ⟨y229, hy229⟩ : ∃ y_ : List (List Int), y_ = (x226001_2 ++ [x8_3]) := ⟨_, rfl⟩
           replace H : (garrisonref09_New.l0 k3 a0 a1 (wrap64 (x7_2 + 1)) y229) = some (r1, r2, r3) := by first | (rw [hy229]; with_reducible exact H) | (have H2_ := (Option.bind_some _ _).symm.trans H; rw [hy229]; with_reducible exact H2_) | (have H2_ := (Option.bind_some _ _).symm.trans H; with_reducible exact H2_) | with_reducible exact H | (rw [hy229]; exact H) | exact H
           have Ny229 := Aside0.mk hy229
           clear hy229
           have H' := Aside0.mk H
           clear H
           have hnb18 := NB225_224.out
           have hnc18 := NB224_225.out
           have hcz19_0 : wr.cell? ⟨gb225, 0, none⟩ = some (.slice none 0 0) := (blk_cell BK225.out 0).trans rfl
           have hcz19_1 : wr.cell? ⟨gb225, 1, none⟩ = some (u226001) := (blk_cell BK225.out 1).trans rfl
           have hfz19_0 := blk_frozen BK225.out 0
           have hfz19_1 := blk_frozen BK225.out 1
           obtain ⟨Ao21, co21, eo21⟩ := Kd.R_slice HO_8.out
           subst eo21
           go_wp2_with (first | ((with_reducible refine gate_builtin (b := .append) (xs := #[.tmp 44, .tmp 46]) rfl ?_); at_builtin; refine Kd.S_append (Kd.slice 3 (Kd.int .i64)) (w0 := w) w.heap.size rfl (.tmp 44) (.tmp 46) 23 29 (.slice none 0 0) 24 rfl Tryz.underlying23 info29 rfl (by decide) (by omega) u226001 x226001_2 x8_3 [.slice Ao21 x8_3.length co21] (fun _ => True) (fun k_ => some k_ = (.slice Ao21 x8_3.length co21 : Value).ownBlock) rfl rfl ?aP (fun k_ hk_ => ((Kd.R_mono (ok' := fun k_ => ((fun _ => True)) k_ ∧ some k_ ≠ (u226001 : Value).ownBlock) (Kd.R_apart' (HO_8.out) (Kd.S_typed HO_226001.out) (by decide)) (fun k_ hk => ⟨trivial, hk.2⟩))).1 k_ hk_.symm) ?aF ?aO ?aB ?aS ?aL ?_; (case aP => exact Kd.M_row (Kd.R_mono (Kd.R_tight rfl (Kd.R_mono (ok' := fun k_ => ((fun _ => True)) k_ ∧ some k_ ≠ (u226001 : Value).ownBlock) (Kd.R_apart' (HO_8.out) (Kd.S_typed HO_226001.out) (by decide)) (fun k_ hk => ⟨trivial, hk.2⟩))) (fun _ h_ => h_))); (case aB => exact (by repeat (first | (with_reducible first | exact HB.out | apply below_alloc | apply pw_below_drewN | apply below_drew1 | refine below_set ?_ GE224.out | refine below_set ?_ GE225.out) | exact HB.out))); (case aF => exact (fun _ _ => trivial)); (case aO => exact (by (with_reducible repeat (first | apply Kd.S_alloc | apply Kd.S_drewN | apply Kd.S_drew)); exact Kd.S_mono HO_226001.out (fun k_ hk => ⟨trivial, fun e_ => hk e_⟩))); (case aS => exact (below_size (by repeat (first | (with_reducible first | exact HB.out | apply below_alloc | apply pw_below_drewN | apply below_drew1 | refine below_set ?_ GE224.out | refine below_set ?_ GE225.out) | exact HB.out)))); (case aL => have := LMc17.out; omega); intro v230 w20 ho hb hg hat; rw [← Ny229.out] at ho; have n0_ := Aside0.mk (blk_grown (g := gb224) (o := .cells #[.slice none 0 0, .slice none 0 0] 25 (0, 0)) (by (with_reducible repeat (first | refine blk_drewN ?_ _ | refine blk_drew ?_ | refine blk_alloc ?_ _)); exact BK224.out) hg (Kd.S_ne HO_226001.out BK224.out (by decide))); have n1_ := Aside0.mk (blk_grown (g := gb225) (o := .cells #[.slice none 0 0, u226001] 25 (0, 0)) (by (with_reducible repeat (first | refine blk_drewN ?_ _ | refine blk_drew ?_ | refine blk_alloc ?_ _)); exact BK225.out) hg (Kd.S_ne HO_226001.out BK225.out (by decide))); have n2_ := Aside0.mk (hb); have n3_ := Aside0.mk (ho); clear BK224; clear BK225; clear HB; clear HO_226001; clear HO_8; have BK224 := n0_; have BK225 := n1_; have HB := n2_; have HO231 := n3_; clear n0_ n1_ n2_ n3_; clear ho hb hg hat; obtain ⟨Ao22, co22, eo22⟩ := Kd.S_slice HO231.out; subst eo22; have hcz23_0 : w20.cell? ⟨gb225, 0, none⟩ = some (.slice none 0 0) := (blk_cell BK225.out 0).trans rfl; have hcz23_1 : w20.cell? ⟨gb225, 1, none⟩ = some (u226001) := (blk_cell BK225.out 1).trans rfl; have hfz23_0 := blk_frozen BK225.out 0; have hfz23_1 := blk_frozen BK225.out 1))
           go_roundg k3
           case measure => have := HJ2.out; have := HK2.out; have := HK3.out; omega
           case rel => exact ⟨(wrap64 (x7_2 + 1)), (y229), (.slice Ao22 y229.length co22), (by first | rfl | (simp; done) | (simp [*]; done)), H', ⟨by have := HJ2.out; have := HK2.out; have := HK3.out; omega⟩, ⟨by (with_reducible repeat (first | apply Kd.S_alloc | apply Kd.S_drewN | apply Kd.S_drew)); exact Kd.S_mono (Kd.S_far (p := ⟨gb225, 1, none⟩) (Kd.S_types HO231.out BK225.out (by decide)) (fun _ hk => hk.2) (.slice Ao22 y229.length co22)) (fun _ hk => trivial)⟩, ⟨by (with_reducible repeat (first | refine blk_drewN ?_ _ | refine blk_drew ?_ | refine blk_alloc ?_ _)); refine blk_far ?_ NB224_225.out _; (with_reducible repeat (first | refine blk_drewN ?_ _ | refine blk_drew ?_ | refine blk_alloc ?_ _)); exact BK224.out⟩, ⟨by (with_reducible repeat (first | refine blk_drewN ?_ _ | refine blk_drew ?_ | refine blk_alloc ?_ _)); refine blk_put (cs := #[.slice none 0 0, u226001]) ?_ 1 _ rfl; (with_reducible repeat (first | refine blk_drewN ?_ _ | refine blk_drew ?_ | refine blk_alloc ?_ _)); exact BK225.out⟩, ⟨by repeat (first | (with_reducible first | exact HB.out | apply below_alloc | apply pw_below_drewN | apply below_drew1 | refine below_set ?_ GE224.out | refine below_set ?_ GE225.out) | exact HB.out)⟩⟩
          ·rw [if_neg c17] at H
           exact absurd H (by simp)
      ·rw [if_neg c13] at H
       have c13b0 : decide (x7_2 < a1) = false := decide_eq_false c13
       clear c13
       have H' := Aside0.mk H
       clear H
       go_wp2
       go_loopg [10] k2 (fun kq v10 w' => ∃ (x10_3 : Int) (x226000_3 : List (S70)) (u226000 : Value), v10 = .int .i64 x10_3 ∧ Aside0 (garrisonref09_New.l2 kq a0 x10_3 x226000_3 x226001_2 = some (r1, r2, r3)) ∧ Aside0 (kq ≤ k2) ∧ Aside0 (Kd.R k70 70 w' w.heap.size (fun _ => True) u226000 x226000_3) ∧ Aside0 (Kd.S (Kd.slice 3 (Kd.int .i64)) 29 w' w.heap.size (fun _ => True) u226001 x226001_2) ∧ Aside0 (w'.heap[gb224]? = some (.cells #[(.slice none 0 0), (.slice none 0 0)] 25 (0, 0))) ∧ Aside0 (w'.heap[gb225]? = some (.cells #[u226000, u226001] 25 (0, 0))) ∧ Aside0 (Below w.heap.size w w'))
       case atStart => exact ⟨(0), (([] : List (S70))), (.slice none 0 0), (by first | rfl | (simp; done) | (simp [*]; done)), H', ⟨Nat.le_refl _⟩, ⟨by first | exact Kd.R_nil _ _ _ _ _ | exact Kd.N_nil _ _ _ _ _ | exact Kd.V_nil _ _ _ _ _ | exact Kd.Q_nil _ _ _ _ _ | exact Kd.S_nil _ _ _ _ _⟩, ⟨by (with_reducible repeat (first | apply Kd.S_alloc | apply Kd.S_drewN | apply Kd.S_drew)); exact HO_226001.out⟩, ⟨by (with_reducible repeat (first | refine blk_drewN ?_ _ | refine blk_drew ?_ | refine blk_alloc ?_ _)); exact BK224.out⟩, ⟨by (with_reducible repeat (first | refine blk_drewN ?_ _ | refine blk_drew ?_ | refine blk_alloc ?_ _)); exact BK225.out⟩, ⟨by repeat (first | (with_reducible first | exact HB.out | apply below_alloc | apply pw_below_drewN | apply below_drew1 | refine below_set ?_ GE224.out | refine below_set ?_ GE225.out) | exact HB.out)⟩⟩
       case round =>
        clear H'
        try clear c1
        try clear p2
        try clear c5
        try clear c5b0
        try clear c6
        try clear c6b0
        try clear p6
        try clear c7
        try clear c7b0
        try clear c8
        try clear c11
        try clear c13
        try clear c13b0
        try clear c14
        try clear c14b0
        try clear c15
        try clear c17
        try clear c18
        try clear hcz12_0
        try clear hcz12_1
        try clear hcz19_0
        try clear hcz19_1
        try clear hcz23_0
        try clear hcz23_1
        try clear hcz9_0
        try clear hcz9_1
        try clear hfz12_0
        try clear hfz12_1
        try clear hfz19_0
        try clear hfz19_1
        try clear hfz23_0
        try clear hfz23_1
        try clear hfz9_0
        try clear hfz9_1
        try clear p2
        obtain ⟨x10_3, x226000_3, u226000, rfl, HA, HK3, HO_226000, HO_226001, BK224, BK225, HB⟩ := hrel
        cases gk with
        | zero => exact absurd HA.out (by simp [garrisonref09_New.l2])
        | succ k3 =>
         have H := HA.out
         clear HA
         simp only [garrisonref09_New.l2] at H
         by_cases c24 : x10_3 < a0
         ·rw [if_pos c24] at H
          have c24b0 : decide (x10_3 < a0) = true := decide_eq_true c24
          clear c24
          by_cases c25 : x226000_3.length < 2199023255552
          ·rw [if_pos c25] at H
           have LMc25 := Aside0.mk c25
           clear c25
           obtain ⟨y232, hy232⟩ : ∃ y_ : List (S70), y_ = (x226000_3 ++ [(⟨0, 0, 0, 0, 0, 0, (-1), 0⟩ : S70)]) := ⟨_, rfl⟩
           replace H : (garrisonref09_New.l2 k3 a0 (wrap64 (x10_3 + 1)) y232 x226001_2) = some (r1, r2, r3) := by first | (rw [hy232]; with_reducible exact H) | (have H2_ := (Option.bind_some _ _).symm.trans H; rw [hy232]; with_reducible exact H2_) | (have H2_ := (Option.bind_some _ _).symm.trans H; with_reducible exact H2_) | with_reducible exact H | (rw [hy232]; exact H) | exact H
           have Ny232 := Aside0.mk hy232
           clear hy232
           have H' := Aside0.mk H
           clear H
           have hnb26 := NB225_224.out
           have hnc26 := NB224_225.out
           have hcz27_0 : wr.cell? ⟨gb225, 0, none⟩ = some (u226000) := (blk_cell BK225.out 0).trans rfl
           have hcz27_1 : wr.cell? ⟨gb225, 1, none⟩ = some (u226001) := (blk_cell BK225.out 1).trans rfl
           have hfz27_0 := blk_frozen BK225.out 0
           have hfz27_1 := blk_frozen BK225.out 1
           go_wp2_with (first | ((with_reducible refine gate_builtin (b := .append) (xs := #[.tmp 55, .tmp 57]) rfl ?_); at_builtin; refine Kd.R_append k70 (w0 := w) w.heap.size rfl (.tmp 55) (.tmp 57) 22 70 (.agg #[(.int .i64 0), (.int .i64 0), (.int .i64 0), (.int .i64 0), (.int .i64 0), (.int .i64 0), (.int .i64 0), (.int .i64 0)]) 64 rfl Tryz.underlying22 info70 rfl (by decide) (by omega) u226000 x226000_3 (⟨0, 0, 0, 0, 0, 0, (-1), 0⟩ : S70) [.int .i64 0, .int .i64 0, .int .i64 0, .int .i64 0, .int .i64 0, .int .i64 0, .int .i64 (-1), .int .i64 0] (fun _ => True) (fun _ => False) rfl rfl ?aP (fun _ hk => hk.elim) ?aF ?aO ?aB ?aS ?aL ?_; (case aP => exact k70_mkM _ _ _ (⟨0, 0, 0, 0, 0, 0, (-1), 0⟩ : S70)); (case aB => exact (by repeat (first | (with_reducible first | exact HB.out | apply below_alloc | apply pw_below_drewN | apply below_drew1 | refine below_set ?_ GE224.out | refine below_set ?_ GE225.out) | exact HB.out))); (case aF => exact (fun _ _ => trivial)); (case aO => exact (by (with_reducible repeat (first | apply Kd.R_alloc | apply Kd.R_drewN | apply Kd.R_drew)); exact HO_226000.out)); (case aS => exact (below_size (by repeat (first | (with_reducible first | exact HB.out | apply below_alloc | apply pw_below_drewN | apply below_drew1 | refine below_set ?_ GE224.out | refine below_set ?_ GE225.out) | exact HB.out)))); (case aL => have := LMc25.out; omega); intro v233 w28 ho hb hg hat; rw [← Ny232.out] at ho; have n0_ := Aside0.mk (Kd.S_over' (by (with_reducible repeat (first | apply Kd.S_alloc | apply Kd.S_drewN | apply Kd.S_drew)); exact HO_226001.out) (Kd.R_typed (by (with_reducible repeat (first | apply Kd.R_alloc | apply Kd.R_drewN | apply Kd.R_drew)); exact HO_226000.out)) (by decide) hg); have n1_ := Aside0.mk (blk_grown (g := gb224) (o := .cells #[.slice none 0 0, .slice none 0 0] 25 (0, 0)) (by (with_reducible repeat (first | refine blk_drewN ?_ _ | refine blk_drew ?_ | refine blk_alloc ?_ _)); exact BK224.out) hg (Kd.R_ne HO_226000.out BK224.out (by decide))); have n2_ := Aside0.mk (blk_grown (g := gb225) (o := .cells #[u226000, u226001] 25 (0, 0)) (by (with_reducible repeat (first | refine blk_drewN ?_ _ | refine blk_drew ?_ | refine blk_alloc ?_ _)); exact BK225.out) hg (Kd.R_ne HO_226000.out BK225.out (by decide))); have n3_ := Aside0.mk (hb); have n4_ := Aside0.mk (ho); clear HO_226001; clear BK224; clear BK225; clear HB; clear HO_226000; have HO_226001 := n0_; have BK224 := n1_; have BK225 := n2_; have HB := n3_; have HO234 := n4_; clear n0_ n1_ n2_ n3_ n4_; clear ho hb hg hat; obtain ⟨Ao29, co29, eo29⟩ := Kd.R_slice HO234.out; subst eo29; have hcz30_0 : w28.cell? ⟨gb225, 0, none⟩ = some (u226000) := (blk_cell BK225.out 0).trans rfl; have hcz30_1 : w28.cell? ⟨gb225, 1, none⟩ = some (u226001) := (blk_cell BK225.out 1).trans rfl; have hfz30_0 := blk_frozen BK225.out 0; have hfz30_1 := blk_frozen BK225.out 1))
           go_roundg k3
           case measure => have := HJ2.out; have := HK2.out; have := HK3.out; omega
           case rel => exact ⟨(wrap64 (x10_3 + 1)), (y232), (.slice Ao29 y232.length co29), (by first | rfl | (simp; done) | (simp [*]; done)), H', ⟨by have := HJ2.out; have := HK2.out; have := HK3.out; omega⟩, ⟨by (with_reducible repeat (first | apply Kd.R_alloc | apply Kd.R_drewN | apply Kd.R_drew)); exact Kd.R_mono (Kd.R_far (p := ⟨gb225, 0, none⟩) (Kd.R_types HO234.out BK225.out (by decide)) (fun _ hk => hk.2) (.slice Ao29 y232.length co29)) (fun _ hk => trivial)⟩, ⟨by (with_reducible repeat (first | apply Kd.S_alloc | apply Kd.S_drewN | apply Kd.S_drew)); exact Kd.S_mono (Kd.S_far (p := ⟨gb225, 0, none⟩) (Kd.S_types HO_226001.out BK225.out (by decide)) (fun _ hk => hk.2) (.slice Ao29 y232.length co29)) (fun _ hk => trivial)⟩, ⟨by (with_reducible repeat (first | refine blk_drewN ?_ _ | refine blk_drew ?_ | refine blk_alloc ?_ _)); refine blk_far ?_ NB224_225.out _; (with_reducible repeat (first | refine blk_drewN ?_ _ | refine blk_drew ?_ | refine blk_alloc ?_ _)); exact BK224.out⟩, ⟨by (with_reducible repeat (first | refine blk_drewN ?_ _ | refine blk_drew ?_ | refine blk_alloc ?_ _)); refine blk_put (cs := #[u226000, u226001]) ?_ 0 _ rfl; (with_reducible repeat (first | refine blk_drewN ?_ _ | refine blk_drew ?_ | refine blk_alloc ?_ _)); exact BK225.out⟩, ⟨by repeat (first | (with_reducible first | exact HB.out | apply below_alloc | apply pw_below_drewN | apply below_drew1 | refine below_set ?_ GE224.out | refine below_set ?_ GE225.out) | exact HB.out)⟩⟩
          ·rw [if_neg c25] at H
           exact absurd H (by simp)
         ·rw [if_neg c24] at H
          have c24b0 : decide (x10_3 < a0) = false := decide_eq_false c24
          clear c24
          simp only [Option.some.injEq, Prod.mk.injEq] at H
          obtain ⟨rfl, rfl, rfl⟩ := H
          have hnb31 := NB225_224.out
          have hnc31 := NB224_225.out
          have hcz32_0 : wr.cell? ⟨gb225, 0, none⟩ = some (u226000) := (blk_cell BK225.out 0).trans rfl
          have hcz32_1 : wr.cell? ⟨gb225, 1, none⟩ = some (u226001) := (blk_cell BK225.out 1).trans rfl
          have hfz32_0 := blk_frozen BK225.out 0
          have hfz32_1 := blk_frozen BK225.out 1
          obtain ⟨Ao33, co33, eo33⟩ := Kd.R_slice HO_226000.out
          subst eo33
          have hcz34_0 : wr.cell? ⟨gb224, 0, none⟩ = some (.slice none 0 0) := (blk_cell BK224.out 0).trans rfl
          have hcz34_1 : wr.cell? ⟨gb224, 1, none⟩ = some (.slice none 0 0) := (blk_cell BK224.out 1).trans rfl
          have hfz34_0 := blk_frozen BK224.out 0
          have hfz34_1 := blk_frozen BK224.out 1
          obtain ⟨Ao35, co35, eo35⟩ := Kd.S_slice HO_226001.out
          subst eo35
          go_wp2
          refine bodyPost_ret (results_ct rfl _ _ gb224 25 #[.slice Ao33 x226000_3.length co33, .slice Ao35 x226001_2.length co35] (0, 0) _ rfl (by (with_reducible repeat (first | refine blk_drewN ?_ _ | refine blk_drew ?_ | refine blk_alloc ?_ _)); refine blk_put (cs := #[.slice Ao33 x226000_3.length co33, .slice none 0 0]) ?_ 1 _ rfl; (with_reducible repeat (first | refine blk_drewN ?_ _ | refine blk_drew ?_ | refine blk_alloc ?_ _)); refine blk_put (cs := #[.slice none 0 0, .slice none 0 0]) ?_ 0 _ rfl; (with_reducible repeat (first | refine blk_drewN ?_ _ | refine blk_drew ?_ | refine blk_alloc ?_ _)); exact BK224.out) Tryz.underlying25 rfl (by kernel_rfl)) rfl ?_
          exact ⟨_, _, by first | rfl | (simp [errW_none, errW_some] <;> rfl) | (simp [*, errW_none, errW_some] <;> rfl), by (with_reducible repeat (first | apply Kd.R_alloc | apply Kd.R_drewN | apply Kd.R_drew)); exact Kd.R_mono (Kd.R_far (p := ⟨gb224, 1, none⟩) (Kd.R_far (p := ⟨gb224, 0, none⟩) (Kd.R_types HO_226000.out BK224.out (by decide)) (fun _ hk => hk.2) (.slice Ao33 x226000_3.length co33)) (fun _ hk => hk.2) (.slice Ao35 x226001_2.length co35)) (fun _ hk => trivial), by (with_reducible repeat (first | apply Kd.S_alloc | apply Kd.S_drewN | apply Kd.S_drew)); exact Kd.S_mono (Kd.S_far (p := ⟨gb224, 1, none⟩) (Kd.S_far (p := ⟨gb224, 0, none⟩) (Kd.S_types HO_226001.out BK224.out (by decide)) (fun _ hk => hk.2) (.slice Ao33 x226000_3.length co33)) (fun _ hk => hk.2) (.slice Ao35 x226001_2.length co35)) (fun _ hk => trivial), by repeat (first | (with_reducible first | exact HB.out | apply below_alloc | apply pw_below_drewN | apply below_drew1 | refine below_set ?_ GE224.out | refine below_set ?_ GE225.out) | exact HB.out)⟩

/-! ### garrisonref10_Power: function 58 -/
def garrisonref10_Power.l0 : Nat → Int → Int → Option (Bool)
 | 0, _, _ => none
 | k + 1, x0, x3 => if x3 ≤ 1048576 then (if x3 = x0 then (some true) else (garrisonref10_Power.l0 k x0 (wrap64 (2 * x3)))) else (some false)
def garrisonref10_Power.f (k : Nat) (a0 : Int) : Option (Bool) := garrisonref10_Power.l0 k a0 1
theorem garrisonref10_Power.mono_l : ∀ k, (∀ y0 y1, LeO (garrisonref10_Power.l0 k y0 y1) (garrisonref10_Power.l0 (k + 1) y0 y1))
 | 0 => fun _ _ r h => by simp [garrisonref10_Power.l0] at h
 | k + 1 => by
  have ih0 := garrisonref10_Power.mono_l k
  ·intro y0 y1
   unfold garrisonref10_Power.l0
   repeat' first
   | (with_reducible exact ih0 _ _)
   | (with_reducible exact LeO.refl _)
   | (with_reducible exact LeO.none _)
   | (with_reducible refine LeO.ite ?_ ?_)
   | (with_reducible refine LeO.bind ?_ (fun _ => ?_))
   | exact ih0 _ _
   | exact LeO.none _
   | refine LeO.ite ?_ ?_
   | refine LeO.bind ?_ (fun _ => ?_)
theorem garrisonref10_Power.mono : ∀ a0 k, LeO (garrisonref10_Power.f k a0) (garrisonref10_Power.f (k + 1) a0) := by
 intro a0 k
 have ih0 := garrisonref10_Power.mono_l k
 unfold garrisonref10_Power.f
 repeat' first
   | (with_reducible exact ih0 _ _)
   | (with_reducible exact LeO.refl _)
   | (with_reducible exact LeO.none _)
   | (with_reducible refine LeO.ite ?_ ?_)
   | (with_reducible refine LeO.bind ?_ (fun _ => ?_))
   | exact ih0 _ _
   | exact LeO.none _
   | refine LeO.ite ?_ ?_
   | refine LeO.bind ?_ (fun _ => ?_)
set_option maxHeartbeats 8000000 in
set_option maxRecDepth 100000 in
theorem garrisonref10_Power.calls (k : Nat) (a0 : Int) (r : Bool) (w : World) (h : garrisonref10_Power.f k a0 = some r) :
  Calls Tryz.prog 58 #[.int .i64 a0] w fun e w' => e = .returned (.bool r) ∧ Drawn0 w w' := by
 have H : (garrisonref10_Power.l0 k a0 1) = some r := h
 clear h
 have H' := Aside0.mk H
 clear H
 go_enter Tryz.func58, Tryz.ntmps58
 go_wp2
 go_loopg [3] k (fun kq v3 w' => ∃ (x3_1 : Int), v3 = .int .i64 x3_1 ∧ Aside0 (garrisonref10_Power.l0 kq a0 x3_1 = some r) ∧ Aside0 (kq ≤ k) ∧ Drawn0 w w')
 case atStart => exact ⟨(1), (by first | rfl | (simp; done) | (simp [*]; done)), H', ⟨Nat.le_refl _⟩, by repeat (first | exact Drawn0.refl _ | apply Drawn0.step)⟩
 case round =>
  clear H'
  obtain ⟨x3_1, rfl, HA, HK1, ⟨m1, rfl⟩⟩ := hrel
  cases gk with
  | zero => exact absurd HA.out (by simp [garrisonref10_Power.l0])
  | succ k1 =>
   have H := HA.out
   clear HA
   simp only [garrisonref10_Power.l0] at H
   by_cases c2 : x3_1 ≤ 1048576
   ·rw [if_pos c2] at H
    have c2b0 : decide (x3_1 ≤ 1048576) = true := decide_eq_true c2
    clear c2
    by_cases c3 : x3_1 = a0
    ·rw [if_pos c3] at H
     have c3b0 : (x3_1 == a0) = true := beq_iff_eq.mpr c3
     have c3b1 : (x3_1 != a0) = false := bne_eq_false_iff_eq.mpr c3
     clear c3
     obtain rfl := Option.some.inj H
     go_wp2
     go_ret
     exact ⟨by first | rfl | (simp; done) | (simp [*]; done), by repeat (first | exact Drawn0.refl _ | apply Drawn0.step)⟩
    ·rw [if_neg c3] at H
     have c3b0 : (x3_1 == a0) = false := beq_eq_false_iff_ne.mpr c3
     have c3b1 : (x3_1 != a0) = true := bne_iff_ne.mpr c3
     have H' := Aside0.mk H
     clear H
     go_wp2
     go_roundg k1
     case measure => have := HK1.out; omega
     case rel => exact ⟨(wrap64 (2 * x3_1)), (by first | rfl | (simp; done) | (simp [*]; done)), H', ⟨by have := HK1.out; omega⟩, by repeat (first | exact Drawn0.refl _ | apply Drawn0.step)⟩
   ·rw [if_neg c2] at H
    have c2b0 : decide (x3_1 ≤ 1048576) = false := decide_eq_false c2
    clear c2
    obtain rfl := Option.some.inj H
    go_wp2
    go_ret
    exact ⟨by first | rfl | (simp; done) | (simp [*]; done), by repeat (first | exact Drawn0.refl _ | apply Drawn0.step)⟩

end Go.Proofs.YtmcjccigglekpaaGreatDoor.P
namespace Go.Proofs.YtmcjccigglekpaaGreatDoor.Given
open Go Go.RowKit Go.Proofs Go.Proofs.YtmcjccigglekpaaGreatDoorW.PrintWords Go.Proofs.YtmcjccigglekpaaGreatDoorW.PrintLast Go.Proofs.YtmcjccigglekpaaGreatDoorW.PrintMore Go.Proofs.YtmcjccigglekpaaGreatDoor.P

theorem newA : garrisonref09_New.f 20 3 1 = some ([thingF, thingF, thingF], [[0, 1, 2]], 0) := by kernel_rfl
theorem newP : garrisonref10_Power.f 20 64 = some true := by kernel_rfl
/-- The first state of live. -/
def newS : St := ⟨[⟨2, 0, 3, 0, 0, 0, -1, 0⟩, ⟨1, 0, 1, 0, 64, 0, -1, 0⟩, ⟨4, 0, 1, 0, 0, 0, -1, 0⟩], [[]], [[⟨1, 15, 0, 1, 0⟩, ⟨4, 15, 0, 2, 0⟩, ⟨0, 0, 0, 0, 0⟩, ⟨0, 0, 0, 0, 0⟩, ⟨0, 0, 0, 0, 0⟩, ⟨0, 0, 0, 0, 0⟩, ⟨0, 0, 0, 0, 0⟩, ⟨0, 0, 0, 0, 0⟩], [], []], [⟨⟨0, 0⟩, 0, false⟩, ⟨⟨0, 1⟩, 0, false⟩], [⟨0, 0, []⟩, ⟨0, 0, []⟩, ⟨0, 0, []⟩], [[]], [0], [⟨false, ⟨0, 0⟩, false⟩]⟩
def NewPost (w : World) (e : Ending) (w' : World) : Prop := ∃ h : Rv, e = .returned (.tuple #[.agg #[h.v0, h.v1, h.v2, h.v3, h.v4, h.v5, h.v6, h.v7], .int .i64 0]) ∧ RowsT w.heap.size h newS w' ∧ Below w.heap.size w w'
theorem rep_snoc {α : Type} (x : α) (j : Nat) : List.replicate j x ++ [x] = List.replicate (j + 1) x := List.replicate_succ'.symm
set_option maxRecDepth 100000 in
set_option maxHeartbeats 20000000 in
theorem new_calls (w : World) : Calls Tryz.prog 20 #[.int .i64 1, .int .i64 3, .int .i64 64, .int .i64 1] w (NewPost w) := by
 have DP := Lib.hid (fun w' => garrisonref10_Power.calls 20 64 true w' newP)
 have DN := Lib.hid (fun w' => garrisonref09_New.calls 20 3 1 _ _ _ w' newA)
 go_enter Tryz.func20, Tryz.ntmps20
 go_wp2_with (first
  | (go_at_call 58; refine (DP.out _).mono ?_; clear DP; rintro e w1 ⟨rfl, m1, rfl⟩)
  | (go_at_call 59; refine (DN.out _).mono ?_; clear DN; rintro e w2 ⟨v0, v1, rfl, hr0, hr1, hb2⟩; obtain ⟨g1, cap1, rfl, hBg1, hlt1, cells1, hgb1⟩ := Kd.S_form hr1 (by decide); obtain ⟨g0, cap0, rfl, hBg0, hlt0, cells0, hgb0⟩ := Kd.R_form hr0 (by decide); simp only [List.length_cons, List.length_nil, Nat.zero_add, Nat.reduceAdd] at hr0 hr1))
 obtain ⟨W3, hW3⟩ : ∃ W3, w2.alloc (.cells #[.slice (some ⟨g0, 0, none⟩) 3 cap0, .slice (some ⟨g1, 0, none⟩) 1 cap1] 25) = W3 := ⟨_, rfl⟩
 rw [hW3]
 have hsz2 : w.heap.size < w2.heap.size := by have := hb2.size; simp at this; omega
 have N3 : NA w.heap.size w.heap.size w2.heap.size w (.slice (some ⟨g0, 0, none⟩) 3 cap0) (.slice (some ⟨g1, 0, none⟩) 1 cap1) [[0, 1, 2]] W3 := by
  rw [← hW3]
  refine ⟨Kd.R_alloc (Kd.R_lower hr0 (by simp)) _, Kd.S_alloc (Kd.S_lower hr1 (by simp)) _, blk_new' _ _ rfl, ?_, ?_, ⟨Nat.le_refl _, Nat.le_of_lt hsz2⟩⟩
  ·exact blk_alloc (blk_below (blk_new' w (.cells #[.slice none 0 0, .slice none 0 0, .slice none 0 0, .slice none 0 0, .slice none 0 0, .slice none 0 0, .slice none 0 0, .slice none 0 0] 32) rfl) (show Below _ (w.alloc (.cells #[.slice none 0 0, .slice none 0 0, .slice none 0 0, .slice none 0 0, .slice none 0 0, .slice none 0 0, .slice none 0 0, .slice none 0 0] 32)) w2 from (below_drewN _ m1).trans hb2)) _
  ·exact (((Below.refl _ _).alloc (Nat.le_refl _) _).trans (((below_drewN _ m1).trans hb2).mono (by simp))).alloc (by omega) _
 have c1 := (blk_cell N3.bA 1).trans (show _ = some (Value.slice (some ⟨g1, 0, none⟩) 1 cap1) from rfl)
 have hS := N3.r1
 have hr := at_row (xs := [[0, 1, 2]]) (Kd.R_reads' (Kd.S_R hS)).2.2 0 (by decide)
 obtain ⟨ad, A9, c9, e9, hrow, hlc9, hr9⟩ := hr
 obtain rfl := Option.some.inj e9
 have hrow : W3.cell? ⟨g1, 0, none⟩ = some (.slice A9 3 c9) := hrow
 have h9 : ∀ j : Nat, j < 3 → ∃ ad, A9 = some ad ∧ W3.cell? (ad.add j) = some (.int .i64 (rd [0, 1, 2] (j : Int))) := fun j hj => by
  obtain ⟨ad, e, h⟩ := Kd.at_int hr9 (j : Int) (by omega) (by show (j : Int) < 3; omega)
  rw [Int.toNat_natCast] at h
  exact ⟨ad, e, h⟩
 obtain ⟨oki, ce, hce, _, hcc, hfr, _, hH⟩ := Kd.S_elem hS ([] : List Int) 0 (by omega) (by omega)
 have hput := Lib.hid (Kd.S_seg0 hH (by omega) (by omega) (seg := [.slice none 0 0]) (j := 0) (show 0 + 1 ≤ 1 by omega) (x' := ([] : List Int)) (okp := fun _ => False) (by
  have hz : ce.take 0 ++ [.slice none 0 0] ++ ce.drop (0 + [Value.slice none 0 0].length) = [.slice none 0 0] := by
   match ce, hce with
   | [x], _ => rfl
  rw [hz]; exact ⟨_, rfl, Kd.R_nil _ _ _ _ _⟩) (fun _ hk => hk.elim))
 have fz : W3.frozen? ⟨g1, 0, none⟩ = false := hfr 0
 have hgb3 : W3.heap[g1]? = some (.cells cells1 29 (0, 0)) := hW3 ▸ blk_alloc hgb1 _
 have hg1w : w.heap.size + 1 ≤ g1 := by simpa using hBg1
 have HN3 := Lib.hid N3
 clear N3 hS hH hcc hfr hce hr9 hr0 hr1 hlc9 e9
 go_loopw [12] (fun v wr => (v = .int .i64 0 ∧ W3 = wr) ∨ (v = .int .i64 1 ∧ NA w.heap.size w.heap.size w2.heap.size w (.slice (some ⟨g0, 0, none⟩) 3 cap0) (.slice (some ⟨g1, 0, none⟩) 1 cap1) [[]] wr)) (fun v _ => 1 - (intOf v).toNat)
 case atStart => exact .inl ⟨rfl, rfl⟩
 case round =>
  rcases hrel with ⟨rfl, rfl⟩ | ⟨rfl, hN⟩
  ·go_wp2
   go_loopw [13, 14] (fun v0 v wr => v0 = .slice none 0 0 ∧ ∃ j : Nat, j ≤ 3 ∧ v = .int .i64 j ∧ W3 = wr) (fun _ v _ => 3 - (intOf v).toNat)
   case atStart => exact ⟨rfl, 0, by decide, rfl, rfl⟩
   case round =>
    obtain ⟨rfl, j, hj, rfl, rfl⟩ := hrel
    by_cases hlt : j < 3
    ·have hd : decide ((j : Int) < 3) = true := decide_eq_true (by omega)
     have i2 : decide (0 ≤ (j : Int)) = true := decide_eq_true (by omega)
     have j2 : decide (j < 3) = true := decide_eq_true hlt
     obtain ⟨ad, e1, hv⟩ := h9 j hlt
     subst e1
     have hgt : decide ((rd [0, 1, 2] (j : Int)) > 2) = false := by
      rcases (show j = 0 ∨ j = 1 ∨ j = 2 by omega) with rfl | rfl | rfl <;> rfl
     generalize rd [0, 1, 2] (j : Int) = x at *
     go_wp2
     refine ⟨⟨rfl, j + 1, hlt, rfl, trivial⟩, ?_⟩
     show 3 - ((j : Int) + 1).toNat < 3 - ((j : Int)).toNat
     omega
    ·have hd : decide ((j : Int) < 3) = false := decide_eq_false (by omega)
     go_wp2
     have N := HN3.out
     refine ⟨.inr ⟨rfl, ⟨Kd.R_set N.r0 hgb3 (by decide) 0 _, hput.out.1, ?_, ?_, N.bl.setCell (p := ⟨g1, 0, none⟩) (show w.heap.size ≤ g1 by omega) _, N.lo⟩⟩, by decide⟩
     ·exact (Below.heap_setCell _ ⟨g1, 0, none⟩ _ _ (show w2.heap.size ≠ g1 by omega)).trans N.bA
     ·exact (Below.heap_setCell _ ⟨g1, 0, none⟩ _ _ (show w.heap.size ≠ g1 by omega)).trans N.bC
  ·go_wp2
   have HS0 := NS.start hN
   obtain ⟨W5, hW5⟩ : ∃ W5, wr.alloc (.cells #[.slice none 0 0, .slice none 0 0, .slice none 0 0, .slice none 0 0, .slice none 0 0, .slice none 0 0, .slice none 0 0, .slice none 0 0] 32) = W5 := ⟨_, rfl⟩
   rw [hW5] at HS0 ⊢
   generalize wr.heap.size = sB at *
   generalize colT W5 = col0 at HS0
   clear hN hW5 hput fz hgb3 h9 hrow c1 HN3
   generalize (Value.slice (some ⟨g0, 0, none⟩) 3 cap0) = V0 at *
   generalize (Value.slice (some ⟨g1, 0, none⟩) 1 cap1) = V1 at *
   go_loopw [16] (fun v wq => ∃ j : Nat, j ≤ 3 ∧ v = .int .i64 j ∧ ∃ col u2 u4, NS w.heap.size w.heap.size w2.heap.size sB w col ⟨V0, V1, u2, .slice none 0 0, u4, .slice none 0 0, .slice none 0 0, .slice none 0 0⟩ ⟨.slice none 0 0, .slice none 0 0, u2, .slice none 0 0, u4, .slice none 0 0, .slice none 0 0, .slice none 0 0⟩ V0 V1 ⟨[thingF, thingF, thingF], [[]], List.replicate j [], [], List.replicate j zport, [], [], []⟩ wq) (fun v _ => 3 - (intOf v).toNat)
   case atStart => exact ⟨0, by decide, rfl, col0, _, _, HS0⟩
   case round =>
    obtain ⟨j, hj, rfl, col, u2, u4, H⟩ := hrel
    by_cases hlt : j < 3
    ·have hd : decide ((j : Int) < 3) = true := decide_eq_true (by omega)
     have c2 := (blk_cell H.bS 2).trans (show _ = some u2 from rfl)
     have HH := Lib.hid H
     clear H
     go_wp2_with (first
      | ((with_reducible refine gate_dst (N := 102) rfl ?_); refine Kd.S_append (Kd.slice 87 k87) (w0 := w) w.heap.size rfl (.tmp 100) (.tmp 101) 26 56 (.slice none 0 0) 24 rfl Tryz.underlying26 info56 rfl (by decide) (by omega) u2 (List.replicate j []) [] [.slice none 0 0] (fun k => newCol col wr.heap.size 2 k = 2) (fun _ => False) rfl rfl ⟨_, rfl, Kd.R_nil _ _ _ _ _⟩ (fun _ hk => hk.elim) new_ok (Kd.S_mono HH.out.free2 (fun _ h => ⟨h, id⟩)) HH.out.bl HH.out.Bw (by rw [List.length_replicate]; omega) ?_; intro v1 w5 HR1 HB1 hg1 hat1; obtain ⟨A2, e2, hv1⟩ := Kd.S_slice HR1; rw [rep_snoc] at HR1 hv1; rw [List.length_replicate] at hv1; subst hv1; have H1 := HH.out.step2 HR1 hg1; have k2 := (blk_cell H1.bS 2).trans (show _ = some u2 from rfl); have f2 := blk_frozen H1.bS 2; have H2 := Lib.hid (H1.store2 (.slice A2 (j + 1) e2)); have c4 := (blk_cell H2.out.bS 4).trans (show _ = some u4 from rfl); clear H1 HR1 HB1 hg1 hat1)
      | ((with_reducible refine gate_dst (N := 108) rfl ?_); refine Kd.S_append k59 (w0 := w) w.heap.size rfl (.tmp 105) (.tmp 107) 28 59 (.agg #[.int .i64 0, .int .i64 0, .slice none 0 0]) 40 rfl Tryz.underlying28 info59 rfl (by decide) (by omega) u4 (List.replicate j zport) zport [.int .i64 0, .int .i64 0, .slice none 0 0] _ (fun _ => False) rfl (by first | (go_simp; done) | (go_simp; rfl)) (k59_mkM _ _ _ zport (Kd.R_nil _ _ _ _ _)) (fun _ hk => hk.elim) new_ok (Kd.S_mono H2.out.free4 (fun _ h => ⟨h, id⟩)) H2.out.bl H2.out.Bw (by rw [List.length_replicate]; omega) ?_; intro v1 w6 HR1 HB1 hg1 hat1; obtain ⟨A4, e4, hv1⟩ := Kd.S_slice HR1; rw [rep_snoc] at HR1 hv1; rw [List.length_replicate] at hv1; subst hv1; have H3 := H2.out.step4 HR1 hg1; have k4 := (blk_cell H3.bS 4).trans (show _ = some u4 from rfl); have f4 := blk_frozen H3.bS 4; have H4 := Lib.hid (H3.store4 (.slice A4 (j + 1) e4)); clear H3 HR1 HB1 hg1 hat1))
     refine ⟨⟨j + 1, hlt, rfl, _, _, _, H4.out⟩, ?_⟩
     show 3 - ((j : Int) + 1).toNat < 3 - ((j : Int)).toNat
     omega
    ·have hd : decide ((j : Int) < 3) = false := decide_eq_false (by omega)
     obtain rfl : j = 3 := by omega
     have HH := H
     obtain ⟨g, cap, hV0, -⟩ := Kd.R_form HH.rows.r0 (by decide)
     obtain ⟨g2, cap2, hu2, -⟩ := Kd.S_form HH.rows.r2 (by decide)
     clear HH
     dsimp only at hV0 hu2
     rw [List.length_replicate] at hu2
     simp only [List.length_cons, List.length_nil, Nat.zero_add, Nat.reduceAdd] at hV0
     subst hV0 hu2
     obtain ⟨Wd, rfl⟩ : ∃ Wd, Wd = wr := ⟨_, rfl⟩
     have HH := Lib.hid H
     clear H
     go_wp2
     go_loopw [17] (fun v wq => (v = .int .i64 0 ∧ Wd = wq) ∨ (v = .int .i64 1 ∧ ∃ col u3, NS w.heap.size w.heap.size w2.heap.size sB w col ⟨.slice (some ⟨g, 0, none⟩) 3 cap, V1, .slice (some ⟨g2, 0, none⟩) 3 cap2, u3, u4, .slice none 0 0, .slice none 0 0, .slice none 0 0⟩ ⟨.slice none 0 0, .slice none 0 0, .slice (some ⟨g2, 0, none⟩) 3 cap2, u3, u4, .slice none 0 0, .slice none 0 0, .slice none 0 0⟩ (.slice (some ⟨g, 0, none⟩) 3 cap) V1 { newS with th := [⟨2, 0, 3, 0, 0, 0, -1, 0⟩, ⟨1, 0, 1, 0, 64, 0, -1, 0⟩, thingF], li := [], ro := [], sw := [] } wq)) (fun v _ => 1 - (intOf v).toNat)
     case atStart => exact .inl ⟨rfl, rfl⟩
     case round =>
      rcases hrel with ⟨rfl, rfl⟩ | ⟨rfl, col2, u3, H⟩
      ·have cA := (blk_cell HH.out.bA 0).trans (show _ = some (Value.slice (some ⟨g, 0, none⟩) 3 cap) from rfl)
       obtain ⟨⟨x0, t0⟩, ⟨x1, t1⟩, ⟨x2, t2⟩, ⟨x3, t3⟩, ⟨x4, t4⟩, ⟨x5, t5⟩, ⟨x6, t6⟩, ⟨x7, t7⟩, f0, f1, f2, f3, f4, f5, f6, f7⟩ := thing_cells HH.out.rows.r0 0 (by omega)
       simp only [Nat.zero_mul, Nat.zero_add] at t0 t1 t2 t3 t4 t5 t6 t7 f0 f1 f2 f3 f4 f5 f6 f7
       go_upto_region 26 with fail
       have H1 := HH.out.putTh rfl 0 (by omega) ⟨2, 0, 3, 0, 0, 0, -1, 0⟩
       simp only [Nat.zero_mul, Nat.zero_add, Nat.one_mul, Nat.reduceAdd, Nat.reduceMul, Nat.add_zero] at H1
       clear t0 t1 t2 t3 t4 t5 t6 t7 f0 f1 f2 f3 f4 f5 f6 f7 cA
       generalize ((((((((Wd.setCell ⟨g, 0, none⟩ (.int .i64 2)).setCell ⟨g, 1, none⟩ (.int .i64 0)).setCell ⟨g, 2, none⟩ (.int .i64 3)).setCell ⟨g, 3, none⟩ (.int .i64 0)).setCell ⟨g, 4, none⟩ (.int .i64 0)).setCell ⟨g, 5, none⟩ (.int .i64 0)).setCell ⟨g, 6, none⟩ (.int .i64 (-1))).setCell ⟨g, 7, none⟩ (.int .i64 0)) = W6 at H1 ⊢
       have cA := (blk_cell H1.bA 0).trans (show _ = some (Value.slice (some ⟨g, 0, none⟩) 3 cap) from rfl)
       obtain ⟨⟨x0, t0⟩, ⟨x1, t1⟩, ⟨x2, t2⟩, ⟨x3, t3⟩, ⟨x4, t4⟩, ⟨x5, t5⟩, ⟨x6, t6⟩, ⟨x7, t7⟩, f0, f1, f2, f3, f4, f5, f6, f7⟩ := thing_cells H1.rows.r0 1 (by omega)
       simp only [Nat.zero_mul, Nat.zero_add, Nat.one_mul, Nat.reduceAdd, Nat.reduceMul, Nat.add_zero] at t0 t1 t2 t3 t4 t5 t6 t7 f0 f1 f2 f3 f4 f5 f6 f7
       go_upto_region 27 with fail
       have H2 := H1.putTh rfl 1 (by omega) ⟨1, 0, 1, 0, 64, 0, -1, 0⟩
       simp only [Nat.zero_mul, Nat.zero_add, Nat.one_mul, Nat.reduceAdd, Nat.reduceMul, Nat.add_zero] at H2
       clear t0 t1 t2 t3 t4 t5 t6 t7 f0 f1 f2 f3 f4 f5 f6 f7 cA H1
       generalize ((((((((W6.setCell ⟨g, 8, none⟩ (.int .i64 1)).setCell ⟨g, 9, none⟩ (.int .i64 0)).setCell ⟨g, 10, none⟩ (.int .i64 1)).setCell ⟨g, 11, none⟩ (.int .i64 0)).setCell ⟨g, 12, none⟩ (.int .i64 64)).setCell ⟨g, 13, none⟩ (.int .i64 0)).setCell ⟨g, 14, none⟩ (.int .i64 (-1))).setCell ⟨g, 15, none⟩ (.int .i64 0)) = W7 at H2 ⊢
       obtain ⟨wd, hwd⟩ : ∃ wd, W7.drew = wd := ⟨_, rfl⟩
       have H3 : NS _ _ _ _ _ _ _ _ _ _ _ wd := hwd ▸ H2.drew
       have cN := (blk_cell H3.bS 2).trans (show _ = some (Value.slice (some ⟨g2, 0, none⟩) 3 cap2) from rfl)
       refine wp_region_sch (fun w' => w'.cell? ⟨sB, 2, none⟩ = some (.slice (some ⟨g2, 0, none⟩) 3 cap2)) 5 [(false, 0), (false, 1), (false, 2), (true, 3), (false, 4)] (by kernel_rfl) (by kernel_rfl) (fun _ a d _ _ h => by cases d <;> exact h) wd hwd cN ?_
       clear hwd H2
       try dsimp only
       repeat (refine' sch_pure rfl rfl ?_ ?_; rotate_left; · (rintro w' hs0; go_simp <;> rfl)
               simp only [Act.put, List.setIfInBounds_toArray, List.set_cons_zero, List.set_cons_succ])
       (refine sch_alone rfl (fun K hK => ?_); refine Kd.R_make_step k87 wd.heap.size 87 (by rfl) (N := 134) rfl _ _ _ rfl 8 rfl rfl rfl (.agg #[.int .i64 0, .int .i64 0, .int .i64 0, .int .i64 0, .int .i64 0]) 40 info87 rfl (by decide) (by decide) zcap (ok := fun _ => True) (okp := fun _ => False) (k87_mkM _ _ _ zcap) (fun _ hk => hk.elim) trivial (by decide) (by decide) (w0 := wd) (Below.refl _ _) (Nat.le_refl _) ?_; intro v1 w5 HR1 HB1 hg1 hat1; refine hK.out _ _ (bcellv HB1 cN) ?_; clear hK K)
       obtain ⟨A1, e1, rfl⟩ := Kd.R_slice HR1
       rw [List.length_replicate, show Int.toNat 8 = 8 from rfl] at HR1
       try simp only [Act.put, List.setIfInBounds_toArray, List.set_cons_zero, List.set_cons_succ]
       repeat (refine' sch_pure rfl rfl ?_ ?_; rotate_left; · (rintro w' hs0; go_simp <;> rfl)
               simp only [Act.put, List.setIfInBounds_toArray, List.set_cons_zero, List.set_cons_succ])
       obtain ⟨⟨u9, k9, f9⟩, H4⟩ := H3.putNo rfl 0 (by omega) HB1 HR1
       refine sch_last rfl (fun K hK => ?_)
       go_simp
       refine hK.out _ _ ?_
       clear hK K k9 f9 cN H3 HR1 HB1 hg1 hat1
       generalize (w5.setCell ⟨g2, 0, none⟩ (.slice A1 8 e1)) = W8 at H4 ⊢
       obtain ⟨gi0, ci0, kc, ⟨⟨y0, t0⟩, ⟨y1, t1⟩, ⟨y2, t2⟩, ⟨y3, t3⟩, ⟨y4, t4⟩, f0, f1, f2, f3, f4⟩, H5⟩ := H4.slot rfl 0 (by omega) (x := [zcap, zcap, zcap, zcap, zcap, zcap, zcap, zcap]) rfl 0 (by decide) ⟨1, 15, 0, 1, 0⟩
       simp only [Nat.zero_mul, Nat.zero_add, Nat.one_mul, Nat.reduceAdd, Nat.reduceMul, Nat.add_zero, List.length_cons, List.length_nil] at kc t0 t1 t2 t3 t4 f0 f1 f2 f3 f4 H5
       have cN := (blk_cell H4.bS 2).trans (show _ = some (Value.slice (some ⟨g2, 0, none⟩) 3 cap2) from rfl)
       go_upto_region 29 with fail
       clear kc t0 t1 t2 t3 t4 f0 f1 f2 f3 f4 cN H4
       generalize (((((W8.setCell ⟨gi0, 0, none⟩ (.int .i64 1)).setCell ⟨gi0, 1, none⟩ (.int .i64 15)).setCell ⟨gi0, 2, none⟩ (.int .i64 0)).setCell ⟨gi0, 3, none⟩ (.int .i64 1)).setCell ⟨gi0, 4, none⟩ (.int .i64 0)) = W9 at H5 ⊢
       obtain ⟨gi1, ci1, kc, ⟨⟨y0, t0⟩, ⟨y1, t1⟩, ⟨y2, t2⟩, ⟨y3, t3⟩, ⟨y4, t4⟩, f0, f1, f2, f3, f4⟩, H6⟩ := H5.slot rfl 0 (by omega) (x := [⟨1, 15, 0, 1, 0⟩, zcap, zcap, zcap, zcap, zcap, zcap, zcap]) rfl 1 (by decide) ⟨4, 15, 0, 2, 0⟩
       simp only [Nat.zero_mul, Nat.zero_add, Nat.one_mul, Nat.reduceAdd, Nat.reduceMul, Nat.add_zero, List.length_cons, List.length_nil] at kc t0 t1 t2 t3 t4 f0 f1 f2 f3 f4 H6
       have cN := (blk_cell H5.bS 2).trans (show _ = some (Value.slice (some ⟨g2, 0, none⟩) 3 cap2) from rfl)
       go_upto_region 30 with fail
       clear kc t0 t1 t2 t3 t4 f0 f1 f2 f3 f4 cN H5
       generalize (((((W9.setCell ⟨gi1, 5, none⟩ (.int .i64 4)).setCell ⟨gi1, 6, none⟩ (.int .i64 15)).setCell ⟨gi1, 7, none⟩ (.int .i64 0)).setCell ⟨gi1, 8, none⟩ (.int .i64 2)).setCell ⟨gi1, 9, none⟩ (.int .i64 0)) = W10 at H6 ⊢
       have cT := (blk_cell H6.bS 3).trans (show _ = some (Value.slice none 0 0) from rfl)
       have H7 := H6.alloc (.cells #[.int .i64 0, .int .i64 0, .int .i64 0, .bool false, .int .i64 0, .int .i64 1, .int .i64 0, .bool false] 76)
       have hlit := two_branches W10 w.heap.size ⟨⟨0, 0⟩, 0, false⟩ ⟨⟨0, 1⟩, 0, false⟩
       have HH7 := Lib.hid H7
       clear H6 H7
       go_wp2_with ((with_reducible refine gate_dst (N := 164) rfl ?_); refine Kd.R_append_rows k76 (w0 := w) w.heap.size rfl (.tmp 156) (.tmp 163) 27 76 (.agg #[.int .i64 0, .int .i64 0, .int .i64 0, .bool false]) 32 rfl Tryz.underlying27 info76 rfl (by decide) (by omega) (.slice none 0 0) [] [⟨⟨0, 0⟩, 0, false⟩, ⟨⟨0, 1⟩, 0, false⟩] _ 2 2 _ (fun _ => False) rfl rfl HH7.out.free3 hlit (fun _ _ h => h) (fun _ h => h.elim) new_ok HH7.out.bl HH7.out.Bw (by decide) ?_; intro v1 w6 HR1 HB1 hg1 hat1; obtain ⟨A3, e3, rfl⟩ := Kd.R_slice HR1; have H8 := HH7.out.step3 HR1 hg1; have k3 := (blk_cell H8.bS 3).trans (show _ = some (Value.slice none 0 0) from rfl); have f3 := blk_frozen H8.bS 3; have H9 := Lib.hid (H8.store3 (.slice A3 2 e3)); clear H8 HR1 HB1 hg1 hat1)
       refine ⟨⟨_, _, H9.out⟩, by decide⟩
      ·have HH := H
       obtain ⟨g4, cap4, hV1, -⟩ := Kd.S_form HH.rows.r1 (by decide)
       clear HH
       change V1 = .slice (some ⟨g4, 0, none⟩) 1 cap4 at hV1
       subst hV1
       have cA := (blk_cell H.bA 0).trans (show _ = some (Value.slice (some ⟨g, 0, none⟩) 3 cap) from rfl)
       obtain ⟨⟨x0, t0⟩, ⟨x1, t1⟩, ⟨x2, t2⟩, ⟨x3, t3⟩, ⟨x4, t4⟩, ⟨x5, t5⟩, ⟨x6, t6⟩, ⟨x7, t7⟩, f0, f1, f2, f3, f4, f5, f6, f7⟩ := thing_cells H.rows.r0 2 (by omega)
       simp only [Nat.zero_mul, Nat.zero_add, Nat.one_mul, Nat.reduceAdd, Nat.reduceMul, Nat.add_zero, List.length_cons, List.length_nil] at t0 t1 t2 t3 t4 t5 t6 t7 f0 f1 f2 f3 f4 f5 f6 f7
       go_upto_region 32 with fail
       have H1 := H.putTh rfl 2 (by omega) ⟨4, 0, 1, 0, 0, 0, -1, 0⟩
       simp only [Nat.zero_mul, Nat.zero_add, Nat.one_mul, Nat.reduceAdd, Nat.reduceMul, Nat.add_zero, List.length_cons, List.length_nil] at H1
       clear t0 t1 t2 t3 t4 t5 t6 t7 f0 f1 f2 f3 f4 f5 f6 f7 cA H
       generalize ((((((((wr.setCell ⟨g, 16, none⟩ (.int .i64 4)).setCell ⟨g, 17, none⟩ (.int .i64 0)).setCell ⟨g, 18, none⟩ (.int .i64 1)).setCell ⟨g, 19, none⟩ (.int .i64 0)).setCell ⟨g, 20, none⟩ (.int .i64 0)).setCell ⟨g, 21, none⟩ (.int .i64 0)).setCell ⟨g, 22, none⟩ (.int .i64 (-1))).setCell ⟨g, 23, none⟩ (.int .i64 0)) = W6 at H1 ⊢
       have a0 := (blk_cell H1.bA 0).trans (show _ = some (Value.slice (some ⟨g, 0, none⟩) 3 cap) from rfl)
       have a1 := (blk_cell H1.bA 1).trans (show _ = some (Value.slice (some ⟨g4, 0, none⟩) 1 cap4) from rfl)
       have b0 := (blk_cell H1.bS 0).trans (show _ = some (Value.slice none 0 0) from rfl)
       have b1 := (blk_cell H1.bS 1).trans (show _ = some (Value.slice none 0 0) from rfl)
       have f0 := blk_frozen H1.bS 0
       have f1 := blk_frozen H1.bS 1
       go_wp2
       have H2 := (H1.store0 (.slice (some ⟨g, 0, none⟩) 3 cap)).store1 (.slice (some ⟨g4, 0, none⟩) 1 cap4)
       clear a0 a1 b0 b1 f0 f1 H1
       generalize ((W6.setCell ⟨sB, 0, none⟩ (.slice (some ⟨g, 0, none⟩) 3 cap)).setCell ⟨sB, 1, none⟩ (.slice (some ⟨g4, 0, none⟩) 1 cap4)) = We at H2 ⊢
       generalize (newCol col2 _ 0) = col3 at H2
       have HE := Lib.hid H2
       clear H2
       go_loopw [18] (fun v wq => (v = .int .i64 0 ∧ We = wq) ∨ (v = .int .i64 1 ∧ ∃ col u5 u6 u7, NS w.heap.size w.heap.size w2.heap.size sB w col ⟨.slice (some ⟨g, 0, none⟩) 3 cap, .slice (some ⟨g4, 0, none⟩) 1 cap4, .slice (some ⟨g2, 0, none⟩) 3 cap2, u3, u4, u5, u6, u7⟩ ⟨.slice (some ⟨g, 0, none⟩) 3 cap, .slice (some ⟨g4, 0, none⟩) 1 cap4, .slice (some ⟨g2, 0, none⟩) 3 cap2, u3, u4, u5, u6, u7⟩ (.slice (some ⟨g, 0, none⟩) 3 cap) (.slice (some ⟨g4, 0, none⟩) 1 cap4) newS wq)) (fun v _ => 1 - (intOf v).toNat)
       case atStart => exact .inl ⟨rfl, rfl⟩
       case round =>
        rcases hrel with ⟨rfl, rfl⟩ | ⟨rfl, col5, u5, u6, u7, H⟩
        ·have cL := (blk_cell HE.out.bS 5).trans (show _ = some (Value.slice none 0 0) from rfl)
         go_wp2_with (first
          | ((with_reducible refine gate_dst (N := 183) rfl ?_); refine Kd.S_append (Kd.slice 3 (Kd.int .i64)) (w0 := w) w.heap.size rfl (.tmp 181) (.tmp 182) 23 29 (.slice none 0 0) 24 rfl Tryz.underlying23 info29 rfl (by decide) (by omega) (.slice none 0 0) [] [] [.slice none 0 0] _ (fun _ => False) rfl rfl ⟨_, rfl, Kd.R_nil _ _ _ _ _⟩ (fun _ hk => hk.elim) new_ok (Kd.S_mono HE.out.free5 (fun _ h => ⟨h, id⟩)) HE.out.bl HE.out.Bw (by decide) ?_; intro v1 w5 HR1 HB1 hg1 hat1; obtain ⟨A5, e5, rfl⟩ := Kd.S_slice HR1; have H1 := HE.out.step5 HR1 hg1; have k5 := (blk_cell H1.bS 5).trans (show _ = some (Value.slice none 0 0) from rfl); have f5 := blk_frozen H1.bS 5; have H2 := Lib.hid (H1.store5 (.slice A5 1 e5)); have c7 := (blk_cell H2.out.bS 7).trans (show _ = some (Value.slice none 0 0) from rfl); clear H1 HR1 HB1 hg1 hat1)
          | ((with_reducible refine gate_dst (N := 189) rfl ?_); refine Kd.R_append k82 (w0 := w) w.heap.size rfl (.tmp 186) (.tmp 188) 30 82 (.agg #[.bool false, .int .i64 0, .int .i64 0, .bool false]) 32 rfl Tryz.underlying30 info82 rfl (by decide) (by omega) (.slice none 0 0) [] ⟨false, ⟨0, 0⟩, false⟩ [.bool false, .int .i64 0, .int .i64 0, .bool false] _ (fun _ => False) rfl (by first | (go_simp; done) | (go_simp; rfl)) (k82_mkM _ _ _ _) (fun _ hk => hk.elim) new_ok H2.out.free7 H2.out.bl H2.out.Bw (by decide) ?_; intro v1 w6 HR1 HB1 hg1 hat1; obtain ⟨A7, e7, rfl⟩ := Kd.R_slice HR1; have H3 := H2.out.step7 HR1 hg1; have k7 := (blk_cell H3.bS 7).trans (show _ = some (Value.slice none 0 0) from rfl); have f7 := blk_frozen H3.bS 7; have H4 := Lib.hid (H3.store7 (.slice A7 1 e7)); clear H3 HR1 HB1 hg1 hat1))
         obtain ⟨wd, hwd⟩ : ∃ wd, (w6.setCell ⟨sB, 7, none⟩ (.slice A7 1 e7)).drew = wd := ⟨_, rfl⟩
         have H5 : NS _ _ _ _ _ _ _ _ _ _ _ wd := hwd ▸ H4.out.drew
         have c6 := (blk_cell H5.bS 6).trans (show _ = some (Value.slice none 0 0) from rfl)
         refine wp_region_sch (fun w' => w'.cell? ⟨sB, 6, none⟩ = some (.slice none 0 0)) 8 [(false, 0), (false, 1), (false, 2), (false, 3), (false, 4), (true, 5), (true, 6), (false, 7)] (by kernel_rfl) (by kernel_rfl) (fun _ a d _ _ h => by cases d <;> exact h) wd hwd c6 ?_
         clear hwd H4 c7 k7 f7 k5 f5 cL
         try dsimp only
         repeat (refine' sch_pure rfl rfl ?_ ?_; rotate_left; · (rintro w' hs0; go_simp <;> rfl)
                 simp only [Act.put, List.setIfInBounds_toArray, List.set_cons_zero, List.set_cons_succ])
         (refine sch_alone rfl (fun K hK => ?_); go_simp; refine hK.out _ _ ((blk_cell (blk_alloc H5.bS _) 6).trans rfl) ?_; clear hK K)
         try simp only [Act.put, List.setIfInBounds_toArray, List.set_cons_zero, List.set_cons_succ]
         (refine sch_alone rfl (fun K hK => ?_); refine Kd.R_append_step (Kd.int .i64) (w0 := w) w.heap.size (by rfl) (.tmp 192) (.tmp 196) _ 3 _ 8 (by rfl) rfl info3 rfl (by decide) (by omega) (.slice none 0 0) [] 0 _ _ (fun _ => False) rfl rfl rfl (fun _ hk => hk.elim) new_ok H5.free6 H5.bl H5.Bw (by decide) ?_; intro v1 w7 HR1 HB1 hg1 hat1; have H6 := H5.step6 HR1 hg1; have c61 := (blk_cell H6.bS 6).trans (show _ = some (Value.slice none 0 0) from rfl); refine hK.out _ _ c61 ?_; clear hK K)
         obtain ⟨A6, e6, rfl⟩ := Kd.R_slice HR1
         have f6 := blk_frozen H6.bS 6
         have H7 := H6.store6 (.slice A6 1 e6)
         try simp only [Act.put, List.setIfInBounds_toArray, List.set_cons_zero, List.set_cons_succ]
         repeat (refine' sch_pure rfl rfl ?_ ?_; rotate_left; · (rintro w' hs0; go_simp <;> rfl)
                 simp only [Act.put, List.setIfInBounds_toArray, List.set_cons_zero, List.set_cons_succ])
         refine sch_last rfl (fun K hK => ?_)
         go_simp
         refine hK.out _ _ ?_
         clear hK K c6 H5 H6 HR1 HB1 hg1 hat1
         go_wp2
         exact ⟨⟨_, _, _, _, H7⟩, by decide⟩
        ·have HF := H
         obtain ⟨A3, e3, hu3⟩ := Kd.R_slice HF.rows.r3
         obtain ⟨A4, e4, hu4⟩ := Kd.S_slice HF.rows.r4
         obtain ⟨A5, e5, hu5⟩ := Kd.S_slice HF.rows.r5
         obtain ⟨A6, e6, hu6⟩ := Kd.R_slice HF.rows.r6
         obtain ⟨A7, e7, hu7⟩ := Kd.R_slice HF.rows.r7
         clear HF
         change u3 = .slice A3 2 e3 at hu3
         change u4 = .slice A4 3 e4 at hu4
         change u5 = .slice A5 1 e5 at hu5
         change u6 = .slice A6 1 e6 at hu6
         change u7 = .slice A7 1 e7 at hu7
         subst hu3 hu4 hu5 hu6 hu7
         have b0 := (blk_cell H.bS 0).trans (show _ = some (Value.slice (some ⟨g, 0, none⟩) 3 cap) from rfl)
         have b1 := (blk_cell H.bS 1).trans (show _ = some (Value.slice (some ⟨g4, 0, none⟩) 1 cap4) from rfl)
         have b2 := (blk_cell H.bS 2).trans (show _ = some (Value.slice (some ⟨g2, 0, none⟩) 3 cap2) from rfl)
         have b3 := (blk_cell H.bS 3).trans (show _ = some (Value.slice A3 2 e3) from rfl)
         have b4 := (blk_cell H.bS 4).trans (show _ = some (Value.slice A4 3 e4) from rfl)
         have b5 := (blk_cell H.bS 5).trans (show _ = some (Value.slice A5 1 e5) from rfl)
         have b6 := (blk_cell H.bS 6).trans (show _ = some (Value.slice A6 1 e6) from rfl)
         have b7 := (blk_cell H.bS 7).trans (show _ = some (Value.slice A7 1 e7) from rfl)
         obtain ⟨k20, k21, k22, k23, k24, k25, k26, k27, f20, f21, f22, f23, f24, f25, f26, f27⟩ := st_cells H.bC
         have HH := Lib.hid (H.result ⟨.slice (some ⟨g, 0, none⟩) 3 cap, .slice (some ⟨g4, 0, none⟩) 1 cap4, .slice (some ⟨g2, 0, none⟩) 3 cap2, .slice A3 2 e3, .slice A4 3 e4, .slice A5 1 e5, .slice A6 1 e6, .slice A7 1 e7⟩)
         clear H
         go_wp2
         obtain ⟨q1, q2, q3⟩ := HH.out
         refine bodyPost_ret (new_results (h := ⟨.slice (some ⟨g, 0, none⟩) 3 cap, .slice (some ⟨g4, 0, none⟩) 1 cap4, .slice (some ⟨g2, 0, none⟩) 3 cap2, .slice A3 2 e3, .slice A4 3 e4, .slice A5 1 e5, .slice A6 1 e6, .slice A7 1 e7⟩) rfl rfl q1) rfl ⟨_, rfl, q2, q3⟩
end Go.Proofs.YtmcjccigglekpaaGreatDoor.Given
namespace Go.Proofs.YtmcjccigglekpaaGreatDoor.Given
open Go Go.RowKit Go.Proofs Go.Proofs.YtmcjccigglekpaaGreatDoorW.PrintWords Go.Proofs.YtmcjccigglekpaaGreatDoorW.PrintLast Go.Proofs.YtmcjccigglekpaaGreatDoorW.PrintMore Go.Proofs.YtmcjccigglekpaaGreatDoor.P

def garrisonref17_New.f (a0 a1 a2 a3 : Int) : Option (List S70 × List (List Int) × List (List S87) × List S76 × List S59 × List (List Int) × List Int × List S82 × Int) := if a0 = 1 ∧ a1 = 3 ∧ a2 = 64 ∧ a3 = 1 then some (newS.th, newS.fr, newS.no, newS.tr, newS.po, newS.li, newS.ro, newS.sw, 0) else none
theorem garrisonref17_New.calls (a0 a1 a2 a3 : Int) (t0 : List S70) (t1 : List (List Int)) (t2 : List (List S87)) (t3 : List S76) (t4 : List S59) (t5 : List (List Int)) (t6 : List Int) (t7 : List S82) (t8 : Int) (w : World) (h : garrisonref17_New.f a0 a1 a2 a3 = some (t0, t1, t2, t3, t4, t5, t6, t7, t8)) :
  Calls Tryz.prog 20 #[.int .i64 a0, .int .i64 a1, .int .i64 a2, .int .i64 a3] w fun e w' => ∃ v0 v1 v2 v3 v4 v5 v6 v7, e = .returned (.tuple #[.agg #[v0, v1, v2, v3, v4, v5, v6, v7], .int .i64 t8]) ∧ Kd.R k70 70 w' w.heap.size (fun _ => True) v0 t0 ∧ Kd.S (Kd.slice 3 (Kd.int .i64)) 29 w' w.heap.size (fun _ => True) v1 t1 ∧ Kd.S (Kd.slice 87 k87) 56 w' w.heap.size (fun _ => True) v2 t2 ∧ Kd.R k76 76 w' w.heap.size (fun _ => True) v3 t3 ∧ Kd.S k59 59 w' w.heap.size (fun _ => True) v4 t4 ∧ Kd.S (Kd.slice 3 (Kd.int .i64)) 29 w' w.heap.size (fun _ => True) v5 t5 ∧ Kd.R (Kd.int .i64) 3 w' w.heap.size (fun _ => True) v6 t6 ∧ Kd.R k82 82 w' w.heap.size (fun _ => True) v7 t7 ∧ Below w.heap.size w w' := by
 unfold garrisonref17_New.f at h
 split at h
 ·rename_i hc
  obtain ⟨rfl, rfl, rfl, rfl⟩ := hc
  simp only [Option.some.injEq, Prod.mk.injEq] at h
  obtain ⟨rfl, rfl, rfl, rfl, rfl, rfl, rfl, rfl, rfl⟩ := h
  refine (new_calls w).mono ?_
  rintro e w' ⟨h, he, hr, hb⟩
  exact ⟨h.v0, h.v1, h.v2, h.v3, h.v4, h.v5, h.v6, h.v7, he, hr.r0, hr.r1, hr.r2, hr.r3, hr.r4, hr.r5, hr.r6, hr.r7, hb⟩
 ·cases h
end Go.Proofs.YtmcjccigglekpaaGreatDoor.Given
namespace Go.Proofs.YtmcjccigglekpaaGreatDoor.Given
open Go Go.RowKit Go.Proofs Go.Proofs.YtmcjccigglekpaaGreatDoorW.PrintWords Go.Proofs.YtmcjccigglekpaaGreatDoorW.PrintLast Go.Proofs.YtmcjccigglekpaaGreatDoorW.PrintMore Go.Proofs.YtmcjccigglekpaaGreatDoor.P

instance decKey : DecidableEq S74 := fun x y => decidable_of_iff (x.f0 = y.f0 ∧ x.f1 = y.f1) ⟨fun h => by
 cases x; cases y; simp only at h; obtain ⟨rfl, rfl⟩ := h; rfl, fun h => by subst h; exact ⟨rfl, rfl⟩⟩
instance decWaiter : DecidableEq S95 := fun x y => decidable_of_iff (x.f0 = y.f0 ∧ x.f1 = y.f1 ∧ x.f2 = y.f2 ∧ x.f3 = y.f3 ∧ x.f4 = y.f4 ∧ x.f5 = y.f5 ∧ x.f6 = y.f6) ⟨fun h => by
 cases x; cases y; simp only at h; obtain ⟨rfl, rfl, rfl, rfl, rfl, rfl, rfl⟩ := h; rfl, fun h => by subst h; exact ⟨rfl, rfl, rfl, rfl, rfl, rfl, rfl⟩⟩
instance decThing : DecidableEq S70 := fun x y => decidable_of_iff (x.f0 = y.f0 ∧ x.f1 = y.f1 ∧ x.f2 = y.f2 ∧ x.f3 = y.f3 ∧ x.f4 = y.f4 ∧ x.f5 = y.f5 ∧ x.f6 = y.f6 ∧ x.f7 = y.f7) ⟨fun h => by
 cases x; cases y; simp only at h; obtain ⟨rfl, rfl, rfl, rfl, rfl, rfl, rfl, rfl⟩ := h; rfl, fun h => by subst h; exact ⟨rfl, rfl, rfl, rfl, rfl, rfl, rfl, rfl⟩⟩
instance decBranch : DecidableEq S76 := fun x y => decidable_of_iff (x.f0 = y.f0 ∧ x.f1 = y.f1 ∧ x.f2 = y.f2) ⟨fun h => by
 cases x; cases y; simp only at h; obtain ⟨rfl, rfl, rfl⟩ := h; rfl, fun h => by subst h; exact ⟨rfl, rfl, rfl⟩⟩
instance decCap : DecidableEq S87 := fun x y => decidable_of_iff (x.f0 = y.f0 ∧ x.f1 = y.f1 ∧ x.f2 = y.f2 ∧ x.f3 = y.f3 ∧ x.f4 = y.f4) ⟨fun h => by
 cases x; cases y; simp only at h; obtain ⟨rfl, rfl, rfl, rfl, rfl⟩ := h; rfl, fun h => by subst h; exact ⟨rfl, rfl, rfl, rfl, rfl⟩⟩
instance decSweep : DecidableEq S82 := fun x y => decidable_of_iff (x.f0 = y.f0 ∧ x.f1 = y.f1 ∧ x.f2 = y.f2) ⟨fun h => by
 cases x; cases y; simp only at h; obtain ⟨rfl, rfl, rfl⟩ := h; rfl, fun h => by subst h; exact ⟨rfl, rfl, rfl⟩⟩
instance decPort : DecidableEq S59 := fun x y => decidable_of_iff (x.f0 = y.f0 ∧ x.f1 = y.f1 ∧ x.f2 = y.f2) ⟨fun h => by
 cases x; cases y; simp only at h; obtain ⟨rfl, rfl, rfl⟩ := h; rfl, fun h => by subst h; exact ⟨rfl, rfl, rfl⟩⟩
instance decSt : DecidableEq St := fun x y => decidable_of_iff (x.th = y.th ∧ x.fr = y.fr ∧ x.no = y.no ∧ x.tr = y.tr ∧ x.po = y.po ∧ x.li = y.li ∧ x.ro = y.ro ∧ x.sw = y.sw) ⟨fun h => by
 cases x; cases y; simp only at h; obtain ⟨rfl, rfl, rfl, rfl, rfl, rfl, rfl, rfl⟩ := h; rfl, fun h => by subst h; exact ⟨rfl, rfl, rfl, rfl, rfl, rfl, rfl, rfl⟩⟩
theorem keyExt {x y : S74} (h0 : x.f0 = y.f0) (h1 : x.f1 = y.f1) : x = y := by cases x; cases y; simp only at h0 h1; subst h0 h1; rfl
theorem ifneWaiter {α : Sort _} {x y : S95} (h : ¬ x = y) (p q : α) : (if x.f0 = y.f0 then (if x.f1 = y.f1 then (if x.f2 = y.f2 then (if x.f3 = y.f3 then (if x.f4.f0 = y.f4.f0 then (if x.f4.f1 = y.f4.f1 then (if x.f5 = y.f5 then (if x.f6 = y.f6 then p else q) else q) else q) else q) else q) else q) else q) else q) = q := by
 repeat' split
 ·exfalso
  apply h
  rename_i kf0 kf1 kf2 kf3 kf4_f0 kf4_f1 kf5 kf6
  cases x; cases y
  dsimp only at *
  have ef4 := keyExt kf4_f0 kf4_f1
  subst_vars
  rfl
 all_goals rfl
theorem ifneThing {α : Sort _} {x y : S70} (h : ¬ x = y) (p q : α) : (if x.f0 = y.f0 then (if x.f1 = y.f1 then (if x.f2 = y.f2 then (if x.f3 = y.f3 then (if x.f4 = y.f4 then (if x.f5 = y.f5 then (if x.f6 = y.f6 then (if x.f7 = y.f7 then p else q) else q) else q) else q) else q) else q) else q) else q) = q := by
 repeat' split
 ·exfalso
  apply h
  rename_i kf0 kf1 kf2 kf3 kf4 kf5 kf6 kf7
  cases x; cases y
  dsimp only at *
  subst_vars
  rfl
 all_goals rfl
theorem ifneBranch {α : Sort _} {x y : S76} (h : ¬ x = y) (p q : α) : (if x.f0.f0 = y.f0.f0 then (if x.f0.f1 = y.f0.f1 then (if x.f1 = y.f1 then (if x.f2 = y.f2 then p else q) else q) else q) else q) = q := by
 repeat' split
 ·exfalso
  apply h
  rename_i kf0_f0 kf0_f1 kf1 kf2
  cases x; cases y
  dsimp only at *
  have ef0 := keyExt kf0_f0 kf0_f1
  subst_vars
  rfl
 all_goals rfl
theorem ifneCap {α : Sort _} {x y : S87} (h : ¬ x = y) (p q : α) : (if x.f0 = y.f0 then (if x.f1 = y.f1 then (if x.f2 = y.f2 then (if x.f3 = y.f3 then (if x.f4 = y.f4 then p else q) else q) else q) else q) else q) = q := by
 repeat' split
 ·exfalso
  apply h
  rename_i kf0 kf1 kf2 kf3 kf4
  cases x; cases y
  dsimp only at *
  subst_vars
  rfl
 all_goals rfl
theorem ifneSweep {α : Sort _} {x y : S82} (h : ¬ x = y) (p q : α) : (if x.f0 = y.f0 then (if x.f1.f0 = y.f1.f0 then (if x.f1.f1 = y.f1.f1 then (if x.f2 = y.f2 then p else q) else q) else q) else q) = q := by
 repeat' split
 ·exfalso
  apply h
  rename_i kf0 kf1_f0 kf1_f1 kf2
  cases x; cases y
  dsimp only at *
  have ef1 := keyExt kf1_f0 kf1_f1
  subst_vars
  rfl
 all_goals rfl
theorem take_more {α : Type} {a b : List α} {k : Nat} (h : a.take k = b.take k) (ha : k < a.length) (hb : k < b.length) (he : a[k] = b[k]) : a.take (k + 1) = b.take (k + 1) := by
 rw [List.take_succ_eq_append_getElem ha, List.take_succ_eq_append_getElem hb, h, he]
theorem take_done {α : Type} {a b : List α} {k : Nat} (h : a.take k = b.take k) (ha : k = a.length) (hl : a.length = b.length) : a = b := by
 rw [← List.take_length (l := a), ← List.take_length (l := b), ← hl, ← ha]; exact h
theorem not_at {α : Type} {a b : List α} {k : Nat} (ha : k < a.length) (hb : k < b.length) (he : ¬ a[k] = b[k]) : ¬ a = b := fun h => by subst h; exact he rfl
end Go.Proofs.YtmcjccigglekpaaGreatDoor.Given
namespace Go.Proofs.YtmcjccigglekpaaGreatDoor.Given
open Go Go.RowKit Go.Proofs Go.Proofs.YtmcjccigglekpaaGreatDoorW.PrintWords Go.Proofs.YtmcjccigglekpaaGreatDoorW.PrintLast Go.Proofs.YtmcjccigglekpaaGreatDoorW.PrintMore Go.Proofs.YtmcjccigglekpaaGreatDoor.P

def SPost (r : Bool) (w : World) (e : Ending) (w' : World) : Prop := e = .returned (.bool r) ∧ Below w.heap.size w w'
theorem rdBr (xs : List S76) (k : Nat) (hk : k < xs.length) : rd_T76 xs (k : Int) = xs[k] := by
 unfold rd_T76
 rw [Int.toNat_natCast, List.getD_eq_getElem?_getD, List.getElem?_eq_getElem hk]
 rfl
set_option maxRecDepth 100000 in
set_option maxHeartbeats 2000000 in
theorem treeSame_calls (A0 A1 : Option Addr) (c0 c1 : Nat) (a b : List S76) (w : World) (hr0 : Kd.C k76 w A0 a.length a) (hr1 : Kd.C k76 w A1 b.length b) :
  Calls Tryz.prog 55 #[.slice A0 a.length c0, .slice A1 b.length c1] w (SPost (decide (a = b)) w) := by
 by_cases hl : a.length = b.length
 ·have i1 : ((a.length : Int) != (b.length : Int)) = false := by simp [hl]
  have i9 : (a.length == b.length) = true := by simp [hl]
  have HR0 := Lib.hid hr0
  have HR1 := Lib.hid hr1
  have HL := Lib.hid hl
  have hbnd : a.length ≤ 9223372036854775807 := hr0.2.1
  have HN := Lib.hid hbnd
  clear hbnd
  clear hr0 hr1 hl
  go_enter Tryz.func55, Tryz.ntmps55
  go_wp2
  clear i1 i9
  go_loopw [5] (fun v wr => ∃ k : Nat, k ≤ a.length ∧ v = .int .i64 k ∧ Hid (a.take k = b.take k) ∧ ∃ m, wr = w.drewN m) (fun v _ => a.length - (intOf v).toNat)
  case atStart => exact ⟨0, Nat.zero_le _, rfl, Lib.hid rfl, 0, rfl⟩
  case round =>
   obtain ⟨k, hk, rfl, he, m, rfl⟩ := hrel
   by_cases hlt : k < a.length
   ·have hlt' : k < b.length := HL.out ▸ hlt
    have hd : decide ((k : Int) < (a.length : Int)) = true := decide_eq_true (by omega)
    have i2 : decide (0 ≤ (k : Int)) = true := decide_eq_true (by omega)
    have j2 : decide (k < a.length) = true := decide_eq_true hlt
    have j3 : decide (k < b.length) = true := decide_eq_true hlt'
    obtain ⟨ad, e1, hv0, hv1, hv2, hv3⟩ := at_T76 HR0.out (k : Int) (by omega) (by omega)
    obtain ⟨bd, e2, hu0, hu1, hu2, hu3⟩ := at_T76 HR1.out (k : Int) (by omega) (by omega)
    subst e1 e2
    rw [rdBr _ k hlt, Int.toNat_natCast] at hv0 hv1 hv2 hv3
    rw [rdBr _ k hlt', Int.toNat_natCast] at hu0 hu1 hu2 hu3
    by_cases hx : a[k] = b[k]
    ·have hmore := Lib.hid (take_more he.out hlt hlt' hx)
     rw [← hx] at hu0 hu1 hu2 hu3
     clear hx he
     generalize a[k] = x at *
     go_wp2
     obtain ⟨wd, hwd⟩ : ∃ wd, (w.drewN m).drew = wd := ⟨_, rfl⟩
     have cw : ∀ {a v}, w.cell? a = some v → wd.cell? a = some v := fun h => by rw [← hwd]; exact h
     replace hv0 := cw hv0; replace hv1 := cw hv1; replace hv2 := cw hv2; replace hv3 := cw hv3
     replace hu0 := cw hu0; replace hu1 := cw hu1; replace hu2 := cw hu2; replace hu3 := cw hu3
     refine wp_region_sch (fun w' => w' = wd) 8 [(false, 0), (false, 1), (false, 2), (false, 3), (false, 4), (false, 5), (false, 6), (false, 7)] (by kernel_rfl) (by kernel_rfl) (fun _ a d _ _ h => by cases d <;> exact h) wd hwd rfl ?_
     try dsimp only
     repeat (refine' sch_pure rfl rfl ?_ ?_; rotate_left; · (rintro w' rfl; go_simp <;> rfl)
             simp only [Act.put, List.setIfInBounds_toArray, List.set_cons_zero, List.set_cons_succ])
     refine sch_last rfl (fun K hK => ?_)
     go_simp
     refine hK.out _ _ ?_
     clear hK K
     go_wp2
     have hw1 : wrap64 ((k : Int) + 1) = ((k + 1 : Nat) : Int) := by have := HN.out; unfold wrap64; omega
     refine ⟨⟨k + 1, hlt, by rw [hw1], hmore, m + 1, hwd.symm⟩, ?_⟩
     rw [hw1]
     show a.length - (((k + 1 : Nat) : Int)).toNat < a.length - ((k : Int)).toNat
     omega
    ·have hno := not_at hlt hlt' hx
     clear he
     generalize a[k] = x at *
     generalize b[k] = y at *
     have HX := Lib.hid hx
     clear hx
     go_wp2
     obtain ⟨wd, hwd⟩ : ∃ wd, (w.drewN m).drew = wd := ⟨_, rfl⟩
     have cw : ∀ {a v}, w.cell? a = some v → wd.cell? a = some v := fun h => by rw [← hwd]; exact h
     replace hv0 := cw hv0; replace hv1 := cw hv1; replace hv2 := cw hv2; replace hv3 := cw hv3
     replace hu0 := cw hu0; replace hu1 := cw hu1; replace hu2 := cw hu2; replace hu3 := cw hu3
     refine wp_region_sch (fun w' => w' = wd) 8 [(false, 0), (false, 1), (false, 2), (false, 3), (false, 4), (false, 5), (false, 6), (false, 7)] (by kernel_rfl) (by kernel_rfl) (fun _ a d _ _ h => by cases d <;> exact h) wd hwd rfl ?_
     try dsimp only
     repeat (refine' sch_pure rfl rfl ?_ ?_; rotate_left; · (rintro w' rfl; go_simp <;> rfl)
             simp only [Act.put, List.setIfInBounds_toArray, List.set_cons_zero, List.set_cons_succ])
     refine sch_last rfl (fun K hK => ?_)
     go_simp
     rw [ifneBranch HX.out]
     refine hK.out _ _ ?_
     clear hK K
     go_wp2
     go_ret
     exact ⟨by rw [decide_eq_false hno]; rfl, hwd ▸ below_drew (below_drewN w m)⟩
   ·have hd : decide ((k : Int) < (a.length : Int)) = false := decide_eq_false (by omega)
    have hyes := Lib.hid (take_done he.out (by omega) HL.out)
    clear he
    go_wp2
    go_ret
    exact ⟨by rw [decide_eq_true hyes.out]; rfl, below_drewN w m⟩
 ·have i1 : ((a.length : Int) != (b.length : Int)) = true := by simp; omega
  have hno : ¬ a = b := fun h => hl (by rw [h])
  go_enter Tryz.func55, Tryz.ntmps55
  go_wp2
  go_ret
  exact ⟨by rw [decide_eq_false hno]; rfl, Below.refl _ _⟩
end Go.Proofs.YtmcjccigglekpaaGreatDoor.Given
namespace Go.Proofs.YtmcjccigglekpaaGreatDoor.Given
open Go Go.RowKit Go.Proofs Go.Proofs.YtmcjccigglekpaaGreatDoorW.PrintWords Go.Proofs.YtmcjccigglekpaaGreatDoorW.PrintLast Go.Proofs.YtmcjccigglekpaaGreatDoorW.PrintMore Go.Proofs.YtmcjccigglekpaaGreatDoor.P

theorem rdInt (xs : List Int) (k : Nat) (hk : k < xs.length) : rd xs (k : Int) = xs[k] := by
 unfold rd
 rw [Int.toNat_natCast, List.getD_eq_getElem?_getD, List.getElem?_eq_getElem hk]
 rfl
set_option maxRecDepth 100000 in
set_option maxHeartbeats 2000000 in
theorem ints_calls (A0 A1 : Option Addr) (c0 c1 : Nat) (a b : List Int) (w : World) (hr0 : Kd.C (Kd.int .i64) w A0 a.length a) (hr1 : Kd.C (Kd.int .i64) w A1 b.length b) :
  Calls Tryz.prog 56 #[.slice A0 a.length c0, .slice A1 b.length c1] w (SPost (decide (a = b)) w) := by
 by_cases hl : a.length = b.length
 ·have i1 : ((a.length : Int) != (b.length : Int)) = false := by simp [hl]
  have hbnd : a.length ≤ 9223372036854775807 := hr0.2.1
  have HN := Lib.hid hbnd
  have HR0 := Lib.hid hr0
  have HR1 := Lib.hid hr1
  have HL := Lib.hid hl
  have HW := Lib.hid (Below.refl w.heap.size w)
  clear hr0 hr1 hl hbnd
  go_enter Tryz.func56, Tryz.ntmps56
  go_wp2
  clear i1
  go_loopw [5] (fun v wr => ∃ k : Nat, k ≤ a.length ∧ v = .int .i64 k ∧ Hid (a.take k = b.take k) ∧ Below w.heap.size w wr) (fun v _ => a.length - (intOf v).toNat)
  case atStart => exact ⟨0, Nat.zero_le _, rfl, Lib.hid rfl, Below.refl _ _⟩
  case round =>
   obtain ⟨k, hk, rfl, he, hB⟩ := hrel
   by_cases hlt : k < a.length
   ·have hlt' : k < b.length := HL.out ▸ hlt
    have hd : decide ((k : Int) < (a.length : Int)) = true := decide_eq_true (by omega)
    have i2 : decide (0 ≤ (k : Int)) = true := decide_eq_true (by omega)
    have j2 : decide (k < a.length) = true := decide_eq_true hlt
    have j3 : decide (k < b.length) = true := decide_eq_true hlt'
    obtain ⟨ad, e1, hv0⟩ := Kd.at_int (Kd.C_below HR0.out hB) (k : Int) (by omega) (by omega)
    obtain ⟨bd, e2, hu0⟩ := Kd.at_int (Kd.C_below HR1.out hB) (k : Int) (by omega) (by omega)
    subst e1 e2
    rw [rdInt _ k hlt, Int.toNat_natCast] at hv0
    rw [rdInt _ k hlt', Int.toNat_natCast] at hu0
    by_cases hx : a[k] = b[k]
    ·have hmore := Lib.hid (take_more he.out hlt hlt' hx)
     rw [← hx] at hu0
     clear hx he
     generalize a[k] = x at *
     go_wp2
     obtain ⟨wd, hwd⟩ : ∃ wd, wr.drew = wd := ⟨_, rfl⟩
     have cw : ∀ {a v}, wr.cell? a = some v → wd.cell? a = some v := fun h => by rw [← hwd]; exact h
     have HBD : Below wr.heap.size wr wd := hwd ▸ below_drew (Below.refl _ _)
     replace hv0 := cw hv0
     replace hu0 := cw hu0
     refine wp_region_sch (fun w' => w' = wd) 8 [(false, 0), (false, 1), (false, 2), (false, 3), (false, 4), (false, 5), (false, 6), (false, 7)] (by kernel_rfl) (by kernel_rfl) (fun _ a d _ _ h => by cases d <;> exact h) wd hwd rfl ?_
     clear hwd
     try dsimp only
     repeat (refine' sch_pure rfl rfl ?_ ?_; rotate_left; · (rintro w' rfl; go_simp <;> rfl)
             simp only [Act.put, List.setIfInBounds_toArray, List.set_cons_zero, List.set_cons_succ])
     refine sch_last rfl (fun K hK => ?_)
     go_simp
     refine hK.out _ _ ?_
     clear hK K
     go_wp2
     have hw1 : wrap64 ((k : Int) + 1) = ((k + 1 : Nat) : Int) := by have := HN.out; unfold wrap64; omega
     refine ⟨⟨k + 1, hlt, by rw [hw1], hmore, hB.trans (HBD.mono hB.size)⟩, ?_⟩
     rw [hw1]
     show a.length - (((k + 1 : Nat) : Int)).toNat < a.length - ((k : Int)).toNat
     omega
    ·have hno := not_at hlt hlt' hx
     clear he
     generalize a[k] = x at *
     generalize b[k] = y at *
     have HX := Lib.hid hx
     go_wp2
     obtain ⟨wd, hwd⟩ : ∃ wd, wr.drew = wd := ⟨_, rfl⟩
     have cw : ∀ {a v}, wr.cell? a = some v → wd.cell? a = some v := fun h => by rw [← hwd]; exact h
     have HBD : Below wr.heap.size wr wd := hwd ▸ below_drew (Below.refl _ _)
     replace hv0 := cw hv0
     replace hu0 := cw hu0
     refine wp_region_sch (fun w' => w' = wd) 8 [(false, 0), (false, 1), (false, 2), (false, 3), (false, 4), (false, 5), (false, 6), (false, 7)] (by kernel_rfl) (by kernel_rfl) (fun _ a d _ _ h => by cases d <;> exact h) wd hwd rfl ?_
     clear hwd
     try dsimp only
     repeat (refine' sch_pure rfl rfl ?_ ?_; rotate_left; · (rintro w' rfl; go_simp <;> rfl)
             simp only [Act.put, List.setIfInBounds_toArray, List.set_cons_zero, List.set_cons_succ])
     refine sch_last rfl (fun K hK => ?_)
     go_simp
     refine hK.out _ _ ?_
     clear hK K
     go_wp2
     go_ret
     exact ⟨by rw [decide_eq_false (hno)]; rfl, HW.out.trans ((hB.trans (HBD.mono hB.size)).mono HW.out.size)⟩
   ·have hd : decide ((k : Int) < (a.length : Int)) = false := decide_eq_false (by omega)
    have hyes := Lib.hid (take_done he.out (by omega) HL.out)
    clear he
    go_wp2
    go_ret
    exact ⟨by rw [decide_eq_true hyes.out]; rfl, hB⟩
 ·have i1 : ((a.length : Int) != (b.length : Int)) = true := by simp; omega
  have hno : ¬ a = b := fun h => hl (by rw [h])
  go_enter Tryz.func56, Tryz.ntmps56
  go_wp2
  go_ret
  exact ⟨by rw [decide_eq_false hno]; rfl, Below.refl _ _⟩
end Go.Proofs.YtmcjccigglekpaaGreatDoor.Given
namespace Go.Proofs.YtmcjccigglekpaaGreatDoor.Given
open Go Go.RowKit Go.Proofs Go.Proofs.YtmcjccigglekpaaGreatDoorW.PrintWords Go.Proofs.YtmcjccigglekpaaGreatDoorW.PrintLast Go.Proofs.YtmcjccigglekpaaGreatDoorW.PrintMore Go.Proofs.YtmcjccigglekpaaGreatDoor.P

theorem blk_at {w : World} {o : Obj} {n : Nat} (h : w.heap.size = n) : (w.alloc o).heap[n]? = some o := h ▸ blk_new w o
theorem rdElWaiter (xs : List S95) (k : Nat) (hk : k < xs.length) : rd_T95 xs (k : Int) = xs[k] := by
 unfold rd_T95
 rw [Int.toNat_natCast, List.getD_eq_getElem?_getD, List.getElem?_eq_getElem hk]
 rfl
set_option maxRecDepth 100000 in
set_option maxHeartbeats 4000000 in
theorem portSame_calls' (A0 A1 : Option Addr) (c0 c1 : Nat) (x0 x1 y0 y1 : Int) (a b : List S95) (w : World) (hr0 : Kd.C k95 w A0 a.length a) (hr1 : Kd.C k95 w A1 b.length b) :
  Calls Tryz.prog 57 #[.agg #[.int .i64 x0, .int .i64 x1, .slice A0 a.length c0], .agg #[.int .i64 y0, .int .i64 y1, .slice A1 b.length c1]] w (SPost (decide ((⟨x0, x1, a⟩ : S59) = ⟨y0, y1, b⟩)) w) := by
 by_cases h0 : x0 = y0
 ·by_cases h1 : x1 = y1
  ·by_cases hl : a.length = b.length
   ·have i1 : ((a.length : Int) != (b.length : Int)) = false := by simp [hl]
    subst h0 h1
    have hbnd : a.length ≤ 9223372036854775807 := hr0.2.1
    have HN := Lib.hid hbnd
    have HL := Lib.hid hl
    clear hl hbnd
    have hbx : ((w.alloc (.cells #[.int .i64 x0, .int .i64 x1, .slice A0 a.length c0] 59)).alloc (.cells #[.int .i64 x0, .int .i64 x1, .slice A1 b.length c1] 59)).heap[w.heap.size]? = some (.cells #[.int .i64 x0, .int .i64 x1, .slice A0 a.length c0] 59 (0, 0)) := blk_alloc (blk_new w _) _
    have hby : ((w.alloc (.cells #[.int .i64 x0, .int .i64 x1, .slice A0 a.length c0] 59)).alloc (.cells #[.int .i64 x0, .int .i64 x1, .slice A1 b.length c1] 59)).heap[w.heap.size + 1]? = some (.cells #[.int .i64 x0, .int .i64 x1, .slice A1 b.length c1] 59 (0, 0)) := blk_at (by simp)
    have hbw : Below w.heap.size w ((w.alloc (.cells #[.int .i64 x0, .int .i64 x1, .slice A0 a.length c0] 59)).alloc (.cells #[.int .i64 x0, .int .i64 x1, .slice A1 b.length c1] 59)) := ((Below.refl _ _).alloc (Nat.le_refl _) _).alloc (by simp) _
    have p0 := (blk_cell hbx 0).trans (show _ = some (.int .i64 x0 : Value) from rfl)
    have p1 := (blk_cell hbx 1).trans (show _ = some (.int .i64 x1 : Value) from rfl)
    have p2 := (blk_cell hbx 2).trans (show _ = some (.slice A0 a.length c0 : Value) from rfl)
    have q0 := (blk_cell hby 0).trans (show _ = some (.int .i64 x0 : Value) from rfl)
    have q1 := (blk_cell hby 1).trans (show _ = some (.int .i64 x1 : Value) from rfl)
    have q2 := (blk_cell hby 2).trans (show _ = some (.slice A1 b.length c1 : Value) from rfl)
    clear hbx hby
    have HR0 := Lib.hid (Kd.C_below hr0 hbw)
    have HR1 := Lib.hid (Kd.C_below hr1 hbw)
    have HW := Lib.hid hbw
    clear hr0 hr1 hbw
    go_enter Tryz.func57, Tryz.ntmps57
    go_wp2
    generalize ((w.alloc (.cells #[.int .i64 x0, .int .i64 x1, .slice A0 a.length c0] 59)).alloc (.cells #[.int .i64 x0, .int .i64 x1, .slice A1 b.length c1] 59)) = W0 at *
    clear i1
    go_loopw [5] (fun v wr => ∃ k : Nat, k ≤ a.length ∧ v = .int .i64 k ∧ Hid (a.take k = b.take k) ∧ Below W0.heap.size W0 wr) (fun v _ => a.length - (intOf v).toNat)
    case atStart => exact ⟨0, Nat.zero_le _, rfl, Lib.hid rfl, Below.refl _ _⟩
    case round =>
     obtain ⟨k, hk, rfl, he, hB⟩ := hrel
     have zp2 := bcellv hB p2
     have zq2 := bcellv hB q2
     by_cases hlt : k < a.length
     ·have hlt' : k < b.length := HL.out ▸ hlt
      have hd : decide ((k : Int) < (a.length : Int)) = true := decide_eq_true (by omega)
      have i2 : decide (0 ≤ (k : Int)) = true := decide_eq_true (by omega)
      have j2 : decide (k < a.length) = true := decide_eq_true hlt
      have j3 : decide (k < b.length) = true := decide_eq_true hlt'
      obtain ⟨ad, e1, hv0, hv1, hv2, hv3, hv4, hv5, hv6, hv7⟩ := at_T95 (Kd.C_below HR0.out hB) (k : Int) (by omega) (by omega)
      obtain ⟨bd, e2, hu0, hu1, hu2, hu3, hu4, hu5, hu6, hu7⟩ := at_T95 (Kd.C_below HR1.out hB) (k : Int) (by omega) (by omega)
      subst e1 e2
      rw [rdElWaiter _ k hlt, Int.toNat_natCast] at hv0 hv1 hv2 hv3 hv4 hv5 hv6 hv7
      rw [rdElWaiter _ k hlt', Int.toNat_natCast] at hu0 hu1 hu2 hu3 hu4 hu5 hu6 hu7
      by_cases hx : a[k] = b[k]
      ·have hmore := Lib.hid (take_more he.out hlt hlt' hx)
       rw [← hx] at hu0 hu1 hu2 hu3 hu4 hu5 hu6 hu7
       clear hx he
       generalize a[k] = x at *
       go_wp2
       obtain ⟨wd, hwd⟩ : ∃ wd, wr.drew = wd := ⟨_, rfl⟩
       have cw : ∀ {a v}, wr.cell? a = some v → wd.cell? a = some v := fun h => by rw [← hwd]; exact h
       have HBD : Below wr.heap.size wr wd := hwd ▸ below_drew (Below.refl _ _)
       replace hv0 := cw hv0
       replace hv1 := cw hv1
       replace hv2 := cw hv2
       replace hv3 := cw hv3
       replace hv4 := cw hv4
       replace hv5 := cw hv5
       replace hv6 := cw hv6
       replace hv7 := cw hv7
       replace hu0 := cw hu0
       replace hu1 := cw hu1
       replace hu2 := cw hu2
       replace hu3 := cw hu3
       replace hu4 := cw hu4
       replace hu5 := cw hu5
       replace hu6 := cw hu6
       replace hu7 := cw hu7
       replace zp2 := cw zp2
       replace zq2 := cw zq2
       refine wp_region_sch (fun w' => w' = wd) 10 [(false, 0), (false, 1), (false, 2), (false, 3), (false, 4), (false, 5), (false, 6), (false, 7), (false, 8), (false, 9)] (by kernel_rfl) (by kernel_rfl) (fun _ a d _ _ h => by cases d <;> exact h) wd hwd rfl ?_
       clear hwd
       try dsimp only
       repeat (refine' sch_pure rfl rfl ?_ ?_; rotate_left; · (rintro w' rfl; go_simp <;> rfl)
               simp only [Act.put, List.setIfInBounds_toArray, List.set_cons_zero, List.set_cons_succ])
       refine sch_last rfl (fun K hK => ?_)
       go_simp
       refine hK.out _ _ ?_
       clear hK K
       go_wp2
       have hw1 : wrap64 ((k : Int) + 1) = ((k + 1 : Nat) : Int) := by have := HN.out; unfold wrap64; omega
       refine ⟨⟨k + 1, hlt, by rw [hw1], hmore, hB.trans (HBD.mono hB.size)⟩, ?_⟩
       rw [hw1]
       show a.length - (((k + 1 : Nat) : Int)).toNat < a.length - ((k : Int)).toNat
       omega
      ·have hno := not_at hlt hlt' hx
       clear he
       generalize a[k] = x at *
       generalize b[k] = y at *
       have HX := Lib.hid hx
       clear hx
       go_wp2
       obtain ⟨wd, hwd⟩ : ∃ wd, wr.drew = wd := ⟨_, rfl⟩
       have cw : ∀ {a v}, wr.cell? a = some v → wd.cell? a = some v := fun h => by rw [← hwd]; exact h
       have HBD : Below wr.heap.size wr wd := hwd ▸ below_drew (Below.refl _ _)
       replace hv0 := cw hv0
       replace hv1 := cw hv1
       replace hv2 := cw hv2
       replace hv3 := cw hv3
       replace hv4 := cw hv4
       replace hv5 := cw hv5
       replace hv6 := cw hv6
       replace hv7 := cw hv7
       replace hu0 := cw hu0
       replace hu1 := cw hu1
       replace hu2 := cw hu2
       replace hu3 := cw hu3
       replace hu4 := cw hu4
       replace hu5 := cw hu5
       replace hu6 := cw hu6
       replace hu7 := cw hu7
       replace zp2 := cw zp2
       replace zq2 := cw zq2
       refine wp_region_sch (fun w' => w' = wd) 10 [(false, 0), (false, 1), (false, 2), (false, 3), (false, 4), (false, 5), (false, 6), (false, 7), (false, 8), (false, 9)] (by kernel_rfl) (by kernel_rfl) (fun _ a d _ _ h => by cases d <;> exact h) wd hwd rfl ?_
       clear hwd
       try dsimp only
       repeat (refine' sch_pure rfl rfl ?_ ?_; rotate_left; · (rintro w' rfl; go_simp <;> rfl)
               simp only [Act.put, List.setIfInBounds_toArray, List.set_cons_zero, List.set_cons_succ])
       refine sch_last rfl (fun K hK => ?_)
       go_simp
       rw [ifneWaiter HX.out]
       refine hK.out _ _ ?_
       clear hK K
       go_wp2
       go_ret
       exact ⟨by rw [decide_eq_false (fun e => hno (by injection e))]; rfl, HW.out.trans ((hB.trans (HBD.mono hB.size)).mono HW.out.size)⟩
     ·have hd : decide ((k : Int) < (a.length : Int)) = false := decide_eq_false (by omega)
      have hyes := Lib.hid (take_done he.out (by omega) HL.out)
      clear he
      go_wp2
      go_ret
      exact ⟨by rw [hyes.out, decide_eq_true rfl]; rfl, HW.out.trans (hB.mono HW.out.size)⟩
   ·subst h0 h1
    have hno : ¬ (⟨x0, x1, a⟩ : S59) = ⟨x0, x1, b⟩ := fun e => hl (by injection e with _ _ e; rw [e])
    have i1 : ((a.length : Int) != (b.length : Int)) = true := by simp; omega
    have hbx : ((w.alloc (.cells #[.int .i64 x0, .int .i64 x1, .slice A0 a.length c0] 59)).alloc (.cells #[.int .i64 x0, .int .i64 x1, .slice A1 b.length c1] 59)).heap[w.heap.size]? = some (.cells #[.int .i64 x0, .int .i64 x1, .slice A0 a.length c0] 59 (0, 0)) := blk_alloc (blk_new w _) _
    have hby : ((w.alloc (.cells #[.int .i64 x0, .int .i64 x1, .slice A0 a.length c0] 59)).alloc (.cells #[.int .i64 x0, .int .i64 x1, .slice A1 b.length c1] 59)).heap[w.heap.size + 1]? = some (.cells #[.int .i64 x0, .int .i64 x1, .slice A1 b.length c1] 59 (0, 0)) := blk_at (by simp)
    have hbw : Below w.heap.size w ((w.alloc (.cells #[.int .i64 x0, .int .i64 x1, .slice A0 a.length c0] 59)).alloc (.cells #[.int .i64 x0, .int .i64 x1, .slice A1 b.length c1] 59)) := ((Below.refl _ _).alloc (Nat.le_refl _) _).alloc (by simp) _
    have p0 := (blk_cell hbx 0).trans (show _ = some (.int .i64 x0 : Value) from rfl)
    have p1 := (blk_cell hbx 1).trans (show _ = some (.int .i64 x1 : Value) from rfl)
    have p2 := (blk_cell hbx 2).trans (show _ = some (.slice A0 a.length c0 : Value) from rfl)
    have q0 := (blk_cell hby 0).trans (show _ = some (.int .i64 x0 : Value) from rfl)
    have q1 := (blk_cell hby 1).trans (show _ = some (.int .i64 x1 : Value) from rfl)
    have q2 := (blk_cell hby 2).trans (show _ = some (.slice A1 b.length c1 : Value) from rfl)
    clear hbx hby
    clear hr0 hr1
    go_enter Tryz.func57, Tryz.ntmps57
    go_wp2
    go_ret
    exact ⟨by rw [decide_eq_false hno]; rfl, hbw⟩
  ·subst h0
   have hno : ¬ (⟨x0, x1, a⟩ : S59) = ⟨x0, y1, b⟩ := fun e => h1 (by injection e)
   have hbx : ((w.alloc (.cells #[.int .i64 x0, .int .i64 x1, .slice A0 a.length c0] 59)).alloc (.cells #[.int .i64 x0, .int .i64 y1, .slice A1 b.length c1] 59)).heap[w.heap.size]? = some (.cells #[.int .i64 x0, .int .i64 x1, .slice A0 a.length c0] 59 (0, 0)) := blk_alloc (blk_new w _) _
   have hby : ((w.alloc (.cells #[.int .i64 x0, .int .i64 x1, .slice A0 a.length c0] 59)).alloc (.cells #[.int .i64 x0, .int .i64 y1, .slice A1 b.length c1] 59)).heap[w.heap.size + 1]? = some (.cells #[.int .i64 x0, .int .i64 y1, .slice A1 b.length c1] 59 (0, 0)) := blk_at (by simp)
   have hbw : Below w.heap.size w ((w.alloc (.cells #[.int .i64 x0, .int .i64 x1, .slice A0 a.length c0] 59)).alloc (.cells #[.int .i64 x0, .int .i64 y1, .slice A1 b.length c1] 59)) := ((Below.refl _ _).alloc (Nat.le_refl _) _).alloc (by simp) _
   have p0 := (blk_cell hbx 0).trans (show _ = some (.int .i64 x0 : Value) from rfl)
   have p1 := (blk_cell hbx 1).trans (show _ = some (.int .i64 x1 : Value) from rfl)
   have p2 := (blk_cell hbx 2).trans (show _ = some (.slice A0 a.length c0 : Value) from rfl)
   have q0 := (blk_cell hby 0).trans (show _ = some (.int .i64 x0 : Value) from rfl)
   have q1 := (blk_cell hby 1).trans (show _ = some (.int .i64 y1 : Value) from rfl)
   have q2 := (blk_cell hby 2).trans (show _ = some (.slice A1 b.length c1 : Value) from rfl)
   clear hbx hby
   clear hr0 hr1
   go_enter Tryz.func57, Tryz.ntmps57
   go_wp2
   go_ret
   exact ⟨by rw [decide_eq_false hno]; rfl, hbw⟩
 ·have hno : ¬ (⟨x0, x1, a⟩ : S59) = ⟨y0, y1, b⟩ := fun e => h0 (by injection e)
  have hbx : ((w.alloc (.cells #[.int .i64 x0, .int .i64 x1, .slice A0 a.length c0] 59)).alloc (.cells #[.int .i64 y0, .int .i64 y1, .slice A1 b.length c1] 59)).heap[w.heap.size]? = some (.cells #[.int .i64 x0, .int .i64 x1, .slice A0 a.length c0] 59 (0, 0)) := blk_alloc (blk_new w _) _
  have hby : ((w.alloc (.cells #[.int .i64 x0, .int .i64 x1, .slice A0 a.length c0] 59)).alloc (.cells #[.int .i64 y0, .int .i64 y1, .slice A1 b.length c1] 59)).heap[w.heap.size + 1]? = some (.cells #[.int .i64 y0, .int .i64 y1, .slice A1 b.length c1] 59 (0, 0)) := blk_at (by simp)
  have hbw : Below w.heap.size w ((w.alloc (.cells #[.int .i64 x0, .int .i64 x1, .slice A0 a.length c0] 59)).alloc (.cells #[.int .i64 y0, .int .i64 y1, .slice A1 b.length c1] 59)) := ((Below.refl _ _).alloc (Nat.le_refl _) _).alloc (by simp) _
  have p0 := (blk_cell hbx 0).trans (show _ = some (.int .i64 x0 : Value) from rfl)
  have p1 := (blk_cell hbx 1).trans (show _ = some (.int .i64 x1 : Value) from rfl)
  have p2 := (blk_cell hbx 2).trans (show _ = some (.slice A0 a.length c0 : Value) from rfl)
  have q0 := (blk_cell hby 0).trans (show _ = some (.int .i64 y0 : Value) from rfl)
  have q1 := (blk_cell hby 1).trans (show _ = some (.int .i64 y1 : Value) from rfl)
  have q2 := (blk_cell hby 2).trans (show _ = some (.slice A1 b.length c1 : Value) from rfl)
  clear hbx hby
  clear hr0 hr1
  go_enter Tryz.func57, Tryz.ntmps57
  go_wp2
  go_ret
  exact ⟨by rw [decide_eq_false hno]; rfl, hbw⟩
end Go.Proofs.YtmcjccigglekpaaGreatDoor.Given
