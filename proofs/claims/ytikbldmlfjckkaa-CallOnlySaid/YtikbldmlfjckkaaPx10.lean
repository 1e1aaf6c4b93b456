-- Written by a program of this session (wip/tools/myprint.py) out of the translation.
import Derived.Test.YtikbldmlfjckkaaPx0
import Derived.Test.YtikbldmlfjckkaaPx7
import Derived.Test.YtikbldmlfjckkaaGCall
import Derived.Test.YtikbldmlfjckkaaGLive
namespace Go.Proofs.Ytikbldmlfjckkaa.Given
end Go.Proofs.Ytikbldmlfjckkaa.Given
namespace Go.Proofs.Ytikbldmlfjckkaa.P
open Go.Proofs.Ytikbldmlfjckkaa.Given
open Go.RowKit Go.Proofs.YtikbldmlfjckkaaW.PrintWords Go.Proofs.YtikbldmlfjckkaaW.PrintLast Go.Proofs.YtikbldmlfjckkaaW.PrintMore
attribute [local go_sem] max2_int min2_int max_two min_two max_three min_three max_four min_four u64_signed   -- for this text's walks alone
set_option linter.unusedVariables false
set_option linter.unusedSimpArgs false

/-! ### garrisonlaw15_CallOnly: function 5 -/
def garrisonlaw15_CallOnly.j0 : Nat → Int → Int → Bool → Int → Int → Int → Int → Int → Int → Int → Int → Option (Bool)
 | 0, _, _, _, _, _, _, _, _, _, _, _ => none
 | k + 1, x1, x2, x17, x274000, x274001, x274002, x274003, x274004, x274005, x274006, x274007 => if x17 = true then ((garrisonlaw15_live.f).bind fun t276 => (some t276)) else (if x1 = 0 then ((call_Check.f x274000 x274001 x274002 x2 x274004 x274005 x274006 x274007).bind fun t278 => ((garrisonlaw15_num.f t278).bind fun t279 => (if x274000 = 1 then (if x1 < 4 then ((garrisonlaw15_live.f).bind fun t280 => (some t280)) else (if t279 = 0 then ((garrisonlaw15_live.f).bind fun t281 => (some t281)) else (some false))) else (if t279 = 0 then (some false) else (if x1 < 4 then ((garrisonlaw15_live.f).bind fun t282 => (some t282)) else ((garrisonlaw15_live.f).bind fun t283 => (some t283))))))) else (if x1 = 1 then ((call_Check.f x274000 x274001 x274002 x274003 x2 x274005 x274006 x274007).bind fun t284 => ((garrisonlaw15_num.f t284).bind fun t285 => (if x274000 = 1 then (if x1 < 4 then ((garrisonlaw15_live.f).bind fun t286 => (some t286)) else (if t285 = 0 then ((garrisonlaw15_live.f).bind fun t287 => (some t287)) else (some false))) else (if t285 = 0 then (some false) else (if x1 < 4 then ((garrisonlaw15_live.f).bind fun t288 => (some t288)) else ((garrisonlaw15_live.f).bind fun t289 => (some t289))))))) else (if x1 = 2 then ((call_Check.f x274000 x274001 x274002 x274003 x274004 x2 x274006 x274007).bind fun t290 => ((garrisonlaw15_num.f t290).bind fun t291 => (if x274000 = 5 then (if x1 < 4 then ((garrisonlaw15_live.f).bind fun t292 => (some t292)) else (if t291 = 0 then ((garrisonlaw15_live.f).bind fun t293 => (some t293)) else (some false))) else (if t291 = 0 then (some false) else (if x1 < 4 then ((garrisonlaw15_live.f).bind fun t294 => (some t294)) else ((garrisonlaw15_live.f).bind fun t295 => (some t295))))))) else (if x1 = 3 then ((call_Check.f x274000 x274001 x274002 x274003 x274004 x274005 x2 x274007).bind fun t296 => ((garrisonlaw15_num.f t296).bind fun t297 => (if x274000 = 5 then (if x1 < 4 then ((garrisonlaw15_live.f).bind fun t298 => (some t298)) else (if t297 = 0 then ((garrisonlaw15_live.f).bind fun t299 => (some t299)) else (some false))) else (if t297 = 0 then (some false) else (if x1 < 4 then ((garrisonlaw15_live.f).bind fun t300 => (some t300)) else ((garrisonlaw15_live.f).bind fun t301 => (some t301))))))) else (if x1 = 4 then (if x274000 = 7 then ((call_Check.f x274000 x274001 x274002 x274003 x274004 x274005 x274006 x2).bind fun t302 => ((garrisonlaw15_num.f t302).bind fun t303 => (if x1 < 4 then ((garrisonlaw15_live.f).bind fun t304 => (some t304)) else (if t303 = 0 then ((garrisonlaw15_live.f).bind fun t305 => (some t305)) else (some false))))) else ((call_Check.f x274000 x274001 x274002 x274003 x274004 x274005 x274006 x2).bind fun t306 => ((garrisonlaw15_num.f t306).bind fun t307 => (if x274000 = 8 then (if x1 < 4 then ((garrisonlaw15_live.f).bind fun t308 => (some t308)) else (if t307 = 0 then ((garrisonlaw15_live.f).bind fun t309 => (some t309)) else (some false))) else (if t307 = 0 then (some false) else (if x1 < 4 then ((garrisonlaw15_live.f).bind fun t310 => (some t310)) else ((garrisonlaw15_live.f).bind fun t311 => (some t311)))))))) else (if x274000 = 1 then ((call_Check.f x274000 x274001 x274001 x274003 x274004 x274005 x274006 x274007).bind fun t312 => ((garrisonlaw15_num.f t312).bind fun t313 => (if x1 < 4 then ((garrisonlaw15_live.f).bind fun t314 => (some t314)) else (if t313 = 0 then ((garrisonlaw15_live.f).bind fun t315 => (some t315)) else (some false))))) else (if x274000 = 2 then ((call_Check.f x274000 x274001 x274001 x274003 x274004 x274005 x274006 x274007).bind fun t316 => ((garrisonlaw15_num.f t316).bind fun t317 => (if x1 < 4 then ((garrisonlaw15_live.f).bind fun t318 => (some t318)) else (if t317 = 0 then ((garrisonlaw15_live.f).bind fun t319 => (some t319)) else (some false))))) else (if x274000 = 5 then ((call_Check.f x274000 x274001 x274001 x274003 x274004 x274005 x274006 x274007).bind fun t320 => ((garrisonlaw15_num.f t320).bind fun t321 => (if x1 < 4 then ((garrisonlaw15_live.f).bind fun t322 => (some t322)) else (if t321 = 0 then ((garrisonlaw15_live.f).bind fun t323 => (some t323)) else (some false))))) else (if x274000 = 8 then ((call_Check.f x274000 x274001 x274001 x274003 x274004 x274005 x274006 x274007).bind fun t324 => ((garrisonlaw15_num.f t324).bind fun t325 => (if x1 < 4 then ((garrisonlaw15_live.f).bind fun t326 => (some t326)) else (if t325 = 0 then ((garrisonlaw15_live.f).bind fun t327 => (some t327)) else (some false))))) else ((call_Check.f x274000 x274001 x274001 x274003 x274004 x274005 x274006 x274007).bind fun t328 => ((garrisonlaw15_num.f t328).bind fun t329 => (if x274000 = 9 then (if x1 < 4 then ((garrisonlaw15_live.f).bind fun t330 => (some t330)) else (if t329 = 0 then ((garrisonlaw15_live.f).bind fun t331 => (some t331)) else (some false))) else (if t329 = 0 then (some false) else (if x1 < 4 then ((garrisonlaw15_live.f).bind fun t332 => (some t332)) else ((garrisonlaw15_live.f).bind fun t333 => (some t333))))))))))))))))
def garrisonlaw15_CallOnly.f (k : Nat) (a0_0 : Int) (a0_1 : Int) (a0_2 : Int) (a0_3 : Int) (a0_4 : Int) (a0_5 : Int) (a0_6 : Int) (a0_7 : Int) (a1 : Int) (a2 : Int) : Option (Bool) := (call_Check.f a0_0 a0_1 a0_2 a0_3 a0_4 a0_5 a0_6 a0_7).bind fun t274 => ((garrisonlaw15_num.f t274).bind fun t275 => (if t275 = 0 then (garrisonlaw15_CallOnly.j0 k a1 a2 (a2 == 0) a0_0 a0_1 a0_2 a0_3 a0_4 a0_5 a0_6 a0_7) else (garrisonlaw15_CallOnly.j0 k a1 a2 true a0_0 a0_1 a0_2 a0_3 a0_4 a0_5 a0_6 a0_7)))
theorem garrisonlaw15_CallOnly.mono_l : ∀ k, (∀ y0 y1 y2 y3 y4 y5 y6 y7 y8 y9 y10, LeO (garrisonlaw15_CallOnly.j0 k y0 y1 y2 y3 y4 y5 y6 y7 y8 y9 y10) (garrisonlaw15_CallOnly.j0 (k + 1) y0 y1 y2 y3 y4 y5 y6 y7 y8 y9 y10))
 | 0 => fun _ _ _ _ _ _ _ _ _ _ _ r h => by simp [garrisonlaw15_CallOnly.j0] at h
 | k + 1 => by
  have ih0 := garrisonlaw15_CallOnly.mono_l k
  ·intro y0 y1 y2 y3 y4 y5 y6 y7 y8 y9 y10
   unfold garrisonlaw15_CallOnly.j0
   repeat' first
   | (with_reducible exact ih0 _ _ _ _ _ _ _ _ _ _ _)
   | (with_reducible exact LeO.refl _)
   | (with_reducible exact LeO.none _)
   | (with_reducible refine LeO.ite ?_ ?_)
   | (with_reducible refine LeO.bind ?_ (fun _ => ?_))
   | exact ih0 _ _ _ _ _ _ _ _ _ _ _
   | exact LeO.none _
   | refine LeO.ite ?_ ?_
   | refine LeO.bind ?_ (fun _ => ?_)
theorem garrisonlaw15_CallOnly.mono : ∀ a0 a1 a2 a3 a4 a5 a6 a7 a8 a9 k, LeO (garrisonlaw15_CallOnly.f k a0 a1 a2 a3 a4 a5 a6 a7 a8 a9) (garrisonlaw15_CallOnly.f (k + 1) a0 a1 a2 a3 a4 a5 a6 a7 a8 a9) := by
 intro a0 a1 a2 a3 a4 a5 a6 a7 a8 a9 k
 have ih0 := garrisonlaw15_CallOnly.mono_l k
 unfold garrisonlaw15_CallOnly.f
 repeat' first
   | (with_reducible exact ih0 _ _ _ _ _ _ _ _ _ _ _)
   | (with_reducible exact LeO.refl _)
   | (with_reducible exact LeO.none _)
   | (with_reducible refine LeO.ite ?_ ?_)
   | (with_reducible refine LeO.bind ?_ (fun _ => ?_))
   | exact ih0 _ _ _ _ _ _ _ _ _ _ _
   | exact LeO.none _
   | refine LeO.ite ?_ ?_
   | refine LeO.bind ?_ (fun _ => ?_)
set_option maxHeartbeats 8000000 in
set_option maxRecDepth 100000 in
theorem garrisonlaw15_CallOnly.calls (k : Nat) (a0_0 : Int) (a0_1 : Int) (a0_2 : Int) (a0_3 : Int) (a0_4 : Int) (a0_5 : Int) (a0_6 : Int) (a0_7 : Int) (a1 : Int) (a2 : Int) (r : Bool) (w : World) (hr_ : Aside0 (r = true)) (h : garrisonlaw15_CallOnly.f k a0_0 a0_1 a0_2 a0_3 a0_4 a0_5 a0_6 a0_7 a1 a2 = some r) :
  Calls Try.prog 5 #[.agg #[.int .i64 a0_0, .int .u64 a0_1, .int .u64 a0_2, .int .i64 a0_3, .int .i64 a0_4, .int .i64 a0_5, .int .i64 a0_6, .int .i64 a0_7], .int .i64 a1, .int .i64 a2] w fun e w' => e = .returned (.bool r) ∧ Below w.heap.size w w' := by
 have hu24 := Try.underlying24
 have HB := Aside0.mk (Below.refl w.heap.size w)
 have H : ((call_Check.f a0_0 a0_1 a0_2 a0_3 a0_4 a0_5 a0_6 a0_7).bind fun t274 => ((garrisonlaw15_num.f t274).bind fun t275 => (if t275 = 0 then (garrisonlaw15_CallOnly.j0 k a1 a2 (a2 == 0) a0_0 a0_1 a0_2 a0_3 a0_4 a0_5 a0_6 a0_7) else (garrisonlaw15_CallOnly.j0 k a1 a2 true a0_0 a0_1 a0_2 a0_3 a0_4 a0_5 a0_6 a0_7)))) = some r := h
 clear h
 have HC4 := Aside0.mk H
 clear H
 go_enter Try.func5, Try.ntmps5
 go_upto_region 1 with (first | ((with_reducible refine gate_dst (N := 3) rfl ?_); refine box_event ?hg (N := 3) ?hd (cs := #[.int .i64 a0_0, .int .u64 a0_1, .int .u64 a0_2, .int .i64 a0_3, .int .i64 a0_4, .int .i64 a0_5, .int .i64 a0_6, .int .i64 a0_7]) (t := 24) ?hr ?_; (case hd => rfl); (case hg => rfl); (case hr => first | (go_simp; done) | (go_simp; rfl)); intro gb273 hg w5 hbox hb; have n0_ := Aside0.mk (below_step (by repeat (first | (with_reducible first | exact HB.out | apply below_alloc | apply pw_below_drewN | apply below_drew1) | exact HB.out)) hb); have n1_ := Aside0.mk (hbox); have n2_ := Aside0.mk ((by rw [hg]; exact (below_size (by repeat (first | (with_reducible first | exact HB.out | apply below_alloc | apply pw_below_drewN | apply below_drew1) | exact HB.out))) : w.heap.size ≤ gb273)); have n3_ := Aside0.mk ((by rw [hg]; exact (below_size (by repeat (first | (with_reducible first | exact HB.out | apply below_alloc | apply pw_below_drewN | apply below_drew1) | exact HB.out))) : w.heap.size ≤ gb273)); clear HB; have HB := n0_; have BK273 := n1_; have GW273 := n2_; have GE273 := n3_; clear n0_ n1_ n2_ n3_; clear hb hbox hg))
 (try simp only [Act.put, List.setIfInBounds_toArray, List.set_cons_zero, List.set_cons_succ])
 go_cut [17] (fun v17 wc => ∃ (kq : Nat) (x17_3 : Bool), v17 = .bool x17_3 ∧ Aside0 (garrisonlaw15_CallOnly.j0 kq a1 a2 x17_3 a0_0 a0_1 a0_2 a0_3 a0_4 a0_5 a0_6 a0_7 = some r) ∧ Aside0 (kq ≤ k) ∧ Aside0 (wc.heap[gb273]? = some (.cells #[.int .i64 a0_0, .int .u64 a0_1, .int .u64 a0_2, .int .i64 a0_3, .int .i64 a0_4, .int .i64 a0_5, .int .i64 a0_6, .int .i64 a0_7] 24 (0, 0))) ∧ Aside0 (Below w.heap.size w wc))
 case first =>
  have H := HC4.out
  clear HC4
  replace H := Option.bind_eq_some_iff.mp H
  obtain ⟨t274, A60, H⟩ := H
  (try dsimp only at H)
  have A6 := Aside0.mk A60
  clear A60
  replace H := Option.bind_eq_some_iff.mp H
  obtain ⟨t275, A70, H⟩ := H
  (try dsimp only at H)
  have A7 := Aside0.mk A70
  clear A70
  by_cases c8 : t275 = 0
  ·rw [if_pos c8] at H
   have c8b0 : (t275 == 0) = true := beq_iff_eq.mpr c8
   have c8b1 : (t275 != 0) = false := bne_eq_false_iff_eq.mpr c8
   clear c8
   (first | rw [c8b0] | (simp only [i64_w, i32_w]; rw [c8b0]) | skip)
   have H' := Aside0.mk H
   clear H
   have hcz9_0 : w5.cell? ⟨gb273, 0, none⟩ = some (.int .i64 a0_0) := (blk_cell BK273.out 0).trans rfl
   have hcz9_1 : w5.cell? ⟨gb273, 1, none⟩ = some (.int .u64 a0_1) := (blk_cell BK273.out 1).trans rfl
   have hcz9_2 : w5.cell? ⟨gb273, 2, none⟩ = some (.int .u64 a0_2) := (blk_cell BK273.out 2).trans rfl
   have hcz9_3 : w5.cell? ⟨gb273, 3, none⟩ = some (.int .i64 a0_3) := (blk_cell BK273.out 3).trans rfl
   have hcz9_4 : w5.cell? ⟨gb273, 4, none⟩ = some (.int .i64 a0_4) := (blk_cell BK273.out 4).trans rfl
   have hcz9_5 : w5.cell? ⟨gb273, 5, none⟩ = some (.int .i64 a0_5) := (blk_cell BK273.out 5).trans rfl
   have hcz9_6 : w5.cell? ⟨gb273, 6, none⟩ = some (.int .i64 a0_6) := (blk_cell BK273.out 6).trans rfl
   have hcz9_7 : w5.cell? ⟨gb273, 7, none⟩ = some (.int .i64 a0_7) := (blk_cell BK273.out 7).trans rfl
   have hfz9_0 := blk_frozen BK273.out 0
   have hfz9_1 := blk_frozen BK273.out 1
   have hfz9_2 := blk_frozen BK273.out 2
   have hfz9_3 := blk_frozen BK273.out 3
   have hfz9_4 := blk_frozen BK273.out 4
   have hfz9_5 := blk_frozen BK273.out 5
   have hfz9_6 := blk_frozen BK273.out 6
   have hfz9_7 := blk_frozen BK273.out 7
   go_wp2_with (first | ((with_reducible refine gate_callee (f := 14) rfl ?_); refine goesL_ (some 11) rfl rfl Try.func14 (by kernel_rfl) rfl #[.agg #[.int .i64 a0_0, .int .u64 a0_1, .int .u64 a0_2, .int .i64 a0_3, .int .i64 a0_4, .int .i64 a0_5, .int .i64 a0_6, .int .i64 a0_7]] rfl (by (try simp only [List.map_toArray, List.map_cons, List.map_nil]); first | done | rfl | (simp only [List.length_drop, List.length_take]; rfl)) ?_; (with_reducible refine (call_Check.calls a0_0 a0_1 a0_2 a0_3 a0_4 a0_5 a0_6 a0_7 t274 _ A6.out).mono ?_); rintro e w10 ⟨rfl, hb⟩; refine ⟨_, rfl, ?_⟩; have n0_ := Aside0.mk (blk_below (g := gb273) (o := .cells #[.int .i64 a0_0, .int .u64 a0_1, .int .u64 a0_2, .int .i64 a0_3, .int .i64 a0_4, .int .i64 a0_5, .int .i64 a0_6, .int .i64 a0_7] 24 (0, 0)) (by (with_reducible repeat (first | refine blk_drewN ?_ _ | refine blk_drew ?_ | refine blk_alloc ?_ _)); exact BK273.out) hb); have n1_ := Aside0.mk (below_step (by repeat (first | (with_reducible first | exact HB.out | apply below_alloc | apply pw_below_drewN | apply below_drew1 | refine below_set ?_ GE273.out) | exact HB.out)) hb); clear BK273; clear HB; have BK273 := n0_; have HB := n1_; clear n0_ n1_; (try clear hb); (try clear hb2); (try clear hk); (try clear hi)) | ((with_reducible refine gate_callee (f := 13) rfl ?_); refine goesL_ (some 12) rfl rfl Try.func13 (by kernel_rfl) rfl #[.int .i64 t274] rfl (by (try simp only [List.map_toArray, List.map_cons, List.map_nil]); first | done | rfl | (simp only [List.length_drop, List.length_take]; rfl)) ?_; (with_reducible refine (garrisonlaw15_num.calls t274 t275 _ A7.out).mono ?_); rintro e w' ⟨rfl, ⟨nd, rfl⟩⟩; refine ⟨_, rfl, ?_⟩))
   go_meet
   case rel => exact ⟨_, ((a2 == 0)), (by first | rfl | (simp; done) | (simp [*]; done)), H', ⟨by first | omega | exact Nat.le_refl _⟩, ⟨by (with_reducible repeat (first | refine blk_drewN ?_ _ | refine blk_drew ?_ | refine blk_alloc ?_ _)); exact BK273.out⟩, ⟨by repeat (first | (with_reducible first | exact HB.out | apply below_alloc | apply pw_below_drewN | apply below_drew1 | refine below_set ?_ GE273.out) | exact HB.out)⟩⟩
  ·rw [if_neg c8] at H
   have c8b0 : (t275 == 0) = false := beq_eq_false_iff_ne.mpr c8
   have c8b1 : (t275 != 0) = true := bne_iff_ne.mpr c8
   (first | rw [c8b0] | (simp only [i64_w, i32_w]; rw [c8b0]) | skip)
   have H' := Aside0.mk H
   clear H
   have hcz11_0 : w5.cell? ⟨gb273, 0, none⟩ = some (.int .i64 a0_0) := (blk_cell BK273.out 0).trans rfl
   have hcz11_1 : w5.cell? ⟨gb273, 1, none⟩ = some (.int .u64 a0_1) := (blk_cell BK273.out 1).trans rfl
   have hcz11_2 : w5.cell? ⟨gb273, 2, none⟩ = some (.int .u64 a0_2) := (blk_cell BK273.out 2).trans rfl
   have hcz11_3 : w5.cell? ⟨gb273, 3, none⟩ = some (.int .i64 a0_3) := (blk_cell BK273.out 3).trans rfl
   have hcz11_4 : w5.cell? ⟨gb273, 4, none⟩ = some (.int .i64 a0_4) := (blk_cell BK273.out 4).trans rfl
   have hcz11_5 : w5.cell? ⟨gb273, 5, none⟩ = some (.int .i64 a0_5) := (blk_cell BK273.out 5).trans rfl
   have hcz11_6 : w5.cell? ⟨gb273, 6, none⟩ = some (.int .i64 a0_6) := (blk_cell BK273.out 6).trans rfl
   have hcz11_7 : w5.cell? ⟨gb273, 7, none⟩ = some (.int .i64 a0_7) := (blk_cell BK273.out 7).trans rfl
   have hfz11_0 := blk_frozen BK273.out 0
   have hfz11_1 := blk_frozen BK273.out 1
   have hfz11_2 := blk_frozen BK273.out 2
   have hfz11_3 := blk_frozen BK273.out 3
   have hfz11_4 := blk_frozen BK273.out 4
   have hfz11_5 := blk_frozen BK273.out 5
   have hfz11_6 := blk_frozen BK273.out 6
   have hfz11_7 := blk_frozen BK273.out 7
   go_wp2_with (first | ((with_reducible refine gate_callee (f := 14) rfl ?_); refine goesL_ (some 11) rfl rfl Try.func14 (by kernel_rfl) rfl #[.agg #[.int .i64 a0_0, .int .u64 a0_1, .int .u64 a0_2, .int .i64 a0_3, .int .i64 a0_4, .int .i64 a0_5, .int .i64 a0_6, .int .i64 a0_7]] rfl (by (try simp only [List.map_toArray, List.map_cons, List.map_nil]); first | done | rfl | (simp only [List.length_drop, List.length_take]; rfl)) ?_; (with_reducible refine (call_Check.calls a0_0 a0_1 a0_2 a0_3 a0_4 a0_5 a0_6 a0_7 t274 _ A6.out).mono ?_); rintro e w12 ⟨rfl, hb⟩; refine ⟨_, rfl, ?_⟩; have n0_ := Aside0.mk (blk_below (g := gb273) (o := .cells #[.int .i64 a0_0, .int .u64 a0_1, .int .u64 a0_2, .int .i64 a0_3, .int .i64 a0_4, .int .i64 a0_5, .int .i64 a0_6, .int .i64 a0_7] 24 (0, 0)) (by (with_reducible repeat (first | refine blk_drewN ?_ _ | refine blk_drew ?_ | refine blk_alloc ?_ _)); exact BK273.out) hb); have n1_ := Aside0.mk (below_step (by repeat (first | (with_reducible first | exact HB.out | apply below_alloc | apply pw_below_drewN | apply below_drew1 | refine below_set ?_ GE273.out) | exact HB.out)) hb); clear BK273; clear HB; have BK273 := n0_; have HB := n1_; clear n0_ n1_; (try clear hb); (try clear hb2); (try clear hk); (try clear hi)) | ((with_reducible refine gate_callee (f := 13) rfl ?_); refine goesL_ (some 12) rfl rfl Try.func13 (by kernel_rfl) rfl #[.int .i64 t274] rfl (by (try simp only [List.map_toArray, List.map_cons, List.map_nil]); first | done | rfl | (simp only [List.length_drop, List.length_take]; rfl)) ?_; (with_reducible refine (garrisonlaw15_num.calls t274 t275 _ A7.out).mono ?_); rintro e w' ⟨rfl, ⟨nd, rfl⟩⟩; refine ⟨_, rfl, ?_⟩))
   go_meet
   case rel => exact ⟨_, (true), (by first | rfl | (simp; done) | (simp [*]; done)), H', ⟨by first | omega | exact Nat.le_refl _⟩, ⟨by (with_reducible repeat (first | refine blk_drewN ?_ _ | refine blk_drew ?_ | refine blk_alloc ?_ _)); exact BK273.out⟩, ⟨by repeat (first | (with_reducible first | exact HB.out | apply below_alloc | apply pw_below_drewN | apply below_drew1 | refine below_set ?_ GE273.out) | exact HB.out)⟩⟩
 case rest =>
  clear HC4
  try clear c1
  try clear p2
  try clear c5
  try clear c8
  try clear c8b0
  try clear c8b1
  try clear hcz11_0
  try clear hcz11_1
  try clear hcz11_2
  try clear hcz11_3
  try clear hcz11_4
  try clear hcz11_5
  try clear hcz11_6
  try clear hcz11_7
  try clear hcz9_0
  try clear hcz9_1
  try clear hcz9_2
  try clear hcz9_3
  try clear hcz9_4
  try clear hcz9_5
  try clear hcz9_6
  try clear hcz9_7
  try clear hfz11_0
  try clear hfz11_1
  try clear hfz11_2
  try clear hfz11_3
  try clear hfz11_4
  try clear hfz11_5
  try clear hfz11_6
  try clear hfz11_7
  try clear hfz9_0
  try clear hfz9_1
  try clear hfz9_2
  try clear hfz9_3
  try clear hfz9_4
  try clear hfz9_5
  try clear hfz9_6
  try clear hfz9_7
  obtain ⟨kq, x17_3, rfl, HA, HJ3, BK273, HB⟩ := hcut
  cases kq with
  | zero => exact absurd HA.out (by simp [garrisonlaw15_CallOnly.j0])
  | succ kj3 =>
   have H := HA.out
   clear HA
   simp only [garrisonlaw15_CallOnly.j0] at H
   by_cases c13 : x17_3 = true
   ·subst c13
    have H1 : ((garrisonlaw15_live.f).bind fun t276 => (some t276)) = some r := by rw [if_pos rfl] at H; exact H
    clear H
    have H := H1
    clear H1
    replace H := Option.bind_eq_some_iff.mp H
    obtain ⟨t276, A140, H⟩ := H
    (try dsimp only at H)
    have A14 := Aside0.mk A140
    clear A140
    obtain rfl := Option.some.inj H
    go_wp2_with (first | ((with_reducible refine gate_callee (f := 8) rfl ?_); refine goesL_ (some 18) rfl rfl Try.func8 (by kernel_rfl) rfl #[] rfl (by (try simp only [List.map_toArray, List.map_cons, List.map_nil]); first | done | rfl | (simp only [List.length_drop, List.length_take]; rfl)) ?_; (with_reducible refine (garrisonlaw15_live.calls  t276 _ A14.out).mono ?_); rintro e w15 ⟨rfl, hb⟩; refine ⟨_, rfl, ?_⟩; have n0_ := Aside0.mk (blk_below (g := gb273) (o := .cells #[.int .i64 a0_0, .int .u64 a0_1, .int .u64 a0_2, .int .i64 a0_3, .int .i64 a0_4, .int .i64 a0_5, .int .i64 a0_6, .int .i64 a0_7] 24 (0, 0)) (by (with_reducible repeat (first | refine blk_drewN ?_ _ | refine blk_drew ?_ | refine blk_alloc ?_ _)); exact BK273.out) hb); have n1_ := Aside0.mk (below_step (by repeat (first | (with_reducible first | exact HB.out | apply below_alloc | apply pw_below_drewN | apply below_drew1 | refine below_set ?_ GE273.out) | exact HB.out)) hb); clear BK273; clear HB; have BK273 := n0_; have HB := n1_; clear n0_ n1_; (try clear hb); (try clear hb2); (try clear hk); (try clear hi)))
    go_ret
    exact ⟨by first | rfl | (simp [errW_none, errW_some] <;> rfl) | (simp [*, errW_none, errW_some] <;> rfl), by repeat (first | (with_reducible first | exact HB.out | apply below_alloc | apply pw_below_drewN | apply below_drew1 | refine below_set ?_ GE273.out) | exact HB.out)⟩
   ·replace c13 := Bool.eq_false_iff.mpr c13
    subst c13
    have H1 : (if a1 = 0 then ((call_Check.f a0_0 a0_1 a0_2 a2 a0_4 a0_5 a0_6 a0_7).bind fun t278 => ((garrisonlaw15_num.f t278).bind fun t279 => (if a0_0 = 1 then (if a1 < 4 then ((garrisonlaw15_live.f).bind fun t280 => (some t280)) else (if t279 = 0 then ((garrisonlaw15_live.f).bind fun t281 => (some t281)) else (some false))) else (if t279 = 0 then (some false) else (if a1 < 4 then ((garrisonlaw15_live.f).bind fun t282 => (some t282)) else ((garrisonlaw15_live.f).bind fun t283 => (some t283))))))) else (if a1 = 1 then ((call_Check.f a0_0 a0_1 a0_2 a0_3 a2 a0_5 a0_6 a0_7).bind fun t284 => ((garrisonlaw15_num.f t284).bind fun t285 => (if a0_0 = 1 then (if a1 < 4 then ((garrisonlaw15_live.f).bind fun t286 => (some t286)) else (if t285 = 0 then ((garrisonlaw15_live.f).bind fun t287 => (some t287)) else (some false))) else (if t285 = 0 then (some false) else (if a1 < 4 then ((garrisonlaw15_live.f).bind fun t288 => (some t288)) else ((garrisonlaw15_live.f).bind fun t289 => (some t289))))))) else (if a1 = 2 then ((call_Check.f a0_0 a0_1 a0_2 a0_3 a0_4 a2 a0_6 a0_7).bind fun t290 => ((garrisonlaw15_num.f t290).bind fun t291 => (if a0_0 = 5 then (if a1 < 4 then ((garrisonlaw15_live.f).bind fun t292 => (some t292)) else (if t291 = 0 then ((garrisonlaw15_live.f).bind fun t293 => (some t293)) else (some false))) else (if t291 = 0 then (some false) else (if a1 < 4 then ((garrisonlaw15_live.f).bind fun t294 => (some t294)) else ((garrisonlaw15_live.f).bind fun t295 => (some t295))))))) else (if a1 = 3 then ((call_Check.f a0_0 a0_1 a0_2 a0_3 a0_4 a0_5 a2 a0_7).bind fun t296 => ((garrisonlaw15_num.f t296).bind fun t297 => (if a0_0 = 5 then (if a1 < 4 then ((garrisonlaw15_live.f).bind fun t298 => (some t298)) else (if t297 = 0 then ((garrisonlaw15_live.f).bind fun t299 => (some t299)) else (some false))) else (if t297 = 0 then (some false) else (if a1 < 4 then ((garrisonlaw15_live.f).bind fun t300 => (some t300)) else ((garrisonlaw15_live.f).bind fun t301 => (some t301))))))) else (if a1 = 4 then (if a0_0 = 7 then ((call_Check.f a0_0 a0_1 a0_2 a0_3 a0_4 a0_5 a0_6 a2).bind fun t302 => ((garrisonlaw15_num.f t302).bind fun t303 => (if a1 < 4 then ((garrisonlaw15_live.f).bind fun t304 => (some t304)) else (if t303 = 0 then ((garrisonlaw15_live.f).bind fun t305 => (some t305)) else (some false))))) else ((call_Check.f a0_0 a0_1 a0_2 a0_3 a0_4 a0_5 a0_6 a2).bind fun t306 => ((garrisonlaw15_num.f t306).bind fun t307 => (if a0_0 = 8 then (if a1 < 4 then ((garrisonlaw15_live.f).bind fun t308 => (some t308)) else (if t307 = 0 then ((garrisonlaw15_live.f).bind fun t309 => (some t309)) else (some false))) else (if t307 = 0 then (some false) else (if a1 < 4 then ((garrisonlaw15_live.f).bind fun t310 => (some t310)) else ((garrisonlaw15_live.f).bind fun t311 => (some t311)))))))) else (if a0_0 = 1 then ((call_Check.f a0_0 a0_1 a0_1 a0_3 a0_4 a0_5 a0_6 a0_7).bind fun t312 => ((garrisonlaw15_num.f t312).bind fun t313 => (if a1 < 4 then ((garrisonlaw15_live.f).bind fun t314 => (some t314)) else (if t313 = 0 then ((garrisonlaw15_live.f).bind fun t315 => (some t315)) else (some false))))) else (if a0_0 = 2 then ((call_Check.f a0_0 a0_1 a0_1 a0_3 a0_4 a0_5 a0_6 a0_7).bind fun t316 => ((garrisonlaw15_num.f t316).bind fun t317 => (if a1 < 4 then ((garrisonlaw15_live.f).bind fun t318 => (some t318)) else (if t317 = 0 then ((garrisonlaw15_live.f).bind fun t319 => (some t319)) else (some false))))) else (if a0_0 = 5 then ((call_Check.f a0_0 a0_1 a0_1 a0_3 a0_4 a0_5 a0_6 a0_7).bind fun t320 => ((garrisonlaw15_num.f t320).bind fun t321 => (if a1 < 4 then ((garrisonlaw15_live.f).bind fun t322 => (some t322)) else (if t321 = 0 then ((garrisonlaw15_live.f).bind fun t323 => (some t323)) else (some false))))) else (if a0_0 = 8 then ((call_Check.f a0_0 a0_1 a0_1 a0_3 a0_4 a0_5 a0_6 a0_7).bind fun t324 => ((garrisonlaw15_num.f t324).bind fun t325 => (if a1 < 4 then ((garrisonlaw15_live.f).bind fun t326 => (some t326)) else (if t325 = 0 then ((garrisonlaw15_live.f).bind fun t327 => (some t327)) else (some false))))) else ((call_Check.f a0_0 a0_1 a0_1 a0_3 a0_4 a0_5 a0_6 a0_7).bind fun t328 => ((garrisonlaw15_num.f t328).bind fun t329 => (if a0_0 = 9 then (if a1 < 4 then ((garrisonlaw15_live.f).bind fun t330 => (some t330)) else (if t329 = 0 then ((garrisonlaw15_live.f).bind fun t331 => (some t331)) else (some false))) else (if t329 = 0 then (some false) else (if a1 < 4 then ((garrisonlaw15_live.f).bind fun t332 => (some t332)) else ((garrisonlaw15_live.f).bind fun t333 => (some t333)))))))))))))))) = some r := by rw [if_neg (show ¬ (false = true) by decide)] at H; exact H
    clear H
    have H := H1
    clear H1
    have hcz22_0 : wc.cell? ⟨gb273, 0, none⟩ = some (.int .i64 a0_0) := (blk_cell BK273.out 0).trans rfl
    have hcz22_1 : wc.cell? ⟨gb273, 1, none⟩ = some (.int .u64 a0_1) := (blk_cell BK273.out 1).trans rfl
    have hcz22_2 : wc.cell? ⟨gb273, 2, none⟩ = some (.int .u64 a0_2) := (blk_cell BK273.out 2).trans rfl
    have hcz22_3 : wc.cell? ⟨gb273, 3, none⟩ = some (.int .i64 a0_3) := (blk_cell BK273.out 3).trans rfl
    have hcz22_4 : wc.cell? ⟨gb273, 4, none⟩ = some (.int .i64 a0_4) := (blk_cell BK273.out 4).trans rfl
    have hcz22_5 : wc.cell? ⟨gb273, 5, none⟩ = some (.int .i64 a0_5) := (blk_cell BK273.out 5).trans rfl
    have hcz22_6 : wc.cell? ⟨gb273, 6, none⟩ = some (.int .i64 a0_6) := (blk_cell BK273.out 6).trans rfl
    have hcz22_7 : wc.cell? ⟨gb273, 7, none⟩ = some (.int .i64 a0_7) := (blk_cell BK273.out 7).trans rfl
    have hfz22_0 := blk_frozen BK273.out 0
    have hfz22_1 := blk_frozen BK273.out 1
    have hfz22_2 := blk_frozen BK273.out 2
    have hfz22_3 := blk_frozen BK273.out 3
    have hfz22_4 := blk_frozen BK273.out 4
    have hfz22_5 := blk_frozen BK273.out 5
    have hfz22_6 := blk_frozen BK273.out 6
    have hfz22_7 := blk_frozen BK273.out 7
    have hlcz22_0 : ∀ o : Go.Obj, (wc.alloc o).cell? ⟨gb273, 0, none⟩ = some (.int .i64 a0_0) := fun o => (blk_cell (blk_alloc BK273.out o) 0).trans rfl
    have hlcz22_1 : ∀ o : Go.Obj, (wc.alloc o).cell? ⟨gb273, 1, none⟩ = some (.int .u64 a0_1) := fun o => (blk_cell (blk_alloc BK273.out o) 1).trans rfl
    have hlcz22_2 : ∀ o : Go.Obj, (wc.alloc o).cell? ⟨gb273, 2, none⟩ = some (.int .u64 a0_2) := fun o => (blk_cell (blk_alloc BK273.out o) 2).trans rfl
    have hlcz22_3 : ∀ o : Go.Obj, (wc.alloc o).cell? ⟨gb273, 3, none⟩ = some (.int .i64 a0_3) := fun o => (blk_cell (blk_alloc BK273.out o) 3).trans rfl
    have hlcz22_4 : ∀ o : Go.Obj, (wc.alloc o).cell? ⟨gb273, 4, none⟩ = some (.int .i64 a0_4) := fun o => (blk_cell (blk_alloc BK273.out o) 4).trans rfl
    have hlcz22_5 : ∀ o : Go.Obj, (wc.alloc o).cell? ⟨gb273, 5, none⟩ = some (.int .i64 a0_5) := fun o => (blk_cell (blk_alloc BK273.out o) 5).trans rfl
    have hlcz22_6 : ∀ o : Go.Obj, (wc.alloc o).cell? ⟨gb273, 6, none⟩ = some (.int .i64 a0_6) := fun o => (blk_cell (blk_alloc BK273.out o) 6).trans rfl
    have hlcz22_7 : ∀ o : Go.Obj, (wc.alloc o).cell? ⟨gb273, 7, none⟩ = some (.int .i64 a0_7) := fun o => (blk_cell (blk_alloc BK273.out o) 7).trans rfl
    have hltb_ := blk_lt BK273.out
    have hneb_ := Nat.ne_of_lt hltb_
    have hneb2_ := Nat.ne_of_gt hltb_
    by_cases c16 : a1 = 0
    ·rw [if_pos c16] at H
     have c16b0 : (a1 == 0) = true := beq_iff_eq.mpr c16
     have c16b1 : (a1 != 0) = false := bne_eq_false_iff_eq.mpr c16
     clear c16
     replace H := Option.bind_eq_some_iff.mp H
     obtain ⟨t278, A170, H⟩ := H
     (try dsimp only at H)
     have A17 := Aside0.mk A170
     clear A170
     replace H := Option.bind_eq_some_iff.mp H
     obtain ⟨t279, A180, H⟩ := H
     (try dsimp only at H)
     have A18 := Aside0.mk A180
     clear A180
     by_cases c19 : a0_0 = 1
     ·rw [if_pos c19] at H
      have c19b0 : (a0_0 == 1) = true := beq_iff_eq.mpr c19
      have c19b1 : (a0_0 != 1) = false := bne_eq_false_iff_eq.mpr c19
      clear c19
      by_cases c20 : a1 < 4
      ·rw [if_pos c20] at H
       have c20b0 : decide (a1 < 4) = true := decide_eq_true c20
       clear c20
       replace H := Option.bind_eq_some_iff.mp H
       obtain ⟨t280, A210, H⟩ := H
       (try dsimp only at H)
       have A21 := Aside0.mk A210
       clear A210
       obtain rfl := Option.some.inj H
       go_wp2_with (first | ((with_reducible refine gate_callee (f := 14) rfl ?_); refine goesL_ (some 88) rfl rfl Try.func14 (by kernel_rfl) rfl #[.agg #[.int .i64 a0_0, .int .u64 a0_1, .int .u64 a0_2, .int .i64 a2, .int .i64 a0_4, .int .i64 a0_5, .int .i64 a0_6, .int .i64 a0_7]] rfl (by (try simp only [List.map_toArray, List.map_cons, List.map_nil]); first | done | rfl | (simp only [List.length_drop, List.length_take]; rfl)) ?_; (with_reducible refine (call_Check.calls a0_0 a0_1 a0_2 a2 a0_4 a0_5 a0_6 a0_7 t278 _ A17.out).mono ?_); rintro e w27 ⟨rfl, hb⟩; refine ⟨_, rfl, ?_⟩; have n2_ := Aside0.mk (below_step (by repeat (first | (with_reducible first | exact HB.out | apply below_alloc | apply pw_below_drewN | apply below_drew1 | refine below_set ?_ GE273.out | refine below_set ?_ GE277.out) | exact HB.out)) hb); clear HB; have HB := n2_; clear n2_; (try clear hb)) | ((with_reducible refine gate_callee (f := 13) rfl ?_); refine goesL_ (some 89) rfl rfl Try.func13 (by kernel_rfl) rfl #[.int .i64 t278] rfl (by (try simp only [List.map_toArray, List.map_cons, List.map_nil]); first | done | rfl | (simp only [List.length_drop, List.length_take]; rfl)) ?_; (with_reducible refine (garrisonlaw15_num.calls t278 t279 _ A18.out).mono ?_); rintro e w' ⟨rfl, ⟨nd, rfl⟩⟩; refine ⟨_, rfl, ?_⟩) | (go_at_call 8; (with_reducible refine (garrisonlaw15_live.calls  t280 _ A21.out).mono ?_); rintro e w28 ⟨rfl, hb⟩; have n2_ := Aside0.mk (below_step (by repeat (first | (with_reducible first | exact HB.out | apply below_alloc | apply pw_below_drewN | apply below_drew1 | refine below_set ?_ GE273.out | refine below_set ?_ GE277.out) | exact HB.out)) hb); clear HB; have HB := n2_; clear n2_; (try clear hb)))
       go_ret
       exact ⟨by first | rfl | (simp [errW_none, errW_some] <;> rfl) | (simp [*, errW_none, errW_some] <;> rfl), by repeat (first | (with_reducible first | exact HB.out | apply below_alloc | apply pw_below_drewN | apply below_drew1 | refine below_set ?_ GE273.out | refine below_set ?_ GE277.out) | exact HB.out)⟩
      ·rw [if_neg c20] at H
       have c20b0 : decide (a1 < 4) = false := decide_eq_false c20
       clear c20
       by_cases c29 : t279 = 0
       ·rw [if_pos c29] at H
        have c29b0 : (t279 == 0) = true := beq_iff_eq.mpr c29
        have c29b1 : (t279 != 0) = false := bne_eq_false_iff_eq.mpr c29
        clear c29
        replace H := Option.bind_eq_some_iff.mp H
        obtain ⟨t281, A300, H⟩ := H
        (try dsimp only at H)
        have A30 := Aside0.mk A300
        clear A300
        obtain rfl := Option.some.inj H
        go_wp2_with (first | ((with_reducible refine gate_callee (f := 14) rfl ?_); refine goesL_ (some 88) rfl rfl Try.func14 (by kernel_rfl) rfl #[.agg #[.int .i64 a0_0, .int .u64 a0_1, .int .u64 a0_2, .int .i64 a2, .int .i64 a0_4, .int .i64 a0_5, .int .i64 a0_6, .int .i64 a0_7]] rfl (by (try simp only [List.map_toArray, List.map_cons, List.map_nil]); first | done | rfl | (simp only [List.length_drop, List.length_take]; rfl)) ?_; (with_reducible refine (call_Check.calls a0_0 a0_1 a0_2 a2 a0_4 a0_5 a0_6 a0_7 t278 _ A17.out).mono ?_); rintro e w36 ⟨rfl, hb⟩; refine ⟨_, rfl, ?_⟩; have n2_ := Aside0.mk (below_step (by repeat (first | (with_reducible first | exact HB.out | apply below_alloc | apply pw_below_drewN | apply below_drew1 | refine below_set ?_ GE273.out | refine below_set ?_ GE277.out) | exact HB.out)) hb); clear HB; have HB := n2_; clear n2_; (try clear hb)) | ((with_reducible refine gate_callee (f := 13) rfl ?_); refine goesL_ (some 89) rfl rfl Try.func13 (by kernel_rfl) rfl #[.int .i64 t278] rfl (by (try simp only [List.map_toArray, List.map_cons, List.map_nil]); first | done | rfl | (simp only [List.length_drop, List.length_take]; rfl)) ?_; (with_reducible refine (garrisonlaw15_num.calls t278 t279 _ A18.out).mono ?_); rintro e w' ⟨rfl, ⟨nd, rfl⟩⟩; refine ⟨_, rfl, ?_⟩) | (go_at_call 8; (with_reducible refine (garrisonlaw15_live.calls  t281 _ A30.out).mono ?_); rintro e w37 ⟨rfl, hb⟩; have n2_ := Aside0.mk (below_step (by repeat (first | (with_reducible first | exact HB.out | apply below_alloc | apply pw_below_drewN | apply below_drew1 | refine below_set ?_ GE273.out | refine below_set ?_ GE277.out) | exact HB.out)) hb); clear HB; have HB := n2_; clear n2_; (try clear hb)))
        go_ret
        exact ⟨by first | rfl | (simp [errW_none, errW_some] <;> rfl) | (simp [*, errW_none, errW_some] <;> rfl), by repeat (first | (with_reducible first | exact HB.out | apply below_alloc | apply pw_below_drewN | apply below_drew1 | refine below_set ?_ GE273.out | refine below_set ?_ GE277.out) | exact HB.out)⟩
       ·rw [if_neg c29] at H
        have c29b0 : (t279 == 0) = false := beq_eq_false_iff_ne.mpr c29
        have c29b1 : (t279 != 0) = true := bne_iff_ne.mpr c29
        exact absurd ((Option.some.inj H).trans hr_.out) (by decide)
     ·rw [if_neg c19] at H
      have c19b0 : (a0_0 == 1) = false := beq_eq_false_iff_ne.mpr c19
      have c19b1 : (a0_0 != 1) = true := bne_iff_ne.mpr c19
      by_cases c38 : t279 = 0
      ·rw [if_pos c38] at H
       have c38b0 : (t279 == 0) = true := beq_iff_eq.mpr c38
       have c38b1 : (t279 != 0) = false := bne_eq_false_iff_eq.mpr c38
       clear c38
       exact absurd ((Option.some.inj H).trans hr_.out) (by decide)
      ·rw [if_neg c38] at H
       have c38b0 : (t279 == 0) = false := beq_eq_false_iff_ne.mpr c38
       have c38b1 : (t279 != 0) = true := bne_iff_ne.mpr c38
       by_cases c39 : a1 < 4
       ·rw [if_pos c39] at H
        have c39b0 : decide (a1 < 4) = true := decide_eq_true c39
        clear c39
        replace H := Option.bind_eq_some_iff.mp H
        obtain ⟨t282, A400, H⟩ := H
        (try dsimp only at H)
        have A40 := Aside0.mk A400
        clear A400
        obtain rfl := Option.some.inj H
        go_wp2_with (first | ((with_reducible refine gate_callee (f := 14) rfl ?_); refine goesL_ (some 88) rfl rfl Try.func14 (by kernel_rfl) rfl #[.agg #[.int .i64 a0_0, .int .u64 a0_1, .int .u64 a0_2, .int .i64 a2, .int .i64 a0_4, .int .i64 a0_5, .int .i64 a0_6, .int .i64 a0_7]] rfl (by (try simp only [List.map_toArray, List.map_cons, List.map_nil]); first | done | rfl | (simp only [List.length_drop, List.length_take]; rfl)) ?_; (with_reducible refine (call_Check.calls a0_0 a0_1 a0_2 a2 a0_4 a0_5 a0_6 a0_7 t278 _ A17.out).mono ?_); rintro e w46 ⟨rfl, hb⟩; refine ⟨_, rfl, ?_⟩; have n2_ := Aside0.mk (below_step (by repeat (first | (with_reducible first | exact HB.out | apply below_alloc | apply pw_below_drewN | apply below_drew1 | refine below_set ?_ GE273.out | refine below_set ?_ GE277.out) | exact HB.out)) hb); clear HB; have HB := n2_; clear n2_; (try clear hb)) | ((with_reducible refine gate_callee (f := 13) rfl ?_); refine goesL_ (some 89) rfl rfl Try.func13 (by kernel_rfl) rfl #[.int .i64 t278] rfl (by (try simp only [List.map_toArray, List.map_cons, List.map_nil]); first | done | rfl | (simp only [List.length_drop, List.length_take]; rfl)) ?_; (with_reducible refine (garrisonlaw15_num.calls t278 t279 _ A18.out).mono ?_); rintro e w' ⟨rfl, ⟨nd, rfl⟩⟩; refine ⟨_, rfl, ?_⟩) | (go_at_call 8; (with_reducible refine (garrisonlaw15_live.calls  t282 _ A40.out).mono ?_); rintro e w47 ⟨rfl, hb⟩; have n2_ := Aside0.mk (below_step (by repeat (first | (with_reducible first | exact HB.out | apply below_alloc | apply pw_below_drewN | apply below_drew1 | refine below_set ?_ GE273.out | refine below_set ?_ GE277.out) | exact HB.out)) hb); clear HB; have HB := n2_; clear n2_; (try clear hb)))
        go_ret
        exact ⟨by first | rfl | (simp [errW_none, errW_some] <;> rfl) | (simp [*, errW_none, errW_some] <;> rfl), by repeat (first | (with_reducible first | exact HB.out | apply below_alloc | apply pw_below_drewN | apply below_drew1 | refine below_set ?_ GE273.out | refine below_set ?_ GE277.out) | exact HB.out)⟩
       ·rw [if_neg c39] at H
        have c39b0 : decide (a1 < 4) = false := decide_eq_false c39
        clear c39
        replace H := Option.bind_eq_some_iff.mp H
        obtain ⟨t283, A480, H⟩ := H
        (try dsimp only at H)
        have A48 := Aside0.mk A480
        clear A480
        obtain rfl := Option.some.inj H
        go_wp2_with (first | ((with_reducible refine gate_callee (f := 14) rfl ?_); refine goesL_ (some 88) rfl rfl Try.func14 (by kernel_rfl) rfl #[.agg #[.int .i64 a0_0, .int .u64 a0_1, .int .u64 a0_2, .int .i64 a2, .int .i64 a0_4, .int .i64 a0_5, .int .i64 a0_6, .int .i64 a0_7]] rfl (by (try simp only [List.map_toArray, List.map_cons, List.map_nil]); first | done | rfl | (simp only [List.length_drop, List.length_take]; rfl)) ?_; (with_reducible refine (call_Check.calls a0_0 a0_1 a0_2 a2 a0_4 a0_5 a0_6 a0_7 t278 _ A17.out).mono ?_); rintro e w54 ⟨rfl, hb⟩; refine ⟨_, rfl, ?_⟩; have n2_ := Aside0.mk (below_step (by repeat (first | (with_reducible first | exact HB.out | apply below_alloc | apply pw_below_drewN | apply below_drew1 | refine below_set ?_ GE273.out | refine below_set ?_ GE277.out) | exact HB.out)) hb); clear HB; have HB := n2_; clear n2_; (try clear hb)) | ((with_reducible refine gate_callee (f := 13) rfl ?_); refine goesL_ (some 89) rfl rfl Try.func13 (by kernel_rfl) rfl #[.int .i64 t278] rfl (by (try simp only [List.map_toArray, List.map_cons, List.map_nil]); first | done | rfl | (simp only [List.length_drop, List.length_take]; rfl)) ?_; (with_reducible refine (garrisonlaw15_num.calls t278 t279 _ A18.out).mono ?_); rintro e w' ⟨rfl, ⟨nd, rfl⟩⟩; refine ⟨_, rfl, ?_⟩) | (go_at_call 8; (with_reducible refine (garrisonlaw15_live.calls  t283 _ A48.out).mono ?_); rintro e w55 ⟨rfl, hb⟩; have n2_ := Aside0.mk (below_step (by repeat (first | (with_reducible first | exact HB.out | apply below_alloc | apply pw_below_drewN | apply below_drew1 | refine below_set ?_ GE273.out | refine below_set ?_ GE277.out) | exact HB.out)) hb); clear HB; have HB := n2_; clear n2_; (try clear hb)))
        go_ret
        exact ⟨by first | rfl | (simp [errW_none, errW_some] <;> rfl) | (simp [*, errW_none, errW_some] <;> rfl), by repeat (first | (with_reducible first | exact HB.out | apply below_alloc | apply pw_below_drewN | apply below_drew1 | refine below_set ?_ GE273.out | refine below_set ?_ GE277.out) | exact HB.out)⟩
    ·rw [if_neg c16] at H
     have c16b0 : (a1 == 0) = false := beq_eq_false_iff_ne.mpr c16
     have c16b1 : (a1 != 0) = true := bne_iff_ne.mpr c16
     by_cases c56 : a1 = 1
     ·rw [if_pos c56] at H
      have c56b0 : (a1 == 1) = true := beq_iff_eq.mpr c56
      have c56b1 : (a1 != 1) = false := bne_eq_false_iff_eq.mpr c56
      clear c56
      replace H := Option.bind_eq_some_iff.mp H
      obtain ⟨t284, A570, H⟩ := H
      (try dsimp only at H)
      have A57 := Aside0.mk A570
      clear A570
      replace H := Option.bind_eq_some_iff.mp H
      obtain ⟨t285, A580, H⟩ := H
      (try dsimp only at H)
      have A58 := Aside0.mk A580
      clear A580
      by_cases c59 : a0_0 = 1
      ·rw [if_pos c59] at H
       have c59b0 : (a0_0 == 1) = true := beq_iff_eq.mpr c59
       have c59b1 : (a0_0 != 1) = false := bne_eq_false_iff_eq.mpr c59
       clear c59
       by_cases c60 : a1 < 4
       ·rw [if_pos c60] at H
        have c60b0 : decide (a1 < 4) = true := decide_eq_true c60
        clear c60
        replace H := Option.bind_eq_some_iff.mp H
        obtain ⟨t286, A610, H⟩ := H
        (try dsimp only at H)
        have A61 := Aside0.mk A610
        clear A610
        obtain rfl := Option.some.inj H
        go_wp2_with (first | ((with_reducible refine gate_callee (f := 14) rfl ?_); refine goesL_ (some 88) rfl rfl Try.func14 (by kernel_rfl) rfl #[.agg #[.int .i64 a0_0, .int .u64 a0_1, .int .u64 a0_2, .int .i64 a0_3, .int .i64 a2, .int .i64 a0_5, .int .i64 a0_6, .int .i64 a0_7]] rfl (by (try simp only [List.map_toArray, List.map_cons, List.map_nil]); first | done | rfl | (simp only [List.length_drop, List.length_take]; rfl)) ?_; (with_reducible refine (call_Check.calls a0_0 a0_1 a0_2 a0_3 a2 a0_5 a0_6 a0_7 t284 _ A57.out).mono ?_); rintro e w67 ⟨rfl, hb⟩; refine ⟨_, rfl, ?_⟩; have n2_ := Aside0.mk (below_step (by repeat (first | (with_reducible first | exact HB.out | apply below_alloc | apply pw_below_drewN | apply below_drew1 | refine below_set ?_ GE273.out | refine below_set ?_ GE277.out) | exact HB.out)) hb); clear HB; have HB := n2_; clear n2_; (try clear hb)) | ((with_reducible refine gate_callee (f := 13) rfl ?_); refine goesL_ (some 89) rfl rfl Try.func13 (by kernel_rfl) rfl #[.int .i64 t284] rfl (by (try simp only [List.map_toArray, List.map_cons, List.map_nil]); first | done | rfl | (simp only [List.length_drop, List.length_take]; rfl)) ?_; (with_reducible refine (garrisonlaw15_num.calls t284 t285 _ A58.out).mono ?_); rintro e w' ⟨rfl, ⟨nd, rfl⟩⟩; refine ⟨_, rfl, ?_⟩) | (go_at_call 8; (with_reducible refine (garrisonlaw15_live.calls  t286 _ A61.out).mono ?_); rintro e w68 ⟨rfl, hb⟩; have n2_ := Aside0.mk (below_step (by repeat (first | (with_reducible first | exact HB.out | apply below_alloc | apply pw_below_drewN | apply below_drew1 | refine below_set ?_ GE273.out | refine below_set ?_ GE277.out) | exact HB.out)) hb); clear HB; have HB := n2_; clear n2_; (try clear hb)))
        go_ret
        exact ⟨by first | rfl | (simp [errW_none, errW_some] <;> rfl) | (simp [*, errW_none, errW_some] <;> rfl), by repeat (first | (with_reducible first | exact HB.out | apply below_alloc | apply pw_below_drewN | apply below_drew1 | refine below_set ?_ GE273.out | refine below_set ?_ GE277.out) | exact HB.out)⟩
       ·rw [if_neg c60] at H
        have c60b0 : decide (a1 < 4) = false := decide_eq_false c60
        clear c60
        by_cases c69 : t285 = 0
        ·rw [if_pos c69] at H
         have c69b0 : (t285 == 0) = true := beq_iff_eq.mpr c69
         have c69b1 : (t285 != 0) = false := bne_eq_false_iff_eq.mpr c69
         clear c69
         replace H := Option.bind_eq_some_iff.mp H
         obtain ⟨t287, A700, H⟩ := H
         (try dsimp only at H)
         have A70 := Aside0.mk A700
         clear A700
         obtain rfl := Option.some.inj H
         go_wp2_with (first | ((with_reducible refine gate_callee (f := 14) rfl ?_); refine goesL_ (some 88) rfl rfl Try.func14 (by kernel_rfl) rfl #[.agg #[.int .i64 a0_0, .int .u64 a0_1, .int .u64 a0_2, .int .i64 a0_3, .int .i64 a2, .int .i64 a0_5, .int .i64 a0_6, .int .i64 a0_7]] rfl (by (try simp only [List.map_toArray, List.map_cons, List.map_nil]); first | done | rfl | (simp only [List.length_drop, List.length_take]; rfl)) ?_; (with_reducible refine (call_Check.calls a0_0 a0_1 a0_2 a0_3 a2 a0_5 a0_6 a0_7 t284 _ A57.out).mono ?_); rintro e w76 ⟨rfl, hb⟩; refine ⟨_, rfl, ?_⟩; have n2_ := Aside0.mk (below_step (by repeat (first | (with_reducible first | exact HB.out | apply below_alloc | apply pw_below_drewN | apply below_drew1 | refine below_set ?_ GE273.out | refine below_set ?_ GE277.out) | exact HB.out)) hb); clear HB; have HB := n2_; clear n2_; (try clear hb)) | ((with_reducible refine gate_callee (f := 13) rfl ?_); refine goesL_ (some 89) rfl rfl Try.func13 (by kernel_rfl) rfl #[.int .i64 t284] rfl (by (try simp only [List.map_toArray, List.map_cons, List.map_nil]); first | done | rfl | (simp only [List.length_drop, List.length_take]; rfl)) ?_; (with_reducible refine (garrisonlaw15_num.calls t284 t285 _ A58.out).mono ?_); rintro e w' ⟨rfl, ⟨nd, rfl⟩⟩; refine ⟨_, rfl, ?_⟩) | (go_at_call 8; (with_reducible refine (garrisonlaw15_live.calls  t287 _ A70.out).mono ?_); rintro e w77 ⟨rfl, hb⟩; have n2_ := Aside0.mk (below_step (by repeat (first | (with_reducible first | exact HB.out | apply below_alloc | apply pw_below_drewN | apply below_drew1 | refine below_set ?_ GE273.out | refine below_set ?_ GE277.out) | exact HB.out)) hb); clear HB; have HB := n2_; clear n2_; (try clear hb)))
         go_ret
         exact ⟨by first | rfl | (simp [errW_none, errW_some] <;> rfl) | (simp [*, errW_none, errW_some] <;> rfl), by repeat (first | (with_reducible first | exact HB.out | apply below_alloc | apply pw_below_drewN | apply below_drew1 | refine below_set ?_ GE273.out | refine below_set ?_ GE277.out) | exact HB.out)⟩
        ·rw [if_neg c69] at H
         have c69b0 : (t285 == 0) = false := beq_eq_false_iff_ne.mpr c69
         have c69b1 : (t285 != 0) = true := bne_iff_ne.mpr c69
         exact absurd ((Option.some.inj H).trans hr_.out) (by decide)
      ·rw [if_neg c59] at H
       have c59b0 : (a0_0 == 1) = false := beq_eq_false_iff_ne.mpr c59
       have c59b1 : (a0_0 != 1) = true := bne_iff_ne.mpr c59
       by_cases c78 : t285 = 0
       ·rw [if_pos c78] at H
        have c78b0 : (t285 == 0) = true := beq_iff_eq.mpr c78
        have c78b1 : (t285 != 0) = false := bne_eq_false_iff_eq.mpr c78
        clear c78
        exact absurd ((Option.some.inj H).trans hr_.out) (by decide)
       ·rw [if_neg c78] at H
        have c78b0 : (t285 == 0) = false := beq_eq_false_iff_ne.mpr c78
        have c78b1 : (t285 != 0) = true := bne_iff_ne.mpr c78
        by_cases c79 : a1 < 4
        ·rw [if_pos c79] at H
         have c79b0 : decide (a1 < 4) = true := decide_eq_true c79
         clear c79
         replace H := Option.bind_eq_some_iff.mp H
         obtain ⟨t288, A800, H⟩ := H
         (try dsimp only at H)
         have A80 := Aside0.mk A800
         clear A800
         obtain rfl := Option.some.inj H
         go_wp2_with (first | ((with_reducible refine gate_callee (f := 14) rfl ?_); refine goesL_ (some 88) rfl rfl Try.func14 (by kernel_rfl) rfl #[.agg #[.int .i64 a0_0, .int .u64 a0_1, .int .u64 a0_2, .int .i64 a0_3, .int .i64 a2, .int .i64 a0_5, .int .i64 a0_6, .int .i64 a0_7]] rfl (by (try simp only [List.map_toArray, List.map_cons, List.map_nil]); first | done | rfl | (simp only [List.length_drop, List.length_take]; rfl)) ?_; (with_reducible refine (call_Check.calls a0_0 a0_1 a0_2 a0_3 a2 a0_5 a0_6 a0_7 t284 _ A57.out).mono ?_); rintro e w86 ⟨rfl, hb⟩; refine ⟨_, rfl, ?_⟩; have n2_ := Aside0.mk (below_step (by repeat (first | (with_reducible first | exact HB.out | apply below_alloc | apply pw_below_drewN | apply below_drew1 | refine below_set ?_ GE273.out | refine below_set ?_ GE277.out) | exact HB.out)) hb); clear HB; have HB := n2_; clear n2_; (try clear hb)) | ((with_reducible refine gate_callee (f := 13) rfl ?_); refine goesL_ (some 89) rfl rfl Try.func13 (by kernel_rfl) rfl #[.int .i64 t284] rfl (by (try simp only [List.map_toArray, List.map_cons, List.map_nil]); first | done | rfl | (simp only [List.length_drop, List.length_take]; rfl)) ?_; (with_reducible refine (garrisonlaw15_num.calls t284 t285 _ A58.out).mono ?_); rintro e w' ⟨rfl, ⟨nd, rfl⟩⟩; refine ⟨_, rfl, ?_⟩) | (go_at_call 8; (with_reducible refine (garrisonlaw15_live.calls  t288 _ A80.out).mono ?_); rintro e w87 ⟨rfl, hb⟩; have n2_ := Aside0.mk (below_step (by repeat (first | (with_reducible first | exact HB.out | apply below_alloc | apply pw_below_drewN | apply below_drew1 | refine below_set ?_ GE273.out | refine below_set ?_ GE277.out) | exact HB.out)) hb); clear HB; have HB := n2_; clear n2_; (try clear hb)))
         go_ret
         exact ⟨by first | rfl | (simp [errW_none, errW_some] <;> rfl) | (simp [*, errW_none, errW_some] <;> rfl), by repeat (first | (with_reducible first | exact HB.out | apply below_alloc | apply pw_below_drewN | apply below_drew1 | refine below_set ?_ GE273.out | refine below_set ?_ GE277.out) | exact HB.out)⟩
        ·rw [if_neg c79] at H
         have c79b0 : decide (a1 < 4) = false := decide_eq_false c79
         clear c79
         replace H := Option.bind_eq_some_iff.mp H
         obtain ⟨t289, A880, H⟩ := H
         (try dsimp only at H)
         have A88 := Aside0.mk A880
         clear A880
         obtain rfl := Option.some.inj H
         go_wp2_with (first | ((with_reducible refine gate_callee (f := 14) rfl ?_); refine goesL_ (some 88) rfl rfl Try.func14 (by kernel_rfl) rfl #[.agg #[.int .i64 a0_0, .int .u64 a0_1, .int .u64 a0_2, .int .i64 a0_3, .int .i64 a2, .int .i64 a0_5, .int .i64 a0_6, .int .i64 a0_7]] rfl (by (try simp only [List.map_toArray, List.map_cons, List.map_nil]); first | done | rfl | (simp only [List.length_drop, List.length_take]; rfl)) ?_; (with_reducible refine (call_Check.calls a0_0 a0_1 a0_2 a0_3 a2 a0_5 a0_6 a0_7 t284 _ A57.out).mono ?_); rintro e w94 ⟨rfl, hb⟩; refine ⟨_, rfl, ?_⟩; have n2_ := Aside0.mk (below_step (by repeat (first | (with_reducible first | exact HB.out | apply below_alloc | apply pw_below_drewN | apply below_drew1 | refine below_set ?_ GE273.out | refine below_set ?_ GE277.out) | exact HB.out)) hb); clear HB; have HB := n2_; clear n2_; (try clear hb)) | ((with_reducible refine gate_callee (f := 13) rfl ?_); refine goesL_ (some 89) rfl rfl Try.func13 (by kernel_rfl) rfl #[.int .i64 t284] rfl (by (try simp only [List.map_toArray, List.map_cons, List.map_nil]); first | done | rfl | (simp only [List.length_drop, List.length_take]; rfl)) ?_; (with_reducible refine (garrisonlaw15_num.calls t284 t285 _ A58.out).mono ?_); rintro e w' ⟨rfl, ⟨nd, rfl⟩⟩; refine ⟨_, rfl, ?_⟩) | (go_at_call 8; (with_reducible refine (garrisonlaw15_live.calls  t289 _ A88.out).mono ?_); rintro e w95 ⟨rfl, hb⟩; have n2_ := Aside0.mk (below_step (by repeat (first | (with_reducible first | exact HB.out | apply below_alloc | apply pw_below_drewN | apply below_drew1 | refine below_set ?_ GE273.out | refine below_set ?_ GE277.out) | exact HB.out)) hb); clear HB; have HB := n2_; clear n2_; (try clear hb)))
         go_ret
         exact ⟨by first | rfl | (simp [errW_none, errW_some] <;> rfl) | (simp [*, errW_none, errW_some] <;> rfl), by repeat (first | (with_reducible first | exact HB.out | apply below_alloc | apply pw_below_drewN | apply below_drew1 | refine below_set ?_ GE273.out | refine below_set ?_ GE277.out) | exact HB.out)⟩
     ·rw [if_neg c56] at H
      have c56b0 : (a1 == 1) = false := beq_eq_false_iff_ne.mpr c56
      have c56b1 : (a1 != 1) = true := bne_iff_ne.mpr c56
      by_cases c96 : a1 = 2
      ·rw [if_pos c96] at H
       have c96b0 : (a1 == 2) = true := beq_iff_eq.mpr c96
       have c96b1 : (a1 != 2) = false := bne_eq_false_iff_eq.mpr c96
       clear c96
       replace H := Option.bind_eq_some_iff.mp H
       obtain ⟨t290, A970, H⟩ := H
       (try dsimp only at H)
       have A97 := Aside0.mk A970
       clear A970
       replace H := Option.bind_eq_some_iff.mp H
       obtain ⟨t291, A980, H⟩ := H
       (try dsimp only at H)
       have A98 := Aside0.mk A980
       clear A980
       by_cases c99 : a0_0 = 5
       ·rw [if_pos c99] at H
        have c99b0 : (a0_0 == 5) = true := beq_iff_eq.mpr c99
        have c99b1 : (a0_0 != 5) = false := bne_eq_false_iff_eq.mpr c99
        clear c99
        by_cases c100 : a1 < 4
        ·rw [if_pos c100] at H
         have c100b0 : decide (a1 < 4) = true := decide_eq_true c100
         clear c100
         replace H := Option.bind_eq_some_iff.mp H
         obtain ⟨t292, A1010, H⟩ := H
         (try dsimp only at H)
         have A101 := Aside0.mk A1010
         clear A1010
         obtain rfl := Option.some.inj H
         go_wp2_with (first | ((with_reducible refine gate_callee (f := 14) rfl ?_); refine goesL_ (some 88) rfl rfl Try.func14 (by kernel_rfl) rfl #[.agg #[.int .i64 a0_0, .int .u64 a0_1, .int .u64 a0_2, .int .i64 a0_3, .int .i64 a0_4, .int .i64 a2, .int .i64 a0_6, .int .i64 a0_7]] rfl (by (try simp only [List.map_toArray, List.map_cons, List.map_nil]); first | done | rfl | (simp only [List.length_drop, List.length_take]; rfl)) ?_; (with_reducible refine (call_Check.calls a0_0 a0_1 a0_2 a0_3 a0_4 a2 a0_6 a0_7 t290 _ A97.out).mono ?_); rintro e w107 ⟨rfl, hb⟩; refine ⟨_, rfl, ?_⟩; have n2_ := Aside0.mk (below_step (by repeat (first | (with_reducible first | exact HB.out | apply below_alloc | apply pw_below_drewN | apply below_drew1 | refine below_set ?_ GE273.out | refine below_set ?_ GE277.out) | exact HB.out)) hb); clear HB; have HB := n2_; clear n2_; (try clear hb)) | ((with_reducible refine gate_callee (f := 13) rfl ?_); refine goesL_ (some 89) rfl rfl Try.func13 (by kernel_rfl) rfl #[.int .i64 t290] rfl (by (try simp only [List.map_toArray, List.map_cons, List.map_nil]); first | done | rfl | (simp only [List.length_drop, List.length_take]; rfl)) ?_; (with_reducible refine (garrisonlaw15_num.calls t290 t291 _ A98.out).mono ?_); rintro e w' ⟨rfl, ⟨nd, rfl⟩⟩; refine ⟨_, rfl, ?_⟩) | (go_at_call 8; (with_reducible refine (garrisonlaw15_live.calls  t292 _ A101.out).mono ?_); rintro e w108 ⟨rfl, hb⟩; have n2_ := Aside0.mk (below_step (by repeat (first | (with_reducible first | exact HB.out | apply below_alloc | apply pw_below_drewN | apply below_drew1 | refine below_set ?_ GE273.out | refine below_set ?_ GE277.out) | exact HB.out)) hb); clear HB; have HB := n2_; clear n2_; (try clear hb)))
         go_ret
         exact ⟨by first | rfl | (simp [errW_none, errW_some] <;> rfl) | (simp [*, errW_none, errW_some] <;> rfl), by repeat (first | (with_reducible first | exact HB.out | apply below_alloc | apply pw_below_drewN | apply below_drew1 | refine below_set ?_ GE273.out | refine below_set ?_ GE277.out) | exact HB.out)⟩
        ·rw [if_neg c100] at H
         have c100b0 : decide (a1 < 4) = false := decide_eq_false c100
         clear c100
         by_cases c109 : t291 = 0
         ·rw [if_pos c109] at H
          have c109b0 : (t291 == 0) = true := beq_iff_eq.mpr c109
          have c109b1 : (t291 != 0) = false := bne_eq_false_iff_eq.mpr c109
          clear c109
          replace H := Option.bind_eq_some_iff.mp H
          obtain ⟨t293, A1100, H⟩ := H
          (try dsimp only at H)
          have A110 := Aside0.mk A1100
          clear A1100
          obtain rfl := Option.some.inj H
          go_wp2_with (first | ((with_reducible refine gate_callee (f := 14) rfl ?_); refine goesL_ (some 88) rfl rfl Try.func14 (by kernel_rfl) rfl #[.agg #[.int .i64 a0_0, .int .u64 a0_1, .int .u64 a0_2, .int .i64 a0_3, .int .i64 a0_4, .int .i64 a2, .int .i64 a0_6, .int .i64 a0_7]] rfl (by (try simp only [List.map_toArray, List.map_cons, List.map_nil]); first | done | rfl | (simp only [List.length_drop, List.length_take]; rfl)) ?_; (with_reducible refine (call_Check.calls a0_0 a0_1 a0_2 a0_3 a0_4 a2 a0_6 a0_7 t290 _ A97.out).mono ?_); rintro e w116 ⟨rfl, hb⟩; refine ⟨_, rfl, ?_⟩; have n2_ := Aside0.mk (below_step (by repeat (first | (with_reducible first | exact HB.out | apply below_alloc | apply pw_below_drewN | apply below_drew1 | refine below_set ?_ GE273.out | refine below_set ?_ GE277.out) | exact HB.out)) hb); clear HB; have HB := n2_; clear n2_; (try clear hb)) | ((with_reducible refine gate_callee (f := 13) rfl ?_); refine goesL_ (some 89) rfl rfl Try.func13 (by kernel_rfl) rfl #[.int .i64 t290] rfl (by (try simp only [List.map_toArray, List.map_cons, List.map_nil]); first | done | rfl | (simp only [List.length_drop, List.length_take]; rfl)) ?_; (with_reducible refine (garrisonlaw15_num.calls t290 t291 _ A98.out).mono ?_); rintro e w' ⟨rfl, ⟨nd, rfl⟩⟩; refine ⟨_, rfl, ?_⟩) | (go_at_call 8; (with_reducible refine (garrisonlaw15_live.calls  t293 _ A110.out).mono ?_); rintro e w117 ⟨rfl, hb⟩; have n2_ := Aside0.mk (below_step (by repeat (first | (with_reducible first | exact HB.out | apply below_alloc | apply pw_below_drewN | apply below_drew1 | refine below_set ?_ GE273.out | refine below_set ?_ GE277.out) | exact HB.out)) hb); clear HB; have HB := n2_; clear n2_; (try clear hb)))
          go_ret
          exact ⟨by first | rfl | (simp [errW_none, errW_some] <;> rfl) | (simp [*, errW_none, errW_some] <;> rfl), by repeat (first | (with_reducible first | exact HB.out | apply below_alloc | apply pw_below_drewN | apply below_drew1 | refine below_set ?_ GE273.out | refine below_set ?_ GE277.out) | exact HB.out)⟩
         ·rw [if_neg c109] at H
          have c109b0 : (t291 == 0) = false := beq_eq_false_iff_ne.mpr c109
          have c109b1 : (t291 != 0) = true := bne_iff_ne.mpr c109
          exact absurd ((Option.some.inj H).trans hr_.out) (by decide)
       ·rw [if_neg c99] at H
        have c99b0 : (a0_0 == 5) = false := beq_eq_false_iff_ne.mpr c99
        have c99b1 : (a0_0 != 5) = true := bne_iff_ne.mpr c99
        by_cases c118 : t291 = 0
        ·rw [if_pos c118] at H
         have c118b0 : (t291 == 0) = true := beq_iff_eq.mpr c118
         have c118b1 : (t291 != 0) = false := bne_eq_false_iff_eq.mpr c118
         clear c118
         exact absurd ((Option.some.inj H).trans hr_.out) (by decide)
        ·rw [if_neg c118] at H
         have c118b0 : (t291 == 0) = false := beq_eq_false_iff_ne.mpr c118
         have c118b1 : (t291 != 0) = true := bne_iff_ne.mpr c118
         by_cases c119 : a1 < 4
         ·rw [if_pos c119] at H
          have c119b0 : decide (a1 < 4) = true := decide_eq_true c119
          clear c119
          replace H := Option.bind_eq_some_iff.mp H
          obtain ⟨t294, A1200, H⟩ := H
          (try dsimp only at H)
          have A120 := Aside0.mk A1200
          clear A1200
          obtain rfl := Option.some.inj H
          go_wp2_with (first | ((with_reducible refine gate_callee (f := 14) rfl ?_); refine goesL_ (some 88) rfl rfl Try.func14 (by kernel_rfl) rfl #[.agg #[.int .i64 a0_0, .int .u64 a0_1, .int .u64 a0_2, .int .i64 a0_3, .int .i64 a0_4, .int .i64 a2, .int .i64 a0_6, .int .i64 a0_7]] rfl (by (try simp only [List.map_toArray, List.map_cons, List.map_nil]); first | done | rfl | (simp only [List.length_drop, List.length_take]; rfl)) ?_; (with_reducible refine (call_Check.calls a0_0 a0_1 a0_2 a0_3 a0_4 a2 a0_6 a0_7 t290 _ A97.out).mono ?_); rintro e w126 ⟨rfl, hb⟩; refine ⟨_, rfl, ?_⟩; have n2_ := Aside0.mk (below_step (by repeat (first | (with_reducible first | exact HB.out | apply below_alloc | apply pw_below_drewN | apply below_drew1 | refine below_set ?_ GE273.out | refine below_set ?_ GE277.out) | exact HB.out)) hb); clear HB; have HB := n2_; clear n2_; (try clear hb)) | ((with_reducible refine gate_callee (f := 13) rfl ?_); refine goesL_ (some 89) rfl rfl Try.func13 (by kernel_rfl) rfl #[.int .i64 t290] rfl (by (try simp only [List.map_toArray, List.map_cons, List.map_nil]); first | done | rfl | (simp only [List.length_drop, List.length_take]; rfl)) ?_; (with_reducible refine (garrisonlaw15_num.calls t290 t291 _ A98.out).mono ?_); rintro e w' ⟨rfl, ⟨nd, rfl⟩⟩; refine ⟨_, rfl, ?_⟩) | (go_at_call 8; (with_reducible refine (garrisonlaw15_live.calls  t294 _ A120.out).mono ?_); rintro e w127 ⟨rfl, hb⟩; have n2_ := Aside0.mk (below_step (by repeat (first | (with_reducible first | exact HB.out | apply below_alloc | apply pw_below_drewN | apply below_drew1 | refine below_set ?_ GE273.out | refine below_set ?_ GE277.out) | exact HB.out)) hb); clear HB; have HB := n2_; clear n2_; (try clear hb)))
          go_ret
          exact ⟨by first | rfl | (simp [errW_none, errW_some] <;> rfl) | (simp [*, errW_none, errW_some] <;> rfl), by repeat (first | (with_reducible first | exact HB.out | apply below_alloc | apply pw_below_drewN | apply below_drew1 | refine below_set ?_ GE273.out | refine below_set ?_ GE277.out) | exact HB.out)⟩
         ·rw [if_neg c119] at H
          have c119b0 : decide (a1 < 4) = false := decide_eq_false c119
          clear c119
          replace H := Option.bind_eq_some_iff.mp H
          obtain ⟨t295, A1280, H⟩ := H
          (try dsimp only at H)
          have A128 := Aside0.mk A1280
          clear A1280
          obtain rfl := Option.some.inj H
          go_wp2_with (first | ((with_reducible refine gate_callee (f := 14) rfl ?_); refine goesL_ (some 88) rfl rfl Try.func14 (by kernel_rfl) rfl #[.agg #[.int .i64 a0_0, .int .u64 a0_1, .int .u64 a0_2, .int .i64 a0_3, .int .i64 a0_4, .int .i64 a2, .int .i64 a0_6, .int .i64 a0_7]] rfl (by (try simp only [List.map_toArray, List.map_cons, List.map_nil]); first | done | rfl | (simp only [List.length_drop, List.length_take]; rfl)) ?_; (with_reducible refine (call_Check.calls a0_0 a0_1 a0_2 a0_3 a0_4 a2 a0_6 a0_7 t290 _ A97.out).mono ?_); rintro e w134 ⟨rfl, hb⟩; refine ⟨_, rfl, ?_⟩; have n2_ := Aside0.mk (below_step (by repeat (first | (with_reducible first | exact HB.out | apply below_alloc | apply pw_below_drewN | apply below_drew1 | refine below_set ?_ GE273.out | refine below_set ?_ GE277.out) | exact HB.out)) hb); clear HB; have HB := n2_; clear n2_; (try clear hb)) | ((with_reducible refine gate_callee (f := 13) rfl ?_); refine goesL_ (some 89) rfl rfl Try.func13 (by kernel_rfl) rfl #[.int .i64 t290] rfl (by (try simp only [List.map_toArray, List.map_cons, List.map_nil]); first | done | rfl | (simp only [List.length_drop, List.length_take]; rfl)) ?_; (with_reducible refine (garrisonlaw15_num.calls t290 t291 _ A98.out).mono ?_); rintro e w' ⟨rfl, ⟨nd, rfl⟩⟩; refine ⟨_, rfl, ?_⟩) | (go_at_call 8; (with_reducible refine (garrisonlaw15_live.calls  t295 _ A128.out).mono ?_); rintro e w135 ⟨rfl, hb⟩; have n2_ := Aside0.mk (below_step (by repeat (first | (with_reducible first | exact HB.out | apply below_alloc | apply pw_below_drewN | apply below_drew1 | refine below_set ?_ GE273.out | refine below_set ?_ GE277.out) | exact HB.out)) hb); clear HB; have HB := n2_; clear n2_; (try clear hb)))
          go_ret
          exact ⟨by first | rfl | (simp [errW_none, errW_some] <;> rfl) | (simp [*, errW_none, errW_some] <;> rfl), by repeat (first | (with_reducible first | exact HB.out | apply below_alloc | apply pw_below_drewN | apply below_drew1 | refine below_set ?_ GE273.out | refine below_set ?_ GE277.out) | exact HB.out)⟩
      ·rw [if_neg c96] at H
       have c96b0 : (a1 == 2) = false := beq_eq_false_iff_ne.mpr c96
       have c96b1 : (a1 != 2) = true := bne_iff_ne.mpr c96
       by_cases c136 : a1 = 3
       ·rw [if_pos c136] at H
        have c136b0 : (a1 == 3) = true := beq_iff_eq.mpr c136
        have c136b1 : (a1 != 3) = false := bne_eq_false_iff_eq.mpr c136
        clear c136
        replace H := Option.bind_eq_some_iff.mp H
        obtain ⟨t296, A1370, H⟩ := H
        (try dsimp only at H)
        have A137 := Aside0.mk A1370
        clear A1370
        replace H := Option.bind_eq_some_iff.mp H
        obtain ⟨t297, A1380, H⟩ := H
        (try dsimp only at H)
        have A138 := Aside0.mk A1380
        clear A1380
        by_cases c139 : a0_0 = 5
        ·rw [if_pos c139] at H
         have c139b0 : (a0_0 == 5) = true := beq_iff_eq.mpr c139
         have c139b1 : (a0_0 != 5) = false := bne_eq_false_iff_eq.mpr c139
         clear c139
         by_cases c140 : a1 < 4
         ·rw [if_pos c140] at H
          have c140b0 : decide (a1 < 4) = true := decide_eq_true c140
          clear c140
          replace H := Option.bind_eq_some_iff.mp H
          obtain ⟨t298, A1410, H⟩ := H
          (try dsimp only at H)
          have A141 := Aside0.mk A1410
          clear A1410
          obtain rfl := Option.some.inj H
          go_wp2_with (first | ((with_reducible refine gate_callee (f := 14) rfl ?_); refine goesL_ (some 88) rfl rfl Try.func14 (by kernel_rfl) rfl #[.agg #[.int .i64 a0_0, .int .u64 a0_1, .int .u64 a0_2, .int .i64 a0_3, .int .i64 a0_4, .int .i64 a0_5, .int .i64 a2, .int .i64 a0_7]] rfl (by (try simp only [List.map_toArray, List.map_cons, List.map_nil]); first | done | rfl | (simp only [List.length_drop, List.length_take]; rfl)) ?_; (with_reducible refine (call_Check.calls a0_0 a0_1 a0_2 a0_3 a0_4 a0_5 a2 a0_7 t296 _ A137.out).mono ?_); rintro e w147 ⟨rfl, hb⟩; refine ⟨_, rfl, ?_⟩; have n2_ := Aside0.mk (below_step (by repeat (first | (with_reducible first | exact HB.out | apply below_alloc | apply pw_below_drewN | apply below_drew1 | refine below_set ?_ GE273.out | refine below_set ?_ GE277.out) | exact HB.out)) hb); clear HB; have HB := n2_; clear n2_; (try clear hb)) | ((with_reducible refine gate_callee (f := 13) rfl ?_); refine goesL_ (some 89) rfl rfl Try.func13 (by kernel_rfl) rfl #[.int .i64 t296] rfl (by (try simp only [List.map_toArray, List.map_cons, List.map_nil]); first | done | rfl | (simp only [List.length_drop, List.length_take]; rfl)) ?_; (with_reducible refine (garrisonlaw15_num.calls t296 t297 _ A138.out).mono ?_); rintro e w' ⟨rfl, ⟨nd, rfl⟩⟩; refine ⟨_, rfl, ?_⟩) | (go_at_call 8; (with_reducible refine (garrisonlaw15_live.calls  t298 _ A141.out).mono ?_); rintro e w148 ⟨rfl, hb⟩; have n2_ := Aside0.mk (below_step (by repeat (first | (with_reducible first | exact HB.out | apply below_alloc | apply pw_below_drewN | apply below_drew1 | refine below_set ?_ GE273.out | refine below_set ?_ GE277.out) | exact HB.out)) hb); clear HB; have HB := n2_; clear n2_; (try clear hb)))
          go_ret
          exact ⟨by first | rfl | (simp [errW_none, errW_some] <;> rfl) | (simp [*, errW_none, errW_some] <;> rfl), by repeat (first | (with_reducible first | exact HB.out | apply below_alloc | apply pw_below_drewN | apply below_drew1 | refine below_set ?_ GE273.out | refine below_set ?_ GE277.out) | exact HB.out)⟩
         ·rw [if_neg c140] at H
          have c140b0 : decide (a1 < 4) = false := decide_eq_false c140
          clear c140
          by_cases c149 : t297 = 0
          ·rw [if_pos c149] at H
           have c149b0 : (t297 == 0) = true := beq_iff_eq.mpr c149
           have c149b1 : (t297 != 0) = false := bne_eq_false_iff_eq.mpr c149
           clear c149
           replace H := Option.bind_eq_some_iff.mp H
           obtain ⟨t299, A1500, H⟩ := H
           (try dsimp only at H)
           have A150 := Aside0.mk A1500
           clear A1500
           obtain rfl := Option.some.inj H
           go_wp2_with (first | ((with_reducible refine gate_callee (f := 14) rfl ?_); refine goesL_ (some 88) rfl rfl Try.func14 (by kernel_rfl) rfl #[.agg #[.int .i64 a0_0, .int .u64 a0_1, .int .u64 a0_2, .int .i64 a0_3, .int .i64 a0_4, .int .i64 a0_5, .int .i64 a2, .int .i64 a0_7]] rfl (by (try simp only [List.map_toArray, List.map_cons, List.map_nil]); first | done | rfl | (simp only [List.length_drop, List.length_take]; rfl)) ?_; (with_reducible refine (call_Check.calls a0_0 a0_1 a0_2 a0_3 a0_4 a0_5 a2 a0_7 t296 _ A137.out).mono ?_); rintro e w156 ⟨rfl, hb⟩; refine ⟨_, rfl, ?_⟩; have n2_ := Aside0.mk (below_step (by repeat (first | (with_reducible first | exact HB.out | apply below_alloc | apply pw_below_drewN | apply below_drew1 | refine below_set ?_ GE273.out | refine below_set ?_ GE277.out) | exact HB.out)) hb); clear HB; have HB := n2_; clear n2_; (try clear hb)) | ((with_reducible refine gate_callee (f := 13) rfl ?_); refine goesL_ (some 89) rfl rfl Try.func13 (by kernel_rfl) rfl #[.int .i64 t296] rfl (by (try simp only [List.map_toArray, List.map_cons, List.map_nil]); first | done | rfl | (simp only [List.length_drop, List.length_take]; rfl)) ?_; (with_reducible refine (garrisonlaw15_num.calls t296 t297 _ A138.out).mono ?_); rintro e w' ⟨rfl, ⟨nd, rfl⟩⟩; refine ⟨_, rfl, ?_⟩) | (go_at_call 8; (with_reducible refine (garrisonlaw15_live.calls  t299 _ A150.out).mono ?_); rintro e w157 ⟨rfl, hb⟩; have n2_ := Aside0.mk (below_step (by repeat (first | (with_reducible first | exact HB.out | apply below_alloc | apply pw_below_drewN | apply below_drew1 | refine below_set ?_ GE273.out | refine below_set ?_ GE277.out) | exact HB.out)) hb); clear HB; have HB := n2_; clear n2_; (try clear hb)))
           go_ret
           exact ⟨by first | rfl | (simp [errW_none, errW_some] <;> rfl) | (simp [*, errW_none, errW_some] <;> rfl), by repeat (first | (with_reducible first | exact HB.out | apply below_alloc | apply pw_below_drewN | apply below_drew1 | refine below_set ?_ GE273.out | refine below_set ?_ GE277.out) | exact HB.out)⟩
          ·rw [if_neg c149] at H
           have c149b0 : (t297 == 0) = false := beq_eq_false_iff_ne.mpr c149
           have c149b1 : (t297 != 0) = true := bne_iff_ne.mpr c149
           exact absurd ((Option.some.inj H).trans hr_.out) (by decide)
        ·rw [if_neg c139] at H
         have c139b0 : (a0_0 == 5) = false := beq_eq_false_iff_ne.mpr c139
         have c139b1 : (a0_0 != 5) = true := bne_iff_ne.mpr c139
         by_cases c158 : t297 = 0
         ·rw [if_pos c158] at H
          have c158b0 : (t297 == 0) = true := beq_iff_eq.mpr c158
          have c158b1 : (t297 != 0) = false := bne_eq_false_iff_eq.mpr c158
          clear c158
          exact absurd ((Option.some.inj H).trans hr_.out) (by decide)
         ·rw [if_neg c158] at H
          have c158b0 : (t297 == 0) = false := beq_eq_false_iff_ne.mpr c158
          have c158b1 : (t297 != 0) = true := bne_iff_ne.mpr c158
          by_cases c159 : a1 < 4
          ·rw [if_pos c159] at H
           have c159b0 : decide (a1 < 4) = true := decide_eq_true c159
           clear c159
           replace H := Option.bind_eq_some_iff.mp H
           obtain ⟨t300, A1600, H⟩ := H
           (try dsimp only at H)
           have A160 := Aside0.mk A1600
           clear A1600
           obtain rfl := Option.some.inj H
           go_wp2_with (first | ((with_reducible refine gate_callee (f := 14) rfl ?_); refine goesL_ (some 88) rfl rfl Try.func14 (by kernel_rfl) rfl #[.agg #[.int .i64 a0_0, .int .u64 a0_1, .int .u64 a0_2, .int .i64 a0_3, .int .i64 a0_4, .int .i64 a0_5, .int .i64 a2, .int .i64 a0_7]] rfl (by (try simp only [List.map_toArray, List.map_cons, List.map_nil]); first | done | rfl | (simp only [List.length_drop, List.length_take]; rfl)) ?_; (with_reducible refine (call_Check.calls a0_0 a0_1 a0_2 a0_3 a0_4 a0_5 a2 a0_7 t296 _ A137.out).mono ?_); rintro e w166 ⟨rfl, hb⟩; refine ⟨_, rfl, ?_⟩; have n2_ := Aside0.mk (below_step (by repeat (first | (with_reducible first | exact HB.out | apply below_alloc | apply pw_below_drewN | apply below_drew1 | refine below_set ?_ GE273.out | refine below_set ?_ GE277.out) | exact HB.out)) hb); clear HB; have HB := n2_; clear n2_; (try clear hb)) | ((with_reducible refine gate_callee (f := 13) rfl ?_); refine goesL_ (some 89) rfl rfl Try.func13 (by kernel_rfl) rfl #[.int .i64 t296] rfl (by (try simp only [List.map_toArray, List.map_cons, List.map_nil]); first | done | rfl | (simp only [List.length_drop, List.length_take]; rfl)) ?_; (with_reducible refine (garrisonlaw15_num.calls t296 t297 _ A138.out).mono ?_); rintro e w' ⟨rfl, ⟨nd, rfl⟩⟩; refine ⟨_, rfl, ?_⟩) | (go_at_call 8; (with_reducible refine (garrisonlaw15_live.calls  t300 _ A160.out).mono ?_); rintro e w167 ⟨rfl, hb⟩; have n2_ := Aside0.mk (below_step (by repeat (first | (with_reducible first | exact HB.out | apply below_alloc | apply pw_below_drewN | apply below_drew1 | refine below_set ?_ GE273.out | refine below_set ?_ GE277.out) | exact HB.out)) hb); clear HB; have HB := n2_; clear n2_; (try clear hb)))
           go_ret
           exact ⟨by first | rfl | (simp [errW_none, errW_some] <;> rfl) | (simp [*, errW_none, errW_some] <;> rfl), by repeat (first | (with_reducible first | exact HB.out | apply below_alloc | apply pw_below_drewN | apply below_drew1 | refine below_set ?_ GE273.out | refine below_set ?_ GE277.out) | exact HB.out)⟩
          ·rw [if_neg c159] at H
           have c159b0 : decide (a1 < 4) = false := decide_eq_false c159
           clear c159
           replace H := Option.bind_eq_some_iff.mp H
           obtain ⟨t301, A1680, H⟩ := H
           (try dsimp only at H)
           have A168 := Aside0.mk A1680
           clear A1680
           obtain rfl := Option.some.inj H
           go_wp2_with (first | ((with_reducible refine gate_callee (f := 14) rfl ?_); refine goesL_ (some 88) rfl rfl Try.func14 (by kernel_rfl) rfl #[.agg #[.int .i64 a0_0, .int .u64 a0_1, .int .u64 a0_2, .int .i64 a0_3, .int .i64 a0_4, .int .i64 a0_5, .int .i64 a2, .int .i64 a0_7]] rfl (by (try simp only [List.map_toArray, List.map_cons, List.map_nil]); first | done | rfl | (simp only [List.length_drop, List.length_take]; rfl)) ?_; (with_reducible refine (call_Check.calls a0_0 a0_1 a0_2 a0_3 a0_4 a0_5 a2 a0_7 t296 _ A137.out).mono ?_); rintro e w174 ⟨rfl, hb⟩; refine ⟨_, rfl, ?_⟩; have n2_ := Aside0.mk (below_step (by repeat (first | (with_reducible first | exact HB.out | apply below_alloc | apply pw_below_drewN | apply below_drew1 | refine below_set ?_ GE273.out | refine below_set ?_ GE277.out) | exact HB.out)) hb); clear HB; have HB := n2_; clear n2_; (try clear hb)) | ((with_reducible refine gate_callee (f := 13) rfl ?_); refine goesL_ (some 89) rfl rfl Try.func13 (by kernel_rfl) rfl #[.int .i64 t296] rfl (by (try simp only [List.map_toArray, List.map_cons, List.map_nil]); first | done | rfl | (simp only [List.length_drop, List.length_take]; rfl)) ?_; (with_reducible refine (garrisonlaw15_num.calls t296 t297 _ A138.out).mono ?_); rintro e w' ⟨rfl, ⟨nd, rfl⟩⟩; refine ⟨_, rfl, ?_⟩) | (go_at_call 8; (with_reducible refine (garrisonlaw15_live.calls  t301 _ A168.out).mono ?_); rintro e w175 ⟨rfl, hb⟩; have n2_ := Aside0.mk (below_step (by repeat (first | (with_reducible first | exact HB.out | apply below_alloc | apply pw_below_drewN | apply below_drew1 | refine below_set ?_ GE273.out | refine below_set ?_ GE277.out) | exact HB.out)) hb); clear HB; have HB := n2_; clear n2_; (try clear hb)))
           go_ret
           exact ⟨by first | rfl | (simp [errW_none, errW_some] <;> rfl) | (simp [*, errW_none, errW_some] <;> rfl), by repeat (first | (with_reducible first | exact HB.out | apply below_alloc | apply pw_below_drewN | apply below_drew1 | refine below_set ?_ GE273.out | refine below_set ?_ GE277.out) | exact HB.out)⟩
       ·rw [if_neg c136] at H
        have c136b0 : (a1 == 3) = false := beq_eq_false_iff_ne.mpr c136
        have c136b1 : (a1 != 3) = true := bne_iff_ne.mpr c136
        by_cases c176 : a1 = 4
        ·rw [if_pos c176] at H
         have c176b0 : (a1 == 4) = true := beq_iff_eq.mpr c176
         have c176b1 : (a1 != 4) = false := bne_eq_false_iff_eq.mpr c176
         clear c176
         by_cases c177 : a0_0 = 7
         ·rw [if_pos c177] at H
          have c177b0 : (a0_0 == 7) = true := beq_iff_eq.mpr c177
          have c177b1 : (a0_0 != 7) = false := bne_eq_false_iff_eq.mpr c177
          clear c177
          replace H := Option.bind_eq_some_iff.mp H
          obtain ⟨t302, A1780, H⟩ := H
          (try dsimp only at H)
          have A178 := Aside0.mk A1780
          clear A1780
          replace H := Option.bind_eq_some_iff.mp H
          obtain ⟨t303, A1790, H⟩ := H
          (try dsimp only at H)
          have A179 := Aside0.mk A1790
          clear A1790
          by_cases c180 : a1 < 4
          ·rw [if_pos c180] at H
           have c180b0 : decide (a1 < 4) = true := decide_eq_true c180
           clear c180
           replace H := Option.bind_eq_some_iff.mp H
           obtain ⟨t304, A1810, H⟩ := H
           (try dsimp only at H)
           have A181 := Aside0.mk A1810
           clear A1810
           obtain rfl := Option.some.inj H
           go_wp2_with (first | ((with_reducible refine gate_callee (f := 14) rfl ?_); refine goesL_ (some 88) rfl rfl Try.func14 (by kernel_rfl) rfl #[.agg #[.int .i64 a0_0, .int .u64 a0_1, .int .u64 a0_2, .int .i64 a0_3, .int .i64 a0_4, .int .i64 a0_5, .int .i64 a0_6, .int .i64 a2]] rfl (by (try simp only [List.map_toArray, List.map_cons, List.map_nil]); first | done | rfl | (simp only [List.length_drop, List.length_take]; rfl)) ?_; (with_reducible refine (call_Check.calls a0_0 a0_1 a0_2 a0_3 a0_4 a0_5 a0_6 a2 t302 _ A178.out).mono ?_); rintro e w187 ⟨rfl, hb⟩; refine ⟨_, rfl, ?_⟩; have n2_ := Aside0.mk (below_step (by repeat (first | (with_reducible first | exact HB.out | apply below_alloc | apply pw_below_drewN | apply below_drew1 | refine below_set ?_ GE273.out | refine below_set ?_ GE277.out) | exact HB.out)) hb); clear HB; have HB := n2_; clear n2_; (try clear hb)) | ((with_reducible refine gate_callee (f := 13) rfl ?_); refine goesL_ (some 89) rfl rfl Try.func13 (by kernel_rfl) rfl #[.int .i64 t302] rfl (by (try simp only [List.map_toArray, List.map_cons, List.map_nil]); first | done | rfl | (simp only [List.length_drop, List.length_take]; rfl)) ?_; (with_reducible refine (garrisonlaw15_num.calls t302 t303 _ A179.out).mono ?_); rintro e w' ⟨rfl, ⟨nd, rfl⟩⟩; refine ⟨_, rfl, ?_⟩) | (go_at_call 8; (with_reducible refine (garrisonlaw15_live.calls  t304 _ A181.out).mono ?_); rintro e w188 ⟨rfl, hb⟩; have n2_ := Aside0.mk (below_step (by repeat (first | (with_reducible first | exact HB.out | apply below_alloc | apply pw_below_drewN | apply below_drew1 | refine below_set ?_ GE273.out | refine below_set ?_ GE277.out) | exact HB.out)) hb); clear HB; have HB := n2_; clear n2_; (try clear hb)))
           go_ret
           exact ⟨by first | rfl | (simp [errW_none, errW_some] <;> rfl) | (simp [*, errW_none, errW_some] <;> rfl), by repeat (first | (with_reducible first | exact HB.out | apply below_alloc | apply pw_below_drewN | apply below_drew1 | refine below_set ?_ GE273.out | refine below_set ?_ GE277.out) | exact HB.out)⟩
          ·rw [if_neg c180] at H
           have c180b0 : decide (a1 < 4) = false := decide_eq_false c180
           clear c180
           by_cases c189 : t303 = 0
           ·rw [if_pos c189] at H
            have c189b0 : (t303 == 0) = true := beq_iff_eq.mpr c189
            have c189b1 : (t303 != 0) = false := bne_eq_false_iff_eq.mpr c189
            clear c189
            replace H := Option.bind_eq_some_iff.mp H
            obtain ⟨t305, A1900, H⟩ := H
            (try dsimp only at H)
            have A190 := Aside0.mk A1900
            clear A1900
            obtain rfl := Option.some.inj H
            go_wp2_with (first | ((with_reducible refine gate_callee (f := 14) rfl ?_); refine goesL_ (some 88) rfl rfl Try.func14 (by kernel_rfl) rfl #[.agg #[.int .i64 a0_0, .int .u64 a0_1, .int .u64 a0_2, .int .i64 a0_3, .int .i64 a0_4, .int .i64 a0_5, .int .i64 a0_6, .int .i64 a2]] rfl (by (try simp only [List.map_toArray, List.map_cons, List.map_nil]); first | done | rfl | (simp only [List.length_drop, List.length_take]; rfl)) ?_; (with_reducible refine (call_Check.calls a0_0 a0_1 a0_2 a0_3 a0_4 a0_5 a0_6 a2 t302 _ A178.out).mono ?_); rintro e w196 ⟨rfl, hb⟩; refine ⟨_, rfl, ?_⟩; have n2_ := Aside0.mk (below_step (by repeat (first | (with_reducible first | exact HB.out | apply below_alloc | apply pw_below_drewN | apply below_drew1 | refine below_set ?_ GE273.out | refine below_set ?_ GE277.out) | exact HB.out)) hb); clear HB; have HB := n2_; clear n2_; (try clear hb)) | ((with_reducible refine gate_callee (f := 13) rfl ?_); refine goesL_ (some 89) rfl rfl Try.func13 (by kernel_rfl) rfl #[.int .i64 t302] rfl (by (try simp only [List.map_toArray, List.map_cons, List.map_nil]); first | done | rfl | (simp only [List.length_drop, List.length_take]; rfl)) ?_; (with_reducible refine (garrisonlaw15_num.calls t302 t303 _ A179.out).mono ?_); rintro e w' ⟨rfl, ⟨nd, rfl⟩⟩; refine ⟨_, rfl, ?_⟩) | (go_at_call 8; (with_reducible refine (garrisonlaw15_live.calls  t305 _ A190.out).mono ?_); rintro e w197 ⟨rfl, hb⟩; have n2_ := Aside0.mk (below_step (by repeat (first | (with_reducible first | exact HB.out | apply below_alloc | apply pw_below_drewN | apply below_drew1 | refine below_set ?_ GE273.out | refine below_set ?_ GE277.out) | exact HB.out)) hb); clear HB; have HB := n2_; clear n2_; (try clear hb)))
            go_ret
            exact ⟨by first | rfl | (simp [errW_none, errW_some] <;> rfl) | (simp [*, errW_none, errW_some] <;> rfl), by repeat (first | (with_reducible first | exact HB.out | apply below_alloc | apply pw_below_drewN | apply below_drew1 | refine below_set ?_ GE273.out | refine below_set ?_ GE277.out) | exact HB.out)⟩
           ·rw [if_neg c189] at H
            have c189b0 : (t303 == 0) = false := beq_eq_false_iff_ne.mpr c189
            have c189b1 : (t303 != 0) = true := bne_iff_ne.mpr c189
            exact absurd ((Option.some.inj H).trans hr_.out) (by decide)
         ·rw [if_neg c177] at H
          have c177b0 : (a0_0 == 7) = false := beq_eq_false_iff_ne.mpr c177
          have c177b1 : (a0_0 != 7) = true := bne_iff_ne.mpr c177
          replace H := Option.bind_eq_some_iff.mp H
          obtain ⟨t306, A1980, H⟩ := H
          (try dsimp only at H)
          have A198 := Aside0.mk A1980
          clear A1980
          replace H := Option.bind_eq_some_iff.mp H
          obtain ⟨t307, A1990, H⟩ := H
          (try dsimp only at H)
          have A199 := Aside0.mk A1990
          clear A1990
          by_cases c200 : a0_0 = 8
          ·rw [if_pos c200] at H
           have c200b0 : (a0_0 == 8) = true := beq_iff_eq.mpr c200
           have c200b1 : (a0_0 != 8) = false := bne_eq_false_iff_eq.mpr c200
           clear c200
           by_cases c201 : a1 < 4
           ·rw [if_pos c201] at H
            have c201b0 : decide (a1 < 4) = true := decide_eq_true c201
            clear c201
            replace H := Option.bind_eq_some_iff.mp H
            obtain ⟨t308, A2020, H⟩ := H
            (try dsimp only at H)
            have A202 := Aside0.mk A2020
            clear A2020
            obtain rfl := Option.some.inj H
            go_wp2_with (first | ((with_reducible refine gate_callee (f := 14) rfl ?_); refine goesL_ (some 88) rfl rfl Try.func14 (by kernel_rfl) rfl #[.agg #[.int .i64 a0_0, .int .u64 a0_1, .int .u64 a0_2, .int .i64 a0_3, .int .i64 a0_4, .int .i64 a0_5, .int .i64 a0_6, .int .i64 a2]] rfl (by (try simp only [List.map_toArray, List.map_cons, List.map_nil]); first | done | rfl | (simp only [List.length_drop, List.length_take]; rfl)) ?_; (with_reducible refine (call_Check.calls a0_0 a0_1 a0_2 a0_3 a0_4 a0_5 a0_6 a2 t306 _ A198.out).mono ?_); rintro e w208 ⟨rfl, hb⟩; refine ⟨_, rfl, ?_⟩; have n2_ := Aside0.mk (below_step (by repeat (first | (with_reducible first | exact HB.out | apply below_alloc | apply pw_below_drewN | apply below_drew1 | refine below_set ?_ GE273.out | refine below_set ?_ GE277.out) | exact HB.out)) hb); clear HB; have HB := n2_; clear n2_; (try clear hb)) | ((with_reducible refine gate_callee (f := 13) rfl ?_); refine goesL_ (some 89) rfl rfl Try.func13 (by kernel_rfl) rfl #[.int .i64 t306] rfl (by (try simp only [List.map_toArray, List.map_cons, List.map_nil]); first | done | rfl | (simp only [List.length_drop, List.length_take]; rfl)) ?_; (with_reducible refine (garrisonlaw15_num.calls t306 t307 _ A199.out).mono ?_); rintro e w' ⟨rfl, ⟨nd, rfl⟩⟩; refine ⟨_, rfl, ?_⟩) | (go_at_call 8; (with_reducible refine (garrisonlaw15_live.calls  t308 _ A202.out).mono ?_); rintro e w209 ⟨rfl, hb⟩; have n2_ := Aside0.mk (below_step (by repeat (first | (with_reducible first | exact HB.out | apply below_alloc | apply pw_below_drewN | apply below_drew1 | refine below_set ?_ GE273.out | refine below_set ?_ GE277.out) | exact HB.out)) hb); clear HB; have HB := n2_; clear n2_; (try clear hb)))
            go_ret
            exact ⟨by first | rfl | (simp [errW_none, errW_some] <;> rfl) | (simp [*, errW_none, errW_some] <;> rfl), by repeat (first | (with_reducible first | exact HB.out | apply below_alloc | apply pw_below_drewN | apply below_drew1 | refine below_set ?_ GE273.out | refine below_set ?_ GE277.out) | exact HB.out)⟩
           ·rw [if_neg c201] at H
            have c201b0 : decide (a1 < 4) = false := decide_eq_false c201
            clear c201
            by_cases c210 : t307 = 0
            ·rw [if_pos c210] at H
             have c210b0 : (t307 == 0) = true := beq_iff_eq.mpr c210
             have c210b1 : (t307 != 0) = false := bne_eq_false_iff_eq.mpr c210
             clear c210
             replace H := Option.bind_eq_some_iff.mp H
             obtain ⟨t309, A2110, H⟩ := H
             (try dsimp only at H)
             have A211 := Aside0.mk A2110
             clear A2110
             obtain rfl := Option.some.inj H
             go_wp2_with (first | ((with_reducible refine gate_callee (f := 14) rfl ?_); refine goesL_ (some 88) rfl rfl Try.func14 (by kernel_rfl) rfl #[.agg #[.int .i64 a0_0, .int .u64 a0_1, .int .u64 a0_2, .int .i64 a0_3, .int .i64 a0_4, .int .i64 a0_5, .int .i64 a0_6, .int .i64 a2]] rfl (by (try simp only [List.map_toArray, List.map_cons, List.map_nil]); first | done | rfl | (simp only [List.length_drop, List.length_take]; rfl)) ?_; (with_reducible refine (call_Check.calls a0_0 a0_1 a0_2 a0_3 a0_4 a0_5 a0_6 a2 t306 _ A198.out).mono ?_); rintro e w217 ⟨rfl, hb⟩; refine ⟨_, rfl, ?_⟩; have n2_ := Aside0.mk (below_step (by repeat (first | (with_reducible first | exact HB.out | apply below_alloc | apply pw_below_drewN | apply below_drew1 | refine below_set ?_ GE273.out | refine below_set ?_ GE277.out) | exact HB.out)) hb); clear HB; have HB := n2_; clear n2_; (try clear hb)) | ((with_reducible refine gate_callee (f := 13) rfl ?_); refine goesL_ (some 89) rfl rfl Try.func13 (by kernel_rfl) rfl #[.int .i64 t306] rfl (by (try simp only [List.map_toArray, List.map_cons, List.map_nil]); first | done | rfl | (simp only [List.length_drop, List.length_take]; rfl)) ?_; (with_reducible refine (garrisonlaw15_num.calls t306 t307 _ A199.out).mono ?_); rintro e w' ⟨rfl, ⟨nd, rfl⟩⟩; refine ⟨_, rfl, ?_⟩) | (go_at_call 8; (with_reducible refine (garrisonlaw15_live.calls  t309 _ A211.out).mono ?_); rintro e w218 ⟨rfl, hb⟩; have n2_ := Aside0.mk (below_step (by repeat (first | (with_reducible first | exact HB.out | apply below_alloc | apply pw_below_drewN | apply below_drew1 | refine below_set ?_ GE273.out | refine below_set ?_ GE277.out) | exact HB.out)) hb); clear HB; have HB := n2_; clear n2_; (try clear hb)))
             go_ret
             exact ⟨by first | rfl | (simp [errW_none, errW_some] <;> rfl) | (simp [*, errW_none, errW_some] <;> rfl), by repeat (first | (with_reducible first | exact HB.out | apply below_alloc | apply pw_below_drewN | apply below_drew1 | refine below_set ?_ GE273.out | refine below_set ?_ GE277.out) | exact HB.out)⟩
            ·rw [if_neg c210] at H
             have c210b0 : (t307 == 0) = false := beq_eq_false_iff_ne.mpr c210
             have c210b1 : (t307 != 0) = true := bne_iff_ne.mpr c210
             exact absurd ((Option.some.inj H).trans hr_.out) (by decide)
          ·rw [if_neg c200] at H
           have c200b0 : (a0_0 == 8) = false := beq_eq_false_iff_ne.mpr c200
           have c200b1 : (a0_0 != 8) = true := bne_iff_ne.mpr c200
           by_cases c219 : t307 = 0
           ·rw [if_pos c219] at H
            have c219b0 : (t307 == 0) = true := beq_iff_eq.mpr c219
            have c219b1 : (t307 != 0) = false := bne_eq_false_iff_eq.mpr c219
            clear c219
            exact absurd ((Option.some.inj H).trans hr_.out) (by decide)
           ·rw [if_neg c219] at H
            have c219b0 : (t307 == 0) = false := beq_eq_false_iff_ne.mpr c219
            have c219b1 : (t307 != 0) = true := bne_iff_ne.mpr c219
            by_cases c220 : a1 < 4
            ·rw [if_pos c220] at H
             have c220b0 : decide (a1 < 4) = true := decide_eq_true c220
             clear c220
             replace H := Option.bind_eq_some_iff.mp H
             obtain ⟨t310, A2210, H⟩ := H
             (try dsimp only at H)
             have A221 := Aside0.mk A2210
             clear A2210
             obtain rfl := Option.some.inj H
             go_wp2_with (first | ((with_reducible refine gate_callee (f := 14) rfl ?_); refine goesL_ (some 88) rfl rfl Try.func14 (by kernel_rfl) rfl #[.agg #[.int .i64 a0_0, .int .u64 a0_1, .int .u64 a0_2, .int .i64 a0_3, .int .i64 a0_4, .int .i64 a0_5, .int .i64 a0_6, .int .i64 a2]] rfl (by (try simp only [List.map_toArray, List.map_cons, List.map_nil]); first | done | rfl | (simp only [List.length_drop, List.length_take]; rfl)) ?_; (with_reducible refine (call_Check.calls a0_0 a0_1 a0_2 a0_3 a0_4 a0_5 a0_6 a2 t306 _ A198.out).mono ?_); rintro e w227 ⟨rfl, hb⟩; refine ⟨_, rfl, ?_⟩; have n2_ := Aside0.mk (below_step (by repeat (first | (with_reducible first | exact HB.out | apply below_alloc | apply pw_below_drewN | apply below_drew1 | refine below_set ?_ GE273.out | refine below_set ?_ GE277.out) | exact HB.out)) hb); clear HB; have HB := n2_; clear n2_; (try clear hb)) | ((with_reducible refine gate_callee (f := 13) rfl ?_); refine goesL_ (some 89) rfl rfl Try.func13 (by kernel_rfl) rfl #[.int .i64 t306] rfl (by (try simp only [List.map_toArray, List.map_cons, List.map_nil]); first | done | rfl | (simp only [List.length_drop, List.length_take]; rfl)) ?_; (with_reducible refine (garrisonlaw15_num.calls t306 t307 _ A199.out).mono ?_); rintro e w' ⟨rfl, ⟨nd, rfl⟩⟩; refine ⟨_, rfl, ?_⟩) | (go_at_call 8; (with_reducible refine (garrisonlaw15_live.calls  t310 _ A221.out).mono ?_); rintro e w228 ⟨rfl, hb⟩; have n2_ := Aside0.mk (below_step (by repeat (first | (with_reducible first | exact HB.out | apply below_alloc | apply pw_below_drewN | apply below_drew1 | refine below_set ?_ GE273.out | refine below_set ?_ GE277.out) | exact HB.out)) hb); clear HB; have HB := n2_; clear n2_; (try clear hb)))
             go_ret
             exact ⟨by first | rfl | (simp [errW_none, errW_some] <;> rfl) | (simp [*, errW_none, errW_some] <;> rfl), by repeat (first | (with_reducible first | exact HB.out | apply below_alloc | apply pw_below_drewN | apply below_drew1 | refine below_set ?_ GE273.out | refine below_set ?_ GE277.out) | exact HB.out)⟩
            ·rw [if_neg c220] at H
             have c220b0 : decide (a1 < 4) = false := decide_eq_false c220
             clear c220
             replace H := Option.bind_eq_some_iff.mp H
             obtain ⟨t311, A2290, H⟩ := H
             (try dsimp only at H)
             have A229 := Aside0.mk A2290
             clear A2290
             obtain rfl := Option.some.inj H
             go_wp2_with (first | ((with_reducible refine gate_callee (f := 14) rfl ?_); refine goesL_ (some 88) rfl rfl Try.func14 (by kernel_rfl) rfl #[.agg #[.int .i64 a0_0, .int .u64 a0_1, .int .u64 a0_2, .int .i64 a0_3, .int .i64 a0_4, .int .i64 a0_5, .int .i64 a0_6, .int .i64 a2]] rfl (by (try simp only [List.map_toArray, List.map_cons, List.map_nil]); first | done | rfl | (simp only [List.length_drop, List.length_take]; rfl)) ?_; (with_reducible refine (call_Check.calls a0_0 a0_1 a0_2 a0_3 a0_4 a0_5 a0_6 a2 t306 _ A198.out).mono ?_); rintro e w235 ⟨rfl, hb⟩; refine ⟨_, rfl, ?_⟩; have n2_ := Aside0.mk (below_step (by repeat (first | (with_reducible first | exact HB.out | apply below_alloc | apply pw_below_drewN | apply below_drew1 | refine below_set ?_ GE273.out | refine below_set ?_ GE277.out) | exact HB.out)) hb); clear HB; have HB := n2_; clear n2_; (try clear hb)) | ((with_reducible refine gate_callee (f := 13) rfl ?_); refine goesL_ (some 89) rfl rfl Try.func13 (by kernel_rfl) rfl #[.int .i64 t306] rfl (by (try simp only [List.map_toArray, List.map_cons, List.map_nil]); first | done | rfl | (simp only [List.length_drop, List.length_take]; rfl)) ?_; (with_reducible refine (garrisonlaw15_num.calls t306 t307 _ A199.out).mono ?_); rintro e w' ⟨rfl, ⟨nd, rfl⟩⟩; refine ⟨_, rfl, ?_⟩) | (go_at_call 8; (with_reducible refine (garrisonlaw15_live.calls  t311 _ A229.out).mono ?_); rintro e w236 ⟨rfl, hb⟩; have n2_ := Aside0.mk (below_step (by repeat (first | (with_reducible first | exact HB.out | apply below_alloc | apply pw_below_drewN | apply below_drew1 | refine below_set ?_ GE273.out | refine below_set ?_ GE277.out) | exact HB.out)) hb); clear HB; have HB := n2_; clear n2_; (try clear hb)))
             go_ret
             exact ⟨by first | rfl | (simp [errW_none, errW_some] <;> rfl) | (simp [*, errW_none, errW_some] <;> rfl), by repeat (first | (with_reducible first | exact HB.out | apply below_alloc | apply pw_below_drewN | apply below_drew1 | refine below_set ?_ GE273.out | refine below_set ?_ GE277.out) | exact HB.out)⟩
        ·rw [if_neg c176] at H
         have c176b0 : (a1 == 4) = false := beq_eq_false_iff_ne.mpr c176
         have c176b1 : (a1 != 4) = true := bne_iff_ne.mpr c176
         by_cases c237 : a0_0 = 1
         ·rw [if_pos c237] at H
          have c237b0 : (a0_0 == 1) = true := beq_iff_eq.mpr c237
          have c237b1 : (a0_0 != 1) = false := bne_eq_false_iff_eq.mpr c237
          clear c237
          replace H := Option.bind_eq_some_iff.mp H
          obtain ⟨t312, A2380, H⟩ := H
          (try dsimp only at H)
          have A238 := Aside0.mk A2380
          clear A2380
          replace H := Option.bind_eq_some_iff.mp H
          obtain ⟨t313, A2390, H⟩ := H
          (try dsimp only at H)
          have A239 := Aside0.mk A2390
          clear A2390
          by_cases c240 : a1 < 4
          ·rw [if_pos c240] at H
           have c240b0 : decide (a1 < 4) = true := decide_eq_true c240
           clear c240
           replace H := Option.bind_eq_some_iff.mp H
           obtain ⟨t314, A2410, H⟩ := H
           (try dsimp only at H)
           have A241 := Aside0.mk A2410
           clear A2410
           obtain rfl := Option.some.inj H
           go_wp2_with (first | ((with_reducible refine gate_callee (f := 14) rfl ?_); refine goesL_ (some 88) rfl rfl Try.func14 (by kernel_rfl) rfl #[.agg #[.int .i64 a0_0, .int .u64 a0_1, .int .u64 a0_1, .int .i64 a0_3, .int .i64 a0_4, .int .i64 a0_5, .int .i64 a0_6, .int .i64 a0_7]] rfl (by (try simp only [List.map_toArray, List.map_cons, List.map_nil]); first | done | rfl | (simp only [List.length_drop, List.length_take]; rfl)) ?_; (with_reducible refine (call_Check.calls a0_0 a0_1 a0_1 a0_3 a0_4 a0_5 a0_6 a0_7 t312 _ A238.out).mono ?_); rintro e w247 ⟨rfl, hb⟩; refine ⟨_, rfl, ?_⟩; have n2_ := Aside0.mk (below_step (by repeat (first | (with_reducible first | exact HB.out | apply below_alloc | apply pw_below_drewN | apply below_drew1 | refine below_set ?_ GE273.out | refine below_set ?_ GE277.out) | exact HB.out)) hb); clear HB; have HB := n2_; clear n2_; (try clear hb)) | ((with_reducible refine gate_callee (f := 13) rfl ?_); refine goesL_ (some 89) rfl rfl Try.func13 (by kernel_rfl) rfl #[.int .i64 t312] rfl (by (try simp only [List.map_toArray, List.map_cons, List.map_nil]); first | done | rfl | (simp only [List.length_drop, List.length_take]; rfl)) ?_; (with_reducible refine (garrisonlaw15_num.calls t312 t313 _ A239.out).mono ?_); rintro e w' ⟨rfl, ⟨nd, rfl⟩⟩; refine ⟨_, rfl, ?_⟩) | (go_at_call 8; (with_reducible refine (garrisonlaw15_live.calls  t314 _ A241.out).mono ?_); rintro e w248 ⟨rfl, hb⟩; have n2_ := Aside0.mk (below_step (by repeat (first | (with_reducible first | exact HB.out | apply below_alloc | apply pw_below_drewN | apply below_drew1 | refine below_set ?_ GE273.out | refine below_set ?_ GE277.out) | exact HB.out)) hb); clear HB; have HB := n2_; clear n2_; (try clear hb)))
           go_ret
           exact ⟨by first | rfl | (simp [errW_none, errW_some] <;> rfl) | (simp [*, errW_none, errW_some] <;> rfl), by repeat (first | (with_reducible first | exact HB.out | apply below_alloc | apply pw_below_drewN | apply below_drew1 | refine below_set ?_ GE273.out | refine below_set ?_ GE277.out) | exact HB.out)⟩
          ·rw [if_neg c240] at H
           have c240b0 : decide (a1 < 4) = false := decide_eq_false c240
           clear c240
           by_cases c249 : t313 = 0
           ·rw [if_pos c249] at H
            have c249b0 : (t313 == 0) = true := beq_iff_eq.mpr c249
            have c249b1 : (t313 != 0) = false := bne_eq_false_iff_eq.mpr c249
            clear c249
            replace H := Option.bind_eq_some_iff.mp H
            obtain ⟨t315, A2500, H⟩ := H
            (try dsimp only at H)
            have A250 := Aside0.mk A2500
            clear A2500
            obtain rfl := Option.some.inj H
            go_wp2_with (first | ((with_reducible refine gate_callee (f := 14) rfl ?_); refine goesL_ (some 88) rfl rfl Try.func14 (by kernel_rfl) rfl #[.agg #[.int .i64 a0_0, .int .u64 a0_1, .int .u64 a0_1, .int .i64 a0_3, .int .i64 a0_4, .int .i64 a0_5, .int .i64 a0_6, .int .i64 a0_7]] rfl (by (try simp only [List.map_toArray, List.map_cons, List.map_nil]); first | done | rfl | (simp only [List.length_drop, List.length_take]; rfl)) ?_; (with_reducible refine (call_Check.calls a0_0 a0_1 a0_1 a0_3 a0_4 a0_5 a0_6 a0_7 t312 _ A238.out).mono ?_); rintro e w256 ⟨rfl, hb⟩; refine ⟨_, rfl, ?_⟩; have n2_ := Aside0.mk (below_step (by repeat (first | (with_reducible first | exact HB.out | apply below_alloc | apply pw_below_drewN | apply below_drew1 | refine below_set ?_ GE273.out | refine below_set ?_ GE277.out) | exact HB.out)) hb); clear HB; have HB := n2_; clear n2_; (try clear hb)) | ((with_reducible refine gate_callee (f := 13) rfl ?_); refine goesL_ (some 89) rfl rfl Try.func13 (by kernel_rfl) rfl #[.int .i64 t312] rfl (by (try simp only [List.map_toArray, List.map_cons, List.map_nil]); first | done | rfl | (simp only [List.length_drop, List.length_take]; rfl)) ?_; (with_reducible refine (garrisonlaw15_num.calls t312 t313 _ A239.out).mono ?_); rintro e w' ⟨rfl, ⟨nd, rfl⟩⟩; refine ⟨_, rfl, ?_⟩) | (go_at_call 8; (with_reducible refine (garrisonlaw15_live.calls  t315 _ A250.out).mono ?_); rintro e w257 ⟨rfl, hb⟩; have n2_ := Aside0.mk (below_step (by repeat (first | (with_reducible first | exact HB.out | apply below_alloc | apply pw_below_drewN | apply below_drew1 | refine below_set ?_ GE273.out | refine below_set ?_ GE277.out) | exact HB.out)) hb); clear HB; have HB := n2_; clear n2_; (try clear hb)))
            go_ret
            exact ⟨by first | rfl | (simp [errW_none, errW_some] <;> rfl) | (simp [*, errW_none, errW_some] <;> rfl), by repeat (first | (with_reducible first | exact HB.out | apply below_alloc | apply pw_below_drewN | apply below_drew1 | refine below_set ?_ GE273.out | refine below_set ?_ GE277.out) | exact HB.out)⟩
           ·rw [if_neg c249] at H
            have c249b0 : (t313 == 0) = false := beq_eq_false_iff_ne.mpr c249
            have c249b1 : (t313 != 0) = true := bne_iff_ne.mpr c249
            exact absurd ((Option.some.inj H).trans hr_.out) (by decide)
         ·rw [if_neg c237] at H
          have c237b0 : (a0_0 == 1) = false := beq_eq_false_iff_ne.mpr c237
          have c237b1 : (a0_0 != 1) = true := bne_iff_ne.mpr c237
          by_cases c258 : a0_0 = 2
          ·rw [if_pos c258] at H
           have c258b0 : (a0_0 == 2) = true := beq_iff_eq.mpr c258
           have c258b1 : (a0_0 != 2) = false := bne_eq_false_iff_eq.mpr c258
           clear c258
           replace H := Option.bind_eq_some_iff.mp H
           obtain ⟨t316, A2590, H⟩ := H
           (try dsimp only at H)
           have A259 := Aside0.mk A2590
           clear A2590
           replace H := Option.bind_eq_some_iff.mp H
           obtain ⟨t317, A2600, H⟩ := H
           (try dsimp only at H)
           have A260 := Aside0.mk A2600
           clear A2600
           by_cases c261 : a1 < 4
           ·rw [if_pos c261] at H
            have c261b0 : decide (a1 < 4) = true := decide_eq_true c261
            clear c261
            replace H := Option.bind_eq_some_iff.mp H
            obtain ⟨t318, A2620, H⟩ := H
            (try dsimp only at H)
            have A262 := Aside0.mk A2620
            clear A2620
            obtain rfl := Option.some.inj H
            go_wp2_with (first | ((with_reducible refine gate_callee (f := 14) rfl ?_); refine goesL_ (some 88) rfl rfl Try.func14 (by kernel_rfl) rfl #[.agg #[.int .i64 a0_0, .int .u64 a0_1, .int .u64 a0_1, .int .i64 a0_3, .int .i64 a0_4, .int .i64 a0_5, .int .i64 a0_6, .int .i64 a0_7]] rfl (by (try simp only [List.map_toArray, List.map_cons, List.map_nil]); first | done | rfl | (simp only [List.length_drop, List.length_take]; rfl)) ?_; (with_reducible refine (call_Check.calls a0_0 a0_1 a0_1 a0_3 a0_4 a0_5 a0_6 a0_7 t316 _ A259.out).mono ?_); rintro e w268 ⟨rfl, hb⟩; refine ⟨_, rfl, ?_⟩; have n2_ := Aside0.mk (below_step (by repeat (first | (with_reducible first | exact HB.out | apply below_alloc | apply pw_below_drewN | apply below_drew1 | refine below_set ?_ GE273.out | refine below_set ?_ GE277.out) | exact HB.out)) hb); clear HB; have HB := n2_; clear n2_; (try clear hb)) | ((with_reducible refine gate_callee (f := 13) rfl ?_); refine goesL_ (some 89) rfl rfl Try.func13 (by kernel_rfl) rfl #[.int .i64 t316] rfl (by (try simp only [List.map_toArray, List.map_cons, List.map_nil]); first | done | rfl | (simp only [List.length_drop, List.length_take]; rfl)) ?_; (with_reducible refine (garrisonlaw15_num.calls t316 t317 _ A260.out).mono ?_); rintro e w' ⟨rfl, ⟨nd, rfl⟩⟩; refine ⟨_, rfl, ?_⟩) | (go_at_call 8; (with_reducible refine (garrisonlaw15_live.calls  t318 _ A262.out).mono ?_); rintro e w269 ⟨rfl, hb⟩; have n2_ := Aside0.mk (below_step (by repeat (first | (with_reducible first | exact HB.out | apply below_alloc | apply pw_below_drewN | apply below_drew1 | refine below_set ?_ GE273.out | refine below_set ?_ GE277.out) | exact HB.out)) hb); clear HB; have HB := n2_; clear n2_; (try clear hb)))
            go_ret
            exact ⟨by first | rfl | (simp [errW_none, errW_some] <;> rfl) | (simp [*, errW_none, errW_some] <;> rfl), by repeat (first | (with_reducible first | exact HB.out | apply below_alloc | apply pw_below_drewN | apply below_drew1 | refine below_set ?_ GE273.out | refine below_set ?_ GE277.out) | exact HB.out)⟩
           ·rw [if_neg c261] at H
            have c261b0 : decide (a1 < 4) = false := decide_eq_false c261
            clear c261
            by_cases c270 : t317 = 0
            ·rw [if_pos c270] at H
             have c270b0 : (t317 == 0) = true := beq_iff_eq.mpr c270
             have c270b1 : (t317 != 0) = false := bne_eq_false_iff_eq.mpr c270
             clear c270
             replace H := Option.bind_eq_some_iff.mp H
             obtain ⟨t319, A2710, H⟩ := H
             (try dsimp only at H)
             have A271 := Aside0.mk A2710
             clear A2710
             obtain rfl := Option.some.inj H
             go_wp2_with (first | ((with_reducible refine gate_callee (f := 14) rfl ?_); refine goesL_ (some 88) rfl rfl Try.func14 (by kernel_rfl) rfl #[.agg #[.int .i64 a0_0, .int .u64 a0_1, .int .u64 a0_1, .int .i64 a0_3, .int .i64 a0_4, .int .i64 a0_5, .int .i64 a0_6, .int .i64 a0_7]] rfl (by (try simp only [List.map_toArray, List.map_cons, List.map_nil]); first | done | rfl | (simp only [List.length_drop, List.length_take]; rfl)) ?_; (with_reducible refine (call_Check.calls a0_0 a0_1 a0_1 a0_3 a0_4 a0_5 a0_6 a0_7 t316 _ A259.out).mono ?_); rintro e w277 ⟨rfl, hb⟩; refine ⟨_, rfl, ?_⟩; have n2_ := Aside0.mk (below_step (by repeat (first | (with_reducible first | exact HB.out | apply below_alloc | apply pw_below_drewN | apply below_drew1 | refine below_set ?_ GE273.out | refine below_set ?_ GE277.out) | exact HB.out)) hb); clear HB; have HB := n2_; clear n2_; (try clear hb)) | ((with_reducible refine gate_callee (f := 13) rfl ?_); refine goesL_ (some 89) rfl rfl Try.func13 (by kernel_rfl) rfl #[.int .i64 t316] rfl (by (try simp only [List.map_toArray, List.map_cons, List.map_nil]); first | done | rfl | (simp only [List.length_drop, List.length_take]; rfl)) ?_; (with_reducible refine (garrisonlaw15_num.calls t316 t317 _ A260.out).mono ?_); rintro e w' ⟨rfl, ⟨nd, rfl⟩⟩; refine ⟨_, rfl, ?_⟩) | (go_at_call 8; (with_reducible refine (garrisonlaw15_live.calls  t319 _ A271.out).mono ?_); rintro e w278 ⟨rfl, hb⟩; have n2_ := Aside0.mk (below_step (by repeat (first | (with_reducible first | exact HB.out | apply below_alloc | apply pw_below_drewN | apply below_drew1 | refine below_set ?_ GE273.out | refine below_set ?_ GE277.out) | exact HB.out)) hb); clear HB; have HB := n2_; clear n2_; (try clear hb)))
             go_ret
             exact ⟨by first | rfl | (simp [errW_none, errW_some] <;> rfl) | (simp [*, errW_none, errW_some] <;> rfl), by repeat (first | (with_reducible first | exact HB.out | apply below_alloc | apply pw_below_drewN | apply below_drew1 | refine below_set ?_ GE273.out | refine below_set ?_ GE277.out) | exact HB.out)⟩
            ·rw [if_neg c270] at H
             have c270b0 : (t317 == 0) = false := beq_eq_false_iff_ne.mpr c270
             have c270b1 : (t317 != 0) = true := bne_iff_ne.mpr c270
             exact absurd ((Option.some.inj H).trans hr_.out) (by decide)
          ·rw [if_neg c258] at H
           have c258b0 : (a0_0 == 2) = false := beq_eq_false_iff_ne.mpr c258
           have c258b1 : (a0_0 != 2) = true := bne_iff_ne.mpr c258
           by_cases c279 : a0_0 = 5
           ·rw [if_pos c279] at H
            have c279b0 : (a0_0 == 5) = true := beq_iff_eq.mpr c279
            have c279b1 : (a0_0 != 5) = false := bne_eq_false_iff_eq.mpr c279
            clear c279
            replace H := Option.bind_eq_some_iff.mp H
            obtain ⟨t320, A2800, H⟩ := H
            (try dsimp only at H)
            have A280 := Aside0.mk A2800
            clear A2800
            replace H := Option.bind_eq_some_iff.mp H
            obtain ⟨t321, A2810, H⟩ := H
            (try dsimp only at H)
            have A281 := Aside0.mk A2810
            clear A2810
            by_cases c282 : a1 < 4
            ·rw [if_pos c282] at H
             have c282b0 : decide (a1 < 4) = true := decide_eq_true c282
             clear c282
             replace H := Option.bind_eq_some_iff.mp H
             obtain ⟨t322, A2830, H⟩ := H
             (try dsimp only at H)
             have A283 := Aside0.mk A2830
             clear A2830
             obtain rfl := Option.some.inj H
             go_wp2_with (first | ((with_reducible refine gate_callee (f := 14) rfl ?_); refine goesL_ (some 88) rfl rfl Try.func14 (by kernel_rfl) rfl #[.agg #[.int .i64 a0_0, .int .u64 a0_1, .int .u64 a0_1, .int .i64 a0_3, .int .i64 a0_4, .int .i64 a0_5, .int .i64 a0_6, .int .i64 a0_7]] rfl (by (try simp only [List.map_toArray, List.map_cons, List.map_nil]); first | done | rfl | (simp only [List.length_drop, List.length_take]; rfl)) ?_; (with_reducible refine (call_Check.calls a0_0 a0_1 a0_1 a0_3 a0_4 a0_5 a0_6 a0_7 t320 _ A280.out).mono ?_); rintro e w289 ⟨rfl, hb⟩; refine ⟨_, rfl, ?_⟩; have n2_ := Aside0.mk (below_step (by repeat (first | (with_reducible first | exact HB.out | apply below_alloc | apply pw_below_drewN | apply below_drew1 | refine below_set ?_ GE273.out | refine below_set ?_ GE277.out) | exact HB.out)) hb); clear HB; have HB := n2_; clear n2_; (try clear hb)) | ((with_reducible refine gate_callee (f := 13) rfl ?_); refine goesL_ (some 89) rfl rfl Try.func13 (by kernel_rfl) rfl #[.int .i64 t320] rfl (by (try simp only [List.map_toArray, List.map_cons, List.map_nil]); first | done | rfl | (simp only [List.length_drop, List.length_take]; rfl)) ?_; (with_reducible refine (garrisonlaw15_num.calls t320 t321 _ A281.out).mono ?_); rintro e w' ⟨rfl, ⟨nd, rfl⟩⟩; refine ⟨_, rfl, ?_⟩) | (go_at_call 8; (with_reducible refine (garrisonlaw15_live.calls  t322 _ A283.out).mono ?_); rintro e w290 ⟨rfl, hb⟩; have n2_ := Aside0.mk (below_step (by repeat (first | (with_reducible first | exact HB.out | apply below_alloc | apply pw_below_drewN | apply below_drew1 | refine below_set ?_ GE273.out | refine below_set ?_ GE277.out) | exact HB.out)) hb); clear HB; have HB := n2_; clear n2_; (try clear hb)))
             go_ret
             exact ⟨by first | rfl | (simp [errW_none, errW_some] <;> rfl) | (simp [*, errW_none, errW_some] <;> rfl), by repeat (first | (with_reducible first | exact HB.out | apply below_alloc | apply pw_below_drewN | apply below_drew1 | refine below_set ?_ GE273.out | refine below_set ?_ GE277.out) | exact HB.out)⟩
            ·rw [if_neg c282] at H
             have c282b0 : decide (a1 < 4) = false := decide_eq_false c282
             clear c282
             by_cases c291 : t321 = 0
             ·rw [if_pos c291] at H
              have c291b0 : (t321 == 0) = true := beq_iff_eq.mpr c291
              have c291b1 : (t321 != 0) = false := bne_eq_false_iff_eq.mpr c291
              clear c291
              replace H := Option.bind_eq_some_iff.mp H
              obtain ⟨t323, A2920, H⟩ := H
              (try dsimp only at H)
              have A292 := Aside0.mk A2920
              clear A2920
              obtain rfl := Option.some.inj H
              go_wp2_with (first | ((with_reducible refine gate_callee (f := 14) rfl ?_); refine goesL_ (some 88) rfl rfl Try.func14 (by kernel_rfl) rfl #[.agg #[.int .i64 a0_0, .int .u64 a0_1, .int .u64 a0_1, .int .i64 a0_3, .int .i64 a0_4, .int .i64 a0_5, .int .i64 a0_6, .int .i64 a0_7]] rfl (by (try simp only [List.map_toArray, List.map_cons, List.map_nil]); first | done | rfl | (simp only [List.length_drop, List.length_take]; rfl)) ?_; (with_reducible refine (call_Check.calls a0_0 a0_1 a0_1 a0_3 a0_4 a0_5 a0_6 a0_7 t320 _ A280.out).mono ?_); rintro e w298 ⟨rfl, hb⟩; refine ⟨_, rfl, ?_⟩; have n2_ := Aside0.mk (below_step (by repeat (first | (with_reducible first | exact HB.out | apply below_alloc | apply pw_below_drewN | apply below_drew1 | refine below_set ?_ GE273.out | refine below_set ?_ GE277.out) | exact HB.out)) hb); clear HB; have HB := n2_; clear n2_; (try clear hb)) | ((with_reducible refine gate_callee (f := 13) rfl ?_); refine goesL_ (some 89) rfl rfl Try.func13 (by kernel_rfl) rfl #[.int .i64 t320] rfl (by (try simp only [List.map_toArray, List.map_cons, List.map_nil]); first | done | rfl | (simp only [List.length_drop, List.length_take]; rfl)) ?_; (with_reducible refine (garrisonlaw15_num.calls t320 t321 _ A281.out).mono ?_); rintro e w' ⟨rfl, ⟨nd, rfl⟩⟩; refine ⟨_, rfl, ?_⟩) | (go_at_call 8; (with_reducible refine (garrisonlaw15_live.calls  t323 _ A292.out).mono ?_); rintro e w299 ⟨rfl, hb⟩; have n2_ := Aside0.mk (below_step (by repeat (first | (with_reducible first | exact HB.out | apply below_alloc | apply pw_below_drewN | apply below_drew1 | refine below_set ?_ GE273.out | refine below_set ?_ GE277.out) | exact HB.out)) hb); clear HB; have HB := n2_; clear n2_; (try clear hb)))
              go_ret
              exact ⟨by first | rfl | (simp [errW_none, errW_some] <;> rfl) | (simp [*, errW_none, errW_some] <;> rfl), by repeat (first | (with_reducible first | exact HB.out | apply below_alloc | apply pw_below_drewN | apply below_drew1 | refine below_set ?_ GE273.out | refine below_set ?_ GE277.out) | exact HB.out)⟩
             ·rw [if_neg c291] at H
              have c291b0 : (t321 == 0) = false := beq_eq_false_iff_ne.mpr c291
              have c291b1 : (t321 != 0) = true := bne_iff_ne.mpr c291
              exact absurd ((Option.some.inj H).trans hr_.out) (by decide)
           ·rw [if_neg c279] at H
            have c279b0 : (a0_0 == 5) = false := beq_eq_false_iff_ne.mpr c279
            have c279b1 : (a0_0 != 5) = true := bne_iff_ne.mpr c279
            by_cases c300 : a0_0 = 8
            ·rw [if_pos c300] at H
             have c300b0 : (a0_0 == 8) = true := beq_iff_eq.mpr c300
             have c300b1 : (a0_0 != 8) = false := bne_eq_false_iff_eq.mpr c300
             clear c300
             replace H := Option.bind_eq_some_iff.mp H
             obtain ⟨t324, A3010, H⟩ := H
             (try dsimp only at H)
             have A301 := Aside0.mk A3010
             clear A3010
             replace H := Option.bind_eq_some_iff.mp H
             obtain ⟨t325, A3020, H⟩ := H
             (try dsimp only at H)
             have A302 := Aside0.mk A3020
             clear A3020
             by_cases c303 : a1 < 4
             ·rw [if_pos c303] at H
              have c303b0 : decide (a1 < 4) = true := decide_eq_true c303
              clear c303
              replace H := Option.bind_eq_some_iff.mp H
              obtain ⟨t326, A3040, H⟩ := H
              (try dsimp only at H)
              have A304 := Aside0.mk A3040
              clear A3040
              obtain rfl := Option.some.inj H
              go_wp2_with (first | ((with_reducible refine gate_callee (f := 14) rfl ?_); refine goesL_ (some 88) rfl rfl Try.func14 (by kernel_rfl) rfl #[.agg #[.int .i64 a0_0, .int .u64 a0_1, .int .u64 a0_1, .int .i64 a0_3, .int .i64 a0_4, .int .i64 a0_5, .int .i64 a0_6, .int .i64 a0_7]] rfl (by (try simp only [List.map_toArray, List.map_cons, List.map_nil]); first | done | rfl | (simp only [List.length_drop, List.length_take]; rfl)) ?_; (with_reducible refine (call_Check.calls a0_0 a0_1 a0_1 a0_3 a0_4 a0_5 a0_6 a0_7 t324 _ A301.out).mono ?_); rintro e w310 ⟨rfl, hb⟩; refine ⟨_, rfl, ?_⟩; have n2_ := Aside0.mk (below_step (by repeat (first | (with_reducible first | exact HB.out | apply below_alloc | apply pw_below_drewN | apply below_drew1 | refine below_set ?_ GE273.out | refine below_set ?_ GE277.out) | exact HB.out)) hb); clear HB; have HB := n2_; clear n2_; (try clear hb)) | ((with_reducible refine gate_callee (f := 13) rfl ?_); refine goesL_ (some 89) rfl rfl Try.func13 (by kernel_rfl) rfl #[.int .i64 t324] rfl (by (try simp only [List.map_toArray, List.map_cons, List.map_nil]); first | done | rfl | (simp only [List.length_drop, List.length_take]; rfl)) ?_; (with_reducible refine (garrisonlaw15_num.calls t324 t325 _ A302.out).mono ?_); rintro e w' ⟨rfl, ⟨nd, rfl⟩⟩; refine ⟨_, rfl, ?_⟩) | (go_at_call 8; (with_reducible refine (garrisonlaw15_live.calls  t326 _ A304.out).mono ?_); rintro e w311 ⟨rfl, hb⟩; have n2_ := Aside0.mk (below_step (by repeat (first | (with_reducible first | exact HB.out | apply below_alloc | apply pw_below_drewN | apply below_drew1 | refine below_set ?_ GE273.out | refine below_set ?_ GE277.out) | exact HB.out)) hb); clear HB; have HB := n2_; clear n2_; (try clear hb)))
              go_ret
              exact ⟨by first | rfl | (simp [errW_none, errW_some] <;> rfl) | (simp [*, errW_none, errW_some] <;> rfl), by repeat (first | (with_reducible first | exact HB.out | apply below_alloc | apply pw_below_drewN | apply below_drew1 | refine below_set ?_ GE273.out | refine below_set ?_ GE277.out) | exact HB.out)⟩
             ·rw [if_neg c303] at H
              have c303b0 : decide (a1 < 4) = false := decide_eq_false c303
              clear c303
              by_cases c312 : t325 = 0
              ·rw [if_pos c312] at H
               have c312b0 : (t325 == 0) = true := beq_iff_eq.mpr c312
               have c312b1 : (t325 != 0) = false := bne_eq_false_iff_eq.mpr c312
               clear c312
               replace H := Option.bind_eq_some_iff.mp H
               obtain ⟨t327, A3130, H⟩ := H
               (try dsimp only at H)
               have A313 := Aside0.mk A3130
               clear A3130
               obtain rfl := Option.some.inj H
               go_wp2_with (first | ((with_reducible refine gate_callee (f := 14) rfl ?_); refine goesL_ (some 88) rfl rfl Try.func14 (by kernel_rfl) rfl #[.agg #[.int .i64 a0_0, .int .u64 a0_1, .int .u64 a0_1, .int .i64 a0_3, .int .i64 a0_4, .int .i64 a0_5, .int .i64 a0_6, .int .i64 a0_7]] rfl (by (try simp only [List.map_toArray, List.map_cons, List.map_nil]); first | done | rfl | (simp only [List.length_drop, List.length_take]; rfl)) ?_; (with_reducible refine (call_Check.calls a0_0 a0_1 a0_1 a0_3 a0_4 a0_5 a0_6 a0_7 t324 _ A301.out).mono ?_); rintro e w319 ⟨rfl, hb⟩; refine ⟨_, rfl, ?_⟩; have n2_ := Aside0.mk (below_step (by repeat (first | (with_reducible first | exact HB.out | apply below_alloc | apply pw_below_drewN | apply below_drew1 | refine below_set ?_ GE273.out | refine below_set ?_ GE277.out) | exact HB.out)) hb); clear HB; have HB := n2_; clear n2_; (try clear hb)) | ((with_reducible refine gate_callee (f := 13) rfl ?_); refine goesL_ (some 89) rfl rfl Try.func13 (by kernel_rfl) rfl #[.int .i64 t324] rfl (by (try simp only [List.map_toArray, List.map_cons, List.map_nil]); first | done | rfl | (simp only [List.length_drop, List.length_take]; rfl)) ?_; (with_reducible refine (garrisonlaw15_num.calls t324 t325 _ A302.out).mono ?_); rintro e w' ⟨rfl, ⟨nd, rfl⟩⟩; refine ⟨_, rfl, ?_⟩) | (go_at_call 8; (with_reducible refine (garrisonlaw15_live.calls  t327 _ A313.out).mono ?_); rintro e w320 ⟨rfl, hb⟩; have n2_ := Aside0.mk (below_step (by repeat (first | (with_reducible first | exact HB.out | apply below_alloc | apply pw_below_drewN | apply below_drew1 | refine below_set ?_ GE273.out | refine below_set ?_ GE277.out) | exact HB.out)) hb); clear HB; have HB := n2_; clear n2_; (try clear hb)))
               go_ret
               exact ⟨by first | rfl | (simp [errW_none, errW_some] <;> rfl) | (simp [*, errW_none, errW_some] <;> rfl), by repeat (first | (with_reducible first | exact HB.out | apply below_alloc | apply pw_below_drewN | apply below_drew1 | refine below_set ?_ GE273.out | refine below_set ?_ GE277.out) | exact HB.out)⟩
              ·rw [if_neg c312] at H
               have c312b0 : (t325 == 0) = false := beq_eq_false_iff_ne.mpr c312
               have c312b1 : (t325 != 0) = true := bne_iff_ne.mpr c312
               exact absurd ((Option.some.inj H).trans hr_.out) (by decide)
            ·rw [if_neg c300] at H
             have c300b0 : (a0_0 == 8) = false := beq_eq_false_iff_ne.mpr c300
             have c300b1 : (a0_0 != 8) = true := bne_iff_ne.mpr c300
             replace H := Option.bind_eq_some_iff.mp H
             obtain ⟨t328, A3210, H⟩ := H
             (try dsimp only at H)
             have A321 := Aside0.mk A3210
             clear A3210
             replace H := Option.bind_eq_some_iff.mp H
             obtain ⟨t329, A3220, H⟩ := H
             (try dsimp only at H)
             have A322 := Aside0.mk A3220
             clear A3220
             by_cases c323 : a0_0 = 9
             ·rw [if_pos c323] at H
              have c323b0 : (a0_0 == 9) = true := beq_iff_eq.mpr c323
              have c323b1 : (a0_0 != 9) = false := bne_eq_false_iff_eq.mpr c323
              clear c323
              by_cases c324 : a1 < 4
              ·rw [if_pos c324] at H
               have c324b0 : decide (a1 < 4) = true := decide_eq_true c324
               clear c324
               replace H := Option.bind_eq_some_iff.mp H
               obtain ⟨t330, A3250, H⟩ := H
               (try dsimp only at H)
               have A325 := Aside0.mk A3250
               clear A3250
               obtain rfl := Option.some.inj H
               go_wp2_with (first | ((with_reducible refine gate_callee (f := 14) rfl ?_); refine goesL_ (some 88) rfl rfl Try.func14 (by kernel_rfl) rfl #[.agg #[.int .i64 a0_0, .int .u64 a0_1, .int .u64 a0_1, .int .i64 a0_3, .int .i64 a0_4, .int .i64 a0_5, .int .i64 a0_6, .int .i64 a0_7]] rfl (by (try simp only [List.map_toArray, List.map_cons, List.map_nil]); first | done | rfl | (simp only [List.length_drop, List.length_take]; rfl)) ?_; (with_reducible refine (call_Check.calls a0_0 a0_1 a0_1 a0_3 a0_4 a0_5 a0_6 a0_7 t328 _ A321.out).mono ?_); rintro e w331 ⟨rfl, hb⟩; refine ⟨_, rfl, ?_⟩; have n2_ := Aside0.mk (below_step (by repeat (first | (with_reducible first | exact HB.out | apply below_alloc | apply pw_below_drewN | apply below_drew1 | refine below_set ?_ GE273.out | refine below_set ?_ GE277.out) | exact HB.out)) hb); clear HB; have HB := n2_; clear n2_; (try clear hb)) | ((with_reducible refine gate_callee (f := 13) rfl ?_); refine goesL_ (some 89) rfl rfl Try.func13 (by kernel_rfl) rfl #[.int .i64 t328] rfl (by (try simp only [List.map_toArray, List.map_cons, List.map_nil]); first | done | rfl | (simp only [List.length_drop, List.length_take]; rfl)) ?_; (with_reducible refine (garrisonlaw15_num.calls t328 t329 _ A322.out).mono ?_); rintro e w' ⟨rfl, ⟨nd, rfl⟩⟩; refine ⟨_, rfl, ?_⟩) | (go_at_call 8; (with_reducible refine (garrisonlaw15_live.calls  t330 _ A325.out).mono ?_); rintro e w332 ⟨rfl, hb⟩; have n2_ := Aside0.mk (below_step (by repeat (first | (with_reducible first | exact HB.out | apply below_alloc | apply pw_below_drewN | apply below_drew1 | refine below_set ?_ GE273.out | refine below_set ?_ GE277.out) | exact HB.out)) hb); clear HB; have HB := n2_; clear n2_; (try clear hb)))
               go_ret
               exact ⟨by first | rfl | (simp [errW_none, errW_some] <;> rfl) | (simp [*, errW_none, errW_some] <;> rfl), by repeat (first | (with_reducible first | exact HB.out | apply below_alloc | apply pw_below_drewN | apply below_drew1 | refine below_set ?_ GE273.out | refine below_set ?_ GE277.out) | exact HB.out)⟩
              ·rw [if_neg c324] at H
               have c324b0 : decide (a1 < 4) = false := decide_eq_false c324
               clear c324
               by_cases c333 : t329 = 0
               ·rw [if_pos c333] at H
                have c333b0 : (t329 == 0) = true := beq_iff_eq.mpr c333
                have c333b1 : (t329 != 0) = false := bne_eq_false_iff_eq.mpr c333
                clear c333
                replace H := Option.bind_eq_some_iff.mp H
                obtain ⟨t331, A3340, H⟩ := H
                (try dsimp only at H)
                have A334 := Aside0.mk A3340
                clear A3340
                obtain rfl := Option.some.inj H
                go_wp2_with (first | ((with_reducible refine gate_callee (f := 14) rfl ?_); refine goesL_ (some 88) rfl rfl Try.func14 (by kernel_rfl) rfl #[.agg #[.int .i64 a0_0, .int .u64 a0_1, .int .u64 a0_1, .int .i64 a0_3, .int .i64 a0_4, .int .i64 a0_5, .int .i64 a0_6, .int .i64 a0_7]] rfl (by (try simp only [List.map_toArray, List.map_cons, List.map_nil]); first | done | rfl | (simp only [List.length_drop, List.length_take]; rfl)) ?_; (with_reducible refine (call_Check.calls a0_0 a0_1 a0_1 a0_3 a0_4 a0_5 a0_6 a0_7 t328 _ A321.out).mono ?_); rintro e w340 ⟨rfl, hb⟩; refine ⟨_, rfl, ?_⟩; have n2_ := Aside0.mk (below_step (by repeat (first | (with_reducible first | exact HB.out | apply below_alloc | apply pw_below_drewN | apply below_drew1 | refine below_set ?_ GE273.out | refine below_set ?_ GE277.out) | exact HB.out)) hb); clear HB; have HB := n2_; clear n2_; (try clear hb)) | ((with_reducible refine gate_callee (f := 13) rfl ?_); refine goesL_ (some 89) rfl rfl Try.func13 (by kernel_rfl) rfl #[.int .i64 t328] rfl (by (try simp only [List.map_toArray, List.map_cons, List.map_nil]); first | done | rfl | (simp only [List.length_drop, List.length_take]; rfl)) ?_; (with_reducible refine (garrisonlaw15_num.calls t328 t329 _ A322.out).mono ?_); rintro e w' ⟨rfl, ⟨nd, rfl⟩⟩; refine ⟨_, rfl, ?_⟩) | (go_at_call 8; (with_reducible refine (garrisonlaw15_live.calls  t331 _ A334.out).mono ?_); rintro e w341 ⟨rfl, hb⟩; have n2_ := Aside0.mk (below_step (by repeat (first | (with_reducible first | exact HB.out | apply below_alloc | apply pw_below_drewN | apply below_drew1 | refine below_set ?_ GE273.out | refine below_set ?_ GE277.out) | exact HB.out)) hb); clear HB; have HB := n2_; clear n2_; (try clear hb)))
                go_ret
                exact ⟨by first | rfl | (simp [errW_none, errW_some] <;> rfl) | (simp [*, errW_none, errW_some] <;> rfl), by repeat (first | (with_reducible first | exact HB.out | apply below_alloc | apply pw_below_drewN | apply below_drew1 | refine below_set ?_ GE273.out | refine below_set ?_ GE277.out) | exact HB.out)⟩
               ·rw [if_neg c333] at H
                have c333b0 : (t329 == 0) = false := beq_eq_false_iff_ne.mpr c333
                have c333b1 : (t329 != 0) = true := bne_iff_ne.mpr c333
                exact absurd ((Option.some.inj H).trans hr_.out) (by decide)
             ·rw [if_neg c323] at H
              have c323b0 : (a0_0 == 9) = false := beq_eq_false_iff_ne.mpr c323
              have c323b1 : (a0_0 != 9) = true := bne_iff_ne.mpr c323
              by_cases c342 : t329 = 0
              ·rw [if_pos c342] at H
               have c342b0 : (t329 == 0) = true := beq_iff_eq.mpr c342
               have c342b1 : (t329 != 0) = false := bne_eq_false_iff_eq.mpr c342
               clear c342
               exact absurd ((Option.some.inj H).trans hr_.out) (by decide)
              ·rw [if_neg c342] at H
               have c342b0 : (t329 == 0) = false := beq_eq_false_iff_ne.mpr c342
               have c342b1 : (t329 != 0) = true := bne_iff_ne.mpr c342
               by_cases c343 : a1 < 4
               ·rw [if_pos c343] at H
                have c343b0 : decide (a1 < 4) = true := decide_eq_true c343
                clear c343
                replace H := Option.bind_eq_some_iff.mp H
                obtain ⟨t332, A3440, H⟩ := H
                (try dsimp only at H)
                have A344 := Aside0.mk A3440
                clear A3440
                obtain rfl := Option.some.inj H
                go_wp2_with (first | ((with_reducible refine gate_callee (f := 14) rfl ?_); refine goesL_ (some 88) rfl rfl Try.func14 (by kernel_rfl) rfl #[.agg #[.int .i64 a0_0, .int .u64 a0_1, .int .u64 a0_1, .int .i64 a0_3, .int .i64 a0_4, .int .i64 a0_5, .int .i64 a0_6, .int .i64 a0_7]] rfl (by (try simp only [List.map_toArray, List.map_cons, List.map_nil]); first | done | rfl | (simp only [List.length_drop, List.length_take]; rfl)) ?_; (with_reducible refine (call_Check.calls a0_0 a0_1 a0_1 a0_3 a0_4 a0_5 a0_6 a0_7 t328 _ A321.out).mono ?_); rintro e w350 ⟨rfl, hb⟩; refine ⟨_, rfl, ?_⟩; have n2_ := Aside0.mk (below_step (by repeat (first | (with_reducible first | exact HB.out | apply below_alloc | apply pw_below_drewN | apply below_drew1 | refine below_set ?_ GE273.out | refine below_set ?_ GE277.out) | exact HB.out)) hb); clear HB; have HB := n2_; clear n2_; (try clear hb)) | ((with_reducible refine gate_callee (f := 13) rfl ?_); refine goesL_ (some 89) rfl rfl Try.func13 (by kernel_rfl) rfl #[.int .i64 t328] rfl (by (try simp only [List.map_toArray, List.map_cons, List.map_nil]); first | done | rfl | (simp only [List.length_drop, List.length_take]; rfl)) ?_; (with_reducible refine (garrisonlaw15_num.calls t328 t329 _ A322.out).mono ?_); rintro e w' ⟨rfl, ⟨nd, rfl⟩⟩; refine ⟨_, rfl, ?_⟩) | (go_at_call 8; (with_reducible refine (garrisonlaw15_live.calls  t332 _ A344.out).mono ?_); rintro e w351 ⟨rfl, hb⟩; have n2_ := Aside0.mk (below_step (by repeat (first | (with_reducible first | exact HB.out | apply below_alloc | apply pw_below_drewN | apply below_drew1 | refine below_set ?_ GE273.out | refine below_set ?_ GE277.out) | exact HB.out)) hb); clear HB; have HB := n2_; clear n2_; (try clear hb)))
                go_ret
                exact ⟨by first | rfl | (simp [errW_none, errW_some] <;> rfl) | (simp [*, errW_none, errW_some] <;> rfl), by repeat (first | (with_reducible first | exact HB.out | apply below_alloc | apply pw_below_drewN | apply below_drew1 | refine below_set ?_ GE273.out | refine below_set ?_ GE277.out) | exact HB.out)⟩
               ·rw [if_neg c343] at H
                have c343b0 : decide (a1 < 4) = false := decide_eq_false c343
                clear c343
                replace H := Option.bind_eq_some_iff.mp H
                obtain ⟨t333, A3520, H⟩ := H
                (try dsimp only at H)
                have A352 := Aside0.mk A3520
                clear A3520
                obtain rfl := Option.some.inj H
                go_wp2_with (first | ((with_reducible refine gate_callee (f := 14) rfl ?_); refine goesL_ (some 88) rfl rfl Try.func14 (by kernel_rfl) rfl #[.agg #[.int .i64 a0_0, .int .u64 a0_1, .int .u64 a0_1, .int .i64 a0_3, .int .i64 a0_4, .int .i64 a0_5, .int .i64 a0_6, .int .i64 a0_7]] rfl (by (try simp only [List.map_toArray, List.map_cons, List.map_nil]); first | done | rfl | (simp only [List.length_drop, List.length_take]; rfl)) ?_; (with_reducible refine (call_Check.calls a0_0 a0_1 a0_1 a0_3 a0_4 a0_5 a0_6 a0_7 t328 _ A321.out).mono ?_); rintro e w358 ⟨rfl, hb⟩; refine ⟨_, rfl, ?_⟩; have n2_ := Aside0.mk (below_step (by repeat (first | (with_reducible first | exact HB.out | apply below_alloc | apply pw_below_drewN | apply below_drew1 | refine below_set ?_ GE273.out | refine below_set ?_ GE277.out) | exact HB.out)) hb); clear HB; have HB := n2_; clear n2_; (try clear hb)) | ((with_reducible refine gate_callee (f := 13) rfl ?_); refine goesL_ (some 89) rfl rfl Try.func13 (by kernel_rfl) rfl #[.int .i64 t328] rfl (by (try simp only [List.map_toArray, List.map_cons, List.map_nil]); first | done | rfl | (simp only [List.length_drop, List.length_take]; rfl)) ?_; (with_reducible refine (garrisonlaw15_num.calls t328 t329 _ A322.out).mono ?_); rintro e w' ⟨rfl, ⟨nd, rfl⟩⟩; refine ⟨_, rfl, ?_⟩) | (go_at_call 8; (with_reducible refine (garrisonlaw15_live.calls  t333 _ A352.out).mono ?_); rintro e w359 ⟨rfl, hb⟩; have n2_ := Aside0.mk (below_step (by repeat (first | (with_reducible first | exact HB.out | apply below_alloc | apply pw_below_drewN | apply below_drew1 | refine below_set ?_ GE273.out | refine below_set ?_ GE277.out) | exact HB.out)) hb); clear HB; have HB := n2_; clear n2_; (try clear hb)))
                go_ret
                exact ⟨by first | rfl | (simp [errW_none, errW_some] <;> rfl) | (simp [*, errW_none, errW_some] <;> rfl), by repeat (first | (with_reducible first | exact HB.out | apply below_alloc | apply pw_below_drewN | apply below_drew1 | refine below_set ?_ GE273.out | refine below_set ?_ GE277.out) | exact HB.out)⟩

def garrisonlaw15_CallOnly.Pure : Prop := ∀ (a0_0 : Int) (a0_1 : Int) (a0_2 : Int) (a0_3 : Int) (a0_4 : Int) (a0_5 : Int) (a0_6 : Int) (a0_7 : Int) (a1 : Int) (a2 : Int), ((Lit.int .i64 (⟨a0_0, a0_1, a0_2, a0_3, a0_4, a0_5, a0_6, a0_7⟩ : S24).f0).wf = true ∧ ((Lit.int .u64 (⟨a0_0, a0_1, a0_2, a0_3, a0_4, a0_5, a0_6, a0_7⟩ : S24).f1).wf = true ∧ ((Lit.int .u64 (⟨a0_0, a0_1, a0_2, a0_3, a0_4, a0_5, a0_6, a0_7⟩ : S24).f2).wf = true ∧ ((Lit.int .i64 (⟨a0_0, a0_1, a0_2, a0_3, a0_4, a0_5, a0_6, a0_7⟩ : S24).f3).wf = true ∧ ((Lit.int .i64 (⟨a0_0, a0_1, a0_2, a0_3, a0_4, a0_5, a0_6, a0_7⟩ : S24).f4).wf = true ∧ ((Lit.int .i64 (⟨a0_0, a0_1, a0_2, a0_3, a0_4, a0_5, a0_6, a0_7⟩ : S24).f5).wf = true ∧ ((Lit.int .i64 (⟨a0_0, a0_1, a0_2, a0_3, a0_4, a0_5, a0_6, a0_7⟩ : S24).f6).wf = true ∧ (Lit.int .i64 (⟨a0_0, a0_1, a0_2, a0_3, a0_4, a0_5, a0_6, a0_7⟩ : S24).f7).wf = true))))))) → (Lit.int .i64 a1).wf = true → (Lit.int .i64 a2).wf = true → ∃ k, garrisonlaw15_CallOnly.f k a0_0 a0_1 a0_2 a0_3 a0_4 a0_5 a0_6 a0_7 a1 a2 = some true
theorem garrisonlaw15_CallOnly.walk : True := trivial

end Go.Proofs.Ytikbldmlfjckkaa.P
