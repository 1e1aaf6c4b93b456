-- Written by a program of this session (wip/tools/myprint.py) out of the translation.
import Derived.Test.YthifdmelanbgmaaDoorPx0
import Derived.Test.YthifdmelanbgmaaDoorPx4
import Derived.Test.YthifdmelanbgmaaDoorPx6
import Derived.Test.YthifdmelanbgmaaDoorGCheck
import Derived.Test.YthifdmelanbgmaaDoorGFill
import Derived.Test.YthifdmelanbgmaaDoorGLive
namespace Go.Proofs.YthifdmelanbgmaaDoor.Given
end Go.Proofs.YthifdmelanbgmaaDoor.Given
namespace Go.Proofs.YthifdmelanbgmaaDoor.P
open Go.Proofs.YthifdmelanbgmaaDoor.Given
open Go.RowKit Go.Proofs.YthifdmelanbgmaaDoorW.PrintWords Go.Proofs.YthifdmelanbgmaaDoorW.PrintLast Go.Proofs.YthifdmelanbgmaaDoorW.PrintMore
attribute [local go_sem] max2_int min2_int max_two min_two max_three min_three max_four min_four u64_signed   -- for this text's walks alone
set_option linter.unusedVariables false
set_option linter.unusedSimpArgs false

/-! ### garrisonlaw05_ScriptSums: function 9 -/
mutual
def garrisonlaw05_ScriptSums.j0 : Nat → List Int → Int → Int → Int → Bool → Option (Bool)
  | 0, _, _, _, _, _ => none
  | k + 1, x0, x1, x2, x3, x38 => if x38 = true then ((garrisonlaw05_live.f).bind fun t245 => (some t245)) else (garrisonlaw05_ScriptSums.l0 k x0 x1 x2 x3 0 0)
def garrisonlaw05_ScriptSums.l0 : Nat → List Int → Int → Int → Int → Int → Int → Option (Bool)
  | 0, _, _, _, _, _, _ => none
  | k + 1, x0, x1, x2, x3, x9, x10 => if x10 < x1 then ((script_Count.f k x0 x10).bind fun t246 => (garrisonlaw05_ScriptSums.l0 k x0 x1 x2 x3 (wrap64 (x9 + t246)) (wrap64 (x10 + 1)))) else ((script_Fill.f k x0 x1 x2).bind fun t247 => (if x9 = (x0.length : Int) then (if (t247.length : Int) = (wrap64 ((x0.length : Int) + (wrap64 (x1 * x2)))) then ((script_Count.f k t247 x3).bind fun t250 => ((script_Count.f k x0 x3).bind fun t251 => (if t250 = (wrap64 (t251 + x2)) then ((script_Check.f t247 x1).bind fun t252 => ((garrisonlaw05_num.f t252).bind fun t253 => (if t253 = 0 then ((garrisonlaw05_live.f).bind fun t254 => (some t254)) else (some false)))) else (some false)))) else (some false)) else (some false)))
end
def garrisonlaw05_ScriptSums.f (k : Nat) (l0 : List Int) (a1 : Int) (a2 : Int) (a3 : Int) : Option (Bool) := if (l0.length : Int) > 150 then (garrisonlaw05_ScriptSums.j0 k l0 a1 a2 a3 true) else ((script_Check.f l0 a1).bind fun t243 => ((garrisonlaw05_num.f t243).bind fun t244 => (if t244 = 0 then (if a2 < 1 then (garrisonlaw05_ScriptSums.j0 k l0 a1 a2 a3 true) else (if a2 > 100 then (garrisonlaw05_ScriptSums.j0 k l0 a1 a2 a3 true) else (if a3 < 0 then (garrisonlaw05_ScriptSums.j0 k l0 a1 a2 a3 true) else (garrisonlaw05_ScriptSums.j0 k l0 a1 a2 a3 (decide (a3 ≥ a1)))))) else (garrisonlaw05_ScriptSums.j0 k l0 a1 a2 a3 true))))
theorem garrisonlaw05_ScriptSums.mono_l : ∀ k, (∀ y0 y1 y2 y3 y4, LeO (garrisonlaw05_ScriptSums.j0 k y0 y1 y2 y3 y4) (garrisonlaw05_ScriptSums.j0 (k + 1) y0 y1 y2 y3 y4)) ∧ (∀ y0 y1 y2 y3 y4 y5, LeO (garrisonlaw05_ScriptSums.l0 k y0 y1 y2 y3 y4 y5) (garrisonlaw05_ScriptSums.l0 (k + 1) y0 y1 y2 y3 y4 y5))
  | 0 => ⟨fun _ _ _ _ _ r h => by simp [garrisonlaw05_ScriptSums.j0] at h, fun _ _ _ _ _ _ r h => by simp [garrisonlaw05_ScriptSums.l0] at h⟩
  | k + 1 => by
    obtain ⟨ih0, ih1⟩ := garrisonlaw05_ScriptSums.mono_l k
    refine ⟨?_, ?_⟩
    · intro y0 y1 y2 y3 y4
      unfold garrisonlaw05_ScriptSums.j0
      repeat' first
      | (with_reducible exact ih0 _ _ _ _ _)
      | (with_reducible exact ih1 _ _ _ _ _ _)
      | (with_reducible exact script_Count.mono _ _ _)
      | (with_reducible exact script_Fill.mono _ _ _ _)
      | (with_reducible exact LeO.refl _)
      | (with_reducible exact LeO.none _)
      | (with_reducible refine LeO.ite ?_ ?_)
      | (with_reducible refine LeO.bind ?_ (fun _ => ?_))
      | exact ih0 _ _ _ _ _
      | exact ih1 _ _ _ _ _ _
      | exact script_Count.mono _ _ _
      | exact script_Fill.mono _ _ _ _
      | exact LeO.none _
      | refine LeO.ite ?_ ?_
      | refine LeO.bind ?_ (fun _ => ?_)
    · intro y0 y1 y2 y3 y4 y5
      unfold garrisonlaw05_ScriptSums.l0
      repeat' first
      | (with_reducible exact ih0 _ _ _ _ _)
      | (with_reducible exact ih1 _ _ _ _ _ _)
      | (with_reducible exact script_Count.mono _ _ _)
      | (with_reducible exact script_Fill.mono _ _ _ _)
      | (with_reducible exact LeO.refl _)
      | (with_reducible exact LeO.none _)
      | (with_reducible refine LeO.ite ?_ ?_)
      | (with_reducible refine LeO.bind ?_ (fun _ => ?_))
      | exact ih0 _ _ _ _ _
      | exact ih1 _ _ _ _ _ _
      | exact script_Count.mono _ _ _
      | exact script_Fill.mono _ _ _ _
      | exact LeO.none _
      | refine LeO.ite ?_ ?_
      | refine LeO.bind ?_ (fun _ => ?_)
theorem garrisonlaw05_ScriptSums.mono : ∀ a0 a1 a2 a3 k, LeO (garrisonlaw05_ScriptSums.f k a0 a1 a2 a3) (garrisonlaw05_ScriptSums.f (k + 1) a0 a1 a2 a3) := by
  intro a0 a1 a2 a3 k
  obtain ⟨ih0, ih1⟩ := garrisonlaw05_ScriptSums.mono_l k
  unfold garrisonlaw05_ScriptSums.f
  repeat' first
      | (with_reducible exact ih0 _ _ _ _ _)
      | (with_reducible exact ih1 _ _ _ _ _ _)
      | (with_reducible exact script_Count.mono _ _ _)
      | (with_reducible exact script_Fill.mono _ _ _ _)
      | (with_reducible exact LeO.refl _)
      | (with_reducible exact LeO.none _)
      | (with_reducible refine LeO.ite ?_ ?_)
      | (with_reducible refine LeO.bind ?_ (fun _ => ?_))
      | exact ih0 _ _ _ _ _
      | exact ih1 _ _ _ _ _ _
      | exact script_Count.mono _ _ _
      | exact script_Fill.mono _ _ _ _
      | exact LeO.none _
      | refine LeO.ite ?_ ?_
      | refine LeO.bind ?_ (fun _ => ?_)
set_option maxHeartbeats 8000000 in
set_option maxRecDepth 100000 in
theorem garrisonlaw05_ScriptSums.calls (k : Nat) (A0 : Option Addr) (c0 : Nat) (l0 : List Int) (a1 : Int) (a2 : Int) (a3 : Int) (r : Bool) (w : World) (hG : GL w) (hr_ : Aside0 (r = true)) (hr0 : Kd.C (Kd.int .i64) w A0 l0.length l0) (hc0 : l0.length ≤ c0) (h : garrisonlaw05_ScriptSums.f k l0 a1 a2 a3 = some r) :
    Calls Tryd.prog 9 #[.slice A0 l0.length c0, .int .i64 a1, .int .i64 a2, .int .i64 a3] w fun e w' => e = .returned (.bool r) ∧ Below w.heap.size w w' := by
  have HR0 := Aside0.mk hr0
  have HC0 := Aside0.mk hc0
  clear hr0 hc0
  have HB := Aside0.mk (Below.refl w.heap.size w)
  have H : (if (l0.length : Int) > 150 then (garrisonlaw05_ScriptSums.j0 k l0 a1 a2 a3 true) else ((script_Check.f l0 a1).bind fun t243 => ((garrisonlaw05_num.f t243).bind fun t244 => (if t244 = 0 then (if a2 < 1 then (garrisonlaw05_ScriptSums.j0 k l0 a1 a2 a3 true) else (if a2 > 100 then (garrisonlaw05_ScriptSums.j0 k l0 a1 a2 a3 true) else (if a3 < 0 then (garrisonlaw05_ScriptSums.j0 k l0 a1 a2 a3 true) else (garrisonlaw05_ScriptSums.j0 k l0 a1 a2 a3 (decide (a3 ≥ a1)))))) else (garrisonlaw05_ScriptSums.j0 k l0 a1 a2 a3 true))))) = some r := h
  clear h
  have HC5 := Aside0.mk H
  clear H
  go_enter Tryd.func9, Tryd.ntmps9
  go_upto_region 1 with (fail)
  go_cut [38] (fun v38 wc => ∃ (kq : Nat) (x38_4 : Bool), v38 = .bool x38_4 ∧ Aside0 (garrisonlaw05_ScriptSums.j0 kq l0 a1 a2 a3 x38_4 = some r) ∧ Aside0 (kq ≤ k) ∧ Aside0 (Below w.heap.size w wc))
  case first =>
    have H := HC5.out
    clear HC5
    by_cases c6 : (l0.length : Int) > 150
    · rw [if_pos c6] at H
      have c6b0 : decide (150 < (l0.length : Int)) = true := decide_eq_true c6
      have c6b1 : decide (150 < l0.length) = true := decide_eq_true (by omega)
      clear c6
      (first | rw [c6b0] | (simp only [i64_w, i32_w]; rw [c6b0]) | skip)
      have H' := Aside0.mk H
      clear H
      go_wp2
      go_meet
      case rel => exact ⟨_, (true), (by first | rfl | (simp; done) | (simp [*]; done)), H', ⟨by first | omega | exact Nat.le_refl _⟩, ⟨by repeat (first | (with_reducible first | exact HB.out | apply below_alloc | apply pw_below_drewN | apply below_drew1) | exact HB.out)⟩⟩
    · rw [if_neg c6] at H
      have c6b0 : decide (150 < (l0.length : Int)) = false := decide_eq_false c6
      have c6b1 : decide (150 < l0.length) = false := decide_eq_false (by omega)
      clear c6
      (first | rw [c6b0] | (simp only [i64_w, i32_w]; rw [c6b0]) | skip)
      replace H := Option.bind_eq_some_iff.mp H
      obtain ⟨t243, A70, H⟩ := H
      replace H : ((garrisonlaw05_num.f t243).bind fun t244 => (if t244 = 0 then (if a2 < 1 then (garrisonlaw05_ScriptSums.j0 k l0 a1 a2 a3 true) else (if a2 > 100 then (garrisonlaw05_ScriptSums.j0 k l0 a1 a2 a3 true) else (if a3 < 0 then (garrisonlaw05_ScriptSums.j0 k l0 a1 a2 a3 true) else (garrisonlaw05_ScriptSums.j0 k l0 a1 a2 a3 (decide (a3 ≥ a1)))))) else (garrisonlaw05_ScriptSums.j0 k l0 a1 a2 a3 true))) = some r := H
      have A7 := Aside0.mk A70
      clear A70
      replace H := Option.bind_eq_some_iff.mp H
      obtain ⟨t244, A80, H⟩ := H
      replace H : (if t244 = 0 then (if a2 < 1 then (garrisonlaw05_ScriptSums.j0 k l0 a1 a2 a3 true) else (if a2 > 100 then (garrisonlaw05_ScriptSums.j0 k l0 a1 a2 a3 true) else (if a3 < 0 then (garrisonlaw05_ScriptSums.j0 k l0 a1 a2 a3 true) else (garrisonlaw05_ScriptSums.j0 k l0 a1 a2 a3 (decide (a3 ≥ a1)))))) else (garrisonlaw05_ScriptSums.j0 k l0 a1 a2 a3 true)) = some r := H
      have A8 := Aside0.mk A80
      clear A80
      by_cases c9 : t244 = 0
      · rw [if_pos c9] at H
        have c9b0 : (t244 == 0) = true := beq_iff_eq.mpr c9
        have c9b1 : (t244 != 0) = false := bne_eq_false_iff_eq.mpr c9
        clear c9
        by_cases c10 : a2 < 1
        · rw [if_pos c10] at H
          have c10b0 : decide (a2 < 1) = true := decide_eq_true c10
          clear c10
          have H' := Aside0.mk H
          clear H
          go_wp2_with (first | (go_at_call 14; (with_reducible refine (script_Check.calls _ _ l0 a1 t243 _ ?side1 ?side2 A7.out).mono ?_); (case side1 => repeat (first | exact (Kd.C_below HR0.out HB.out) | (with_reducible refine Kd.C_alloc ?_ _) | (with_reducible refine Kd.C_drewN ?_ _) | (with_reducible refine Kd.C_drew ?_))); (case side2 => exact HC0.out); rintro e w11 ⟨rfl, hb⟩; have n0_ := Aside0.mk (below_step (by repeat (first | (with_reducible first | exact HB.out | apply below_alloc | apply pw_below_drewN | apply below_drew1) | exact HB.out)) hb); clear HB; have HB := n0_; clear n0_; (try clear hb); (try clear hb2); (try clear hk); (try clear hi)) | (go_at_call 13; (with_reducible refine (garrisonlaw05_num.calls t243 t244 _ A8.out).mono ?_); rintro e w' ⟨rfl, ⟨nd, rfl⟩⟩))
          go_meet
          case rel => exact ⟨_, (true), (by first | rfl | (simp; done) | (simp [*]; done)), H', ⟨by first | omega | exact Nat.le_refl _⟩, ⟨by repeat (first | (with_reducible first | exact HB.out | apply below_alloc | apply pw_below_drewN | apply below_drew1) | exact HB.out)⟩⟩
        · rw [if_neg c10] at H
          have c10b0 : decide (a2 < 1) = false := decide_eq_false c10
          clear c10
          by_cases c12 : a2 > 100
          · rw [if_pos c12] at H
            have c12b0 : decide (100 < a2) = true := decide_eq_true c12
            clear c12
            have H' := Aside0.mk H
            clear H
            go_wp2_with (first | (go_at_call 14; (with_reducible refine (script_Check.calls _ _ l0 a1 t243 _ ?side1 ?side2 A7.out).mono ?_); (case side1 => repeat (first | exact (Kd.C_below HR0.out HB.out) | (with_reducible refine Kd.C_alloc ?_ _) | (with_reducible refine Kd.C_drewN ?_ _) | (with_reducible refine Kd.C_drew ?_))); (case side2 => exact HC0.out); rintro e w13 ⟨rfl, hb⟩; have n0_ := Aside0.mk (below_step (by repeat (first | (with_reducible first | exact HB.out | apply below_alloc | apply pw_below_drewN | apply below_drew1) | exact HB.out)) hb); clear HB; have HB := n0_; clear n0_; (try clear hb); (try clear hb2); (try clear hk); (try clear hi)) | (go_at_call 13; (with_reducible refine (garrisonlaw05_num.calls t243 t244 _ A8.out).mono ?_); rintro e w' ⟨rfl, ⟨nd, rfl⟩⟩))
            go_meet
            case rel => exact ⟨_, (true), (by first | rfl | (simp; done) | (simp [*]; done)), H', ⟨by first | omega | exact Nat.le_refl _⟩, ⟨by repeat (first | (with_reducible first | exact HB.out | apply below_alloc | apply pw_below_drewN | apply below_drew1) | exact HB.out)⟩⟩
          · rw [if_neg c12] at H
            have c12b0 : decide (100 < a2) = false := decide_eq_false c12
            clear c12
            by_cases c14 : a3 < 0
            · rw [if_pos c14] at H
              have c14b0 : decide (a3 < 0) = true := decide_eq_true c14
              clear c14
              have H' := Aside0.mk H
              clear H
              go_wp2_with (first | (go_at_call 14; (with_reducible refine (script_Check.calls _ _ l0 a1 t243 _ ?side1 ?side2 A7.out).mono ?_); (case side1 => repeat (first | exact (Kd.C_below HR0.out HB.out) | (with_reducible refine Kd.C_alloc ?_ _) | (with_reducible refine Kd.C_drewN ?_ _) | (with_reducible refine Kd.C_drew ?_))); (case side2 => exact HC0.out); rintro e w15 ⟨rfl, hb⟩; have n0_ := Aside0.mk (below_step (by repeat (first | (with_reducible first | exact HB.out | apply below_alloc | apply pw_below_drewN | apply below_drew1) | exact HB.out)) hb); clear HB; have HB := n0_; clear n0_; (try clear hb); (try clear hb2); (try clear hk); (try clear hi)) | (go_at_call 13; (with_reducible refine (garrisonlaw05_num.calls t243 t244 _ A8.out).mono ?_); rintro e w' ⟨rfl, ⟨nd, rfl⟩⟩))
              go_meet
              case rel => exact ⟨_, (true), (by first | rfl | (simp; done) | (simp [*]; done)), H', ⟨by first | omega | exact Nat.le_refl _⟩, ⟨by repeat (first | (with_reducible first | exact HB.out | apply below_alloc | apply pw_below_drewN | apply below_drew1) | exact HB.out)⟩⟩
            · rw [if_neg c14] at H
              have c14b0 : decide (a3 < 0) = false := decide_eq_false c14
              clear c14
              have H' := Aside0.mk H
              clear H
              go_wp2_with (first | (go_at_call 14; (with_reducible refine (script_Check.calls _ _ l0 a1 t243 _ ?side1 ?side2 A7.out).mono ?_); (case side1 => repeat (first | exact (Kd.C_below HR0.out HB.out) | (with_reducible refine Kd.C_alloc ?_ _) | (with_reducible refine Kd.C_drewN ?_ _) | (with_reducible refine Kd.C_drew ?_))); (case side2 => exact HC0.out); rintro e w16 ⟨rfl, hb⟩; have n0_ := Aside0.mk (below_step (by repeat (first | (with_reducible first | exact HB.out | apply below_alloc | apply pw_below_drewN | apply below_drew1) | exact HB.out)) hb); clear HB; have HB := n0_; clear n0_; (try clear hb); (try clear hb2); (try clear hk); (try clear hi)) | (go_at_call 13; (with_reducible refine (garrisonlaw05_num.calls t243 t244 _ A8.out).mono ?_); rintro e w' ⟨rfl, ⟨nd, rfl⟩⟩))
              go_meet
              case rel => exact ⟨_, (decide (a3 ≥ a1)), (by first | rfl | (simp; done) | (simp [*]; done)), H', ⟨by first | omega | exact Nat.le_refl _⟩, ⟨by repeat (first | (with_reducible first | exact HB.out | apply below_alloc | apply pw_below_drewN | apply below_drew1) | exact HB.out)⟩⟩
      · rw [if_neg c9] at H
        have c9b0 : (t244 == 0) = false := beq_eq_false_iff_ne.mpr c9
        have c9b1 : (t244 != 0) = true := bne_iff_ne.mpr c9
        have H' := Aside0.mk H
        clear H
        go_wp2_with (first | (go_at_call 14; (with_reducible refine (script_Check.calls _ _ l0 a1 t243 _ ?side1 ?side2 A7.out).mono ?_); (case side1 => repeat (first | exact (Kd.C_below HR0.out HB.out) | (with_reducible refine Kd.C_alloc ?_ _) | (with_reducible refine Kd.C_drewN ?_ _) | (with_reducible refine Kd.C_drew ?_))); (case side2 => exact HC0.out); rintro e w17 ⟨rfl, hb⟩; have n0_ := Aside0.mk (below_step (by repeat (first | (with_reducible first | exact HB.out | apply below_alloc | apply pw_below_drewN | apply below_drew1) | exact HB.out)) hb); clear HB; have HB := n0_; clear n0_; (try clear hb); (try clear hb2); (try clear hk); (try clear hi)) | (go_at_call 13; (with_reducible refine (garrisonlaw05_num.calls t243 t244 _ A8.out).mono ?_); rintro e w' ⟨rfl, ⟨nd, rfl⟩⟩))
        go_meet
        case rel => exact ⟨_, (true), (by first | rfl | (simp; done) | (simp [*]; done)), H', ⟨by first | omega | exact Nat.le_refl _⟩, ⟨by repeat (first | (with_reducible first | exact HB.out | apply below_alloc | apply pw_below_drewN | apply below_drew1) | exact HB.out)⟩⟩
  case rest =>
    clear HC5
    try clear c1
    try clear p2
    try clear c6
    try clear c6b0
    try clear c6b1
    try clear c9
    try clear c9b0
    try clear c9b1
    try clear c10
    try clear c10b0
    try clear c12
    try clear c12b0
    try clear c14
    try clear c14b0
    obtain ⟨kq, x38_4, rfl, HA, HJ4, HB⟩ := hcut
    cases kq with
    | zero => exact absurd HA.out (by simp [garrisonlaw05_ScriptSums.j0])
    | succ kj4 =>
      have H := HA.out
      clear HA
      simp only [garrisonlaw05_ScriptSums.j0] at H
      by_cases c18 : x38_4 = true
      · subst c18
        have H1 : ((garrisonlaw05_live.f).bind fun t245 => (some t245)) = some r := by rw [if_pos rfl] at H; exact H
        clear H
        have H := H1
        clear H1
        replace H := Option.bind_eq_some_iff.mp H
        obtain ⟨t245, A190, H⟩ := H
        replace H : (some t245) = some r := H
        have A19 := Aside0.mk A190
        clear A190
        obtain rfl := Option.some.inj H
        go_wp2_with (first | ((with_reducible refine gate_callee (f := 10) rfl ?_); refine goesL_ (some 39) rfl rfl Tryd.func10 (by kernel_rfl) rfl #[] rfl (by (try simp only [List.map_toArray, List.map_cons, List.map_nil]); first | done | rfl | (simp only [List.length_drop, List.length_take]; rfl)) ?_; (with_reducible refine (garrisonlaw05_live.calls  t245 _ ?side1 A19.out).mono ?_); (case side1 => exact GL.below hG (by repeat (first | (with_reducible first | exact HB.out | apply below_alloc | apply pw_below_drewN | apply below_drew1) | exact HB.out))); rintro e w20 ⟨rfl, hb⟩; refine ⟨_, rfl, ?_⟩; have n0_ := Aside0.mk (below_step (by repeat (first | (with_reducible first | exact HB.out | apply below_alloc | apply pw_below_drewN | apply below_drew1) | exact HB.out)) hb); clear HB; have HB := n0_; clear n0_; (try clear hb); (try clear hb2); (try clear hk); (try clear hi)))
        go_ret
        exact ⟨by first | rfl | (simp [errW_none, errW_some] <;> rfl) | (simp [*, errW_none, errW_some] <;> rfl), by repeat (first | (with_reducible first | exact HB.out | apply below_alloc | apply pw_below_drewN | apply below_drew1) | exact HB.out)⟩
      · replace c18 := Bool.eq_false_iff.mpr c18
        subst c18
        have H1 : (garrisonlaw05_ScriptSums.l0 kj4 l0 a1 a2 a3 0 0) = some r := by rw [if_neg (show ¬ (false = true) by decide)] at H; exact H
        clear H
        have H := H1
        clear H1
        have H' := Aside0.mk H
        clear H
        go_wp2
        go_loopg [9, 10] kj4 (fun kq v9 v10 w' => ∃ (x9_2 : Int) (x10_2 : Int), v9 = .int .i64 x9_2 ∧ v10 = .int .i64 x10_2 ∧ Aside0 (garrisonlaw05_ScriptSums.l0 kq l0 a1 a2 a3 x9_2 x10_2 = some r) ∧ Aside0 (kq ≤ kj4) ∧ Aside0 (Below w.heap.size w w'))
        case atStart => exact ⟨(0), (0), (by first | rfl | (simp; done) | (simp [*]; done)), (by first | rfl | (simp; done) | (simp [*]; done)), H', ⟨Nat.le_refl _⟩, ⟨by repeat (first | (with_reducible first | exact HB.out | apply below_alloc | apply pw_below_drewN | apply below_drew1) | exact HB.out)⟩⟩
        case round =>
          clear H'
          try clear c1
          try clear p2
          try clear c6
          try clear c6b0
          try clear c6b1
          try clear c9
          try clear c9b0
          try clear c9b1
          try clear c10
          try clear c10b0
          try clear c12
          try clear c12b0
          try clear c14
          try clear c14b0
          try clear c18
          try clear p2
          obtain ⟨x9_2, x10_2, rfl, rfl, HA, HK2, HB⟩ := hrel
          cases gk with
          | zero => exact absurd HA.out (by simp [garrisonlaw05_ScriptSums.l0])
          | succ k2 =>
            have H := HA.out
            clear HA
            simp only [garrisonlaw05_ScriptSums.l0] at H
            by_cases c21 : x10_2 < a1
            · rw [if_pos c21] at H
              have c21b0 : decide (x10_2 < a1) = true := decide_eq_true c21
              clear c21
              replace H := Option.bind_eq_some_iff.mp H
              obtain ⟨t246, A220, H⟩ := H
              replace H : (garrisonlaw05_ScriptSums.l0 k2 l0 a1 a2 a3 (wrap64 (x9_2 + t246)) (wrap64 (x10_2 + 1))) = some r := H
              have A22 := Aside0.mk A220
              clear A220
              have H' := Aside0.mk H
              clear H
              go_wp2_with (first | ((with_reducible refine gate_callee (f := 19) rfl ?_); refine goesL_ (some 48) rfl rfl Tryd.func19 (by kernel_rfl) rfl #[.slice A0 l0.length c0, .int .i64 x10_2] rfl (by (try simp only [List.map_toArray, List.map_cons, List.map_nil]); first | done | rfl | (simp only [List.length_drop, List.length_take]; rfl)) ?_; (with_reducible refine (script_Count.calls k2 _ _ l0 x10_2 t246 _ ?side1 ?side2 A22.out).mono ?_); (case side1 => repeat (first | exact (Kd.C_below HR0.out HB.out) | (with_reducible refine Kd.C_alloc ?_ _) | (with_reducible refine Kd.C_drewN ?_ _) | (with_reducible refine Kd.C_drew ?_))); (case side2 => exact HC0.out); rintro e w' ⟨rfl, ⟨nd, rfl⟩⟩; refine ⟨_, rfl, ?_⟩))
              go_roundg k2
              case measure => have := HJ4.out; have := HK2.out; omega
              case rel => exact ⟨(wrap64 (x9_2 + t246)), (wrap64 (x10_2 + 1)), (by first | rfl | (simp; done) | (simp [*]; done)), (by first | rfl | (simp; done) | (simp [*]; done)), H', ⟨by have := HJ4.out; have := HK2.out; omega⟩, ⟨by repeat (first | (with_reducible first | exact HB.out | apply below_alloc | apply pw_below_drewN | apply below_drew1) | exact HB.out)⟩⟩
            · rw [if_neg c21] at H
              have c21b0 : decide (x10_2 < a1) = false := decide_eq_false c21
              clear c21
              replace H := Option.bind_eq_some_iff.mp H
              obtain ⟨t247, A230, H⟩ := H
              replace H : (if x9_2 = (l0.length : Int) then (if (t247.length : Int) = (wrap64 ((l0.length : Int) + (wrap64 (a1 * a2)))) then ((script_Count.f k2 t247 a3).bind fun t250 => ((script_Count.f k2 l0 a3).bind fun t251 => (if t250 = (wrap64 (t251 + a2)) then ((script_Check.f t247 a1).bind fun t252 => ((garrisonlaw05_num.f t252).bind fun t253 => (if t253 = 0 then ((garrisonlaw05_live.f).bind fun t254 => (some t254)) else (some false)))) else (some false)))) else (some false)) else (some false)) = some r := H
              have A23 := Aside0.mk A230
              clear A230
              by_cases c24 : x9_2 = (l0.length : Int)
              · rw [if_pos c24] at H
                have c24b0 : (x9_2 == (l0.length : Int)) = true := beq_iff_eq.mpr c24
                have c24b1 : (x9_2 != (l0.length : Int)) = false := bne_eq_false_iff_eq.mpr c24
                clear c24
                by_cases c25 : (t247.length : Int) = (wrap64 ((l0.length : Int) + (wrap64 (a1 * a2))))
                · rw [if_pos c25] at H
                  have c25b0 : ((t247.length : Int) == (wrap64 ((l0.length : Int) + (wrap64 (a1 * a2))))) = true := beq_iff_eq.mpr c25
                  have c25b1 : ((t247.length : Int) != (wrap64 ((l0.length : Int) + (wrap64 (a1 * a2))))) = false := bne_eq_false_iff_eq.mpr c25
                  clear c25
                  replace H := Option.bind_eq_some_iff.mp H
                  obtain ⟨t250, A260, H⟩ := H
                  replace H : ((script_Count.f k2 l0 a3).bind fun t251 => (if t250 = (wrap64 (t251 + a2)) then ((script_Check.f t247 a1).bind fun t252 => ((garrisonlaw05_num.f t252).bind fun t253 => (if t253 = 0 then ((garrisonlaw05_live.f).bind fun t254 => (some t254)) else (some false)))) else (some false))) = some r := H
                  have A26 := Aside0.mk A260
                  clear A260
                  replace H := Option.bind_eq_some_iff.mp H
                  obtain ⟨t251, A270, H⟩ := H
                  replace H : (if t250 = (wrap64 (t251 + a2)) then ((script_Check.f t247 a1).bind fun t252 => ((garrisonlaw05_num.f t252).bind fun t253 => (if t253 = 0 then ((garrisonlaw05_live.f).bind fun t254 => (some t254)) else (some false)))) else (some false)) = some r := H
                  have A27 := Aside0.mk A270
                  clear A270
                  by_cases c28 : t250 = (wrap64 (t251 + a2))
                  · rw [if_pos c28] at H
                    have c28b0 : (t250 == (wrap64 (t251 + a2))) = true := beq_iff_eq.mpr c28
                    have c28b1 : (t250 != (wrap64 (t251 + a2))) = false := bne_eq_false_iff_eq.mpr c28
                    clear c28
                    replace H := Option.bind_eq_some_iff.mp H
                    obtain ⟨t252, A290, H⟩ := H
                    replace H : ((garrisonlaw05_num.f t252).bind fun t253 => (if t253 = 0 then ((garrisonlaw05_live.f).bind fun t254 => (some t254)) else (some false))) = some r := H
                    have A29 := Aside0.mk A290
                    clear A290
                    replace H := Option.bind_eq_some_iff.mp H
                    obtain ⟨t253, A300, H⟩ := H
                    replace H : (if t253 = 0 then ((garrisonlaw05_live.f).bind fun t254 => (some t254)) else (some false)) = some r := H
                    have A30 := Aside0.mk A300
                    clear A300
                    by_cases c31 : t253 = 0
                    · rw [if_pos c31] at H
                      have c31b0 : (t253 == 0) = true := beq_iff_eq.mpr c31
                      have c31b1 : (t253 != 0) = false := bne_eq_false_iff_eq.mpr c31
                      clear c31
                      replace H := Option.bind_eq_some_iff.mp H
                      obtain ⟨t254, A320, H⟩ := H
                      replace H : (some t254) = some r := H
                      have A32 := Aside0.mk A320
                      clear A320
                      obtain rfl := Option.some.inj H
                      go_wp2_with (first | ((with_reducible refine gate_callee (f := 27) rfl ?_); refine goesL_ (some 53) rfl rfl Tryd.func27 (by kernel_rfl) rfl #[.slice A0 l0.length c0, .int .i64 a1, .int .i64 a2] rfl (by (try simp only [List.map_toArray, List.map_cons, List.map_nil]); first | done | rfl | (simp only [List.length_drop, List.length_take]; rfl)) ?_; (with_reducible refine (script_Fill.calls k2 _ _ l0 a1 a2 t247 _ ?side1 ?side2 A23.out).mono ?_); (case side1 => repeat (first | exact (Kd.C_below HR0.out HB.out) | (with_reducible refine Kd.C_alloc ?_ _) | (with_reducible refine Kd.C_drewN ?_ _) | (with_reducible refine Kd.C_drew ?_))); (case side2 => exact HC0.out); rintro e w33 ⟨v248, rfl, ho0, hb⟩; refine ⟨_, rfl, ?_⟩; have n0_ := Aside0.mk (Kd.R_lower ho0 (below_size (by repeat (first | (with_reducible first | exact HB.out | apply below_alloc | apply pw_below_drewN | apply below_drew1) | exact HB.out)))); have n1_ := Aside0.mk (below_step (by repeat (first | (with_reducible first | exact HB.out | apply below_alloc | apply pw_below_drewN | apply below_drew1) | exact HB.out)) hb); clear HB; have HO249 := n0_; have HB := n1_; clear n0_ n1_; (try clear hb); (try clear hb2); (try clear hk); (try clear hi); (try clear ho0); obtain ⟨Ao34, co34, eo34⟩ := Kd.R_slice HO249.out; subst eo34) | (go_at_call 19; (with_reducible refine (script_Count.calls k2 _ _ t247 a3 t250 _ ?side1 ?side2 A26.out).mono ?_); (case side1 => repeat (first | exact (Kd.R_reads' HO249.out).2.2 | (with_reducible refine Kd.C_alloc ?_ _) | (with_reducible refine Kd.C_drewN ?_ _) | (with_reducible refine Kd.C_drew ?_))); (case side2 => exact (Kd.R_reads' HO249.out).2.1); rintro e w' ⟨rfl, ⟨nd, rfl⟩⟩) | (go_at_call 19; (with_reducible refine (script_Count.calls k2 _ _ l0 a3 t251 _ ?side1 ?side2 A27.out).mono ?_); (case side1 => repeat (first | exact (Kd.C_below HR0.out (by repeat (first | (with_reducible first | exact HB.out | apply below_alloc | apply pw_below_drewN | apply below_drew1) | exact HB.out))) | (with_reducible refine Kd.C_alloc ?_ _) | (with_reducible refine Kd.C_drewN ?_ _) | (with_reducible refine Kd.C_drew ?_))); (case side2 => exact HC0.out); rintro e w' ⟨rfl, ⟨nd, rfl⟩⟩) | (go_at_call 14; (with_reducible refine (script_Check.calls _ _ t247 a1 t252 _ ?side1 ?side2 A29.out).mono ?_); (case side1 => repeat (first | exact (Kd.R_reads' HO249.out).2.2 | (with_reducible refine Kd.C_alloc ?_ _) | (with_reducible refine Kd.C_drewN ?_ _) | (with_reducible refine Kd.C_drew ?_))); (case side2 => exact (Kd.R_reads' HO249.out).2.1); rintro e w35 ⟨rfl, hb⟩; have n0_ := Aside0.mk (Kd.R_below (by (with_reducible repeat (first | apply Kd.R_alloc | apply Kd.R_drewN | apply Kd.R_drew)); exact HO249.out) hb); have n1_ := Aside0.mk (below_step (by repeat (first | (with_reducible first | exact HB.out | apply below_alloc | apply pw_below_drewN | apply below_drew1) | exact HB.out)) hb); clear HO249; clear HB; have HO249 := n0_; have HB := n1_; clear n0_ n1_; (try clear hb); (try clear hb2); (try clear hk); (try clear hi)) | (go_at_call 13; (with_reducible refine (garrisonlaw05_num.calls t252 t253 _ A30.out).mono ?_); rintro e w' ⟨rfl, ⟨nd, rfl⟩⟩) | (go_at_call 10; (with_reducible refine (garrisonlaw05_live.calls  t254 _ ?side1 A32.out).mono ?_); (case side1 => exact GL.below hG (by repeat (first | (with_reducible first | exact HB.out | apply below_alloc | apply pw_below_drewN | apply below_drew1) | exact HB.out))); rintro e w36 ⟨rfl, hb⟩; have n0_ := Aside0.mk (Kd.R_below (by (with_reducible repeat (first | apply Kd.R_alloc | apply Kd.R_drewN | apply Kd.R_drew)); exact HO249.out) hb); have n1_ := Aside0.mk (below_step (by repeat (first | (with_reducible first | exact HB.out | apply below_alloc | apply pw_below_drewN | apply below_drew1) | exact HB.out)) hb); clear HO249; clear HB; have HO249 := n0_; have HB := n1_; clear n0_ n1_; (try clear hb); (try clear hb2); (try clear hk); (try clear hi)))
                      go_ret
                      exact ⟨by first | rfl | (simp [errW_none, errW_some] <;> rfl) | (simp [*, errW_none, errW_some] <;> rfl), by repeat (first | (with_reducible first | exact HB.out | apply below_alloc | apply pw_below_drewN | apply below_drew1) | exact HB.out)⟩
                    · rw [if_neg c31] at H
                      have c31b0 : (t253 == 0) = false := beq_eq_false_iff_ne.mpr c31
                      have c31b1 : (t253 != 0) = true := bne_iff_ne.mpr c31
                      exact absurd ((Option.some.inj H).trans hr_.out) (by decide)
                  · rw [if_neg c28] at H
                    have c28b0 : (t250 == (wrap64 (t251 + a2))) = false := beq_eq_false_iff_ne.mpr c28
                    have c28b1 : (t250 != (wrap64 (t251 + a2))) = true := bne_iff_ne.mpr c28
                    exact absurd ((Option.some.inj H).trans hr_.out) (by decide)
                · rw [if_neg c25] at H
                  have c25b0 : ((t247.length : Int) == (wrap64 ((l0.length : Int) + (wrap64 (a1 * a2))))) = false := beq_eq_false_iff_ne.mpr c25
                  have c25b1 : ((t247.length : Int) != (wrap64 ((l0.length : Int) + (wrap64 (a1 * a2))))) = true := bne_iff_ne.mpr c25
                  exact absurd ((Option.some.inj H).trans hr_.out) (by decide)
              · rw [if_neg c24] at H
                have c24b0 : (x9_2 == (l0.length : Int)) = false := beq_eq_false_iff_ne.mpr c24
                have c24b1 : (x9_2 != (l0.length : Int)) = true := bne_iff_ne.mpr c24
                exact absurd ((Option.some.inj H).trans hr_.out) (by decide)

/-- THE ONE PURE STATEMENT of garrisonlaw05_ScriptSums: yours. -/
def garrisonlaw05_ScriptSums.Pure : Prop := ∀ (l0 : List Int) (a1 : Int) (a2 : Int) (a3 : Int), l0.length ≤ maxLen → l0.length * 8 ≤ 140737488351232 → (∀ x ∈ l0, (Lit.int .i64 x).wf = true) → (Lit.int .i64 a1).wf = true → (Lit.int .i64 a2).wf = true → (Lit.int .i64 a3).wf = true → ∃ k, garrisonlaw05_ScriptSums.f k l0 a1 a2 a3 = some true
theorem garrisonlaw05_ScriptSums.walk (P : garrisonlaw05_ScriptSums.Pure) (a0 : Option Addr) (len0 cap0 : Nat) (z0 : List Int) (a1 : Int) (a2 : Int) (a3 : Int) (w : World) (hG : GL w) (w0 : (a0 = none ∧ len0 = 0 ∧ cap0 = 0 ∧ z0 = []) ∨ ∃ x, a0 = some x ∧ len0 ≤ cap0 ∧ cap0 ≤ maxLen ∧ z0.length = cap0 ∧ (∀ i, i < z0.length → w.cell? (x.add i) = some (.int .i64 (z0.getD i 0))) ∧ ∀ n ∈ z0, (Lit.int .i64 n).wf = true) (y0 : len0 * 8 ≤ 140737488351232) (w1 : (Lit.int .i64 a1).wf = true) (w2 : (Lit.int .i64 a2).wf = true) (w3 : (Lit.int .i64 a3).wf = true) :
    Calls Tryd.prog 9 #[.slice a0 len0 cap0, .int .i64 a1, .int .i64 a2, .int .i64 a3] w fun e w' => e = .returned (.bool true) ∧ Below w.heap.size w w' := by
  obtain ⟨l0, rfl, hr0, hm0, hw0, hc0⟩ := ReadsInt.ofRowC w0
  obtain ⟨k, h⟩ := P l0 a1 a2 a3 hm0 y0 hw0 w1 w2 w3
  refine (garrisonlaw05_ScriptSums.calls k _ _ l0 a1 a2 a3 true w hG ⟨rfl⟩ (Kd.C_of_reads (d := (0 : Int)) (h1 := fun _ => rfl) hr0) hc0 h).mono ?_
  rintro e w' ⟨rfl, hd⟩
  exact ⟨rfl, hd⟩

end Go.Proofs.YthifdmelanbgmaaDoor.P
