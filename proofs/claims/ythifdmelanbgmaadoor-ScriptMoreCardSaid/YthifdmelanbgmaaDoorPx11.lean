-- Written by a program of this session (wip/tools/myprint.py) out of the translation.
import Derived.Test.YthifdmelanbgmaaDoorPx0
import Derived.Test.YthifdmelanbgmaaDoorPx6
import Derived.Test.YthifdmelanbgmaaDoorGLive
namespace Go.Proofs.YthifdmelanbgmaaDoor.Given
end Go.Proofs.YthifdmelanbgmaaDoor.Given
namespace Go.Proofs.YthifdmelanbgmaaDoor.P
open Go.Proofs.YthifdmelanbgmaaDoor.Given
open Go.RowKit Go.Proofs.YthifdmelanbgmaaDoorW.PrintWords Go.Proofs.YthifdmelanbgmaaDoorW.PrintLast Go.Proofs.YthifdmelanbgmaaDoorW.PrintMore
attribute [local go_sem] max2_int min2_int max_two min_two max_three min_three max_four min_four u64_signed   -- for this text's walks alone
set_option linter.unusedVariables false
set_option linter.unusedSimpArgs false

/-! ### garrisonlaw05_ScriptMore: function 6 -/
mutual
def garrisonlaw05_ScriptMore.j0 : Nat → List Int → Int → Int → Int → Bool → Option (Bool)
  | 0, _, _, _, _, _ => none
  | k + 1, x0, x1, x2, x3, x36 => if x36 = true then ((garrisonlaw05_live.f).bind fun t179 => (some t179)) else ((script_Fair.f k x0 x1 x2).bind fun t180 => (if t180 = true then ((script_Fair.f k x0 x1 (wrap64 (x2 + x3))).bind fun t181 => (if t181 = true then ((script_Fair.f k x0 (mx (wrap64 (x1 - 1)) 0) x2).bind fun t182 => (garrisonlaw05_ScriptMore.j1 k x0 x1 x2 (!t182))) else (garrisonlaw05_ScriptMore.j1 k x0 x1 x2 true))) else (garrisonlaw05_ScriptMore.j1 k x0 x1 x2 false)))
def garrisonlaw05_ScriptMore.j1 : Nat → List Int → Int → Int → Bool → Option (Bool)
  | 0, _, _, _, _ => none
  | k + 1, x0, x1, x2, x59 => if x59 = true then (some false) else ((script_Window.f k x0 x1).bind fun t183 => (if t183 ≥ 1 then (if t183 ≤ (wrap64 ((x0.length : Int) + 1)) then ((script_Fair.f k x0 x1 t183).bind fun t184 => (if t184 = true then (if t183 = 1 then ((script_Fair.f k x0 x1 x2).bind fun t185 => (if (t185 == (decide (x2 ≥ t183))) = true then ((garrisonlaw05_live.f).bind fun t186 => (some t186)) else (some false))) else ((script_Fair.f k x0 x1 (wrap64 (t183 - 1))).bind fun t187 => (if t187 = true then (some false) else ((script_Fair.f k x0 x1 x2).bind fun t188 => (if (t188 == (decide (x2 ≥ t183))) = true then ((garrisonlaw05_live.f).bind fun t189 => (some t189)) else (some false)))))) else (some false))) else (some false)) else (some false)))
end
def garrisonlaw05_ScriptMore.f (k : Nat) (l0 : List Int) (a1 : Int) (a2 : Int) (a3 : Int) : Option (Bool) := if (l0.length : Int) > 150 then (garrisonlaw05_ScriptMore.j0 k l0 a1 a2 a3 true) else (if a1 < 0 then (garrisonlaw05_ScriptMore.j0 k l0 a1 a2 a3 true) else (if a1 > 64 then (garrisonlaw05_ScriptMore.j0 k l0 a1 a2 a3 true) else (if a2 < 1 then (garrisonlaw05_ScriptMore.j0 k l0 a1 a2 a3 true) else (if a2 > 1000 then (garrisonlaw05_ScriptMore.j0 k l0 a1 a2 a3 true) else (if a3 < 0 then (garrisonlaw05_ScriptMore.j0 k l0 a1 a2 a3 true) else (garrisonlaw05_ScriptMore.j0 k l0 a1 a2 a3 (decide (a3 > 1000))))))))
theorem garrisonlaw05_ScriptMore.mono_l : ∀ k, (∀ y0 y1 y2 y3 y4, LeO (garrisonlaw05_ScriptMore.j0 k y0 y1 y2 y3 y4) (garrisonlaw05_ScriptMore.j0 (k + 1) y0 y1 y2 y3 y4)) ∧ (∀ y0 y1 y2 y3, LeO (garrisonlaw05_ScriptMore.j1 k y0 y1 y2 y3) (garrisonlaw05_ScriptMore.j1 (k + 1) y0 y1 y2 y3))
  | 0 => ⟨fun _ _ _ _ _ r h => by simp [garrisonlaw05_ScriptMore.j0] at h, fun _ _ _ _ r h => by simp [garrisonlaw05_ScriptMore.j1] at h⟩
  | k + 1 => by
    obtain ⟨ih0, ih1⟩ := garrisonlaw05_ScriptMore.mono_l k
    refine ⟨?_, ?_⟩
    · intro y0 y1 y2 y3 y4
      unfold garrisonlaw05_ScriptMore.j0
      repeat' first
      | (with_reducible exact ih0 _ _ _ _ _)
      | (with_reducible exact ih1 _ _ _ _)
      | (with_reducible exact script_Fair.mono _ _ _ _)
      | (with_reducible exact script_Window.mono _ _ _)
      | (with_reducible exact LeO.refl _)
      | (with_reducible exact LeO.none _)
      | (with_reducible refine LeO.ite ?_ ?_)
      | (with_reducible refine LeO.bind ?_ (fun _ => ?_))
      | exact ih0 _ _ _ _ _
      | exact ih1 _ _ _ _
      | exact script_Fair.mono _ _ _ _
      | exact script_Window.mono _ _ _
      | exact LeO.none _
      | refine LeO.ite ?_ ?_
      | refine LeO.bind ?_ (fun _ => ?_)
    · intro y0 y1 y2 y3
      unfold garrisonlaw05_ScriptMore.j1
      repeat' first
      | (with_reducible exact ih0 _ _ _ _ _)
      | (with_reducible exact ih1 _ _ _ _)
      | (with_reducible exact script_Fair.mono _ _ _ _)
      | (with_reducible exact script_Window.mono _ _ _)
      | (with_reducible exact LeO.refl _)
      | (with_reducible exact LeO.none _)
      | (with_reducible refine LeO.ite ?_ ?_)
      | (with_reducible refine LeO.bind ?_ (fun _ => ?_))
      | exact ih0 _ _ _ _ _
      | exact ih1 _ _ _ _
      | exact script_Fair.mono _ _ _ _
      | exact script_Window.mono _ _ _
      | exact LeO.none _
      | refine LeO.ite ?_ ?_
      | refine LeO.bind ?_ (fun _ => ?_)
theorem garrisonlaw05_ScriptMore.mono : ∀ a0 a1 a2 a3 k, LeO (garrisonlaw05_ScriptMore.f k a0 a1 a2 a3) (garrisonlaw05_ScriptMore.f (k + 1) a0 a1 a2 a3) := by
  intro a0 a1 a2 a3 k
  obtain ⟨ih0, ih1⟩ := garrisonlaw05_ScriptMore.mono_l k
  unfold garrisonlaw05_ScriptMore.f
  repeat' first
      | (with_reducible exact ih0 _ _ _ _ _)
      | (with_reducible exact ih1 _ _ _ _)
      | (with_reducible exact script_Fair.mono _ _ _ _)
      | (with_reducible exact script_Window.mono _ _ _)
      | (with_reducible exact LeO.refl _)
      | (with_reducible exact LeO.none _)
      | (with_reducible refine LeO.ite ?_ ?_)
      | (with_reducible refine LeO.bind ?_ (fun _ => ?_))
      | exact ih0 _ _ _ _ _
      | exact ih1 _ _ _ _
      | exact script_Fair.mono _ _ _ _
      | exact script_Window.mono _ _ _
      | exact LeO.none _
      | refine LeO.ite ?_ ?_
      | refine LeO.bind ?_ (fun _ => ?_)
set_option maxHeartbeats 8000000 in
set_option maxRecDepth 100000 in
theorem garrisonlaw05_ScriptMore.calls (k : Nat) (A0 : Option Addr) (c0 : Nat) (l0 : List Int) (a1 : Int) (a2 : Int) (a3 : Int) (r : Bool) (w : World) (hG : GL w) (hr_ : Aside0 (r = true)) (hr0 : Kd.C (Kd.int .i64) w A0 l0.length l0) (hc0 : l0.length ≤ c0) (h : garrisonlaw05_ScriptMore.f k l0 a1 a2 a3 = some r) :
    Calls Tryd.prog 6 #[.slice A0 l0.length c0, .int .i64 a1, .int .i64 a2, .int .i64 a3] w fun e w' => e = .returned (.bool r) ∧ Below w.heap.size w w' := by
  have HR0 := Aside0.mk hr0
  have HC0 := Aside0.mk hc0
  clear hr0 hc0
  have HB := Aside0.mk (Below.refl w.heap.size w)
  have H : (if (l0.length : Int) > 150 then (garrisonlaw05_ScriptMore.j0 k l0 a1 a2 a3 true) else (if a1 < 0 then (garrisonlaw05_ScriptMore.j0 k l0 a1 a2 a3 true) else (if a1 > 64 then (garrisonlaw05_ScriptMore.j0 k l0 a1 a2 a3 true) else (if a2 < 1 then (garrisonlaw05_ScriptMore.j0 k l0 a1 a2 a3 true) else (if a2 > 1000 then (garrisonlaw05_ScriptMore.j0 k l0 a1 a2 a3 true) else (if a3 < 0 then (garrisonlaw05_ScriptMore.j0 k l0 a1 a2 a3 true) else (garrisonlaw05_ScriptMore.j0 k l0 a1 a2 a3 (decide (a3 > 1000))))))))) = some r := h
  clear h
  have HC5 := Aside0.mk H
  clear H
  go_enter Tryd.func6, Tryd.ntmps6
  go_upto_region 1 with (fail)
  go_cut [36] (fun v36 wc => ∃ (kq : Nat) (x36_4 : Bool), v36 = .bool x36_4 ∧ Aside0 (garrisonlaw05_ScriptMore.j0 kq l0 a1 a2 a3 x36_4 = some r) ∧ Aside0 (kq ≤ k) ∧ Aside0 (Below w.heap.size w wc))
  case first =>
    have H := HC5.out
    clear HC5
    by_cases c6 : (l0.length : Int) > 150
    · rw [if_pos c6] at H
      have c6b0 : decide (150 < (l0.length : Int)) = true := decide_eq_true c6
      have c6b1 : decide (150 < l0.length) = true := decide_eq_true (by omega)
      clear c6
      (first | rw [c6b0] | (simp only [i64_w, i32_w]; rw [c6b0]) | skip)
      have H' := Aside0.mk H
      clear H
      go_wp2
      go_meet
      case rel => exact ⟨_, (true), (by first | rfl | (simp; done) | (simp [*]; done)), H', ⟨by first | omega | exact Nat.le_refl _⟩, ⟨by repeat (first | (with_reducible first | exact HB.out | apply below_alloc | apply pw_below_drewN | apply below_drew1) | exact HB.out)⟩⟩
    · rw [if_neg c6] at H
      have c6b0 : decide (150 < (l0.length : Int)) = false := decide_eq_false c6
      have c6b1 : decide (150 < l0.length) = false := decide_eq_false (by omega)
      clear c6
      (first | rw [c6b0] | (simp only [i64_w, i32_w]; rw [c6b0]) | skip)
      by_cases c7 : a1 < 0
      · rw [if_pos c7] at H
        have c7b0 : decide (a1 < 0) = true := decide_eq_true c7
        clear c7
        have H' := Aside0.mk H
        clear H
        go_wp2
        go_meet
        case rel => exact ⟨_, (true), (by first | rfl | (simp; done) | (simp [*]; done)), H', ⟨by first | omega | exact Nat.le_refl _⟩, ⟨by repeat (first | (with_reducible first | exact HB.out | apply below_alloc | apply pw_below_drewN | apply below_drew1) | exact HB.out)⟩⟩
      · rw [if_neg c7] at H
        have c7b0 : decide (a1 < 0) = false := decide_eq_false c7
        clear c7
        by_cases c8 : a1 > 64
        · rw [if_pos c8] at H
          have c8b0 : decide (64 < a1) = true := decide_eq_true c8
          clear c8
          have H' := Aside0.mk H
          clear H
          go_wp2
          go_meet
          case rel => exact ⟨_, (true), (by first | rfl | (simp; done) | (simp [*]; done)), H', ⟨by first | omega | exact Nat.le_refl _⟩, ⟨by repeat (first | (with_reducible first | exact HB.out | apply below_alloc | apply pw_below_drewN | apply below_drew1) | exact HB.out)⟩⟩
        · rw [if_neg c8] at H
          have c8b0 : decide (64 < a1) = false := decide_eq_false c8
          clear c8
          by_cases c9 : a2 < 1
          · rw [if_pos c9] at H
            have c9b0 : decide (a2 < 1) = true := decide_eq_true c9
            clear c9
            have H' := Aside0.mk H
            clear H
            go_wp2
            go_meet
            case rel => exact ⟨_, (true), (by first | rfl | (simp; done) | (simp [*]; done)), H', ⟨by first | omega | exact Nat.le_refl _⟩, ⟨by repeat (first | (with_reducible first | exact HB.out | apply below_alloc | apply pw_below_drewN | apply below_drew1) | exact HB.out)⟩⟩
          · rw [if_neg c9] at H
            have c9b0 : decide (a2 < 1) = false := decide_eq_false c9
            clear c9
            by_cases c10 : a2 > 1000
            · rw [if_pos c10] at H
              have c10b0 : decide (1000 < a2) = true := decide_eq_true c10
              clear c10
              have H' := Aside0.mk H
              clear H
              go_wp2
              go_meet
              case rel => exact ⟨_, (true), (by first | rfl | (simp; done) | (simp [*]; done)), H', ⟨by first | omega | exact Nat.le_refl _⟩, ⟨by repeat (first | (with_reducible first | exact HB.out | apply below_alloc | apply pw_below_drewN | apply below_drew1) | exact HB.out)⟩⟩
            · rw [if_neg c10] at H
              have c10b0 : decide (1000 < a2) = false := decide_eq_false c10
              clear c10
              by_cases c11 : a3 < 0
              · rw [if_pos c11] at H
                have c11b0 : decide (a3 < 0) = true := decide_eq_true c11
                clear c11
                have H' := Aside0.mk H
                clear H
                go_wp2
                go_meet
                case rel => exact ⟨_, (true), (by first | rfl | (simp; done) | (simp [*]; done)), H', ⟨by first | omega | exact Nat.le_refl _⟩, ⟨by repeat (first | (with_reducible first | exact HB.out | apply below_alloc | apply pw_below_drewN | apply below_drew1) | exact HB.out)⟩⟩
              · rw [if_neg c11] at H
                have c11b0 : decide (a3 < 0) = false := decide_eq_false c11
                clear c11
                have H' := Aside0.mk H
                clear H
                go_wp2
                go_meet
                case rel => exact ⟨_, (decide (a3 > 1000)), (by first | rfl | (simp; done) | (simp [*]; done)), H', ⟨by first | omega | exact Nat.le_refl _⟩, ⟨by repeat (first | (with_reducible first | exact HB.out | apply below_alloc | apply pw_below_drewN | apply below_drew1) | exact HB.out)⟩⟩
  case rest =>
    clear HC5
    try clear c1
    try clear p2
    try clear c6
    try clear c6b0
    try clear c6b1
    try clear c7
    try clear c7b0
    try clear c8
    try clear c8b0
    try clear c9
    try clear c9b0
    try clear c10
    try clear c10b0
    try clear c11
    try clear c11b0
    obtain ⟨kq, x36_4, rfl, HA, HJ4, HB⟩ := hcut
    cases kq with
    | zero => exact absurd HA.out (by simp [garrisonlaw05_ScriptMore.j0])
    | succ kj4 =>
      have H := HA.out
      clear HA
      simp only [garrisonlaw05_ScriptMore.j0] at H
      by_cases c12 : x36_4 = true
      · subst c12
        have H1 : ((garrisonlaw05_live.f).bind fun t179 => (some t179)) = some r := by rw [if_pos rfl] at H; exact H
        clear H
        have H := H1
        clear H1
        replace H := Option.bind_eq_some_iff.mp H
        obtain ⟨t179, A130, H⟩ := H
        replace H : (some t179) = some r := H
        have A13 := Aside0.mk A130
        clear A130
        obtain rfl := Option.some.inj H
        go_wp2_with (first | ((with_reducible refine gate_callee (f := 10) rfl ?_); refine goesL_ (some 37) rfl rfl Tryd.func10 (by kernel_rfl) rfl #[] rfl (by (try simp only [List.map_toArray, List.map_cons, List.map_nil]); first | done | rfl | (simp only [List.length_drop, List.length_take]; rfl)) ?_; (with_reducible refine (garrisonlaw05_live.calls  t179 _ ?side1 A13.out).mono ?_); (case side1 => exact GL.below hG (by repeat (first | (with_reducible first | exact HB.out | apply below_alloc | apply pw_below_drewN | apply below_drew1) | exact HB.out))); rintro e w14 ⟨rfl, hb⟩; refine ⟨_, rfl, ?_⟩; have n0_ := Aside0.mk (below_step (by repeat (first | (with_reducible first | exact HB.out | apply below_alloc | apply pw_below_drewN | apply below_drew1) | exact HB.out)) hb); clear HB; have HB := n0_; clear n0_; (try clear hb); (try clear hb2); (try clear hk); (try clear hi)))
        go_ret
        exact ⟨by first | rfl | (simp [errW_none, errW_some] <;> rfl) | (simp [*, errW_none, errW_some] <;> rfl), by repeat (first | (with_reducible first | exact HB.out | apply below_alloc | apply pw_below_drewN | apply below_drew1) | exact HB.out)⟩
      · replace c12 := Bool.eq_false_iff.mpr c12
        subst c12
        have H1 : ((script_Fair.f kj4 l0 a1 a2).bind fun t180 => (if t180 = true then ((script_Fair.f kj4 l0 a1 (wrap64 (a2 + a3))).bind fun t181 => (if t181 = true then ((script_Fair.f kj4 l0 (mx (wrap64 (a1 - 1)) 0) a2).bind fun t182 => (garrisonlaw05_ScriptMore.j1 kj4 l0 a1 a2 (!t182))) else (garrisonlaw05_ScriptMore.j1 kj4 l0 a1 a2 true))) else (garrisonlaw05_ScriptMore.j1 kj4 l0 a1 a2 false))) = some r := by rw [if_neg (show ¬ (false = true) by decide)] at H; exact H
        clear H
        have H := H1
        clear H1
        have HC15 := Aside0.mk H
        clear H
        go_upto_region 3 with (fail)
        go_cut [59] (fun v59 wc => ∃ (kq : Nat) (x59_14 : Bool), v59 = .bool x59_14 ∧ Aside0 (garrisonlaw05_ScriptMore.j1 kq l0 a1 a2 x59_14 = some r) ∧ Aside0 (kq ≤ kj4) ∧ Aside0 (Below w.heap.size w wc))
        case first =>
          have H := HC15.out
          clear HC15
          replace H := Option.bind_eq_some_iff.mp H
          obtain ⟨t180, A160, H⟩ := H
          replace H : (if t180 = true then ((script_Fair.f kj4 l0 a1 (wrap64 (a2 + a3))).bind fun t181 => (if t181 = true then ((script_Fair.f kj4 l0 (mx (wrap64 (a1 - 1)) 0) a2).bind fun t182 => (garrisonlaw05_ScriptMore.j1 kj4 l0 a1 a2 (!t182))) else (garrisonlaw05_ScriptMore.j1 kj4 l0 a1 a2 true))) else (garrisonlaw05_ScriptMore.j1 kj4 l0 a1 a2 false)) = some r := H
          have A16 := Aside0.mk A160
          clear A160
          by_cases c17 : t180 = true
          · subst c17
            have H1 : ((script_Fair.f kj4 l0 a1 (wrap64 (a2 + a3))).bind fun t181 => (if t181 = true then ((script_Fair.f kj4 l0 (mx (wrap64 (a1 - 1)) 0) a2).bind fun t182 => (garrisonlaw05_ScriptMore.j1 kj4 l0 a1 a2 (!t182))) else (garrisonlaw05_ScriptMore.j1 kj4 l0 a1 a2 true))) = some r := by rw [if_pos rfl] at H; exact H
            clear H
            have H := H1
            clear H1
            replace H := Option.bind_eq_some_iff.mp H
            obtain ⟨t181, A180, H⟩ := H
            replace H : (if t181 = true then ((script_Fair.f kj4 l0 (mx (wrap64 (a1 - 1)) 0) a2).bind fun t182 => (garrisonlaw05_ScriptMore.j1 kj4 l0 a1 a2 (!t182))) else (garrisonlaw05_ScriptMore.j1 kj4 l0 a1 a2 true)) = some r := H
            have A18 := Aside0.mk A180
            clear A180
            by_cases c19 : t181 = true
            · subst c19
              have H1 : ((script_Fair.f kj4 l0 (mx (wrap64 (a1 - 1)) 0) a2).bind fun t182 => (garrisonlaw05_ScriptMore.j1 kj4 l0 a1 a2 (!t182))) = some r := by rw [if_pos rfl] at H; exact H
              clear H
              have H := H1
              clear H1
              obtain ⟨ji20, hji20⟩ : ∃ j_ : Int, (mx (wrap64 (a1 - 1)) 0) = j_ := ⟨_, rfl⟩
              replace H : ((script_Fair.f kj4 l0 (ji20) a2).bind fun t182 => (garrisonlaw05_ScriptMore.j1 kj4 l0 a1 a2 (!t182))) = some r := by first | (rw [hji20] at H; exact H) | (simp only [hji20] at H ⊢; exact H)
              (try rw [hji20] at A16)
              (try rw [hji20] at A18)
              have hji20_ : (if (wrap64 (a1 - 1)) < 0 then 0 else (wrap64 (a1 - 1))) = ji20 := hji20
              replace H := Option.bind_eq_some_iff.mp H
              obtain ⟨t182, A210, H⟩ := H
              replace H : (garrisonlaw05_ScriptMore.j1 kj4 l0 a1 a2 (!t182)) = some r := H
              have A21 := Aside0.mk A210
              clear A210
              have H' := Aside0.mk H
              clear H
              go_wp2_with (first | ((with_reducible refine gate_callee (f := 21) rfl ?_); refine goesL_ (some 41) rfl rfl Tryd.func21 (by kernel_rfl) rfl #[.slice A0 l0.length c0, .int .i64 a1, .int .i64 a2] rfl (by (try simp only [List.map_toArray, List.map_cons, List.map_nil]); first | done | rfl | (simp only [List.length_drop, List.length_take]; rfl)) ?_; (with_reducible refine (script_Fair.calls kj4 _ _ l0 a1 a2 true _ ?side1 ?side2 A16.out).mono ?_); (case side1 => repeat (first | exact (Kd.C_below HR0.out HB.out) | (with_reducible refine Kd.C_alloc ?_ _) | (with_reducible refine Kd.C_drewN ?_ _) | (with_reducible refine Kd.C_drew ?_))); (case side2 => exact HC0.out); rintro e w22 ⟨rfl, hb⟩; refine ⟨_, rfl, ?_⟩; have n0_ := Aside0.mk (below_step (by repeat (first | (with_reducible first | exact HB.out | apply below_alloc | apply pw_below_drewN | apply below_drew1) | exact HB.out)) hb); clear HB; have HB := n0_; clear n0_; (try clear hb); (try clear hb2); (try clear hk); (try clear hi)) | (go_at_call 21; (with_reducible refine (script_Fair.calls kj4 _ _ l0 a1 (wrap64 (a2 + a3)) true _ ?side1 ?side2 A18.out).mono ?_); (case side1 => repeat (first | exact (Kd.C_below HR0.out HB.out) | (with_reducible refine Kd.C_alloc ?_ _) | (with_reducible refine Kd.C_drewN ?_ _) | (with_reducible refine Kd.C_drew ?_))); (case side2 => exact HC0.out); rintro e w23 ⟨rfl, hb⟩; have n0_ := Aside0.mk (below_step (by repeat (first | (with_reducible first | exact HB.out | apply below_alloc | apply pw_below_drewN | apply below_drew1) | exact HB.out)) hb); clear HB; have HB := n0_; clear n0_; (try clear hb); (try clear hb2); (try clear hk); (try clear hi)) | (go_at_call 21; (with_reducible refine (script_Fair.calls kj4 _ _ l0 ji20 a2 t182 _ ?side1 ?side2 A21.out).mono ?_); (case side1 => repeat (first | exact (Kd.C_below HR0.out HB.out) | (with_reducible refine Kd.C_alloc ?_ _) | (with_reducible refine Kd.C_drewN ?_ _) | (with_reducible refine Kd.C_drew ?_))); (case side2 => exact HC0.out); rintro e w24 ⟨rfl, hb⟩; have n0_ := Aside0.mk (below_step (by repeat (first | (with_reducible first | exact HB.out | apply below_alloc | apply pw_below_drewN | apply below_drew1) | exact HB.out)) hb); clear HB; have HB := n0_; clear n0_; (try clear hb); (try clear hb2); (try clear hk); (try clear hi)))
              go_meet
              case rel => exact ⟨_, (!t182), (by first | rfl | (simp; done) | (simp [*]; done)), H', ⟨by have := HJ4.out; first | omega | exact Nat.le_refl _⟩, ⟨by repeat (first | (with_reducible first | exact HB.out | apply below_alloc | apply pw_below_drewN | apply below_drew1) | exact HB.out)⟩⟩
            · replace c19 := Bool.eq_false_iff.mpr c19
              subst c19
              have H1 : (garrisonlaw05_ScriptMore.j1 kj4 l0 a1 a2 true) = some r := by rw [if_neg (show ¬ (false = true) by decide)] at H; exact H
              clear H
              have H := H1
              clear H1
              have H' := Aside0.mk H
              clear H
              go_wp2_with (first | ((with_reducible refine gate_callee (f := 21) rfl ?_); refine goesL_ (some 41) rfl rfl Tryd.func21 (by kernel_rfl) rfl #[.slice A0 l0.length c0, .int .i64 a1, .int .i64 a2] rfl (by (try simp only [List.map_toArray, List.map_cons, List.map_nil]); first | done | rfl | (simp only [List.length_drop, List.length_take]; rfl)) ?_; (with_reducible refine (script_Fair.calls kj4 _ _ l0 a1 a2 true _ ?side1 ?side2 A16.out).mono ?_); (case side1 => repeat (first | exact (Kd.C_below HR0.out HB.out) | (with_reducible refine Kd.C_alloc ?_ _) | (with_reducible refine Kd.C_drewN ?_ _) | (with_reducible refine Kd.C_drew ?_))); (case side2 => exact HC0.out); rintro e w25 ⟨rfl, hb⟩; refine ⟨_, rfl, ?_⟩; have n0_ := Aside0.mk (below_step (by repeat (first | (with_reducible first | exact HB.out | apply below_alloc | apply pw_below_drewN | apply below_drew1) | exact HB.out)) hb); clear HB; have HB := n0_; clear n0_; (try clear hb); (try clear hb2); (try clear hk); (try clear hi)) | (go_at_call 21; (with_reducible refine (script_Fair.calls kj4 _ _ l0 a1 (wrap64 (a2 + a3)) false _ ?side1 ?side2 A18.out).mono ?_); (case side1 => repeat (first | exact (Kd.C_below HR0.out HB.out) | (with_reducible refine Kd.C_alloc ?_ _) | (with_reducible refine Kd.C_drewN ?_ _) | (with_reducible refine Kd.C_drew ?_))); (case side2 => exact HC0.out); rintro e w26 ⟨rfl, hb⟩; have n0_ := Aside0.mk (below_step (by repeat (first | (with_reducible first | exact HB.out | apply below_alloc | apply pw_below_drewN | apply below_drew1) | exact HB.out)) hb); clear HB; have HB := n0_; clear n0_; (try clear hb); (try clear hb2); (try clear hk); (try clear hi)))
              go_meet
              case rel => exact ⟨_, (true), (by first | rfl | (simp; done) | (simp [*]; done)), H', ⟨by have := HJ4.out; first | omega | exact Nat.le_refl _⟩, ⟨by repeat (first | (with_reducible first | exact HB.out | apply below_alloc | apply pw_below_drewN | apply below_drew1) | exact HB.out)⟩⟩
          · replace c17 := Bool.eq_false_iff.mpr c17
            subst c17
            have H1 : (garrisonlaw05_ScriptMore.j1 kj4 l0 a1 a2 false) = some r := by rw [if_neg (show ¬ (false = true) by decide)] at H; exact H
            clear H
            have H := H1
            clear H1
            have H' := Aside0.mk H
            clear H
            go_wp2_with (first | ((with_reducible refine gate_callee (f := 21) rfl ?_); refine goesL_ (some 41) rfl rfl Tryd.func21 (by kernel_rfl) rfl #[.slice A0 l0.length c0, .int .i64 a1, .int .i64 a2] rfl (by (try simp only [List.map_toArray, List.map_cons, List.map_nil]); first | done | rfl | (simp only [List.length_drop, List.length_take]; rfl)) ?_; (with_reducible refine (script_Fair.calls kj4 _ _ l0 a1 a2 false _ ?side1 ?side2 A16.out).mono ?_); (case side1 => repeat (first | exact (Kd.C_below HR0.out HB.out) | (with_reducible refine Kd.C_alloc ?_ _) | (with_reducible refine Kd.C_drewN ?_ _) | (with_reducible refine Kd.C_drew ?_))); (case side2 => exact HC0.out); rintro e w27 ⟨rfl, hb⟩; refine ⟨_, rfl, ?_⟩; have n0_ := Aside0.mk (below_step (by repeat (first | (with_reducible first | exact HB.out | apply below_alloc | apply pw_below_drewN | apply below_drew1) | exact HB.out)) hb); clear HB; have HB := n0_; clear n0_; (try clear hb); (try clear hb2); (try clear hk); (try clear hi)))
            go_meet
            case rel => exact ⟨_, (false), (by first | rfl | (simp; done) | (simp [*]; done)), H', ⟨by have := HJ4.out; first | omega | exact Nat.le_refl _⟩, ⟨by repeat (first | (with_reducible first | exact HB.out | apply below_alloc | apply pw_below_drewN | apply below_drew1) | exact HB.out)⟩⟩
        case rest =>
          clear HC15
          try clear c1
          try clear c2
          try clear p2
          try clear c6
          try clear c6b0
          try clear c6b1
          try clear p6
          try clear c7
          try clear c7b0
          try clear c8
          try clear c8b0
          try clear c9
          try clear c9b0
          try clear c10
          try clear c10b0
          try clear c11
          try clear c11b0
          try clear c12
          try clear c17
          try clear c19
          try clear c21
          try clear p2
          obtain ⟨kq, x59_14, rfl, HA, HJ14, HB⟩ := hcut
          cases kq with
          | zero => exact absurd HA.out (by simp [garrisonlaw05_ScriptMore.j1])
          | succ kj14 =>
            have H := HA.out
            clear HA
            simp only [garrisonlaw05_ScriptMore.j1] at H
            by_cases c28 : x59_14 = true
            · subst c28
              have H1 : (some false) = some r := by rw [if_pos rfl] at H; exact H
              clear H
              have H := H1
              clear H1
              exact absurd ((Option.some.inj H).trans hr_.out) (by decide)
            · replace c28 := Bool.eq_false_iff.mpr c28
              subst c28
              have H1 : ((script_Window.f kj14 l0 a1).bind fun t183 => (if t183 ≥ 1 then (if t183 ≤ (wrap64 ((l0.length : Int) + 1)) then ((script_Fair.f kj14 l0 a1 t183).bind fun t184 => (if t184 = true then (if t183 = 1 then ((script_Fair.f kj14 l0 a1 a2).bind fun t185 => (if (t185 == (decide (a2 ≥ t183))) = true then ((garrisonlaw05_live.f).bind fun t186 => (some t186)) else (some false))) else ((script_Fair.f kj14 l0 a1 (wrap64 (t183 - 1))).bind fun t187 => (if t187 = true then (some false) else ((script_Fair.f kj14 l0 a1 a2).bind fun t188 => (if (t188 == (decide (a2 ≥ t183))) = true then ((garrisonlaw05_live.f).bind fun t189 => (some t189)) else (some false)))))) else (some false))) else (some false)) else (some false))) = some r := by rw [if_neg (show ¬ (false = true) by decide)] at H; exact H
              clear H
              have H := H1
              clear H1
              replace H := Option.bind_eq_some_iff.mp H
              obtain ⟨t183, A290, H⟩ := H
              replace H : (if t183 ≥ 1 then (if t183 ≤ (wrap64 ((l0.length : Int) + 1)) then ((script_Fair.f kj14 l0 a1 t183).bind fun t184 => (if t184 = true then (if t183 = 1 then ((script_Fair.f kj14 l0 a1 a2).bind fun t185 => (if (t185 == (decide (a2 ≥ t183))) = true then ((garrisonlaw05_live.f).bind fun t186 => (some t186)) else (some false))) else ((script_Fair.f kj14 l0 a1 (wrap64 (t183 - 1))).bind fun t187 => (if t187 = true then (some false) else ((script_Fair.f kj14 l0 a1 a2).bind fun t188 => (if (t188 == (decide (a2 ≥ t183))) = true then ((garrisonlaw05_live.f).bind fun t189 => (some t189)) else (some false)))))) else (some false))) else (some false)) else (some false)) = some r := H
              have A29 := Aside0.mk A290
              clear A290
              by_cases c30 : t183 ≥ 1
              · rw [if_pos c30] at H
                have c30b0 : decide (1 ≤ t183) = true := decide_eq_true c30
                clear c30
                by_cases c31 : t183 ≤ (wrap64 ((l0.length : Int) + 1))
                · rw [if_pos c31] at H
                  have c31b0 : decide (t183 ≤ (wrap64 ((l0.length : Int) + 1))) = true := decide_eq_true c31
                  clear c31
                  replace H := Option.bind_eq_some_iff.mp H
                  obtain ⟨t184, A320, H⟩ := H
                  replace H : (if t184 = true then (if t183 = 1 then ((script_Fair.f kj14 l0 a1 a2).bind fun t185 => (if (t185 == (decide (a2 ≥ t183))) = true then ((garrisonlaw05_live.f).bind fun t186 => (some t186)) else (some false))) else ((script_Fair.f kj14 l0 a1 (wrap64 (t183 - 1))).bind fun t187 => (if t187 = true then (some false) else ((script_Fair.f kj14 l0 a1 a2).bind fun t188 => (if (t188 == (decide (a2 ≥ t183))) = true then ((garrisonlaw05_live.f).bind fun t189 => (some t189)) else (some false)))))) else (some false)) = some r := H
                  have A32 := Aside0.mk A320
                  clear A320
                  by_cases c33 : t184 = true
                  · subst c33
                    have H1 : (if t183 = 1 then ((script_Fair.f kj14 l0 a1 a2).bind fun t185 => (if (t185 == (decide (a2 ≥ t183))) = true then ((garrisonlaw05_live.f).bind fun t186 => (some t186)) else (some false))) else ((script_Fair.f kj14 l0 a1 (wrap64 (t183 - 1))).bind fun t187 => (if t187 = true then (some false) else ((script_Fair.f kj14 l0 a1 a2).bind fun t188 => (if (t188 == (decide (a2 ≥ t183))) = true then ((garrisonlaw05_live.f).bind fun t189 => (some t189)) else (some false)))))) = some r := by rw [if_pos rfl] at H; exact H
                    clear H
                    have H := H1
                    clear H1
                    by_cases c34 : t183 = 1
                    · rw [if_pos c34] at H
                      have c34b0 : (t183 == 1) = true := beq_iff_eq.mpr c34
                      have c34b1 : (t183 != 1) = false := bne_eq_false_iff_eq.mpr c34
                      clear c34
                      replace H := Option.bind_eq_some_iff.mp H
                      obtain ⟨t185, A350, H⟩ := H
                      replace H : (if (t185 == (decide (a2 ≥ t183))) = true then ((garrisonlaw05_live.f).bind fun t186 => (some t186)) else (some false)) = some r := H
                      have A35 := Aside0.mk A350
                      clear A350
                      by_cases c36 : (t185 == (decide (a2 ≥ t183))) = true
                      · rw [if_pos c36] at H
                        have c36b0 : (t185 == (decide (a2 ≥ t183))) = true := c36
                        (try (have c36b1 : decide (t185 = (decide (a2 ≥ t183))) = true := by simpa using c36))
                        (try (have c36b2 : (t185 == (decide (a2 ≥ t183))) = true := by simpa using c36))
                        clear c36
                        replace H := Option.bind_eq_some_iff.mp H
                        obtain ⟨t186, A370, H⟩ := H
                        replace H : (some t186) = some r := H
                        have A37 := Aside0.mk A370
                        clear A370
                        obtain rfl := Option.some.inj H
                        go_wp2_with (first | ((with_reducible refine gate_callee (f := 23) rfl ?_); refine goesL_ (some 62) rfl rfl Tryd.func23 (by kernel_rfl) rfl #[.slice A0 l0.length c0, .int .i64 a1] rfl (by (try simp only [List.map_toArray, List.map_cons, List.map_nil]); first | done | rfl | (simp only [List.length_drop, List.length_take]; rfl)) ?_; (with_reducible refine (script_Window.calls kj14 _ _ l0 a1 t183 _ ?side1 ?side2 A29.out).mono ?_); (case side1 => repeat (first | exact (Kd.C_below HR0.out HB.out) | (with_reducible refine Kd.C_alloc ?_ _) | (with_reducible refine Kd.C_drewN ?_ _) | (with_reducible refine Kd.C_drew ?_))); (case side2 => exact HC0.out); rintro e w38 ⟨rfl, hb⟩; refine ⟨_, rfl, ?_⟩; have n0_ := Aside0.mk (below_step (by repeat (first | (with_reducible first | exact HB.out | apply below_alloc | apply pw_below_drewN | apply below_drew1) | exact HB.out)) hb); clear HB; have HB := n0_; clear n0_; (try clear hb); (try clear hb2); (try clear hk); (try clear hi)) | (go_at_call 21; (with_reducible refine (script_Fair.calls kj14 _ _ l0 a1 t183 true _ ?side1 ?side2 A32.out).mono ?_); (case side1 => repeat (first | exact (Kd.C_below HR0.out HB.out) | (with_reducible refine Kd.C_alloc ?_ _) | (with_reducible refine Kd.C_drewN ?_ _) | (with_reducible refine Kd.C_drew ?_))); (case side2 => exact HC0.out); rintro e w39 ⟨rfl, hb⟩; have n0_ := Aside0.mk (below_step (by repeat (first | (with_reducible first | exact HB.out | apply below_alloc | apply pw_below_drewN | apply below_drew1) | exact HB.out)) hb); clear HB; have HB := n0_; clear n0_; (try clear hb); (try clear hb2); (try clear hk); (try clear hi)) | (go_at_call 21; (with_reducible refine (script_Fair.calls kj14 _ _ l0 a1 a2 t185 _ ?side1 ?side2 A35.out).mono ?_); (case side1 => repeat (first | exact (Kd.C_below HR0.out HB.out) | (with_reducible refine Kd.C_alloc ?_ _) | (with_reducible refine Kd.C_drewN ?_ _) | (with_reducible refine Kd.C_drew ?_))); (case side2 => exact HC0.out); rintro e w40 ⟨rfl, hb⟩; have n0_ := Aside0.mk (below_step (by repeat (first | (with_reducible first | exact HB.out | apply below_alloc | apply pw_below_drewN | apply below_drew1) | exact HB.out)) hb); clear HB; have HB := n0_; clear n0_; (try clear hb); (try clear hb2); (try clear hk); (try clear hi)) | (go_at_call 10; (with_reducible refine (garrisonlaw05_live.calls  t186 _ ?side1 A37.out).mono ?_); (case side1 => exact GL.below hG (by repeat (first | (with_reducible first | exact HB.out | apply below_alloc | apply pw_below_drewN | apply below_drew1) | exact HB.out))); rintro e w41 ⟨rfl, hb⟩; have n0_ := Aside0.mk (below_step (by repeat (first | (with_reducible first | exact HB.out | apply below_alloc | apply pw_below_drewN | apply below_drew1) | exact HB.out)) hb); clear HB; have HB := n0_; clear n0_; (try clear hb); (try clear hb2); (try clear hk); (try clear hi)))
                        go_ret
                        exact ⟨by first | rfl | (simp [errW_none, errW_some] <;> rfl) | (simp [*, errW_none, errW_some] <;> rfl), by repeat (first | (with_reducible first | exact HB.out | apply below_alloc | apply pw_below_drewN | apply below_drew1) | exact HB.out)⟩
                      · rw [if_neg c36] at H
                        have c36b0 : (t185 == (decide (a2 ≥ t183))) = false := by simpa using c36
                        (try (have c36b1 : decide (t185 = (decide (a2 ≥ t183))) = false := by simpa using c36))
                        (try (have c36b2 : (t185 == (decide (a2 ≥ t183))) = false := by simpa using c36))
                        (try (have c36b3 : ¬ (t185 = (decide (a2 ≥ t183))) := by simpa using c36))
                        clear c36
                        exact absurd ((Option.some.inj H).trans hr_.out) (by decide)
                    · rw [if_neg c34] at H
                      have c34b0 : (t183 == 1) = false := beq_eq_false_iff_ne.mpr c34
                      have c34b1 : (t183 != 1) = true := bne_iff_ne.mpr c34
                      replace H := Option.bind_eq_some_iff.mp H
                      obtain ⟨t187, A420, H⟩ := H
                      replace H : (if t187 = true then (some false) else ((script_Fair.f kj14 l0 a1 a2).bind fun t188 => (if (t188 == (decide (a2 ≥ t183))) = true then ((garrisonlaw05_live.f).bind fun t189 => (some t189)) else (some false)))) = some r := H
                      have A42 := Aside0.mk A420
                      clear A420
                      by_cases c43 : t187 = true
                      · subst c43
                        have H1 : (some false) = some r := by rw [if_pos rfl] at H; exact H
                        clear H
                        have H := H1
                        clear H1
                        exact absurd ((Option.some.inj H).trans hr_.out) (by decide)
                      · replace c43 := Bool.eq_false_iff.mpr c43
                        subst c43
                        have H1 : ((script_Fair.f kj14 l0 a1 a2).bind fun t188 => (if (t188 == (decide (a2 ≥ t183))) = true then ((garrisonlaw05_live.f).bind fun t189 => (some t189)) else (some false))) = some r := by rw [if_neg (show ¬ (false = true) by decide)] at H; exact H
                        clear H
                        have H := H1
                        clear H1
                        replace H := Option.bind_eq_some_iff.mp H
                        obtain ⟨t188, A440, H⟩ := H
                        replace H : (if (t188 == (decide (a2 ≥ t183))) = true then ((garrisonlaw05_live.f).bind fun t189 => (some t189)) else (some false)) = some r := H
                        have A44 := Aside0.mk A440
                        clear A440
                        by_cases c45 : (t188 == (decide (a2 ≥ t183))) = true
                        · rw [if_pos c45] at H
                          have c45b0 : (t188 == (decide (a2 ≥ t183))) = true := c45
                          (try (have c45b1 : decide (t188 = (decide (a2 ≥ t183))) = true := by simpa using c45))
                          (try (have c45b2 : (t188 == (decide (a2 ≥ t183))) = true := by simpa using c45))
                          clear c45
                          replace H := Option.bind_eq_some_iff.mp H
                          obtain ⟨t189, A460, H⟩ := H
                          replace H : (some t189) = some r := H
                          have A46 := Aside0.mk A460
                          clear A460
                          obtain rfl := Option.some.inj H
                          go_wp2_with (first | ((with_reducible refine gate_callee (f := 23) rfl ?_); refine goesL_ (some 62) rfl rfl Tryd.func23 (by kernel_rfl) rfl #[.slice A0 l0.length c0, .int .i64 a1] rfl (by (try simp only [List.map_toArray, List.map_cons, List.map_nil]); first | done | rfl | (simp only [List.length_drop, List.length_take]; rfl)) ?_; (with_reducible refine (script_Window.calls kj14 _ _ l0 a1 t183 _ ?side1 ?side2 A29.out).mono ?_); (case side1 => repeat (first | exact (Kd.C_below HR0.out HB.out) | (with_reducible refine Kd.C_alloc ?_ _) | (with_reducible refine Kd.C_drewN ?_ _) | (with_reducible refine Kd.C_drew ?_))); (case side2 => exact HC0.out); rintro e w47 ⟨rfl, hb⟩; refine ⟨_, rfl, ?_⟩; have n0_ := Aside0.mk (below_step (by repeat (first | (with_reducible first | exact HB.out | apply below_alloc | apply pw_below_drewN | apply below_drew1) | exact HB.out)) hb); clear HB; have HB := n0_; clear n0_; (try clear hb); (try clear hb2); (try clear hk); (try clear hi)) | (go_at_call 21; (with_reducible refine (script_Fair.calls kj14 _ _ l0 a1 t183 true _ ?side1 ?side2 A32.out).mono ?_); (case side1 => repeat (first | exact (Kd.C_below HR0.out HB.out) | (with_reducible refine Kd.C_alloc ?_ _) | (with_reducible refine Kd.C_drewN ?_ _) | (with_reducible refine Kd.C_drew ?_))); (case side2 => exact HC0.out); rintro e w48 ⟨rfl, hb⟩; have n0_ := Aside0.mk (below_step (by repeat (first | (with_reducible first | exact HB.out | apply below_alloc | apply pw_below_drewN | apply below_drew1) | exact HB.out)) hb); clear HB; have HB := n0_; clear n0_; (try clear hb); (try clear hb2); (try clear hk); (try clear hi)) | (go_at_call 21; (with_reducible refine (script_Fair.calls kj14 _ _ l0 a1 (wrap64 (t183 - 1)) false _ ?side1 ?side2 A42.out).mono ?_); (case side1 => repeat (first | exact (Kd.C_below HR0.out HB.out) | (with_reducible refine Kd.C_alloc ?_ _) | (with_reducible refine Kd.C_drewN ?_ _) | (with_reducible refine Kd.C_drew ?_))); (case side2 => exact HC0.out); rintro e w49 ⟨rfl, hb⟩; have n0_ := Aside0.mk (below_step (by repeat (first | (with_reducible first | exact HB.out | apply below_alloc | apply pw_below_drewN | apply below_drew1) | exact HB.out)) hb); clear HB; have HB := n0_; clear n0_; (try clear hb); (try clear hb2); (try clear hk); (try clear hi)) | (go_at_call 21; (with_reducible refine (script_Fair.calls kj14 _ _ l0 a1 a2 t188 _ ?side1 ?side2 A44.out).mono ?_); (case side1 => repeat (first | exact (Kd.C_below HR0.out HB.out) | (with_reducible refine Kd.C_alloc ?_ _) | (with_reducible refine Kd.C_drewN ?_ _) | (with_reducible refine Kd.C_drew ?_))); (case side2 => exact HC0.out); rintro e w50 ⟨rfl, hb⟩; have n0_ := Aside0.mk (below_step (by repeat (first | (with_reducible first | exact HB.out | apply below_alloc | apply pw_below_drewN | apply below_drew1) | exact HB.out)) hb); clear HB; have HB := n0_; clear n0_; (try clear hb); (try clear hb2); (try clear hk); (try clear hi)) | (go_at_call 10; (with_reducible refine (garrisonlaw05_live.calls  t189 _ ?side1 A46.out).mono ?_); (case side1 => exact GL.below hG (by repeat (first | (with_reducible first | exact HB.out | apply below_alloc | apply pw_below_drewN | apply below_drew1) | exact HB.out))); rintro e w51 ⟨rfl, hb⟩; have n0_ := Aside0.mk (below_step (by repeat (first | (with_reducible first | exact HB.out | apply below_alloc | apply pw_below_drewN | apply below_drew1) | exact HB.out)) hb); clear HB; have HB := n0_; clear n0_; (try clear hb); (try clear hb2); (try clear hk); (try clear hi)))
                          go_ret
                          exact ⟨by first | rfl | (simp [errW_none, errW_some] <;> rfl) | (simp [*, errW_none, errW_some] <;> rfl), by repeat (first | (with_reducible first | exact HB.out | apply below_alloc | apply pw_below_drewN | apply below_drew1) | exact HB.out)⟩
                        · rw [if_neg c45] at H
                          have c45b0 : (t188 == (decide (a2 ≥ t183))) = false := by simpa using c45
                          (try (have c45b1 : decide (t188 = (decide (a2 ≥ t183))) = false := by simpa using c45))
                          (try (have c45b2 : (t188 == (decide (a2 ≥ t183))) = false := by simpa using c45))
                          (try (have c45b3 : ¬ (t188 = (decide (a2 ≥ t183))) := by simpa using c45))
                          clear c45
                          exact absurd ((Option.some.inj H).trans hr_.out) (by decide)
                  · replace c33 := Bool.eq_false_iff.mpr c33
                    subst c33
                    have H1 : (some false) = some r := by rw [if_neg (show ¬ (false = true) by decide)] at H; exact H
                    clear H
                    have H := H1
                    clear H1
                    exact absurd ((Option.some.inj H).trans hr_.out) (by decide)
                · rw [if_neg c31] at H
                  have c31b0 : decide (t183 ≤ (wrap64 ((l0.length : Int) + 1))) = false := decide_eq_false c31
                  clear c31
                  exact absurd ((Option.some.inj H).trans hr_.out) (by decide)
              · rw [if_neg c30] at H
                have c30b0 : decide (1 ≤ t183) = false := decide_eq_false c30
                clear c30
                exact absurd ((Option.some.inj H).trans hr_.out) (by decide)

/-- THE ONE PURE STATEMENT of garrisonlaw05_ScriptMore: yours. -/
def garrisonlaw05_ScriptMore.Pure : Prop := ∀ (l0 : List Int) (a1 : Int) (a2 : Int) (a3 : Int), l0.length ≤ maxLen → l0.length * 8 ≤ 140737488351232 → (∀ x ∈ l0, (Lit.int .i64 x).wf = true) → (Lit.int .i64 a1).wf = true → (Lit.int .i64 a2).wf = true → (Lit.int .i64 a3).wf = true → ∃ k, garrisonlaw05_ScriptMore.f k l0 a1 a2 a3 = some true
theorem garrisonlaw05_ScriptMore.walk (P : garrisonlaw05_ScriptMore.Pure) (a0 : Option Addr) (len0 cap0 : Nat) (z0 : List Int) (a1 : Int) (a2 : Int) (a3 : Int) (w : World) (hG : GL w) (w0 : (a0 = none ∧ len0 = 0 ∧ cap0 = 0 ∧ z0 = []) ∨ ∃ x, a0 = some x ∧ len0 ≤ cap0 ∧ cap0 ≤ maxLen ∧ z0.length = cap0 ∧ (∀ i, i < z0.length → w.cell? (x.add i) = some (.int .i64 (z0.getD i 0))) ∧ ∀ n ∈ z0, (Lit.int .i64 n).wf = true) (y0 : len0 * 8 ≤ 140737488351232) (w1 : (Lit.int .i64 a1).wf = true) (w2 : (Lit.int .i64 a2).wf = true) (w3 : (Lit.int .i64 a3).wf = true) :
    Calls Tryd.prog 6 #[.slice a0 len0 cap0, .int .i64 a1, .int .i64 a2, .int .i64 a3] w fun e w' => e = .returned (.bool true) ∧ Below w.heap.size w w' := by
  obtain ⟨l0, rfl, hr0, hm0, hw0, hc0⟩ := ReadsInt.ofRowC w0
  obtain ⟨k, h⟩ := P l0 a1 a2 a3 hm0 y0 hw0 w1 w2 w3
  refine (garrisonlaw05_ScriptMore.calls k _ _ l0 a1 a2 a3 true w hG ⟨rfl⟩ (Kd.C_of_reads (d := (0 : Int)) (h1 := fun _ => rfl) hr0) hc0 h).mono ?_
  rintro e w' ⟨rfl, hd⟩
  exact ⟨rfl, hd⟩

end Go.Proofs.YthifdmelanbgmaaDoor.P
