-- Written by a program of this session (wip/tools/myprint.py) out of the translation.
import Derived.Test.YthifdmelanbgmaaDoorPx0
import Derived.Test.YthifdmelanbgmaaDoorPx6
import Derived.Test.YthifdmelanbgmaaDoorPx7
import Derived.Test.YthifdmelanbgmaaDoorGLive
namespace Go.Proofs.YthifdmelanbgmaaDoor.Given
end Go.Proofs.YthifdmelanbgmaaDoor.Given
namespace Go.Proofs.YthifdmelanbgmaaDoor.P
open Go.Proofs.YthifdmelanbgmaaDoor.Given
open Go.RowKit Go.Proofs.YthifdmelanbgmaaDoorW.PrintWords Go.Proofs.YthifdmelanbgmaaDoorW.PrintLast Go.Proofs.YthifdmelanbgmaaDoorW.PrintMore
attribute [local go_sem] max2_int min2_int max_two min_two max_three min_three max_four min_four u64_signed   -- for this text's walks alone
set_option linter.unusedVariables false
set_option linter.unusedSimpArgs false

/-! ### garrisonlaw05_ScriptCounts: function 4 -/
def garrisonlaw05_ScriptCounts.j0 : Nat → List Int → Int → Int → Int → Bool → Option (Bool)
  | 0, _, _, _, _, _ => none
  | k + 1, x0, x1, x2, x3, x15 => if x15 = true then ((garrisonlaw05_live.f).bind fun t152 => (some t152)) else ((script_Count.f k x0 x3).bind fun t153 => ((garrisonref05_Count.f k x0 x3).bind fun t154 => (if t153 = t154 then ((script_Fair.f k x0 x1 x2).bind fun t155 => ((garrisonref05_Fair.f k x0 x1 x2).bind fun t156 => (if (t155 == t156) = true then ((script_Window.f k x0 x1).bind fun t157 => ((garrisonref05_Window.f k x0 x1).bind fun t158 => (if t157 = t158 then ((garrisonlaw05_live.f).bind fun t159 => (some t159)) else (some false)))) else (some false)))) else (some false))))
def garrisonlaw05_ScriptCounts.f (k : Nat) (l0 : List Int) (a1 : Int) (a2 : Int) (a3 : Int) : Option (Bool) := if (l0.length : Int) > 150 then (garrisonlaw05_ScriptCounts.j0 k l0 a1 a2 a3 true) else (garrisonlaw05_ScriptCounts.j0 k l0 a1 a2 a3 (decide (a1 > 64)))
theorem garrisonlaw05_ScriptCounts.mono_l : ∀ k, (∀ y0 y1 y2 y3 y4, LeO (garrisonlaw05_ScriptCounts.j0 k y0 y1 y2 y3 y4) (garrisonlaw05_ScriptCounts.j0 (k + 1) y0 y1 y2 y3 y4))
  | 0 => fun _ _ _ _ _ r h => by simp [garrisonlaw05_ScriptCounts.j0] at h
  | k + 1 => by
    have ih0 := garrisonlaw05_ScriptCounts.mono_l k
    · intro y0 y1 y2 y3 y4
      unfold garrisonlaw05_ScriptCounts.j0
      repeat' first
      | (with_reducible exact ih0 _ _ _ _ _)
      | (with_reducible exact garrisonref05_Count.mono _ _ _)
      | (with_reducible exact garrisonref05_Fair.mono _ _ _ _)
      | (with_reducible exact garrisonref05_Window.mono _ _ _)
      | (with_reducible exact script_Count.mono _ _ _)
      | (with_reducible exact script_Fair.mono _ _ _ _)
      | (with_reducible exact script_Window.mono _ _ _)
      | (with_reducible exact LeO.refl _)
      | (with_reducible exact LeO.none _)
      | (with_reducible refine LeO.ite ?_ ?_)
      | (with_reducible refine LeO.bind ?_ (fun _ => ?_))
      | exact ih0 _ _ _ _ _
      | exact garrisonref05_Count.mono _ _ _
      | exact garrisonref05_Fair.mono _ _ _ _
      | exact garrisonref05_Window.mono _ _ _
      | exact script_Count.mono _ _ _
      | exact script_Fair.mono _ _ _ _
      | exact script_Window.mono _ _ _
      | exact LeO.none _
      | refine LeO.ite ?_ ?_
      | refine LeO.bind ?_ (fun _ => ?_)
theorem garrisonlaw05_ScriptCounts.mono : ∀ a0 a1 a2 a3 k, LeO (garrisonlaw05_ScriptCounts.f k a0 a1 a2 a3) (garrisonlaw05_ScriptCounts.f (k + 1) a0 a1 a2 a3) := by
  intro a0 a1 a2 a3 k
  have ih0 := garrisonlaw05_ScriptCounts.mono_l k
  unfold garrisonlaw05_ScriptCounts.f
  repeat' first
      | (with_reducible exact ih0 _ _ _ _ _)
      | (with_reducible exact garrisonref05_Count.mono _ _ _)
      | (with_reducible exact garrisonref05_Fair.mono _ _ _ _)
      | (with_reducible exact garrisonref05_Window.mono _ _ _)
      | (with_reducible exact script_Count.mono _ _ _)
      | (with_reducible exact script_Fair.mono _ _ _ _)
      | (with_reducible exact script_Window.mono _ _ _)
      | (with_reducible exact LeO.refl _)
      | (with_reducible exact LeO.none _)
      | (with_reducible refine LeO.ite ?_ ?_)
      | (with_reducible refine LeO.bind ?_ (fun _ => ?_))
      | exact ih0 _ _ _ _ _
      | exact garrisonref05_Count.mono _ _ _
      | exact garrisonref05_Fair.mono _ _ _ _
      | exact garrisonref05_Window.mono _ _ _
      | exact script_Count.mono _ _ _
      | exact script_Fair.mono _ _ _ _
      | exact script_Window.mono _ _ _
      | exact LeO.none _
      | refine LeO.ite ?_ ?_
      | refine LeO.bind ?_ (fun _ => ?_)
set_option maxHeartbeats 8000000 in
set_option maxRecDepth 100000 in
theorem garrisonlaw05_ScriptCounts.calls (k : Nat) (A0 : Option Addr) (c0 : Nat) (l0 : List Int) (a1 : Int) (a2 : Int) (a3 : Int) (r : Bool) (w : World) (hG : GL w) (hr_ : Aside0 (r = true)) (hr0 : Kd.C (Kd.int .i64) w A0 l0.length l0) (hc0 : l0.length ≤ c0) (h : garrisonlaw05_ScriptCounts.f k l0 a1 a2 a3 = some r) :
    Calls Tryd.prog 4 #[.slice A0 l0.length c0, .int .i64 a1, .int .i64 a2, .int .i64 a3] w fun e w' => e = .returned (.bool r) ∧ Below w.heap.size w w' := by
  have HR0 := Aside0.mk hr0
  have HC0 := Aside0.mk hc0
  clear hr0 hc0
  have HB := Aside0.mk (Below.refl w.heap.size w)
  have H : (if (l0.length : Int) > 150 then (garrisonlaw05_ScriptCounts.j0 k l0 a1 a2 a3 true) else (garrisonlaw05_ScriptCounts.j0 k l0 a1 a2 a3 (decide (a1 > 64)))) = some r := h
  clear h
  have HC5 := Aside0.mk H
  clear H
  go_enter Tryd.func4, Tryd.ntmps4
  go_upto_region 1 with (fail)
  go_cut [15] (fun v15 wc => ∃ (kq : Nat) (x15_4 : Bool), v15 = .bool x15_4 ∧ Aside0 (garrisonlaw05_ScriptCounts.j0 kq l0 a1 a2 a3 x15_4 = some r) ∧ Aside0 (kq ≤ k) ∧ Aside0 (Below w.heap.size w wc))
  case first =>
    have H := HC5.out
    clear HC5
    by_cases c6 : (l0.length : Int) > 150
    · rw [if_pos c6] at H
      have c6b0 : decide (150 < (l0.length : Int)) = true := decide_eq_true c6
      have c6b1 : decide (150 < l0.length) = true := decide_eq_true (by omega)
      clear c6
      (first | rw [c6b0] | (simp only [i64_w, i32_w]; rw [c6b0]) | skip)
      have H' := Aside0.mk H
      clear H
      go_wp2
      go_meet
      case rel => exact ⟨_, (true), (by first | rfl | (simp; done) | (simp [*]; done)), H', ⟨by first | omega | exact Nat.le_refl _⟩, ⟨by repeat (first | (with_reducible first | exact HB.out | apply below_alloc | apply pw_below_drewN | apply below_drew1) | exact HB.out)⟩⟩
    · rw [if_neg c6] at H
      have c6b0 : decide (150 < (l0.length : Int)) = false := decide_eq_false c6
      have c6b1 : decide (150 < l0.length) = false := decide_eq_false (by omega)
      clear c6
      (first | rw [c6b0] | (simp only [i64_w, i32_w]; rw [c6b0]) | skip)
      have H' := Aside0.mk H
      clear H
      go_wp2
      go_meet
      case rel => exact ⟨_, (decide (a1 > 64)), (by first | rfl | (simp; done) | (simp [*]; done)), H', ⟨by first | omega | exact Nat.le_refl _⟩, ⟨by repeat (first | (with_reducible first | exact HB.out | apply below_alloc | apply pw_below_drewN | apply below_drew1) | exact HB.out)⟩⟩
  case rest =>
    clear HC5
    try clear p2
    try clear c4
    try clear c6
    try clear c6b0
    try clear c6b1
    obtain ⟨kq, x15_4, rfl, HA, HJ4, HB⟩ := hcut
    cases kq with
    | zero => exact absurd HA.out (by simp [garrisonlaw05_ScriptCounts.j0])
    | succ kj4 =>
      have H := HA.out
      clear HA
      simp only [garrisonlaw05_ScriptCounts.j0] at H
      by_cases c7 : x15_4 = true
      · subst c7
        have H1 : ((garrisonlaw05_live.f).bind fun t152 => (some t152)) = some r := by rw [if_pos rfl] at H; exact H
        clear H
        have H := H1
        clear H1
        replace H := Option.bind_eq_some_iff.mp H
        obtain ⟨t152, A80, H⟩ := H
        replace H : (some t152) = some r := H
        have A8 := Aside0.mk A80
        clear A80
        obtain rfl := Option.some.inj H
        go_wp2_with (first | ((with_reducible refine gate_callee (f := 10) rfl ?_); refine goesL_ (some 16) rfl rfl Tryd.func10 (by kernel_rfl) rfl #[] rfl (by (try simp only [List.map_toArray, List.map_cons, List.map_nil]); first | done | rfl | (simp only [List.length_drop, List.length_take]; rfl)) ?_; (with_reducible refine (garrisonlaw05_live.calls  t152 _ ?side1 A8.out).mono ?_); (case side1 => exact GL.below hG (by repeat (first | (with_reducible first | exact HB.out | apply below_alloc | apply pw_below_drewN | apply below_drew1) | exact HB.out))); rintro e w9 ⟨rfl, hb⟩; refine ⟨_, rfl, ?_⟩; have n0_ := Aside0.mk (below_step (by repeat (first | (with_reducible first | exact HB.out | apply below_alloc | apply pw_below_drewN | apply below_drew1) | exact HB.out)) hb); clear HB; have HB := n0_; clear n0_; (try clear hb); (try clear hb2); (try clear hk); (try clear hi)))
        go_ret
        exact ⟨by first | rfl | (simp [errW_none, errW_some] <;> rfl) | (simp [*, errW_none, errW_some] <;> rfl), by repeat (first | (with_reducible first | exact HB.out | apply below_alloc | apply pw_below_drewN | apply below_drew1) | exact HB.out)⟩
      · replace c7 := Bool.eq_false_iff.mpr c7
        subst c7
        have H1 : ((script_Count.f kj4 l0 a3).bind fun t153 => ((garrisonref05_Count.f kj4 l0 a3).bind fun t154 => (if t153 = t154 then ((script_Fair.f kj4 l0 a1 a2).bind fun t155 => ((garrisonref05_Fair.f kj4 l0 a1 a2).bind fun t156 => (if (t155 == t156) = true then ((script_Window.f kj4 l0 a1).bind fun t157 => ((garrisonref05_Window.f kj4 l0 a1).bind fun t158 => (if t157 = t158 then ((garrisonlaw05_live.f).bind fun t159 => (some t159)) else (some false)))) else (some false)))) else (some false)))) = some r := by rw [if_neg (show ¬ (false = true) by decide)] at H; exact H
        clear H
        have H := H1
        clear H1
        replace H := Option.bind_eq_some_iff.mp H
        obtain ⟨t153, A100, H⟩ := H
        replace H : ((garrisonref05_Count.f kj4 l0 a3).bind fun t154 => (if t153 = t154 then ((script_Fair.f kj4 l0 a1 a2).bind fun t155 => ((garrisonref05_Fair.f kj4 l0 a1 a2).bind fun t156 => (if (t155 == t156) = true then ((script_Window.f kj4 l0 a1).bind fun t157 => ((garrisonref05_Window.f kj4 l0 a1).bind fun t158 => (if t157 = t158 then ((garrisonlaw05_live.f).bind fun t159 => (some t159)) else (some false)))) else (some false)))) else (some false))) = some r := H
        have A10 := Aside0.mk A100
        clear A100
        replace H := Option.bind_eq_some_iff.mp H
        obtain ⟨t154, A110, H⟩ := H
        replace H : (if t153 = t154 then ((script_Fair.f kj4 l0 a1 a2).bind fun t155 => ((garrisonref05_Fair.f kj4 l0 a1 a2).bind fun t156 => (if (t155 == t156) = true then ((script_Window.f kj4 l0 a1).bind fun t157 => ((garrisonref05_Window.f kj4 l0 a1).bind fun t158 => (if t157 = t158 then ((garrisonlaw05_live.f).bind fun t159 => (some t159)) else (some false)))) else (some false)))) else (some false)) = some r := H
        have A11 := Aside0.mk A110
        clear A110
        by_cases c12 : t153 = t154
        · rw [if_pos c12] at H
          have c12b0 : (t153 == t154) = true := beq_iff_eq.mpr c12
          have c12b1 : (t153 != t154) = false := bne_eq_false_iff_eq.mpr c12
          clear c12
          replace H := Option.bind_eq_some_iff.mp H
          obtain ⟨t155, A130, H⟩ := H
          replace H : ((garrisonref05_Fair.f kj4 l0 a1 a2).bind fun t156 => (if (t155 == t156) = true then ((script_Window.f kj4 l0 a1).bind fun t157 => ((garrisonref05_Window.f kj4 l0 a1).bind fun t158 => (if t157 = t158 then ((garrisonlaw05_live.f).bind fun t159 => (some t159)) else (some false)))) else (some false))) = some r := H
          have A13 := Aside0.mk A130
          clear A130
          replace H := Option.bind_eq_some_iff.mp H
          obtain ⟨t156, A140, H⟩ := H
          replace H : (if (t155 == t156) = true then ((script_Window.f kj4 l0 a1).bind fun t157 => ((garrisonref05_Window.f kj4 l0 a1).bind fun t158 => (if t157 = t158 then ((garrisonlaw05_live.f).bind fun t159 => (some t159)) else (some false)))) else (some false)) = some r := H
          have A14 := Aside0.mk A140
          clear A140
          by_cases c15 : (t155 == t156) = true
          · rw [if_pos c15] at H
            have c15b0 : (t155 == t156) = true := c15
            (try (have c15b1 : decide (t155 = t156) = true := by simpa using c15))
            (try (have c15b2 : (t155 == t156) = true := by simpa using c15))
            clear c15
            replace H := Option.bind_eq_some_iff.mp H
            obtain ⟨t157, A160, H⟩ := H
            replace H : ((garrisonref05_Window.f kj4 l0 a1).bind fun t158 => (if t157 = t158 then ((garrisonlaw05_live.f).bind fun t159 => (some t159)) else (some false))) = some r := H
            have A16 := Aside0.mk A160
            clear A160
            replace H := Option.bind_eq_some_iff.mp H
            obtain ⟨t158, A170, H⟩ := H
            replace H : (if t157 = t158 then ((garrisonlaw05_live.f).bind fun t159 => (some t159)) else (some false)) = some r := H
            have A17 := Aside0.mk A170
            clear A170
            by_cases c18 : t157 = t158
            · rw [if_pos c18] at H
              have c18b0 : (t157 == t158) = true := beq_iff_eq.mpr c18
              have c18b1 : (t157 != t158) = false := bne_eq_false_iff_eq.mpr c18
              clear c18
              replace H := Option.bind_eq_some_iff.mp H
              obtain ⟨t159, A190, H⟩ := H
              replace H : (some t159) = some r := H
              have A19 := Aside0.mk A190
              clear A190
              obtain rfl := Option.some.inj H
              go_wp2_with (first | ((with_reducible refine gate_callee (f := 19) rfl ?_); refine goesL_ (some 19) rfl rfl Tryd.func19 (by kernel_rfl) rfl #[.slice A0 l0.length c0, .int .i64 a3] rfl (by (try simp only [List.map_toArray, List.map_cons, List.map_nil]); first | done | rfl | (simp only [List.length_drop, List.length_take]; rfl)) ?_; (with_reducible refine (script_Count.calls kj4 _ _ l0 a3 t153 _ ?side1 ?side2 A10.out).mono ?_); (case side1 => repeat (first | exact (Kd.C_below HR0.out HB.out) | (with_reducible refine Kd.C_alloc ?_ _) | (with_reducible refine Kd.C_drewN ?_ _) | (with_reducible refine Kd.C_drew ?_))); (case side2 => exact HC0.out); rintro e w' ⟨rfl, ⟨nd, rfl⟩⟩; refine ⟨_, rfl, ?_⟩) | ((with_reducible refine gate_callee (f := 20) rfl ?_); refine goesL_ (some 22) rfl rfl Tryd.func20 (by kernel_rfl) rfl #[.slice A0 l0.length c0, .int .i64 a3] rfl (by (try simp only [List.map_toArray, List.map_cons, List.map_nil]); first | done | rfl | (simp only [List.length_drop, List.length_take]; rfl)) ?_; (with_reducible refine (garrisonref05_Count.calls kj4 _ _ l0 a3 t154 _ ?side1 ?side2 A11.out).mono ?_); (case side1 => repeat (first | exact (Kd.C_below HR0.out (by repeat (first | (with_reducible first | exact HB.out | apply below_alloc | apply pw_below_drewN | apply below_drew1) | exact HB.out))) | (with_reducible refine Kd.C_alloc ?_ _) | (with_reducible refine Kd.C_drewN ?_ _) | (with_reducible refine Kd.C_drew ?_))); (case side2 => exact HC0.out); rintro e w' ⟨rfl, ⟨nd, rfl⟩⟩; refine ⟨_, rfl, ?_⟩) | (go_at_call 21; (with_reducible refine (script_Fair.calls kj4 _ _ l0 a1 a2 t155 _ ?side1 ?side2 A13.out).mono ?_); (case side1 => repeat (first | exact (Kd.C_below HR0.out (by repeat (first | (with_reducible first | exact HB.out | apply below_alloc | apply pw_below_drewN | apply below_drew1) | exact HB.out))) | (with_reducible refine Kd.C_alloc ?_ _) | (with_reducible refine Kd.C_drewN ?_ _) | (with_reducible refine Kd.C_drew ?_))); (case side2 => exact HC0.out); rintro e w20 ⟨rfl, hb⟩; have n0_ := Aside0.mk (below_step (by repeat (first | (with_reducible first | exact HB.out | apply below_alloc | apply pw_below_drewN | apply below_drew1) | exact HB.out)) hb); clear HB; have HB := n0_; clear n0_; (try clear hb); (try clear hb2); (try clear hk); (try clear hi)) | (go_at_call 22; (with_reducible refine (garrisonref05_Fair.calls kj4 _ _ l0 a1 a2 t156 _ ?side1 ?side2 A14.out).mono ?_); (case side1 => repeat (first | exact (Kd.C_below HR0.out HB.out) | (with_reducible refine Kd.C_alloc ?_ _) | (with_reducible refine Kd.C_drewN ?_ _) | (with_reducible refine Kd.C_drew ?_))); (case side2 => exact HC0.out); rintro e w' ⟨rfl, ⟨nd, rfl⟩⟩) | (go_at_call 23; (with_reducible refine (script_Window.calls kj4 _ _ l0 a1 t157 _ ?side1 ?side2 A16.out).mono ?_); (case side1 => repeat (first | exact (Kd.C_below HR0.out (by repeat (first | (with_reducible first | exact HB.out | apply below_alloc | apply pw_below_drewN | apply below_drew1) | exact HB.out))) | (with_reducible refine Kd.C_alloc ?_ _) | (with_reducible refine Kd.C_drewN ?_ _) | (with_reducible refine Kd.C_drew ?_))); (case side2 => exact HC0.out); rintro e w21 ⟨rfl, hb⟩; have n0_ := Aside0.mk (below_step (by repeat (first | (with_reducible first | exact HB.out | apply below_alloc | apply pw_below_drewN | apply below_drew1) | exact HB.out)) hb); clear HB; have HB := n0_; clear n0_; (try clear hb); (try clear hb2); (try clear hk); (try clear hi)) | (go_at_call 24; (with_reducible refine (garrisonref05_Window.calls kj4 _ _ l0 a1 t158 _ ?side1 ?side2 A17.out).mono ?_); (case side1 => repeat (first | exact (Kd.C_below HR0.out HB.out) | (with_reducible refine Kd.C_alloc ?_ _) | (with_reducible refine Kd.C_drewN ?_ _) | (with_reducible refine Kd.C_drew ?_))); (case side2 => exact HC0.out); rintro e w' ⟨rfl, ⟨nd, rfl⟩⟩) | (go_at_call 10; (with_reducible refine (garrisonlaw05_live.calls  t159 _ ?side1 A19.out).mono ?_); (case side1 => exact GL.below hG (by repeat (first | (with_reducible first | exact HB.out | apply below_alloc | apply pw_below_drewN | apply below_drew1) | exact HB.out))); rintro e w22 ⟨rfl, hb⟩; have n0_ := Aside0.mk (below_step (by repeat (first | (with_reducible first | exact HB.out | apply below_alloc | apply pw_below_drewN | apply below_drew1) | exact HB.out)) hb); clear HB; have HB := n0_; clear n0_; (try clear hb); (try clear hb2); (try clear hk); (try clear hi)))
              go_ret
              exact ⟨by first | rfl | (simp [errW_none, errW_some] <;> rfl) | (simp [*, errW_none, errW_some] <;> rfl), by repeat (first | (with_reducible first | exact HB.out | apply below_alloc | apply pw_below_drewN | apply below_drew1) | exact HB.out)⟩
            · rw [if_neg c18] at H
              have c18b0 : (t157 == t158) = false := beq_eq_false_iff_ne.mpr c18
              have c18b1 : (t157 != t158) = true := bne_iff_ne.mpr c18
              exact absurd ((Option.some.inj H).trans hr_.out) (by decide)
          · rw [if_neg c15] at H
            have c15b0 : (t155 == t156) = false := by simpa using c15
            (try (have c15b1 : decide (t155 = t156) = false := by simpa using c15))
            (try (have c15b2 : (t155 == t156) = false := by simpa using c15))
            (try (have c15b3 : ¬ (t155 = t156) := by simpa using c15))
            clear c15
            exact absurd ((Option.some.inj H).trans hr_.out) (by decide)
        · rw [if_neg c12] at H
          have c12b0 : (t153 == t154) = false := beq_eq_false_iff_ne.mpr c12
          have c12b1 : (t153 != t154) = true := bne_iff_ne.mpr c12
          exact absurd ((Option.some.inj H).trans hr_.out) (by decide)

/-- THE ONE PURE STATEMENT of garrisonlaw05_ScriptCounts: yours. -/
def garrisonlaw05_ScriptCounts.Pure : Prop := ∀ (l0 : List Int) (a1 : Int) (a2 : Int) (a3 : Int), l0.length ≤ maxLen → l0.length * 8 ≤ 140737488351232 → (∀ x ∈ l0, (Lit.int .i64 x).wf = true) → (Lit.int .i64 a1).wf = true → (Lit.int .i64 a2).wf = true → (Lit.int .i64 a3).wf = true → ∃ k, garrisonlaw05_ScriptCounts.f k l0 a1 a2 a3 = some true
theorem garrisonlaw05_ScriptCounts.walk (P : garrisonlaw05_ScriptCounts.Pure) (a0 : Option Addr) (len0 cap0 : Nat) (z0 : List Int) (a1 : Int) (a2 : Int) (a3 : Int) (w : World) (hG : GL w) (w0 : (a0 = none ∧ len0 = 0 ∧ cap0 = 0 ∧ z0 = []) ∨ ∃ x, a0 = some x ∧ len0 ≤ cap0 ∧ cap0 ≤ maxLen ∧ z0.length = cap0 ∧ (∀ i, i < z0.length → w.cell? (x.add i) = some (.int .i64 (z0.getD i 0))) ∧ ∀ n ∈ z0, (Lit.int .i64 n).wf = true) (y0 : len0 * 8 ≤ 140737488351232) (w1 : (Lit.int .i64 a1).wf = true) (w2 : (Lit.int .i64 a2).wf = true) (w3 : (Lit.int .i64 a3).wf = true) :
    Calls Tryd.prog 4 #[.slice a0 len0 cap0, .int .i64 a1, .int .i64 a2, .int .i64 a3] w fun e w' => e = .returned (.bool true) ∧ Below w.heap.size w w' := by
  obtain ⟨l0, rfl, hr0, hm0, hw0, hc0⟩ := ReadsInt.ofRowC w0
  obtain ⟨k, h⟩ := P l0 a1 a2 a3 hm0 y0 hw0 w1 w2 w3
  refine (garrisonlaw05_ScriptCounts.calls k _ _ l0 a1 a2 a3 true w hG ⟨rfl⟩ (Kd.C_of_reads (d := (0 : Int)) (h1 := fun _ => rfl) hr0) hc0 h).mono ?_
  rintro e w' ⟨rfl, hd⟩
  exact ⟨rfl, hd⟩

end Go.Proofs.YthifdmelanbgmaaDoor.P
