-- Written by a program of this session (wip/tools/myprint.py) out of the translation.
import Derived.Test.YthifdmelanbgmaaDoorPx0
import Derived.Test.YthifdmelanbgmaaDoorPx4
import Derived.Test.YthifdmelanbgmaaDoorPx6
import Derived.Test.YthifdmelanbgmaaDoorPx9
import Derived.Test.YthifdmelanbgmaaDoorGCheck
import Derived.Test.YthifdmelanbgmaaDoorGLive
namespace Go.Proofs.YthifdmelanbgmaaDoor.Given
end Go.Proofs.YthifdmelanbgmaaDoor.Given
namespace Go.Proofs.YthifdmelanbgmaaDoor.P
open Go.Proofs.YthifdmelanbgmaaDoor.Given
open Go.RowKit Go.Proofs.YthifdmelanbgmaaDoorW.PrintWords Go.Proofs.YthifdmelanbgmaaDoorW.PrintLast Go.Proofs.YthifdmelanbgmaaDoorW.PrintMore
attribute [local go_sem] max2_int min2_int max_two min_two max_three min_three max_four min_four u64_signed   -- for this text's walks alone
set_option linter.unusedVariables false
set_option linter.unusedSimpArgs false

/-! ### garrisonlaw05_ScriptFair: function 5 -/
def garrisonlaw05_ScriptFair.j0 : Nat → Int → Int → Int → Bool → Option (Bool)
  | 0, _, _, _, _ => none
  | k + 1, x0, x1, x2, x30 => if x30 = true then ((garrisonlaw05_live.f).bind fun t163 => (some t163)) else ((script_Rounds.f k x0 x1).bind fun t164 => ((script_Fair.f k t164 x0 x0).bind fun t167 => (if t167 = true then (if x0 = 1 then ((script_Window.f k t164 x0).bind fun t168 => (if t168 = x0 then ((script_Count.f k t164 x2).bind fun t169 => (if t169 = x1 then (if (t164.length : Int) = (wrap64 (x0 * x1)) then ((script_Check.f t164 x0).bind fun t170 => ((garrisonlaw05_num.f t170).bind fun t171 => (if t171 = 0 then ((garrisonlaw05_live.f).bind fun t172 => (some t172)) else (some false)))) else (some false)) else (some false))) else (some false))) else ((script_Fair.f k t164 x0 (wrap64 (x0 - 1))).bind fun t173 => (if t173 = true then (some false) else ((script_Window.f k t164 x0).bind fun t174 => (if t174 = x0 then ((script_Count.f k t164 x2).bind fun t175 => (if t175 = x1 then (if (t164.length : Int) = (wrap64 (x0 * x1)) then ((script_Check.f t164 x0).bind fun t176 => ((garrisonlaw05_num.f t176).bind fun t177 => (if t177 = 0 then ((garrisonlaw05_live.f).bind fun t178 => (some t178)) else (some false)))) else (some false)) else (some false))) else (some false)))))) else (some false))))
def garrisonlaw05_ScriptFair.f (k : Nat) (a0 : Int) (a1 : Int) (a2 : Int) : Option (Bool) := if a0 < 1 then (garrisonlaw05_ScriptFair.j0 k a0 a1 a2 true) else (if a0 > 64 then (garrisonlaw05_ScriptFair.j0 k a0 a1 a2 true) else (if a1 < 2 then (garrisonlaw05_ScriptFair.j0 k a0 a1 a2 true) else (if a1 > 100 then (garrisonlaw05_ScriptFair.j0 k a0 a1 a2 true) else (if a2 < 0 then (garrisonlaw05_ScriptFair.j0 k a0 a1 a2 true) else (garrisonlaw05_ScriptFair.j0 k a0 a1 a2 (decide (a2 ≥ a0)))))))
theorem garrisonlaw05_ScriptFair.mono_l : ∀ k, (∀ y0 y1 y2 y3, LeO (garrisonlaw05_ScriptFair.j0 k y0 y1 y2 y3) (garrisonlaw05_ScriptFair.j0 (k + 1) y0 y1 y2 y3))
  | 0 => fun _ _ _ _ r h => by simp [garrisonlaw05_ScriptFair.j0] at h
  | k + 1 => by
    have ih0 := garrisonlaw05_ScriptFair.mono_l k
    · intro y0 y1 y2 y3
      unfold garrisonlaw05_ScriptFair.j0
      repeat' first
      | (with_reducible exact ih0 _ _ _ _)
      | (with_reducible exact script_Count.mono _ _ _)
      | (with_reducible exact script_Fair.mono _ _ _ _)
      | (with_reducible exact script_Rounds.mono _ _ _)
      | (with_reducible exact script_Window.mono _ _ _)
      | (with_reducible exact LeO.refl _)
      | (with_reducible exact LeO.none _)
      | (with_reducible refine LeO.ite ?_ ?_)
      | (with_reducible refine LeO.bind ?_ (fun _ => ?_))
      | exact ih0 _ _ _ _
      | exact script_Count.mono _ _ _
      | exact script_Fair.mono _ _ _ _
      | exact script_Rounds.mono _ _ _
      | exact script_Window.mono _ _ _
      | exact LeO.none _
      | refine LeO.ite ?_ ?_
      | refine LeO.bind ?_ (fun _ => ?_)
theorem garrisonlaw05_ScriptFair.mono : ∀ a0 a1 a2 k, LeO (garrisonlaw05_ScriptFair.f k a0 a1 a2) (garrisonlaw05_ScriptFair.f (k + 1) a0 a1 a2) := by
  intro a0 a1 a2 k
  have ih0 := garrisonlaw05_ScriptFair.mono_l k
  unfold garrisonlaw05_ScriptFair.f
  repeat' first
      | (with_reducible exact ih0 _ _ _ _)
      | (with_reducible exact script_Count.mono _ _ _)
      | (with_reducible exact script_Fair.mono _ _ _ _)
      | (with_reducible exact script_Rounds.mono _ _ _)
      | (with_reducible exact script_Window.mono _ _ _)
      | (with_reducible exact LeO.refl _)
      | (with_reducible exact LeO.none _)
      | (with_reducible refine LeO.ite ?_ ?_)
      | (with_reducible refine LeO.bind ?_ (fun _ => ?_))
      | exact ih0 _ _ _ _
      | exact script_Count.mono _ _ _
      | exact script_Fair.mono _ _ _ _
      | exact script_Rounds.mono _ _ _
      | exact script_Window.mono _ _ _
      | exact LeO.none _
      | refine LeO.ite ?_ ?_
      | refine LeO.bind ?_ (fun _ => ?_)
set_option maxHeartbeats 8000000 in
set_option maxRecDepth 100000 in
theorem garrisonlaw05_ScriptFair.calls (k : Nat) (a0 : Int) (a1 : Int) (a2 : Int) (r : Bool) (w : World) (hG : GL w) (hr_ : Aside0 (r = true)) (h : garrisonlaw05_ScriptFair.f k a0 a1 a2 = some r) :
    Calls Tryd.prog 5 #[.int .i64 a0, .int .i64 a1, .int .i64 a2] w fun e w' => e = .returned (.bool r) ∧ Below w.heap.size w w' := by
  have HB := Aside0.mk (Below.refl w.heap.size w)
  have H : (if a0 < 1 then (garrisonlaw05_ScriptFair.j0 k a0 a1 a2 true) else (if a0 > 64 then (garrisonlaw05_ScriptFair.j0 k a0 a1 a2 true) else (if a1 < 2 then (garrisonlaw05_ScriptFair.j0 k a0 a1 a2 true) else (if a1 > 100 then (garrisonlaw05_ScriptFair.j0 k a0 a1 a2 true) else (if a2 < 0 then (garrisonlaw05_ScriptFair.j0 k a0 a1 a2 true) else (garrisonlaw05_ScriptFair.j0 k a0 a1 a2 (decide (a2 ≥ a0)))))))) = some r := h
  clear h
  have HC4 := Aside0.mk H
  clear H
  go_enter Tryd.func5, Tryd.ntmps5
  go_upto_region 1 with (fail)
  go_cut [30] (fun v30 wc => ∃ (kq : Nat) (x30_3 : Bool), v30 = .bool x30_3 ∧ Aside0 (garrisonlaw05_ScriptFair.j0 kq a0 a1 a2 x30_3 = some r) ∧ Aside0 (kq ≤ k) ∧ Aside0 (Below w.heap.size w wc))
  case first =>
    have H := HC4.out
    clear HC4
    by_cases c5 : a0 < 1
    · rw [if_pos c5] at H
      have c5b0 : decide (a0 < 1) = true := decide_eq_true c5
      clear c5
      (first | rw [c5b0] | (simp only [i64_w, i32_w]; rw [c5b0]) | skip)
      have H' := Aside0.mk H
      clear H
      go_wp2
      go_meet
      case rel => exact ⟨_, (true), (by first | rfl | (simp; done) | (simp [*]; done)), H', ⟨by first | omega | exact Nat.le_refl _⟩, ⟨by repeat (first | (with_reducible first | exact HB.out | apply below_alloc | apply pw_below_drewN | apply below_drew1) | exact HB.out)⟩⟩
    · rw [if_neg c5] at H
      have c5b0 : decide (a0 < 1) = false := decide_eq_false c5
      clear c5
      (first | rw [c5b0] | (simp only [i64_w, i32_w]; rw [c5b0]) | skip)
      by_cases c6 : a0 > 64
      · rw [if_pos c6] at H
        have c6b0 : decide (64 < a0) = true := decide_eq_true c6
        clear c6
        have H' := Aside0.mk H
        clear H
        go_wp2
        go_meet
        case rel => exact ⟨_, (true), (by first | rfl | (simp; done) | (simp [*]; done)), H', ⟨by first | omega | exact Nat.le_refl _⟩, ⟨by repeat (first | (with_reducible first | exact HB.out | apply below_alloc | apply pw_below_drewN | apply below_drew1) | exact HB.out)⟩⟩
      · rw [if_neg c6] at H
        have c6b0 : decide (64 < a0) = false := decide_eq_false c6
        clear c6
        by_cases c7 : a1 < 2
        · rw [if_pos c7] at H
          have c7b0 : decide (a1 < 2) = true := decide_eq_true c7
          clear c7
          have H' := Aside0.mk H
          clear H
          go_wp2
          go_meet
          case rel => exact ⟨_, (true), (by first | rfl | (simp; done) | (simp [*]; done)), H', ⟨by first | omega | exact Nat.le_refl _⟩, ⟨by repeat (first | (with_reducible first | exact HB.out | apply below_alloc | apply pw_below_drewN | apply below_drew1) | exact HB.out)⟩⟩
        · rw [if_neg c7] at H
          have c7b0 : decide (a1 < 2) = false := decide_eq_false c7
          clear c7
          by_cases c8 : a1 > 100
          · rw [if_pos c8] at H
            have c8b0 : decide (100 < a1) = true := decide_eq_true c8
            clear c8
            have H' := Aside0.mk H
            clear H
            go_wp2
            go_meet
            case rel => exact ⟨_, (true), (by first | rfl | (simp; done) | (simp [*]; done)), H', ⟨by first | omega | exact Nat.le_refl _⟩, ⟨by repeat (first | (with_reducible first | exact HB.out | apply below_alloc | apply pw_below_drewN | apply below_drew1) | exact HB.out)⟩⟩
          · rw [if_neg c8] at H
            have c8b0 : decide (100 < a1) = false := decide_eq_false c8
            clear c8
            by_cases c9 : a2 < 0
            · rw [if_pos c9] at H
              have c9b0 : decide (a2 < 0) = true := decide_eq_true c9
              clear c9
              have H' := Aside0.mk H
              clear H
              go_wp2
              go_meet
              case rel => exact ⟨_, (true), (by first | rfl | (simp; done) | (simp [*]; done)), H', ⟨by first | omega | exact Nat.le_refl _⟩, ⟨by repeat (first | (with_reducible first | exact HB.out | apply below_alloc | apply pw_below_drewN | apply below_drew1) | exact HB.out)⟩⟩
            · rw [if_neg c9] at H
              have c9b0 : decide (a2 < 0) = false := decide_eq_false c9
              clear c9
              have H' := Aside0.mk H
              clear H
              go_wp2
              go_meet
              case rel => exact ⟨_, (decide (a2 ≥ a0)), (by first | rfl | (simp; done) | (simp [*]; done)), H', ⟨by first | omega | exact Nat.le_refl _⟩, ⟨by repeat (first | (with_reducible first | exact HB.out | apply below_alloc | apply pw_below_drewN | apply below_drew1) | exact HB.out)⟩⟩
  case rest =>
    clear HC4
    try clear p2
    try clear c5
    try clear c5b0
    try clear c6
    try clear c6b0
    try clear c7
    try clear c7b0
    try clear c8
    try clear c8b0
    try clear c9
    try clear c9b0
    obtain ⟨kq, x30_3, rfl, HA, HJ3, HB⟩ := hcut
    cases kq with
    | zero => exact absurd HA.out (by simp [garrisonlaw05_ScriptFair.j0])
    | succ kj3 =>
      have H := HA.out
      clear HA
      simp only [garrisonlaw05_ScriptFair.j0] at H
      by_cases c10 : x30_3 = true
      · subst c10
        have H1 : ((garrisonlaw05_live.f).bind fun t163 => (some t163)) = some r := by rw [if_pos rfl] at H; exact H
        clear H
        have H := H1
        clear H1
        replace H := Option.bind_eq_some_iff.mp H
        obtain ⟨t163, A110, H⟩ := H
        replace H : (some t163) = some r := H
        have A11 := Aside0.mk A110
        clear A110
        obtain rfl := Option.some.inj H
        go_wp2_with (first | ((with_reducible refine gate_callee (f := 10) rfl ?_); refine goesL_ (some 31) rfl rfl Tryd.func10 (by kernel_rfl) rfl #[] rfl (by (try simp only [List.map_toArray, List.map_cons, List.map_nil]); first | done | rfl | (simp only [List.length_drop, List.length_take]; rfl)) ?_; (with_reducible refine (garrisonlaw05_live.calls  t163 _ ?side1 A11.out).mono ?_); (case side1 => exact GL.below hG (by repeat (first | (with_reducible first | exact HB.out | apply below_alloc | apply pw_below_drewN | apply below_drew1) | exact HB.out))); rintro e w12 ⟨rfl, hb⟩; refine ⟨_, rfl, ?_⟩; have n0_ := Aside0.mk (below_step (by repeat (first | (with_reducible first | exact HB.out | apply below_alloc | apply pw_below_drewN | apply below_drew1) | exact HB.out)) hb); clear HB; have HB := n0_; clear n0_; (try clear hb); (try clear hb2); (try clear hk); (try clear hi)))
        go_ret
        exact ⟨by first | rfl | (simp [errW_none, errW_some] <;> rfl) | (simp [*, errW_none, errW_some] <;> rfl), by repeat (first | (with_reducible first | exact HB.out | apply below_alloc | apply pw_below_drewN | apply below_drew1) | exact HB.out)⟩
      · replace c10 := Bool.eq_false_iff.mpr c10
        subst c10
        have H1 : ((script_Rounds.f kj3 a0 a1).bind fun t164 => ((script_Fair.f kj3 t164 a0 a0).bind fun t167 => (if t167 = true then (if a0 = 1 then ((script_Window.f kj3 t164 a0).bind fun t168 => (if t168 = a0 then ((script_Count.f kj3 t164 a2).bind fun t169 => (if t169 = a1 then (if (t164.length : Int) = (wrap64 (a0 * a1)) then ((script_Check.f t164 a0).bind fun t170 => ((garrisonlaw05_num.f t170).bind fun t171 => (if t171 = 0 then ((garrisonlaw05_live.f).bind fun t172 => (some t172)) else (some false)))) else (some false)) else (some false))) else (some false))) else ((script_Fair.f kj3 t164 a0 (wrap64 (a0 - 1))).bind fun t173 => (if t173 = true then (some false) else ((script_Window.f kj3 t164 a0).bind fun t174 => (if t174 = a0 then ((script_Count.f kj3 t164 a2).bind fun t175 => (if t175 = a1 then (if (t164.length : Int) = (wrap64 (a0 * a1)) then ((script_Check.f t164 a0).bind fun t176 => ((garrisonlaw05_num.f t176).bind fun t177 => (if t177 = 0 then ((garrisonlaw05_live.f).bind fun t178 => (some t178)) else (some false)))) else (some false)) else (some false))) else (some false)))))) else (some false)))) = some r := by rw [if_neg (show ¬ (false = true) by decide)] at H; exact H
        clear H
        have H := H1
        clear H1
        replace H := Option.bind_eq_some_iff.mp H
        obtain ⟨t164, A130, H⟩ := H
        replace H : ((script_Fair.f kj3 t164 a0 a0).bind fun t167 => (if t167 = true then (if a0 = 1 then ((script_Window.f kj3 t164 a0).bind fun t168 => (if t168 = a0 then ((script_Count.f kj3 t164 a2).bind fun t169 => (if t169 = a1 then (if (t164.length : Int) = (wrap64 (a0 * a1)) then ((script_Check.f t164 a0).bind fun t170 => ((garrisonlaw05_num.f t170).bind fun t171 => (if t171 = 0 then ((garrisonlaw05_live.f).bind fun t172 => (some t172)) else (some false)))) else (some false)) else (some false))) else (some false))) else ((script_Fair.f kj3 t164 a0 (wrap64 (a0 - 1))).bind fun t173 => (if t173 = true then (some false) else ((script_Window.f kj3 t164 a0).bind fun t174 => (if t174 = a0 then ((script_Count.f kj3 t164 a2).bind fun t175 => (if t175 = a1 then (if (t164.length : Int) = (wrap64 (a0 * a1)) then ((script_Check.f t164 a0).bind fun t176 => ((garrisonlaw05_num.f t176).bind fun t177 => (if t177 = 0 then ((garrisonlaw05_live.f).bind fun t178 => (some t178)) else (some false)))) else (some false)) else (some false))) else (some false)))))) else (some false))) = some r := H
        have A13 := Aside0.mk A130
        clear A130
        replace H := Option.bind_eq_some_iff.mp H
        obtain ⟨t167, A140, H⟩ := H
        replace H : (if t167 = true then (if a0 = 1 then ((script_Window.f kj3 t164 a0).bind fun t168 => (if t168 = a0 then ((script_Count.f kj3 t164 a2).bind fun t169 => (if t169 = a1 then (if (t164.length : Int) = (wrap64 (a0 * a1)) then ((script_Check.f t164 a0).bind fun t170 => ((garrisonlaw05_num.f t170).bind fun t171 => (if t171 = 0 then ((garrisonlaw05_live.f).bind fun t172 => (some t172)) else (some false)))) else (some false)) else (some false))) else (some false))) else ((script_Fair.f kj3 t164 a0 (wrap64 (a0 - 1))).bind fun t173 => (if t173 = true then (some false) else ((script_Window.f kj3 t164 a0).bind fun t174 => (if t174 = a0 then ((script_Count.f kj3 t164 a2).bind fun t175 => (if t175 = a1 then (if (t164.length : Int) = (wrap64 (a0 * a1)) then ((script_Check.f t164 a0).bind fun t176 => ((garrisonlaw05_num.f t176).bind fun t177 => (if t177 = 0 then ((garrisonlaw05_live.f).bind fun t178 => (some t178)) else (some false)))) else (some false)) else (some false))) else (some false)))))) else (some false)) = some r := H
        have A14 := Aside0.mk A140
        clear A140
        by_cases c15 : t167 = true
        · subst c15
          have H1 : (if a0 = 1 then ((script_Window.f kj3 t164 a0).bind fun t168 => (if t168 = a0 then ((script_Count.f kj3 t164 a2).bind fun t169 => (if t169 = a1 then (if (t164.length : Int) = (wrap64 (a0 * a1)) then ((script_Check.f t164 a0).bind fun t170 => ((garrisonlaw05_num.f t170).bind fun t171 => (if t171 = 0 then ((garrisonlaw05_live.f).bind fun t172 => (some t172)) else (some false)))) else (some false)) else (some false))) else (some false))) else ((script_Fair.f kj3 t164 a0 (wrap64 (a0 - 1))).bind fun t173 => (if t173 = true then (some false) else ((script_Window.f kj3 t164 a0).bind fun t174 => (if t174 = a0 then ((script_Count.f kj3 t164 a2).bind fun t175 => (if t175 = a1 then (if (t164.length : Int) = (wrap64 (a0 * a1)) then ((script_Check.f t164 a0).bind fun t176 => ((garrisonlaw05_num.f t176).bind fun t177 => (if t177 = 0 then ((garrisonlaw05_live.f).bind fun t178 => (some t178)) else (some false)))) else (some false)) else (some false))) else (some false)))))) = some r := by rw [if_pos rfl] at H; exact H
          clear H
          have H := H1
          clear H1
          by_cases c16 : a0 = 1
          · rw [if_pos c16] at H
            have c16b0 : (a0 == 1) = true := beq_iff_eq.mpr c16
            have c16b1 : (a0 != 1) = false := bne_eq_false_iff_eq.mpr c16
            clear c16
            replace H := Option.bind_eq_some_iff.mp H
            obtain ⟨t168, A170, H⟩ := H
            replace H : (if t168 = a0 then ((script_Count.f kj3 t164 a2).bind fun t169 => (if t169 = a1 then (if (t164.length : Int) = (wrap64 (a0 * a1)) then ((script_Check.f t164 a0).bind fun t170 => ((garrisonlaw05_num.f t170).bind fun t171 => (if t171 = 0 then ((garrisonlaw05_live.f).bind fun t172 => (some t172)) else (some false)))) else (some false)) else (some false))) else (some false)) = some r := H
            have A17 := Aside0.mk A170
            clear A170
            by_cases c18 : t168 = a0
            · rw [if_pos c18] at H
              have c18b0 : (t168 == a0) = true := beq_iff_eq.mpr c18
              have c18b1 : (t168 != a0) = false := bne_eq_false_iff_eq.mpr c18
              clear c18
              replace H := Option.bind_eq_some_iff.mp H
              obtain ⟨t169, A190, H⟩ := H
              replace H : (if t169 = a1 then (if (t164.length : Int) = (wrap64 (a0 * a1)) then ((script_Check.f t164 a0).bind fun t170 => ((garrisonlaw05_num.f t170).bind fun t171 => (if t171 = 0 then ((garrisonlaw05_live.f).bind fun t172 => (some t172)) else (some false)))) else (some false)) else (some false)) = some r := H
              have A19 := Aside0.mk A190
              clear A190
              by_cases c20 : t169 = a1
              · rw [if_pos c20] at H
                have c20b0 : (t169 == a1) = true := beq_iff_eq.mpr c20
                have c20b1 : (t169 != a1) = false := bne_eq_false_iff_eq.mpr c20
                clear c20
                by_cases c21 : (t164.length : Int) = (wrap64 (a0 * a1))
                · rw [if_pos c21] at H
                  have c21b0 : ((t164.length : Int) == (wrap64 (a0 * a1))) = true := beq_iff_eq.mpr c21
                  have c21b1 : ((t164.length : Int) != (wrap64 (a0 * a1))) = false := bne_eq_false_iff_eq.mpr c21
                  clear c21
                  replace H := Option.bind_eq_some_iff.mp H
                  obtain ⟨t170, A220, H⟩ := H
                  replace H : ((garrisonlaw05_num.f t170).bind fun t171 => (if t171 = 0 then ((garrisonlaw05_live.f).bind fun t172 => (some t172)) else (some false))) = some r := H
                  have A22 := Aside0.mk A220
                  clear A220
                  replace H := Option.bind_eq_some_iff.mp H
                  obtain ⟨t171, A230, H⟩ := H
                  replace H : (if t171 = 0 then ((garrisonlaw05_live.f).bind fun t172 => (some t172)) else (some false)) = some r := H
                  have A23 := Aside0.mk A230
                  clear A230
                  by_cases c24 : t171 = 0
                  · rw [if_pos c24] at H
                    have c24b0 : (t171 == 0) = true := beq_iff_eq.mpr c24
                    have c24b1 : (t171 != 0) = false := bne_eq_false_iff_eq.mpr c24
                    clear c24
                    replace H := Option.bind_eq_some_iff.mp H
                    obtain ⟨t172, A250, H⟩ := H
                    replace H : (some t172) = some r := H
                    have A25 := Aside0.mk A250
                    clear A250
                    obtain rfl := Option.some.inj H
                    go_wp2_with (first | ((with_reducible refine gate_callee (f := 25) rfl ?_); refine goesL_ (some 34) rfl rfl Tryd.func25 (by kernel_rfl) rfl #[.int .i64 a0, .int .i64 a1] rfl (by (try simp only [List.map_toArray, List.map_cons, List.map_nil]); first | done | rfl | (simp only [List.length_drop, List.length_take]; rfl)) ?_; (with_reducible refine (script_Rounds.calls kj3 a0 a1 t164 _ A13.out).mono ?_); rintro e w26 ⟨v165, rfl, ho0, hb⟩; refine ⟨_, rfl, ?_⟩; have n0_ := Aside0.mk (Kd.R_lower ho0 (below_size (by repeat (first | (with_reducible first | exact HB.out | apply below_alloc | apply pw_below_drewN | apply below_drew1) | exact HB.out)))); have n1_ := Aside0.mk (below_step (by repeat (first | (with_reducible first | exact HB.out | apply below_alloc | apply pw_below_drewN | apply below_drew1) | exact HB.out)) hb); clear HB; have HO166 := n0_; have HB := n1_; clear n0_ n1_; (try clear hb); (try clear hb2); (try clear hk); (try clear hi); (try clear ho0); obtain ⟨Ao27, co27, eo27⟩ := Kd.R_slice HO166.out; subst eo27) | ((with_reducible refine gate_callee (f := 21) rfl ?_); refine goesL_ (some 38) rfl rfl Tryd.func21 (by kernel_rfl) rfl #[.slice Ao27 t164.length co27, .int .i64 a0, .int .i64 a0] rfl (by (try simp only [List.map_toArray, List.map_cons, List.map_nil]); first | done | rfl | (simp only [List.length_drop, List.length_take]; rfl)) ?_; (with_reducible refine (script_Fair.calls kj3 _ _ t164 a0 a0 true _ ?side1 ?side2 A14.out).mono ?_); (case side1 => repeat (first | exact (Kd.R_reads' HO166.out).2.2 | (with_reducible refine Kd.C_alloc ?_ _) | (with_reducible refine Kd.C_drewN ?_ _) | (with_reducible refine Kd.C_drew ?_))); (case side2 => exact (Kd.R_reads' HO166.out).2.1); rintro e w28 ⟨rfl, hb⟩; refine ⟨_, rfl, ?_⟩; have n0_ := Aside0.mk (Kd.R_below (by (with_reducible repeat (first | apply Kd.R_alloc | apply Kd.R_drewN | apply Kd.R_drew)); exact HO166.out) hb); have n1_ := Aside0.mk (below_step (by repeat (first | (with_reducible first | exact HB.out | apply below_alloc | apply pw_below_drewN | apply below_drew1) | exact HB.out)) hb); clear HO166; clear HB; have HO166 := n0_; have HB := n1_; clear n0_ n1_; (try clear hb); (try clear hb2); (try clear hk); (try clear hi)) | (go_at_call 23; (with_reducible refine (script_Window.calls kj3 _ _ t164 a0 t168 _ ?side1 ?side2 A17.out).mono ?_); (case side1 => repeat (first | exact (Kd.R_reads' HO166.out).2.2 | (with_reducible refine Kd.C_alloc ?_ _) | (with_reducible refine Kd.C_drewN ?_ _) | (with_reducible refine Kd.C_drew ?_))); (case side2 => exact (Kd.R_reads' HO166.out).2.1); rintro e w29 ⟨rfl, hb⟩; have n0_ := Aside0.mk (Kd.R_below (by (with_reducible repeat (first | apply Kd.R_alloc | apply Kd.R_drewN | apply Kd.R_drew)); exact HO166.out) hb); have n1_ := Aside0.mk (below_step (by repeat (first | (with_reducible first | exact HB.out | apply below_alloc | apply pw_below_drewN | apply below_drew1) | exact HB.out)) hb); clear HO166; clear HB; have HO166 := n0_; have HB := n1_; clear n0_ n1_; (try clear hb); (try clear hb2); (try clear hk); (try clear hi)) | (go_at_call 19; (with_reducible refine (script_Count.calls kj3 _ _ t164 a2 t169 _ ?side1 ?side2 A19.out).mono ?_); (case side1 => repeat (first | exact (Kd.R_reads' HO166.out).2.2 | (with_reducible refine Kd.C_alloc ?_ _) | (with_reducible refine Kd.C_drewN ?_ _) | (with_reducible refine Kd.C_drew ?_))); (case side2 => exact (Kd.R_reads' HO166.out).2.1); rintro e w' ⟨rfl, ⟨nd, rfl⟩⟩) | (go_at_call 14; (with_reducible refine (script_Check.calls _ _ t164 a0 t170 _ ?side1 ?side2 A22.out).mono ?_); (case side1 => repeat (first | exact (Kd.R_reads' HO166.out).2.2 | (with_reducible refine Kd.C_alloc ?_ _) | (with_reducible refine Kd.C_drewN ?_ _) | (with_reducible refine Kd.C_drew ?_))); (case side2 => exact (Kd.R_reads' HO166.out).2.1); rintro e w30 ⟨rfl, hb⟩; have n0_ := Aside0.mk (Kd.R_below (by (with_reducible repeat (first | apply Kd.R_alloc | apply Kd.R_drewN | apply Kd.R_drew)); exact HO166.out) hb); have n1_ := Aside0.mk (below_step (by repeat (first | (with_reducible first | exact HB.out | apply below_alloc | apply pw_below_drewN | apply below_drew1) | exact HB.out)) hb); clear HO166; clear HB; have HO166 := n0_; have HB := n1_; clear n0_ n1_; (try clear hb); (try clear hb2); (try clear hk); (try clear hi)) | (go_at_call 13; (with_reducible refine (garrisonlaw05_num.calls t170 t171 _ A23.out).mono ?_); rintro e w' ⟨rfl, ⟨nd, rfl⟩⟩) | (go_at_call 10; (with_reducible refine (garrisonlaw05_live.calls  t172 _ ?side1 A25.out).mono ?_); (case side1 => exact GL.below hG (by repeat (first | (with_reducible first | exact HB.out | apply below_alloc | apply pw_below_drewN | apply below_drew1) | exact HB.out))); rintro e w31 ⟨rfl, hb⟩; have n0_ := Aside0.mk (Kd.R_below (by (with_reducible repeat (first | apply Kd.R_alloc | apply Kd.R_drewN | apply Kd.R_drew)); exact HO166.out) hb); have n1_ := Aside0.mk (below_step (by repeat (first | (with_reducible first | exact HB.out | apply below_alloc | apply pw_below_drewN | apply below_drew1) | exact HB.out)) hb); clear HO166; clear HB; have HO166 := n0_; have HB := n1_; clear n0_ n1_; (try clear hb); (try clear hb2); (try clear hk); (try clear hi)))
                    go_ret
                    exact ⟨by first | rfl | (simp [errW_none, errW_some] <;> rfl) | (simp [*, errW_none, errW_some] <;> rfl), by repeat (first | (with_reducible first | exact HB.out | apply below_alloc | apply pw_below_drewN | apply below_drew1) | exact HB.out)⟩
                  · rw [if_neg c24] at H
                    have c24b0 : (t171 == 0) = false := beq_eq_false_iff_ne.mpr c24
                    have c24b1 : (t171 != 0) = true := bne_iff_ne.mpr c24
                    exact absurd ((Option.some.inj H).trans hr_.out) (by decide)
                · rw [if_neg c21] at H
                  have c21b0 : ((t164.length : Int) == (wrap64 (a0 * a1))) = false := beq_eq_false_iff_ne.mpr c21
                  have c21b1 : ((t164.length : Int) != (wrap64 (a0 * a1))) = true := bne_iff_ne.mpr c21
                  exact absurd ((Option.some.inj H).trans hr_.out) (by decide)
              · rw [if_neg c20] at H
                have c20b0 : (t169 == a1) = false := beq_eq_false_iff_ne.mpr c20
                have c20b1 : (t169 != a1) = true := bne_iff_ne.mpr c20
                exact absurd ((Option.some.inj H).trans hr_.out) (by decide)
            · rw [if_neg c18] at H
              have c18b0 : (t168 == a0) = false := beq_eq_false_iff_ne.mpr c18
              have c18b1 : (t168 != a0) = true := bne_iff_ne.mpr c18
              exact absurd ((Option.some.inj H).trans hr_.out) (by decide)
          · rw [if_neg c16] at H
            have c16b0 : (a0 == 1) = false := beq_eq_false_iff_ne.mpr c16
            have c16b1 : (a0 != 1) = true := bne_iff_ne.mpr c16
            replace H := Option.bind_eq_some_iff.mp H
            obtain ⟨t173, A320, H⟩ := H
            replace H : (if t173 = true then (some false) else ((script_Window.f kj3 t164 a0).bind fun t174 => (if t174 = a0 then ((script_Count.f kj3 t164 a2).bind fun t175 => (if t175 = a1 then (if (t164.length : Int) = (wrap64 (a0 * a1)) then ((script_Check.f t164 a0).bind fun t176 => ((garrisonlaw05_num.f t176).bind fun t177 => (if t177 = 0 then ((garrisonlaw05_live.f).bind fun t178 => (some t178)) else (some false)))) else (some false)) else (some false))) else (some false)))) = some r := H
            have A32 := Aside0.mk A320
            clear A320
            by_cases c33 : t173 = true
            · subst c33
              have H1 : (some false) = some r := by rw [if_pos rfl] at H; exact H
              clear H
              have H := H1
              clear H1
              exact absurd ((Option.some.inj H).trans hr_.out) (by decide)
            · replace c33 := Bool.eq_false_iff.mpr c33
              subst c33
              have H1 : ((script_Window.f kj3 t164 a0).bind fun t174 => (if t174 = a0 then ((script_Count.f kj3 t164 a2).bind fun t175 => (if t175 = a1 then (if (t164.length : Int) = (wrap64 (a0 * a1)) then ((script_Check.f t164 a0).bind fun t176 => ((garrisonlaw05_num.f t176).bind fun t177 => (if t177 = 0 then ((garrisonlaw05_live.f).bind fun t178 => (some t178)) else (some false)))) else (some false)) else (some false))) else (some false))) = some r := by rw [if_neg (show ¬ (false = true) by decide)] at H; exact H
              clear H
              have H := H1
              clear H1
              replace H := Option.bind_eq_some_iff.mp H
              obtain ⟨t174, A340, H⟩ := H
              replace H : (if t174 = a0 then ((script_Count.f kj3 t164 a2).bind fun t175 => (if t175 = a1 then (if (t164.length : Int) = (wrap64 (a0 * a1)) then ((script_Check.f t164 a0).bind fun t176 => ((garrisonlaw05_num.f t176).bind fun t177 => (if t177 = 0 then ((garrisonlaw05_live.f).bind fun t178 => (some t178)) else (some false)))) else (some false)) else (some false))) else (some false)) = some r := H
              have A34 := Aside0.mk A340
              clear A340
              by_cases c35 : t174 = a0
              · rw [if_pos c35] at H
                have c35b0 : (t174 == a0) = true := beq_iff_eq.mpr c35
                have c35b1 : (t174 != a0) = false := bne_eq_false_iff_eq.mpr c35
                clear c35
                replace H := Option.bind_eq_some_iff.mp H
                obtain ⟨t175, A360, H⟩ := H
                replace H : (if t175 = a1 then (if (t164.length : Int) = (wrap64 (a0 * a1)) then ((script_Check.f t164 a0).bind fun t176 => ((garrisonlaw05_num.f t176).bind fun t177 => (if t177 = 0 then ((garrisonlaw05_live.f).bind fun t178 => (some t178)) else (some false)))) else (some false)) else (some false)) = some r := H
                have A36 := Aside0.mk A360
                clear A360
                by_cases c37 : t175 = a1
                · rw [if_pos c37] at H
                  have c37b0 : (t175 == a1) = true := beq_iff_eq.mpr c37
                  have c37b1 : (t175 != a1) = false := bne_eq_false_iff_eq.mpr c37
                  clear c37
                  by_cases c38 : (t164.length : Int) = (wrap64 (a0 * a1))
                  · rw [if_pos c38] at H
                    have c38b0 : ((t164.length : Int) == (wrap64 (a0 * a1))) = true := beq_iff_eq.mpr c38
                    have c38b1 : ((t164.length : Int) != (wrap64 (a0 * a1))) = false := bne_eq_false_iff_eq.mpr c38
                    clear c38
                    replace H := Option.bind_eq_some_iff.mp H
                    obtain ⟨t176, A390, H⟩ := H
                    replace H : ((garrisonlaw05_num.f t176).bind fun t177 => (if t177 = 0 then ((garrisonlaw05_live.f).bind fun t178 => (some t178)) else (some false))) = some r := H
                    have A39 := Aside0.mk A390
                    clear A390
                    replace H := Option.bind_eq_some_iff.mp H
                    obtain ⟨t177, A400, H⟩ := H
                    replace H : (if t177 = 0 then ((garrisonlaw05_live.f).bind fun t178 => (some t178)) else (some false)) = some r := H
                    have A40 := Aside0.mk A400
                    clear A400
                    by_cases c41 : t177 = 0
                    · rw [if_pos c41] at H
                      have c41b0 : (t177 == 0) = true := beq_iff_eq.mpr c41
                      have c41b1 : (t177 != 0) = false := bne_eq_false_iff_eq.mpr c41
                      clear c41
                      replace H := Option.bind_eq_some_iff.mp H
                      obtain ⟨t178, A420, H⟩ := H
                      replace H : (some t178) = some r := H
                      have A42 := Aside0.mk A420
                      clear A420
                      obtain rfl := Option.some.inj H
                      go_wp2_with (first | ((with_reducible refine gate_callee (f := 25) rfl ?_); refine goesL_ (some 34) rfl rfl Tryd.func25 (by kernel_rfl) rfl #[.int .i64 a0, .int .i64 a1] rfl (by (try simp only [List.map_toArray, List.map_cons, List.map_nil]); first | done | rfl | (simp only [List.length_drop, List.length_take]; rfl)) ?_; (with_reducible refine (script_Rounds.calls kj3 a0 a1 t164 _ A13.out).mono ?_); rintro e w43 ⟨v165, rfl, ho0, hb⟩; refine ⟨_, rfl, ?_⟩; have n0_ := Aside0.mk (Kd.R_lower ho0 (below_size (by repeat (first | (with_reducible first | exact HB.out | apply below_alloc | apply pw_below_drewN | apply below_drew1) | exact HB.out)))); have n1_ := Aside0.mk (below_step (by repeat (first | (with_reducible first | exact HB.out | apply below_alloc | apply pw_below_drewN | apply below_drew1) | exact HB.out)) hb); clear HB; have HO166 := n0_; have HB := n1_; clear n0_ n1_; (try clear hb); (try clear hb2); (try clear hk); (try clear hi); (try clear ho0); obtain ⟨Ao44, co44, eo44⟩ := Kd.R_slice HO166.out; subst eo44) | ((with_reducible refine gate_callee (f := 21) rfl ?_); refine goesL_ (some 38) rfl rfl Tryd.func21 (by kernel_rfl) rfl #[.slice Ao44 t164.length co44, .int .i64 a0, .int .i64 a0] rfl (by (try simp only [List.map_toArray, List.map_cons, List.map_nil]); first | done | rfl | (simp only [List.length_drop, List.length_take]; rfl)) ?_; (with_reducible refine (script_Fair.calls kj3 _ _ t164 a0 a0 true _ ?side1 ?side2 A14.out).mono ?_); (case side1 => repeat (first | exact (Kd.R_reads' HO166.out).2.2 | (with_reducible refine Kd.C_alloc ?_ _) | (with_reducible refine Kd.C_drewN ?_ _) | (with_reducible refine Kd.C_drew ?_))); (case side2 => exact (Kd.R_reads' HO166.out).2.1); rintro e w45 ⟨rfl, hb⟩; refine ⟨_, rfl, ?_⟩; have n0_ := Aside0.mk (Kd.R_below (by (with_reducible repeat (first | apply Kd.R_alloc | apply Kd.R_drewN | apply Kd.R_drew)); exact HO166.out) hb); have n1_ := Aside0.mk (below_step (by repeat (first | (with_reducible first | exact HB.out | apply below_alloc | apply pw_below_drewN | apply below_drew1) | exact HB.out)) hb); clear HO166; clear HB; have HO166 := n0_; have HB := n1_; clear n0_ n1_; (try clear hb); (try clear hb2); (try clear hk); (try clear hi)) | (go_at_call 21; (with_reducible refine (script_Fair.calls kj3 _ _ t164 a0 (wrap64 (a0 - 1)) false _ ?side1 ?side2 A32.out).mono ?_); (case side1 => repeat (first | exact (Kd.R_reads' HO166.out).2.2 | (with_reducible refine Kd.C_alloc ?_ _) | (with_reducible refine Kd.C_drewN ?_ _) | (with_reducible refine Kd.C_drew ?_))); (case side2 => exact (Kd.R_reads' HO166.out).2.1); rintro e w46 ⟨rfl, hb⟩; have n0_ := Aside0.mk (Kd.R_below (by (with_reducible repeat (first | apply Kd.R_alloc | apply Kd.R_drewN | apply Kd.R_drew)); exact HO166.out) hb); have n1_ := Aside0.mk (below_step (by repeat (first | (with_reducible first | exact HB.out | apply below_alloc | apply pw_below_drewN | apply below_drew1) | exact HB.out)) hb); clear HO166; clear HB; have HO166 := n0_; have HB := n1_; clear n0_ n1_; (try clear hb); (try clear hb2); (try clear hk); (try clear hi)) | (go_at_call 23; (with_reducible refine (script_Window.calls kj3 _ _ t164 a0 t174 _ ?side1 ?side2 A34.out).mono ?_); (case side1 => repeat (first | exact (Kd.R_reads' HO166.out).2.2 | (with_reducible refine Kd.C_alloc ?_ _) | (with_reducible refine Kd.C_drewN ?_ _) | (with_reducible refine Kd.C_drew ?_))); (case side2 => exact (Kd.R_reads' HO166.out).2.1); rintro e w47 ⟨rfl, hb⟩; have n0_ := Aside0.mk (Kd.R_below (by (with_reducible repeat (first | apply Kd.R_alloc | apply Kd.R_drewN | apply Kd.R_drew)); exact HO166.out) hb); have n1_ := Aside0.mk (below_step (by repeat (first | (with_reducible first | exact HB.out | apply below_alloc | apply pw_below_drewN | apply below_drew1) | exact HB.out)) hb); clear HO166; clear HB; have HO166 := n0_; have HB := n1_; clear n0_ n1_; (try clear hb); (try clear hb2); (try clear hk); (try clear hi)) | (go_at_call 19; (with_reducible refine (script_Count.calls kj3 _ _ t164 a2 t175 _ ?side1 ?side2 A36.out).mono ?_); (case side1 => repeat (first | exact (Kd.R_reads' HO166.out).2.2 | (with_reducible refine Kd.C_alloc ?_ _) | (with_reducible refine Kd.C_drewN ?_ _) | (with_reducible refine Kd.C_drew ?_))); (case side2 => exact (Kd.R_reads' HO166.out).2.1); rintro e w' ⟨rfl, ⟨nd, rfl⟩⟩) | (go_at_call 14; (with_reducible refine (script_Check.calls _ _ t164 a0 t176 _ ?side1 ?side2 A39.out).mono ?_); (case side1 => repeat (first | exact (Kd.R_reads' HO166.out).2.2 | (with_reducible refine Kd.C_alloc ?_ _) | (with_reducible refine Kd.C_drewN ?_ _) | (with_reducible refine Kd.C_drew ?_))); (case side2 => exact (Kd.R_reads' HO166.out).2.1); rintro e w48 ⟨rfl, hb⟩; have n0_ := Aside0.mk (Kd.R_below (by (with_reducible repeat (first | apply Kd.R_alloc | apply Kd.R_drewN | apply Kd.R_drew)); exact HO166.out) hb); have n1_ := Aside0.mk (below_step (by repeat (first | (with_reducible first | exact HB.out | apply below_alloc | apply pw_below_drewN | apply below_drew1) | exact HB.out)) hb); clear HO166; clear HB; have HO166 := n0_; have HB := n1_; clear n0_ n1_; (try clear hb); (try clear hb2); (try clear hk); (try clear hi)) | (go_at_call 13; (with_reducible refine (garrisonlaw05_num.calls t176 t177 _ A40.out).mono ?_); rintro e w' ⟨rfl, ⟨nd, rfl⟩⟩) | (go_at_call 10; (with_reducible refine (garrisonlaw05_live.calls  t178 _ ?side1 A42.out).mono ?_); (case side1 => exact GL.below hG (by repeat (first | (with_reducible first | exact HB.out | apply below_alloc | apply pw_below_drewN | apply below_drew1) | exact HB.out))); rintro e w49 ⟨rfl, hb⟩; have n0_ := Aside0.mk (Kd.R_below (by (with_reducible repeat (first | apply Kd.R_alloc | apply Kd.R_drewN | apply Kd.R_drew)); exact HO166.out) hb); have n1_ := Aside0.mk (below_step (by repeat (first | (with_reducible first | exact HB.out | apply below_alloc | apply pw_below_drewN | apply below_drew1) | exact HB.out)) hb); clear HO166; clear HB; have HO166 := n0_; have HB := n1_; clear n0_ n1_; (try clear hb); (try clear hb2); (try clear hk); (try clear hi)))
                      go_ret
                      exact ⟨by first | rfl | (simp [errW_none, errW_some] <;> rfl) | (simp [*, errW_none, errW_some] <;> rfl), by repeat (first | (with_reducible first | exact HB.out | apply below_alloc | apply pw_below_drewN | apply below_drew1) | exact HB.out)⟩
                    · rw [if_neg c41] at H
                      have c41b0 : (t177 == 0) = false := beq_eq_false_iff_ne.mpr c41
                      have c41b1 : (t177 != 0) = true := bne_iff_ne.mpr c41
                      exact absurd ((Option.some.inj H).trans hr_.out) (by decide)
                  · rw [if_neg c38] at H
                    have c38b0 : ((t164.length : Int) == (wrap64 (a0 * a1))) = false := beq_eq_false_iff_ne.mpr c38
                    have c38b1 : ((t164.length : Int) != (wrap64 (a0 * a1))) = true := bne_iff_ne.mpr c38
                    exact absurd ((Option.some.inj H).trans hr_.out) (by decide)
                · rw [if_neg c37] at H
                  have c37b0 : (t175 == a1) = false := beq_eq_false_iff_ne.mpr c37
                  have c37b1 : (t175 != a1) = true := bne_iff_ne.mpr c37
                  exact absurd ((Option.some.inj H).trans hr_.out) (by decide)
              · rw [if_neg c35] at H
                have c35b0 : (t174 == a0) = false := beq_eq_false_iff_ne.mpr c35
                have c35b1 : (t174 != a0) = true := bne_iff_ne.mpr c35
                exact absurd ((Option.some.inj H).trans hr_.out) (by decide)
        · replace c15 := Bool.eq_false_iff.mpr c15
          subst c15
          have H1 : (some false) = some r := by rw [if_neg (show ¬ (false = true) by decide)] at H; exact H
          clear H
          have H := H1
          clear H1
          exact absurd ((Option.some.inj H).trans hr_.out) (by decide)

/-- THE ONE PURE STATEMENT of garrisonlaw05_ScriptFair: yours. -/
def garrisonlaw05_ScriptFair.Pure : Prop := ∀ (a0 : Int) (a1 : Int) (a2 : Int), (Lit.int .i64 a0).wf = true → (Lit.int .i64 a1).wf = true → (Lit.int .i64 a2).wf = true → ∃ k, garrisonlaw05_ScriptFair.f k a0 a1 a2 = some true
theorem garrisonlaw05_ScriptFair.walk (P : garrisonlaw05_ScriptFair.Pure) (a0 : Int) (a1 : Int) (a2 : Int) (w : World) (hG : GL w) (w0 : (Lit.int .i64 a0).wf = true) (w1 : (Lit.int .i64 a1).wf = true) (w2 : (Lit.int .i64 a2).wf = true) :
    Calls Tryd.prog 5 #[.int .i64 a0, .int .i64 a1, .int .i64 a2] w fun e w' => e = .returned (.bool true) ∧ Below w.heap.size w w' := by
  obtain ⟨k, h⟩ := P a0 a1 a2 w0 w1 w2
  refine (garrisonlaw05_ScriptFair.calls k a0 a1 a2 true w hG ⟨rfl⟩ h).mono ?_
  rintro e w' ⟨rfl, hd⟩
  exact ⟨rfl, hd⟩

end Go.Proofs.YthifdmelanbgmaaDoor.P
