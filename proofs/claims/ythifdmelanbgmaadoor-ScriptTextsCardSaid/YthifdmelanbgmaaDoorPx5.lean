-- Written by a program of this session (wip/tools/myprint.py) out of the translation.
import Derived.Test.YthifdmelanbgmaaDoorPx0
import Derived.Test.YthifdmelanbgmaaDoorPx1
import Derived.Test.YthifdmelanbgmaaDoorPx2
import Derived.Test.YthifdmelanbgmaaDoorPx3
import Derived.Test.YthifdmelanbgmaaDoorPx4
import Derived.Test.YthifdmelanbgmaaDoorGCheck
import Derived.Test.YthifdmelanbgmaaDoorGLive
import Derived.Test.YthifdmelanbgmaaDoorGParse
namespace Go.Proofs.YthifdmelanbgmaaDoor.Given
end Go.Proofs.YthifdmelanbgmaaDoor.Given
namespace Go.Proofs.YthifdmelanbgmaaDoor.P
open Go.Proofs.YthifdmelanbgmaaDoor.Given
open Go.RowKit Go.Proofs.YthifdmelanbgmaaDoorW.PrintWords Go.Proofs.YthifdmelanbgmaaDoorW.PrintLast Go.Proofs.YthifdmelanbgmaaDoorW.PrintMore
attribute [local go_sem] max2_int min2_int max_two min_two max_three min_three max_four min_four u64_signed   -- for this text's walks alone
set_option linter.unusedVariables false
set_option linter.unusedSimpArgs false

/-! ### garrisonlaw05_ScriptTexts: function 3 -/
def garrisonlaw05_ScriptTexts.j0 : Nat → List Int → Int → ByteArray → Bool → Option (Bool)
  | 0, _, _, _, _ => none
  | k + 1, x0, x1, x2, x18 => if x18 = true then ((garrisonlaw05_live.f).bind fun t122 => (some t122)) else ((script_Parse.f k x2).bind fun bt123 => ((garrisonref05_Parse.f k x2).bind fun bt127 => ((script_Check.f x0 x1).bind fun t131 => ((garrisonlaw05_num.f t131).bind fun t132 => ((garrisonref05_Is.f k x0 x1).bind fun t133 => (if ((t132 == 0) == t133) = true then ((script_Put.f k x0).bind fun t134 => ((garrisonref05_Put.f k x0).bind fun t135 => (if t134.toList = t135.toList then ((garrisonref05_Same.f k bt123.1 bt127.1).bind fun t136 => (if t136 = true then ((garrisonlaw05_num.f bt123.2).bind fun t137 => (if t137 = bt127.2 then ((garrisonlaw05_live.f).bind fun t138 => (some t138)) else (some false))) else (some false))) else (some false)))) else (some false)))))))
def garrisonlaw05_ScriptTexts.f (k : Nat) (l0 : List Int) (a1 : Int) (a2 : ByteArray) : Option (Bool) := if (l0.length : Int) > 150 then (garrisonlaw05_ScriptTexts.j0 k l0 a1 a2 true) else (garrisonlaw05_ScriptTexts.j0 k l0 a1 a2 (decide ((a2.size : Int) > 1000)))
theorem garrisonlaw05_ScriptTexts.mono_l : ∀ k, (∀ y0 y1 y2 y3, LeO (garrisonlaw05_ScriptTexts.j0 k y0 y1 y2 y3) (garrisonlaw05_ScriptTexts.j0 (k + 1) y0 y1 y2 y3))
  | 0 => fun _ _ _ _ r h => by simp [garrisonlaw05_ScriptTexts.j0] at h
  | k + 1 => by
    have ih0 := garrisonlaw05_ScriptTexts.mono_l k
    · intro y0 y1 y2 y3
      unfold garrisonlaw05_ScriptTexts.j0
      repeat' first
      | (with_reducible exact ih0 _ _ _ _)
      | (with_reducible exact garrisonref05_Is.mono _ _ _)
      | (with_reducible exact garrisonref05_Parse.mono _ _)
      | (with_reducible exact garrisonref05_Put.mono _ _)
      | (with_reducible exact garrisonref05_Same.mono _ _ _)
      | (with_reducible exact script_Parse.mono _ _)
      | (with_reducible exact script_Put.mono _ _)
      | (with_reducible exact LeO.refl _)
      | (with_reducible exact LeO.none _)
      | (with_reducible refine LeO.ite ?_ ?_)
      | (with_reducible refine LeO.bind ?_ (fun _ => ?_))
      | exact ih0 _ _ _ _
      | exact garrisonref05_Is.mono _ _ _
      | exact garrisonref05_Parse.mono _ _
      | exact garrisonref05_Put.mono _ _
      | exact garrisonref05_Same.mono _ _ _
      | exact script_Parse.mono _ _
      | exact script_Put.mono _ _
      | exact LeO.none _
      | refine LeO.ite ?_ ?_
      | refine LeO.bind ?_ (fun _ => ?_)
theorem garrisonlaw05_ScriptTexts.mono : ∀ a0 a1 a2 k, LeO (garrisonlaw05_ScriptTexts.f k a0 a1 a2) (garrisonlaw05_ScriptTexts.f (k + 1) a0 a1 a2) := by
  intro a0 a1 a2 k
  have ih0 := garrisonlaw05_ScriptTexts.mono_l k
  unfold garrisonlaw05_ScriptTexts.f
  repeat' first
      | (with_reducible exact ih0 _ _ _ _)
      | (with_reducible exact garrisonref05_Is.mono _ _ _)
      | (with_reducible exact garrisonref05_Parse.mono _ _)
      | (with_reducible exact garrisonref05_Put.mono _ _)
      | (with_reducible exact garrisonref05_Same.mono _ _ _)
      | (with_reducible exact script_Parse.mono _ _)
      | (with_reducible exact script_Put.mono _ _)
      | (with_reducible exact LeO.refl _)
      | (with_reducible exact LeO.none _)
      | (with_reducible refine LeO.ite ?_ ?_)
      | (with_reducible refine LeO.bind ?_ (fun _ => ?_))
      | exact ih0 _ _ _ _
      | exact garrisonref05_Is.mono _ _ _
      | exact garrisonref05_Parse.mono _ _
      | exact garrisonref05_Put.mono _ _
      | exact garrisonref05_Same.mono _ _ _
      | exact script_Parse.mono _ _
      | exact script_Put.mono _ _
      | exact LeO.none _
      | refine LeO.ite ?_ ?_
      | refine LeO.bind ?_ (fun _ => ?_)
set_option maxHeartbeats 8000000 in
set_option maxRecDepth 100000 in
theorem garrisonlaw05_ScriptTexts.calls (k : Nat) (A0 : Option Addr) (c0 : Nat) (l0 : List Int) (a1 : Int) (a2 : ByteArray) (r : Bool) (w : World) (hG : GL w) (hr_ : Aside0 (r = true)) (hr0 : Kd.C (Kd.int .i64) w A0 l0.length l0) (hc0 : l0.length ≤ c0) (h : garrisonlaw05_ScriptTexts.f k l0 a1 a2 = some r) :
    Calls Tryd.prog 3 #[.slice A0 l0.length c0, .int .i64 a1, .string a2] w fun e w' => e = .returned (.bool r) ∧ Below w.heap.size w w' := by
  have HR0 := Aside0.mk hr0
  have HC0 := Aside0.mk hc0
  clear hr0 hc0
  have HB := Aside0.mk (Below.refl w.heap.size w)
  have H : (if (l0.length : Int) > 150 then (garrisonlaw05_ScriptTexts.j0 k l0 a1 a2 true) else (garrisonlaw05_ScriptTexts.j0 k l0 a1 a2 (decide ((a2.size : Int) > 1000)))) = some r := h
  clear h
  have HC4 := Aside0.mk H
  clear H
  go_enter Tryd.func3, Tryd.ntmps3
  go_upto_region 1 with (fail)
  go_cut [18] (fun v18 wc => ∃ (kq : Nat) (x18_3 : Bool), v18 = .bool x18_3 ∧ Aside0 (garrisonlaw05_ScriptTexts.j0 kq l0 a1 a2 x18_3 = some r) ∧ Aside0 (kq ≤ k) ∧ Aside0 (Below w.heap.size w wc))
  case first =>
    have H := HC4.out
    clear HC4
    by_cases c5 : (l0.length : Int) > 150
    · rw [if_pos c5] at H
      have c5b0 : decide (150 < (l0.length : Int)) = true := decide_eq_true c5
      have c5b1 : decide (150 < l0.length) = true := decide_eq_true (by omega)
      clear c5
      (first | rw [c5b0] | (simp only [i64_w, i32_w]; rw [c5b0]) | skip)
      have H' := Aside0.mk H
      clear H
      go_wp2
      go_meet
      case rel => exact ⟨_, (true), (by first | rfl | (simp; done) | (simp [*]; done)), H', ⟨by first | omega | exact Nat.le_refl _⟩, ⟨by repeat (first | (with_reducible first | exact HB.out | apply below_alloc | apply pw_below_drewN | apply below_drew1) | exact HB.out)⟩⟩
    · rw [if_neg c5] at H
      have c5b0 : decide (150 < (l0.length : Int)) = false := decide_eq_false c5
      have c5b1 : decide (150 < l0.length) = false := decide_eq_false (by omega)
      clear c5
      (first | rw [c5b0] | (simp only [i64_w, i32_w]; rw [c5b0]) | skip)
      have H' := Aside0.mk H
      clear H
      go_wp2
      go_meet
      case rel => exact ⟨_, (decide ((a2.size : Int) > 1000)), (by first | rfl | (simp; done) | (simp [*]; done)), H', ⟨by first | omega | exact Nat.le_refl _⟩, ⟨by repeat (first | (with_reducible first | exact HB.out | apply below_alloc | apply pw_below_drewN | apply below_drew1) | exact HB.out)⟩⟩
  case rest =>
    clear HC4
    try clear p2
    try clear c3
    try clear c5
    try clear c5b0
    try clear c5b1
    obtain ⟨kq, x18_3, rfl, HA, HJ3, HB⟩ := hcut
    cases kq with
    | zero => exact absurd HA.out (by simp [garrisonlaw05_ScriptTexts.j0])
    | succ kj3 =>
      have H := HA.out
      clear HA
      simp only [garrisonlaw05_ScriptTexts.j0] at H
      by_cases c6 : x18_3 = true
      · subst c6
        have H1 : ((garrisonlaw05_live.f).bind fun t122 => (some t122)) = some r := by rw [if_pos rfl] at H; exact H
        clear H
        have H := H1
        clear H1
        replace H := Option.bind_eq_some_iff.mp H
        obtain ⟨t122, A70, H⟩ := H
        replace H : (some t122) = some r := H
        have A7 := Aside0.mk A70
        clear A70
        obtain rfl := Option.some.inj H
        go_wp2_with (first | ((with_reducible refine gate_callee (f := 10) rfl ?_); refine goesL_ (some 19) rfl rfl Tryd.func10 (by kernel_rfl) rfl #[] rfl (by (try simp only [List.map_toArray, List.map_cons, List.map_nil]); first | done | rfl | (simp only [List.length_drop, List.length_take]; rfl)) ?_; (with_reducible refine (garrisonlaw05_live.calls  t122 _ ?side1 A7.out).mono ?_); (case side1 => exact GL.below hG (by repeat (first | (with_reducible first | exact HB.out | apply below_alloc | apply pw_below_drewN | apply below_drew1) | exact HB.out))); rintro e w8 ⟨rfl, hb⟩; refine ⟨_, rfl, ?_⟩; have n0_ := Aside0.mk (below_step (by repeat (first | (with_reducible first | exact HB.out | apply below_alloc | apply pw_below_drewN | apply below_drew1) | exact HB.out)) hb); clear HB; have HB := n0_; clear n0_; (try clear hb); (try clear hb2); (try clear hk); (try clear hi)))
        go_ret
        exact ⟨by first | rfl | (simp [errW_none, errW_some] <;> rfl) | (simp [*, errW_none, errW_some] <;> rfl), by repeat (first | (with_reducible first | exact HB.out | apply below_alloc | apply pw_below_drewN | apply below_drew1) | exact HB.out)⟩
      · replace c6 := Bool.eq_false_iff.mpr c6
        subst c6
        have H1 : ((script_Parse.f kj3 a2).bind fun bt123 => ((garrisonref05_Parse.f kj3 a2).bind fun bt127 => ((script_Check.f l0 a1).bind fun t131 => ((garrisonlaw05_num.f t131).bind fun t132 => ((garrisonref05_Is.f kj3 l0 a1).bind fun t133 => (if ((t132 == 0) == t133) = true then ((script_Put.f kj3 l0).bind fun t134 => ((garrisonref05_Put.f kj3 l0).bind fun t135 => (if t134.toList = t135.toList then ((garrisonref05_Same.f kj3 bt123.1 bt127.1).bind fun t136 => (if t136 = true then ((garrisonlaw05_num.f bt123.2).bind fun t137 => (if t137 = bt127.2 then ((garrisonlaw05_live.f).bind fun t138 => (some t138)) else (some false))) else (some false))) else (some false)))) else (some false))))))) = some r := by rw [if_neg (show ¬ (false = true) by decide)] at H; exact H
        clear H
        have H := H1
        clear H1
        replace H := Option.bind_eq_some_iff.mp H
        obtain ⟨⟨t123, t124⟩, A90, H⟩ := H
        replace H : ((garrisonref05_Parse.f kj3 a2).bind fun bt127 => ((script_Check.f l0 a1).bind fun t131 => ((garrisonlaw05_num.f t131).bind fun t132 => ((garrisonref05_Is.f kj3 l0 a1).bind fun t133 => (if ((t132 == 0) == t133) = true then ((script_Put.f kj3 l0).bind fun t134 => ((garrisonref05_Put.f kj3 l0).bind fun t135 => (if t134.toList = t135.toList then ((garrisonref05_Same.f kj3 t123 bt127.1).bind fun t136 => (if t136 = true then ((garrisonlaw05_num.f t124).bind fun t137 => (if t137 = bt127.2 then ((garrisonlaw05_live.f).bind fun t138 => (some t138)) else (some false))) else (some false))) else (some false)))) else (some false)))))) = some r := H
        have A9 := Aside0.mk A90
        clear A90
        replace H := Option.bind_eq_some_iff.mp H
        obtain ⟨⟨t127, t128⟩, A100, H⟩ := H
        replace H : ((script_Check.f l0 a1).bind fun t131 => ((garrisonlaw05_num.f t131).bind fun t132 => ((garrisonref05_Is.f kj3 l0 a1).bind fun t133 => (if ((t132 == 0) == t133) = true then ((script_Put.f kj3 l0).bind fun t134 => ((garrisonref05_Put.f kj3 l0).bind fun t135 => (if t134.toList = t135.toList then ((garrisonref05_Same.f kj3 t123 t127).bind fun t136 => (if t136 = true then ((garrisonlaw05_num.f t124).bind fun t137 => (if t137 = t128 then ((garrisonlaw05_live.f).bind fun t138 => (some t138)) else (some false))) else (some false))) else (some false)))) else (some false))))) = some r := H
        have A10 := Aside0.mk A100
        clear A100
        replace H := Option.bind_eq_some_iff.mp H
        obtain ⟨t131, A110, H⟩ := H
        replace H : ((garrisonlaw05_num.f t131).bind fun t132 => ((garrisonref05_Is.f kj3 l0 a1).bind fun t133 => (if ((t132 == 0) == t133) = true then ((script_Put.f kj3 l0).bind fun t134 => ((garrisonref05_Put.f kj3 l0).bind fun t135 => (if t134.toList = t135.toList then ((garrisonref05_Same.f kj3 t123 t127).bind fun t136 => (if t136 = true then ((garrisonlaw05_num.f t124).bind fun t137 => (if t137 = t128 then ((garrisonlaw05_live.f).bind fun t138 => (some t138)) else (some false))) else (some false))) else (some false)))) else (some false)))) = some r := H
        have A11 := Aside0.mk A110
        clear A110
        replace H := Option.bind_eq_some_iff.mp H
        obtain ⟨t132, A120, H⟩ := H
        replace H : ((garrisonref05_Is.f kj3 l0 a1).bind fun t133 => (if ((t132 == 0) == t133) = true then ((script_Put.f kj3 l0).bind fun t134 => ((garrisonref05_Put.f kj3 l0).bind fun t135 => (if t134.toList = t135.toList then ((garrisonref05_Same.f kj3 t123 t127).bind fun t136 => (if t136 = true then ((garrisonlaw05_num.f t124).bind fun t137 => (if t137 = t128 then ((garrisonlaw05_live.f).bind fun t138 => (some t138)) else (some false))) else (some false))) else (some false)))) else (some false))) = some r := H
        have A12 := Aside0.mk A120
        clear A120
        replace H := Option.bind_eq_some_iff.mp H
        obtain ⟨t133, A130, H⟩ := H
        replace H : (if ((t132 == 0) == t133) = true then ((script_Put.f kj3 l0).bind fun t134 => ((garrisonref05_Put.f kj3 l0).bind fun t135 => (if t134.toList = t135.toList then ((garrisonref05_Same.f kj3 t123 t127).bind fun t136 => (if t136 = true then ((garrisonlaw05_num.f t124).bind fun t137 => (if t137 = t128 then ((garrisonlaw05_live.f).bind fun t138 => (some t138)) else (some false))) else (some false))) else (some false)))) else (some false)) = some r := H
        have A13 := Aside0.mk A130
        clear A130
        by_cases c14 : ((t132 == 0) == t133) = true
        · rw [if_pos c14] at H
          have c14b0 : ((t132 == 0) == t133) = true := c14
          (try (have c14b1 : decide ((t132 == 0) = t133) = true := by simpa using c14))
          (try (have c14b2 : ((t132 == 0) == t133) = true := by simpa using c14))
          clear c14
          replace H := Option.bind_eq_some_iff.mp H
          obtain ⟨t134, A150, H⟩ := H
          replace H : ((garrisonref05_Put.f kj3 l0).bind fun t135 => (if t134.toList = t135.toList then ((garrisonref05_Same.f kj3 t123 t127).bind fun t136 => (if t136 = true then ((garrisonlaw05_num.f t124).bind fun t137 => (if t137 = t128 then ((garrisonlaw05_live.f).bind fun t138 => (some t138)) else (some false))) else (some false))) else (some false))) = some r := H
          have A15 := Aside0.mk A150
          clear A150
          replace H := Option.bind_eq_some_iff.mp H
          obtain ⟨t135, A160, H⟩ := H
          replace H : (if t134.toList = t135.toList then ((garrisonref05_Same.f kj3 t123 t127).bind fun t136 => (if t136 = true then ((garrisonlaw05_num.f t124).bind fun t137 => (if t137 = t128 then ((garrisonlaw05_live.f).bind fun t138 => (some t138)) else (some false))) else (some false))) else (some false)) = some r := H
          have A16 := Aside0.mk A160
          clear A160
          by_cases c17 : t134.toList = t135.toList
          · rw [if_pos c17] at H
            have c17b0 : (t134.toList == t135.toList) = true := beq_iff_eq.mpr c17
            have c17b1 : (t134.toList != t135.toList) = false := bne_eq_false_iff_eq.mpr c17
            clear c17
            replace H := Option.bind_eq_some_iff.mp H
            obtain ⟨t136, A180, H⟩ := H
            replace H : (if t136 = true then ((garrisonlaw05_num.f t124).bind fun t137 => (if t137 = t128 then ((garrisonlaw05_live.f).bind fun t138 => (some t138)) else (some false))) else (some false)) = some r := H
            have A18 := Aside0.mk A180
            clear A180
            by_cases c19 : t136 = true
            · subst c19
              have H1 : ((garrisonlaw05_num.f t124).bind fun t137 => (if t137 = t128 then ((garrisonlaw05_live.f).bind fun t138 => (some t138)) else (some false))) = some r := by rw [if_pos rfl] at H; exact H
              clear H
              have H := H1
              clear H1
              replace H := Option.bind_eq_some_iff.mp H
              obtain ⟨t137, A200, H⟩ := H
              replace H : (if t137 = t128 then ((garrisonlaw05_live.f).bind fun t138 => (some t138)) else (some false)) = some r := H
              have A20 := Aside0.mk A200
              clear A200
              by_cases c21 : t137 = t128
              · rw [if_pos c21] at H
                have c21b0 : (t137 == t128) = true := beq_iff_eq.mpr c21
                have c21b1 : (t137 != t128) = false := bne_eq_false_iff_eq.mpr c21
                clear c21
                replace H := Option.bind_eq_some_iff.mp H
                obtain ⟨t138, A220, H⟩ := H
                replace H : (some t138) = some r := H
                have A22 := Aside0.mk A220
                clear A220
                obtain rfl := Option.some.inj H
                go_wp2_with (first | ((with_reducible refine gate_callee (f := 11) rfl ?_); refine goesL_ (some 22) rfl rfl Tryd.func11 (by kernel_rfl) rfl #[.string a2] rfl (by (try simp only [List.map_toArray, List.map_cons, List.map_nil]); first | done | rfl | (simp only [List.length_drop, List.length_take]; rfl)) ?_; (with_reducible refine (script_Parse.calls kj3 a2 t123 t124 _ ?side1 A9.out).mono ?_); (case side1 => exact GL.below hG (by repeat (first | (with_reducible first | exact HB.out | apply below_alloc | apply pw_below_drewN | apply below_drew1) | exact HB.out))); rintro e w23 ⟨v125, rfl, ho0, hb⟩; refine ⟨_, rfl, ?_⟩; have n0_ := Aside0.mk (Kd.R_lower ho0 (below_size (by repeat (first | (with_reducible first | exact HB.out | apply below_alloc | apply pw_below_drewN | apply below_drew1) | exact HB.out)))); have n1_ := Aside0.mk (below_step (by repeat (first | (with_reducible first | exact HB.out | apply below_alloc | apply pw_below_drewN | apply below_drew1) | exact HB.out)) hb); clear HB; have HO126 := n0_; have HB := n1_; clear n0_ n1_; (try clear hb); (try clear hb2); (try clear hk); (try clear hi); (try clear ho0)) | ((with_reducible refine gate_callee (f := 12) rfl ?_); refine goesL_ (some 27) rfl rfl Tryd.func12 (by kernel_rfl) rfl #[.string a2] rfl (by (try simp only [List.map_toArray, List.map_cons, List.map_nil]); first | done | rfl | (simp only [List.length_drop, List.length_take]; rfl)) ?_; (with_reducible refine (garrisonref05_Parse.calls kj3 a2 t127 t128 _ A10.out).mono ?_); rintro e w24 ⟨v129, rfl, ho0, hb⟩; refine ⟨_, rfl, ?_⟩; have n0_ := Aside0.mk (Kd.R_elder' (by (with_reducible repeat (first | apply Kd.R_alloc | apply Kd.R_drewN | apply Kd.R_drew)); exact HO126.out) (Kd.R_base ho0) hb); have n1_ := Aside0.mk (Kd.R_lower (Kd.R_new' ho0 (Kd.R_lt (by (with_reducible repeat (first | apply Kd.R_alloc | apply Kd.R_drewN | apply Kd.R_drew)); exact HO126.out))) (below_size (by repeat (first | (with_reducible first | exact HB.out | apply below_alloc | apply pw_below_drewN | apply below_drew1) | exact HB.out)))); have n2_ := Aside0.mk (below_step (by repeat (first | (with_reducible first | exact HB.out | apply below_alloc | apply pw_below_drewN | apply below_drew1) | exact HB.out)) hb); clear HO126; clear HB; have HO126 := n0_; have HO130 := n1_; have HB := n2_; clear n0_ n1_ n2_; (try clear hb); (try clear hb2); (try clear hk); (try clear hi); (try clear ho0)) | ((with_reducible refine gate_callee (f := 14) rfl ?_); refine goesL_ (some 32) rfl rfl Tryd.func14 (by kernel_rfl) rfl #[.slice A0 l0.length c0, .int .i64 a1] rfl (by (try simp only [List.map_toArray, List.map_cons, List.map_nil]); first | done | rfl | (simp only [List.length_drop, List.length_take]; rfl)) ?_; (with_reducible refine (script_Check.calls _ _ l0 a1 t131 _ ?side1 ?side2 A11.out).mono ?_); (case side1 => repeat (first | exact (Kd.C_below HR0.out HB.out) | (with_reducible refine Kd.C_alloc ?_ _) | (with_reducible refine Kd.C_drewN ?_ _) | (with_reducible refine Kd.C_drew ?_))); (case side2 => exact HC0.out); rintro e w25 ⟨rfl, hb⟩; refine ⟨_, rfl, ?_⟩; have n0_ := Aside0.mk (Kd.R_below (by (with_reducible repeat (first | apply Kd.R_alloc | apply Kd.R_drewN | apply Kd.R_drew)); exact HO126.out) hb); have n1_ := Aside0.mk (Kd.R_below (by (with_reducible repeat (first | apply Kd.R_alloc | apply Kd.R_drewN | apply Kd.R_drew)); exact HO130.out) hb); have n2_ := Aside0.mk (below_step (by repeat (first | (with_reducible first | exact HB.out | apply below_alloc | apply pw_below_drewN | apply below_drew1) | exact HB.out)) hb); clear HO126; clear HO130; clear HB; have HO126 := n0_; have HO130 := n1_; have HB := n2_; clear n0_ n1_ n2_; (try clear hb); (try clear hb2); (try clear hk); (try clear hi)) | ((with_reducible refine gate_callee (f := 13) rfl ?_); refine goesL_ (some 33) rfl rfl Tryd.func13 (by kernel_rfl) rfl #[.int .i64 t131] rfl (by (try simp only [List.map_toArray, List.map_cons, List.map_nil]); first | done | rfl | (simp only [List.length_drop, List.length_take]; rfl)) ?_; (with_reducible refine (garrisonlaw05_num.calls t131 t132 _ A12.out).mono ?_); rintro e w' ⟨rfl, ⟨nd, rfl⟩⟩; refine ⟨_, rfl, ?_⟩) | ((with_reducible refine gate_callee (f := 15) rfl ?_); refine goesL_ (some 37) rfl rfl Tryd.func15 (by kernel_rfl) rfl #[.slice A0 l0.length c0, .int .i64 a1] rfl (by (try simp only [List.map_toArray, List.map_cons, List.map_nil]); first | done | rfl | (simp only [List.length_drop, List.length_take]; rfl)) ?_; (with_reducible refine (garrisonref05_Is.calls kj3 _ _ l0 a1 t133 _ ?side1 ?side2 A13.out).mono ?_); (case side1 => repeat (first | exact (Kd.C_below HR0.out (by repeat (first | (with_reducible first | exact HB.out | apply below_alloc | apply pw_below_drewN | apply below_drew1) | exact HB.out))) | (with_reducible refine Kd.C_alloc ?_ _) | (with_reducible refine Kd.C_drewN ?_ _) | (with_reducible refine Kd.C_drew ?_))); (case side2 => exact HC0.out); rintro e w' ⟨rfl, ⟨nd, rfl⟩⟩; refine ⟨_, rfl, ?_⟩) | (go_at_call 16; (with_reducible refine (script_Put.calls kj3 _ _ l0 t134 _ ?side1 ?side2 ?side3 A15.out).mono ?_); (case side1 => exact GL.below hG (by repeat (first | (with_reducible first | exact HB.out | apply below_alloc | apply pw_below_drewN | apply below_drew1) | exact HB.out))); (case side2 => repeat (first | exact (Kd.C_below HR0.out (by repeat (first | (with_reducible first | exact HB.out | apply below_alloc | apply pw_below_drewN | apply below_drew1) | exact HB.out))) | (with_reducible refine Kd.C_alloc ?_ _) | (with_reducible refine Kd.C_drewN ?_ _) | (with_reducible refine Kd.C_drew ?_))); (case side3 => exact HC0.out); rintro e w26 ⟨rfl, hb⟩; have n0_ := Aside0.mk (Kd.R_below (by (with_reducible repeat (first | apply Kd.R_alloc | apply Kd.R_drewN | apply Kd.R_drew)); exact HO126.out) hb); have n1_ := Aside0.mk (Kd.R_below (by (with_reducible repeat (first | apply Kd.R_alloc | apply Kd.R_drewN | apply Kd.R_drew)); exact HO130.out) hb); have n2_ := Aside0.mk (below_step (by repeat (first | (with_reducible first | exact HB.out | apply below_alloc | apply pw_below_drewN | apply below_drew1) | exact HB.out)) hb); clear HO126; clear HO130; clear HB; have HO126 := n0_; have HO130 := n1_; have HB := n2_; clear n0_ n1_ n2_; (try clear hb); (try clear hb2); (try clear hk); (try clear hi)) | (go_at_call 17; (with_reducible refine (garrisonref05_Put.calls kj3 _ _ l0 t135 _ ?side1 ?side2 A16.out).mono ?_); (case side1 => repeat (first | exact (Kd.C_below HR0.out HB.out) | (with_reducible refine Kd.C_alloc ?_ _) | (with_reducible refine Kd.C_drewN ?_ _) | (with_reducible refine Kd.C_drew ?_))); (case side2 => exact HC0.out); rintro e w27 ⟨rfl, hb⟩; have n0_ := Aside0.mk (Kd.R_below (by (with_reducible repeat (first | apply Kd.R_alloc | apply Kd.R_drewN | apply Kd.R_drew)); exact HO126.out) hb); have n1_ := Aside0.mk (Kd.R_below (by (with_reducible repeat (first | apply Kd.R_alloc | apply Kd.R_drewN | apply Kd.R_drew)); exact HO130.out) hb); have n2_ := Aside0.mk (below_step (by repeat (first | (with_reducible first | exact HB.out | apply below_alloc | apply pw_below_drewN | apply below_drew1) | exact HB.out)) hb); clear HO126; clear HO130; clear HB; have HO126 := n0_; have HO130 := n1_; have HB := n2_; clear n0_ n1_ n2_; (try clear hb); (try clear hb2); (try clear hk); (try clear hi); obtain ⟨Ao28, co28, eo28⟩ := Kd.R_slice HO126.out; subst eo28; obtain ⟨Ao29, co29, eo29⟩ := Kd.R_slice HO130.out; subst eo29) | (go_at_call 18; (with_reducible refine (garrisonref05_Same.calls kj3 _ _ t123 _ _ t127 true _ ?side1 ?side2 ?side3 ?side4 A18.out).mono ?_); (case side1 => repeat (first | exact (Kd.R_reads' HO126.out).2.2 | (with_reducible refine Kd.C_alloc ?_ _) | (with_reducible refine Kd.C_drewN ?_ _) | (with_reducible refine Kd.C_drew ?_))); (case side2 => exact (Kd.R_reads' HO126.out).2.1); (case side3 => repeat (first | exact (Kd.R_reads' HO130.out).2.2 | (with_reducible refine Kd.C_alloc ?_ _) | (with_reducible refine Kd.C_drewN ?_ _) | (with_reducible refine Kd.C_drew ?_))); (case side4 => exact (Kd.R_reads' HO130.out).2.1); rintro e w' ⟨rfl, ⟨nd, rfl⟩⟩) | (go_at_call 13; (with_reducible refine (garrisonlaw05_num.calls t124 t137 _ A20.out).mono ?_); rintro e w' ⟨rfl, ⟨nd, rfl⟩⟩) | (go_at_call 10; (with_reducible refine (garrisonlaw05_live.calls  t138 _ ?side1 A22.out).mono ?_); (case side1 => exact GL.below hG (by repeat (first | (with_reducible first | exact HB.out | apply below_alloc | apply pw_below_drewN | apply below_drew1) | exact HB.out))); rintro e w30 ⟨rfl, hb⟩; have n0_ := Aside0.mk (Kd.R_below (by (with_reducible repeat (first | apply Kd.R_alloc | apply Kd.R_drewN | apply Kd.R_drew)); exact HO126.out) hb); have n1_ := Aside0.mk (Kd.R_below (by (with_reducible repeat (first | apply Kd.R_alloc | apply Kd.R_drewN | apply Kd.R_drew)); exact HO130.out) hb); have n2_ := Aside0.mk (below_step (by repeat (first | (with_reducible first | exact HB.out | apply below_alloc | apply pw_below_drewN | apply below_drew1) | exact HB.out)) hb); clear HO126; clear HO130; clear HB; have HO126 := n0_; have HO130 := n1_; have HB := n2_; clear n0_ n1_ n2_; (try clear hb); (try clear hb2); (try clear hk); (try clear hi)))
                go_ret
                exact ⟨by first | rfl | (simp [errW_none, errW_some] <;> rfl) | (simp [*, errW_none, errW_some] <;> rfl), by repeat (first | (with_reducible first | exact HB.out | apply below_alloc | apply pw_below_drewN | apply below_drew1) | exact HB.out)⟩
              · rw [if_neg c21] at H
                have c21b0 : (t137 == t128) = false := beq_eq_false_iff_ne.mpr c21
                have c21b1 : (t137 != t128) = true := bne_iff_ne.mpr c21
                exact absurd ((Option.some.inj H).trans hr_.out) (by decide)
            · replace c19 := Bool.eq_false_iff.mpr c19
              subst c19
              have H1 : (some false) = some r := by rw [if_neg (show ¬ (false = true) by decide)] at H; exact H
              clear H
              have H := H1
              clear H1
              exact absurd ((Option.some.inj H).trans hr_.out) (by decide)
          · rw [if_neg c17] at H
            have c17b0 : (t134.toList == t135.toList) = false := beq_eq_false_iff_ne.mpr c17
            have c17b1 : (t134.toList != t135.toList) = true := bne_iff_ne.mpr c17
            exact absurd ((Option.some.inj H).trans hr_.out) (by decide)
        · rw [if_neg c14] at H
          have c14b0 : ((t132 == 0) == t133) = false := by simpa using c14
          (try (have c14b1 : decide ((t132 == 0) = t133) = false := by simpa using c14))
          (try (have c14b2 : ((t132 == 0) == t133) = false := by simpa using c14))
          (try (have c14b3 : ¬ ((t132 == 0) = t133) := by simpa using c14))
          clear c14
          exact absurd ((Option.some.inj H).trans hr_.out) (by decide)

/-- THE ONE PURE STATEMENT of garrisonlaw05_ScriptTexts: yours. -/
def garrisonlaw05_ScriptTexts.Pure : Prop := ∀ (l0 : List Int) (a1 : Int) (a2 : ByteArray), l0.length ≤ maxLen → l0.length * 8 ≤ 140737488351232 → (∀ x ∈ l0, (Lit.int .i64 x).wf = true) → (Lit.int .i64 a1).wf = true → a2.size ≤ 140737488351232 → ∃ k, garrisonlaw05_ScriptTexts.f k l0 a1 a2 = some true
theorem garrisonlaw05_ScriptTexts.walk (P : garrisonlaw05_ScriptTexts.Pure) (a0 : Option Addr) (len0 cap0 : Nat) (z0 : List Int) (a1 : Int) (a2 : ByteArray) (w : World) (hG : GL w) (w0 : (a0 = none ∧ len0 = 0 ∧ cap0 = 0 ∧ z0 = []) ∨ ∃ x, a0 = some x ∧ len0 ≤ cap0 ∧ cap0 ≤ maxLen ∧ z0.length = cap0 ∧ (∀ i, i < z0.length → w.cell? (x.add i) = some (.int .i64 (z0.getD i 0))) ∧ ∀ n ∈ z0, (Lit.int .i64 n).wf = true) (y0 : len0 * 8 ≤ 140737488351232) (w1 : (Lit.int .i64 a1).wf = true) (w2 : a2.size ≤ 140737488351232) :
    Calls Tryd.prog 3 #[.slice a0 len0 cap0, .int .i64 a1, .string a2] w fun e w' => e = .returned (.bool true) ∧ Below w.heap.size w w' := by
  obtain ⟨l0, rfl, hr0, hm0, hw0, hc0⟩ := ReadsInt.ofRowC w0
  obtain ⟨k, h⟩ := P l0 a1 a2 hm0 y0 hw0 w1 w2
  refine (garrisonlaw05_ScriptTexts.calls k _ _ l0 a1 a2 true w hG ⟨rfl⟩ (Kd.C_of_reads (d := (0 : Int)) (h1 := fun _ => rfl) hr0) hc0 h).mono ?_
  rintro e w' ⟨rfl, hd⟩
  exact ⟨rfl, hd⟩

end Go.Proofs.YthifdmelanbgmaaDoor.P
