-- Written by a program of this session (wip/tools/myprint.py) out of the translation.
import Derived.Test.YtkdebaopfabbbaaPx0
import Derived.Test.YtkdebaopfabbbaaPx5
import Derived.Test.YtkdebaopfabbbaaPx6
import Derived.Test.YtkdebaopfabbbaaPx7
import Derived.Test.YtkdebaopfabbbaaGCheck
import Derived.Test.YtkdebaopfabbbaaGLive
namespace Go.Proofs.Ytkdebaopfabbbaa.Given
end Go.Proofs.Ytkdebaopfabbbaa.Given
namespace Go.Proofs.Ytkdebaopfabbbaa.P
open Go.Proofs.Ytkdebaopfabbbaa.Given
open Go.RowKit Go.Proofs.YtkdebaopfabbbaaW.PrintWords Go.Proofs.YtkdebaopfabbbaaW.PrintLast Go.Proofs.YtkdebaopfabbbaaW.PrintMore
attribute [local go_sem] max2_int min2_int max_two min_two max_three min_three max_four min_four u64_signed   -- for this text's walks alone
set_option linter.unusedVariables false
set_option linter.unusedSimpArgs false

/-! ### garrisonlaw12_AddrBack: function 4 -/
mutual
def garrisonlaw12_AddrBack.j0 : Nat → List (S53) → List (S53) → Int → Bool → Option (Bool)
  | 0, _, _, _, _ => none
  | k + 1, x0, x1, x2, x24 => if x24 = true then ((garrisonlaw12_live.f).bind fun t177 => (some t177)) else ((addr_Put.f k x0).bind fun bt178 => ((addr_Put.f k x1).bind fun bt180 => ((garrisonlaw12_num.f bt178.2).bind fun t182 => (if t182 = 0 then ((addr_Parse.f k bt178.1).bind fun bt183 => ((garrisonlaw12_num.f bt183.2).bind fun t187 => (if t187 = 0 then ((garrisonref12_Same.f k bt183.1 x0).bind fun t188 => (if t188 = true then (garrisonlaw12_AddrBack.j1 k x0 x1 x2 bt178.1 bt178.2 bt180.1 bt180.2) else (some false))) else (some false)))) else (garrisonlaw12_AddrBack.j1 k x0 x1 x2 bt178.1 bt178.2 bt180.1 bt180.2)))))
def garrisonlaw12_AddrBack.j1 : Nat → List (S53) → List (S53) → Int → Int → Int → Int → Int → Option (Bool)
  | 0, _, _, _, _, _, _, _ => none
  | k + 1, x0, x1, x2, x7, x8, x9, x10 => (garrisonlaw12_num.f x8).bind fun t189 => ((garrisonlaw12_num.f x10).bind fun t190 => (if (wrap64 (t189 + t190)) = 0 then ((garrisonref12_Same.f k x0 x1).bind fun t191 => (garrisonlaw12_AddrBack.j2 k x2 ((x7 == x9) != t191))) else (garrisonlaw12_AddrBack.j2 k x2 false)))
def garrisonlaw12_AddrBack.j2 : Nat → Int → Bool → Option (Bool)
  | 0, _, _ => none
  | k + 1, x2, x67 => if x67 = true then (some false) else ((addr_Parse.f k x2).bind fun bt192 => ((garrisonlaw12_num.f bt192.2).bind fun t196 => (if t196 = 0 then ((addr_Put.f k bt192.1).bind fun bt198 => ((garrisonlaw12_num.f bt198.2).bind fun t200 => (if t200 = 0 then (if bt198.1 = x2 then ((addr_Check.f bt192.1).bind fun t201 => ((garrisonlaw12_num.f t201).bind fun t202 => (if t202 = 0 then ((garrisonlaw12_live.f).bind fun t203 => (some t203)) else (some false)))) else (some false)) else (some false)))) else (if (bt192.1.length : Int) = 0 then ((garrisonlaw12_live.f).bind fun t197 => (some t197)) else (some false)))))
end
def garrisonlaw12_AddrBack.f (k : Nat) (l0 : List (S53)) (l1 : List (S53)) (a2 : Int) : Option (Bool) := if (l0.length : Int) > 20 then (garrisonlaw12_AddrBack.j0 k l0 l1 a2 true) else (garrisonlaw12_AddrBack.j0 k l0 l1 a2 (decide ((l1.length : Int) > 20)))
theorem garrisonlaw12_AddrBack.mono_l : ∀ k, (∀ y0 y1 y2 y3, LeO (garrisonlaw12_AddrBack.j0 k y0 y1 y2 y3) (garrisonlaw12_AddrBack.j0 (k + 1) y0 y1 y2 y3)) ∧ (∀ y0 y1 y2 y3 y4 y5 y6, LeO (garrisonlaw12_AddrBack.j1 k y0 y1 y2 y3 y4 y5 y6) (garrisonlaw12_AddrBack.j1 (k + 1) y0 y1 y2 y3 y4 y5 y6)) ∧ (∀ y0 y1, LeO (garrisonlaw12_AddrBack.j2 k y0 y1) (garrisonlaw12_AddrBack.j2 (k + 1) y0 y1))
  | 0 => ⟨fun _ _ _ _ r h => by simp [garrisonlaw12_AddrBack.j0] at h, fun _ _ _ _ _ _ _ r h => by simp [garrisonlaw12_AddrBack.j1] at h, fun _ _ r h => by simp [garrisonlaw12_AddrBack.j2] at h⟩
  | k + 1 => by
    obtain ⟨ih0, ih1, ih2⟩ := garrisonlaw12_AddrBack.mono_l k
    refine ⟨?_, ?_, ?_⟩
    · intro y0 y1 y2 y3
      unfold garrisonlaw12_AddrBack.j0
      repeat' first
      | (with_reducible exact ih0 _ _ _ _)
      | (with_reducible exact ih1 _ _ _ _ _ _ _)
      | (with_reducible exact ih2 _ _)
      | (with_reducible exact addr_Parse.mono _ _)
      | (with_reducible exact addr_Put.mono _ _)
      | (with_reducible exact garrisonref12_Same.mono _ _ _)
      | (with_reducible exact LeO.refl _)
      | (with_reducible exact LeO.none _)
      | (with_reducible refine LeO.ite ?_ ?_)
      | (with_reducible refine LeO.bind ?_ (fun _ => ?_))
      | exact ih0 _ _ _ _
      | exact ih1 _ _ _ _ _ _ _
      | exact ih2 _ _
      | exact addr_Parse.mono _ _
      | exact addr_Put.mono _ _
      | exact garrisonref12_Same.mono _ _ _
      | exact LeO.none _
      | refine LeO.ite ?_ ?_
      | refine LeO.bind ?_ (fun _ => ?_)
    · intro y0 y1 y2 y3 y4 y5 y6
      unfold garrisonlaw12_AddrBack.j1
      repeat' first
      | (with_reducible exact ih0 _ _ _ _)
      | (with_reducible exact ih1 _ _ _ _ _ _ _)
      | (with_reducible exact ih2 _ _)
      | (with_reducible exact addr_Parse.mono _ _)
      | (with_reducible exact addr_Put.mono _ _)
      | (with_reducible exact garrisonref12_Same.mono _ _ _)
      | (with_reducible exact LeO.refl _)
      | (with_reducible exact LeO.none _)
      | (with_reducible refine LeO.ite ?_ ?_)
      | (with_reducible refine LeO.bind ?_ (fun _ => ?_))
      | exact ih0 _ _ _ _
      | exact ih1 _ _ _ _ _ _ _
      | exact ih2 _ _
      | exact addr_Parse.mono _ _
      | exact addr_Put.mono _ _
      | exact garrisonref12_Same.mono _ _ _
      | exact LeO.none _
      | refine LeO.ite ?_ ?_
      | refine LeO.bind ?_ (fun _ => ?_)
    · intro y0 y1
      unfold garrisonlaw12_AddrBack.j2
      repeat' first
      | (with_reducible exact ih0 _ _ _ _)
      | (with_reducible exact ih1 _ _ _ _ _ _ _)
      | (with_reducible exact ih2 _ _)
      | (with_reducible exact addr_Parse.mono _ _)
      | (with_reducible exact addr_Put.mono _ _)
      | (with_reducible exact garrisonref12_Same.mono _ _ _)
      | (with_reducible exact LeO.refl _)
      | (with_reducible exact LeO.none _)
      | (with_reducible refine LeO.ite ?_ ?_)
      | (with_reducible refine LeO.bind ?_ (fun _ => ?_))
      | exact ih0 _ _ _ _
      | exact ih1 _ _ _ _ _ _ _
      | exact ih2 _ _
      | exact addr_Parse.mono _ _
      | exact addr_Put.mono _ _
      | exact garrisonref12_Same.mono _ _ _
      | exact LeO.none _
      | refine LeO.ite ?_ ?_
      | refine LeO.bind ?_ (fun _ => ?_)
theorem garrisonlaw12_AddrBack.mono : ∀ a0 a1 a2 k, LeO (garrisonlaw12_AddrBack.f k a0 a1 a2) (garrisonlaw12_AddrBack.f (k + 1) a0 a1 a2) := by
  intro a0 a1 a2 k
  obtain ⟨ih0, ih1, ih2⟩ := garrisonlaw12_AddrBack.mono_l k
  unfold garrisonlaw12_AddrBack.f
  repeat' first
      | (with_reducible exact ih0 _ _ _ _)
      | (with_reducible exact ih1 _ _ _ _ _ _ _)
      | (with_reducible exact ih2 _ _)
      | (with_reducible exact addr_Parse.mono _ _)
      | (with_reducible exact addr_Put.mono _ _)
      | (with_reducible exact garrisonref12_Same.mono _ _ _)
      | (with_reducible exact LeO.refl _)
      | (with_reducible exact LeO.none _)
      | (with_reducible refine LeO.ite ?_ ?_)
      | (with_reducible refine LeO.bind ?_ (fun _ => ?_))
      | exact ih0 _ _ _ _
      | exact ih1 _ _ _ _ _ _ _
      | exact ih2 _ _
      | exact addr_Parse.mono _ _
      | exact addr_Put.mono _ _
      | exact garrisonref12_Same.mono _ _ _
      | exact LeO.none _
      | refine LeO.ite ?_ ?_
      | refine LeO.bind ?_ (fun _ => ?_)
set_option maxHeartbeats 8000000 in
set_option maxRecDepth 100000 in
theorem garrisonlaw12_AddrBack.calls (k : Nat) (A0 : Option Addr) (c0 : Nat) (l0 : List (S53)) (A1 : Option Addr) (c1 : Nat) (l1 : List (S53)) (a2 : Int) (r : Bool) (w : World) (hr_ : Aside0 (r = true)) (hr0 : Kd.C k53 w A0 l0.length l0) (hc0 : l0.length ≤ c0) (hr1 : Kd.C k53 w A1 l1.length l1) (hc1 : l1.length ≤ c1) (h : garrisonlaw12_AddrBack.f k l0 l1 a2 = some r) :
    Calls Try.prog 4 #[.slice A0 l0.length c0, .slice A1 l1.length c1, .int .u64 a2] w fun e w' => e = .returned (.bool r) ∧ Below w.heap.size w w' := by
  have HR0 := Aside0.mk hr0
  have HC0 := Aside0.mk hc0
  clear hr0 hc0
  have HR1 := Aside0.mk hr1
  have HC1 := Aside0.mk hc1
  clear hr1 hc1
  have HB := Aside0.mk (Below.refl w.heap.size w)
  have H : (if (l0.length : Int) > 20 then (garrisonlaw12_AddrBack.j0 k l0 l1 a2 true) else (garrisonlaw12_AddrBack.j0 k l0 l1 a2 (decide ((l1.length : Int) > 20)))) = some r := h
  clear h
  have HC4 := Aside0.mk H
  clear H
  go_enter Try.func4, Try.ntmps4
  go_upto_region 1 with (fail)
  go_cut [24] (fun v24 wc => ∃ (kq : Nat) (x24_3 : Bool), v24 = .bool x24_3 ∧ Aside0 (garrisonlaw12_AddrBack.j0 kq l0 l1 a2 x24_3 = some r) ∧ Aside0 (kq ≤ k) ∧ Aside0 (Below w.heap.size w wc))
  case first =>
    have H := HC4.out
    clear HC4
    by_cases c5 : (l0.length : Int) > 20
    · rw [if_pos c5] at H
      have c5b0 : decide (20 < (l0.length : Int)) = true := decide_eq_true c5
      have c5b1 : decide (20 < l0.length) = true := decide_eq_true (by omega)
      clear c5
      (first | rw [c5b0] | (simp only [i64_w, i32_w]; rw [c5b0]) | skip)
      have H' := Aside0.mk H
      clear H
      go_wp2
      go_meet
      case rel => exact ⟨_, (true), (by first | rfl | (simp; done) | (simp [*]; done)), H', ⟨by first | omega | exact Nat.le_refl _⟩, ⟨by repeat (first | (with_reducible first | exact HB.out | apply below_alloc | apply pw_below_drewN | apply below_drew1) | exact HB.out)⟩⟩
    · rw [if_neg c5] at H
      have c5b0 : decide (20 < (l0.length : Int)) = false := decide_eq_false c5
      have c5b1 : decide (20 < l0.length) = false := decide_eq_false (by omega)
      clear c5
      (first | rw [c5b0] | (simp only [i64_w, i32_w]; rw [c5b0]) | skip)
      have H' := Aside0.mk H
      clear H
      go_wp2
      go_meet
      case rel => exact ⟨_, (decide ((l1.length : Int) > 20)), (by first | rfl | (simp; done) | (simp [*]; done)), H', ⟨by first | omega | exact Nat.le_refl _⟩, ⟨by repeat (first | (with_reducible first | exact HB.out | apply below_alloc | apply pw_below_drewN | apply below_drew1) | exact HB.out)⟩⟩
  case rest =>
    clear HC4
    try clear c1
    try clear p2
    try clear c4
    try clear c5
    try clear c5b0
    try clear c5b1
    obtain ⟨kq, x24_3, rfl, HA, HJ3, HB⟩ := hcut
    cases kq with
    | zero => exact absurd HA.out (by simp [garrisonlaw12_AddrBack.j0])
    | succ kj3 =>
      have H := HA.out
      clear HA
      simp only [garrisonlaw12_AddrBack.j0] at H
      by_cases c6 : x24_3 = true
      · subst c6
        have H1 : ((garrisonlaw12_live.f).bind fun t177 => (some t177)) = some r := by rw [if_pos rfl] at H; exact H
        clear H
        have H := H1
        clear H1
        replace H := Option.bind_eq_some_iff.mp H
        obtain ⟨t177, A70, H⟩ := H
        replace H : (some t177) = some r := H
        have A7 := Aside0.mk A70
        clear A70
        obtain rfl := Option.some.inj H
        go_wp2_with (first | ((with_reducible refine gate_callee (f := 8) rfl ?_); refine goesL_ (some 25) rfl rfl Try.func8 (by kernel_rfl) rfl #[] rfl (by (try simp only [List.map_toArray, List.map_cons, List.map_nil]); first | done | rfl | (simp only [List.length_drop, List.length_take]; rfl)) ?_; (with_reducible refine (garrisonlaw12_live.calls  t177 _ A7.out).mono ?_); rintro e w8 ⟨rfl, hb⟩; refine ⟨_, rfl, ?_⟩; have n0_ := Aside0.mk (below_step (by repeat (first | (with_reducible first | exact HB.out | apply below_alloc | apply pw_below_drewN | apply below_drew1) | exact HB.out)) hb); clear HB; have HB := n0_; clear n0_; (try clear hb); (try clear hb2); (try clear hk); (try clear hi)))
        go_ret
        exact ⟨by first | rfl | (simp [errW_none, errW_some] <;> rfl) | (simp [*, errW_none, errW_some] <;> rfl), by repeat (first | (with_reducible first | exact HB.out | apply below_alloc | apply pw_below_drewN | apply below_drew1) | exact HB.out)⟩
      · replace c6 := Bool.eq_false_iff.mpr c6
        subst c6
        have H1 : ((addr_Put.f kj3 l0).bind fun bt178 => ((addr_Put.f kj3 l1).bind fun bt180 => ((garrisonlaw12_num.f bt178.2).bind fun t182 => (if t182 = 0 then ((addr_Parse.f kj3 bt178.1).bind fun bt183 => ((garrisonlaw12_num.f bt183.2).bind fun t187 => (if t187 = 0 then ((garrisonref12_Same.f kj3 bt183.1 l0).bind fun t188 => (if t188 = true then (garrisonlaw12_AddrBack.j1 kj3 l0 l1 a2 bt178.1 bt178.2 bt180.1 bt180.2) else (some false))) else (some false)))) else (garrisonlaw12_AddrBack.j1 kj3 l0 l1 a2 bt178.1 bt178.2 bt180.1 bt180.2))))) = some r := by rw [if_neg (show ¬ (false = true) by decide)] at H; exact H
        clear H
        have H := H1
        clear H1
        replace H := Option.bind_eq_some_iff.mp H
        obtain ⟨⟨t178, t179⟩, A90, H⟩ := H
        replace H : ((addr_Put.f kj3 l1).bind fun bt180 => ((garrisonlaw12_num.f t179).bind fun t182 => (if t182 = 0 then ((addr_Parse.f kj3 t178).bind fun bt183 => ((garrisonlaw12_num.f bt183.2).bind fun t187 => (if t187 = 0 then ((garrisonref12_Same.f kj3 bt183.1 l0).bind fun t188 => (if t188 = true then (garrisonlaw12_AddrBack.j1 kj3 l0 l1 a2 t178 t179 bt180.1 bt180.2) else (some false))) else (some false)))) else (garrisonlaw12_AddrBack.j1 kj3 l0 l1 a2 t178 t179 bt180.1 bt180.2)))) = some r := H
        have A9 := Aside0.mk A90
        clear A90
        replace H := Option.bind_eq_some_iff.mp H
        obtain ⟨⟨t180, t181⟩, A100, H⟩ := H
        replace H : ((garrisonlaw12_num.f t179).bind fun t182 => (if t182 = 0 then ((addr_Parse.f kj3 t178).bind fun bt183 => ((garrisonlaw12_num.f bt183.2).bind fun t187 => (if t187 = 0 then ((garrisonref12_Same.f kj3 bt183.1 l0).bind fun t188 => (if t188 = true then (garrisonlaw12_AddrBack.j1 kj3 l0 l1 a2 t178 t179 t180 t181) else (some false))) else (some false)))) else (garrisonlaw12_AddrBack.j1 kj3 l0 l1 a2 t178 t179 t180 t181))) = some r := H
        have A10 := Aside0.mk A100
        clear A100
        replace H := Option.bind_eq_some_iff.mp H
        obtain ⟨t182, A110, H⟩ := H
        replace H : (if t182 = 0 then ((addr_Parse.f kj3 t178).bind fun bt183 => ((garrisonlaw12_num.f bt183.2).bind fun t187 => (if t187 = 0 then ((garrisonref12_Same.f kj3 bt183.1 l0).bind fun t188 => (if t188 = true then (garrisonlaw12_AddrBack.j1 kj3 l0 l1 a2 t178 t179 t180 t181) else (some false))) else (some false)))) else (garrisonlaw12_AddrBack.j1 kj3 l0 l1 a2 t178 t179 t180 t181)) = some r := H
        have A11 := Aside0.mk A110
        clear A110
        have HC12 := Aside0.mk H
        clear H
        go_upto_if 38 with (first | ((with_reducible refine gate_callee (f := 9) rfl ?_); refine goesL_ (some 28) rfl rfl Try.func9 (by kernel_rfl) rfl #[.slice A0 l0.length c0] rfl (by (try simp only [List.map_toArray, List.map_cons, List.map_nil]); first | done | rfl | (simp only [List.length_drop, List.length_take]; rfl)) ?_; (with_reducible refine (addr_Put.calls kj3 _ _ l0 t178 t179 _ ?side1 ?side2 A9.out).mono ?_); (case side1 => repeat (first | exact (Kd.C_below HR0.out HB.out) | (with_reducible refine Kd.C_alloc ?_ _) | (with_reducible refine Kd.C_drewN ?_ _) | (with_reducible refine Kd.C_drew ?_))); (case side2 => exact HC0.out); rintro e w13 ⟨rfl, hb⟩; refine ⟨_, rfl, ?_⟩; have n0_ := Aside0.mk (below_step (by repeat (first | (with_reducible first | exact HB.out | apply below_alloc | apply pw_below_drewN | apply below_drew1) | exact HB.out)) hb); clear HB; have HB := n0_; clear n0_; (try clear hb); (try clear hb2); (try clear hk); (try clear hi)) | ((with_reducible refine gate_callee (f := 9) rfl ?_); refine goesL_ (some 33) rfl rfl Try.func9 (by kernel_rfl) rfl #[.slice A1 l1.length c1] rfl (by (try simp only [List.map_toArray, List.map_cons, List.map_nil]); first | done | rfl | (simp only [List.length_drop, List.length_take]; rfl)) ?_; (with_reducible refine (addr_Put.calls kj3 _ _ l1 t180 t181 _ ?side1 ?side2 A10.out).mono ?_); (case side1 => repeat (first | exact (Kd.C_below HR1.out HB.out) | (with_reducible refine Kd.C_alloc ?_ _) | (with_reducible refine Kd.C_drewN ?_ _) | (with_reducible refine Kd.C_drew ?_))); (case side2 => exact HC1.out); rintro e w14 ⟨rfl, hb⟩; refine ⟨_, rfl, ?_⟩; have n0_ := Aside0.mk (below_step (by repeat (first | (with_reducible first | exact HB.out | apply below_alloc | apply pw_below_drewN | apply below_drew1) | exact HB.out)) hb); clear HB; have HB := n0_; clear n0_; (try clear hb); (try clear hb2); (try clear hk); (try clear hi)) | ((with_reducible refine gate_callee (f := 13) rfl ?_); refine goesL_ (some 37) rfl rfl Try.func13 (by kernel_rfl) rfl #[.int .i64 t179] rfl (by (try simp only [List.map_toArray, List.map_cons, List.map_nil]); first | done | rfl | (simp only [List.length_drop, List.length_take]; rfl)) ?_; (with_reducible refine (garrisonlaw12_num.calls t179 t182 _ A11.out).mono ?_); rintro e w' ⟨rfl, ⟨nd, rfl⟩⟩; refine ⟨_, rfl, ?_⟩))
        (try simp only [Act.put, List.setIfInBounds_toArray, List.set_cons_zero, List.set_cons_succ])
        go_cut [] (fun wc => ∃ (kq : Nat), Aside0 (garrisonlaw12_AddrBack.j1 kq l0 l1 a2 t178 t179 t180 t181 = some r) ∧ Aside0 (kq ≤ kj3) ∧ Aside0 (Below w.heap.size w wc))
        case first =>
          have H := HC12.out
          clear HC12
          by_cases c15 : t182 = 0
          · rw [if_pos c15] at H
            have c15b0 : (t182 == 0) = true := beq_iff_eq.mpr c15
            have c15b1 : (t182 != 0) = false := bne_eq_false_iff_eq.mpr c15
            clear c15
            (first | rw [c15b0] | (simp only [i64_w, i32_w]; rw [c15b0]) | skip)
            replace H := Option.bind_eq_some_iff.mp H
            obtain ⟨⟨t183, t184⟩, A160, H⟩ := H
            replace H : ((garrisonlaw12_num.f t184).bind fun t187 => (if t187 = 0 then ((garrisonref12_Same.f kj3 t183 l0).bind fun t188 => (if t188 = true then (garrisonlaw12_AddrBack.j1 kj3 l0 l1 a2 t178 t179 t180 t181) else (some false))) else (some false))) = some r := H
            have A16 := Aside0.mk A160
            clear A160
            replace H := Option.bind_eq_some_iff.mp H
            obtain ⟨t187, A170, H⟩ := H
            replace H : (if t187 = 0 then ((garrisonref12_Same.f kj3 t183 l0).bind fun t188 => (if t188 = true then (garrisonlaw12_AddrBack.j1 kj3 l0 l1 a2 t178 t179 t180 t181) else (some false))) else (some false)) = some r := H
            have A17 := Aside0.mk A170
            clear A170
            by_cases c18 : t187 = 0
            · rw [if_pos c18] at H
              have c18b0 : (t187 == 0) = true := beq_iff_eq.mpr c18
              have c18b1 : (t187 != 0) = false := bne_eq_false_iff_eq.mpr c18
              clear c18
              replace H := Option.bind_eq_some_iff.mp H
              obtain ⟨t188, A190, H⟩ := H
              replace H : (if t188 = true then (garrisonlaw12_AddrBack.j1 kj3 l0 l1 a2 t178 t179 t180 t181) else (some false)) = some r := H
              have A19 := Aside0.mk A190
              clear A190
              by_cases c20 : t188 = true
              · subst c20
                have H1 : (garrisonlaw12_AddrBack.j1 kj3 l0 l1 a2 t178 t179 t180 t181) = some r := by rw [if_pos rfl] at H; exact H
                clear H
                have H := H1
                clear H1
                have H' := Aside0.mk H
                clear H
                go_wp2_with (first | ((with_reducible refine gate_callee (f := 11) rfl ?_); refine goesL_ (some 41) rfl rfl Try.func11 (by kernel_rfl) rfl #[.int .u64 t178] rfl (by (try simp only [List.map_toArray, List.map_cons, List.map_nil]); first | done | rfl | (simp only [List.length_drop, List.length_take]; rfl)) ?_; (with_reducible refine (addr_Parse.calls kj3 t178 t183 t184 _ A16.out).mono ?_); rintro e w21 ⟨v185, rfl, ho0, hb⟩; refine ⟨_, rfl, ?_⟩; have n0_ := Aside0.mk (Kd.R_lower ho0 (below_size (by repeat (first | (with_reducible first | exact HB.out | apply below_alloc | apply pw_below_drewN | apply below_drew1) | exact HB.out)))); have n1_ := Aside0.mk (below_step (by repeat (first | (with_reducible first | exact HB.out | apply below_alloc | apply pw_below_drewN | apply below_drew1) | exact HB.out)) hb); clear HB; have HO186 := n0_; have HB := n1_; clear n0_ n1_; (try clear hb); (try clear hb2); (try clear hk); (try clear hi); (try clear ho0)) | ((with_reducible refine gate_callee (f := 13) rfl ?_); refine goesL_ (some 45) rfl rfl Try.func13 (by kernel_rfl) rfl #[.int .i64 t184] rfl (by (try simp only [List.map_toArray, List.map_cons, List.map_nil]); first | done | rfl | (simp only [List.length_drop, List.length_take]; rfl)) ?_; (with_reducible refine (garrisonlaw12_num.calls t184 t187 _ A17.out).mono ?_); rintro e w' ⟨rfl, ⟨nd, rfl⟩⟩; refine ⟨_, rfl, ?_⟩; obtain ⟨Ao22, co22, eo22⟩ := Kd.R_slice HO186.out; subst eo22) | (go_at_call 16; (with_reducible refine (garrisonref12_Same.calls kj3 _ _ t183 _ _ l0 true _ ?side1 ?side2 ?side3 ?side4 A19.out).mono ?_); (case side1 => repeat (first | exact (Kd.R_reads' HO186.out).2.2 | (with_reducible refine Kd.C_alloc ?_ _) | (with_reducible refine Kd.C_drewN ?_ _) | (with_reducible refine Kd.C_drew ?_))); (case side2 => exact (Kd.R_reads' HO186.out).2.1); (case side3 => repeat (first | exact (Kd.C_below HR0.out (by repeat (first | (with_reducible first | exact HB.out | apply below_alloc | apply pw_below_drewN | apply below_drew1) | exact HB.out))) | (with_reducible refine Kd.C_alloc ?_ _) | (with_reducible refine Kd.C_drewN ?_ _) | (with_reducible refine Kd.C_drew ?_))); (case side4 => exact HC0.out); rintro e w' ⟨rfl, ⟨nd, rfl⟩⟩))
                go_meet
                case rel => exact ⟨_, H', ⟨by have := HJ3.out; first | omega | exact Nat.le_refl _⟩, ⟨by repeat (first | (with_reducible first | exact HB.out | apply below_alloc | apply pw_below_drewN | apply below_drew1) | exact HB.out)⟩⟩
              · replace c20 := Bool.eq_false_iff.mpr c20
                subst c20
                have H1 : (some false) = some r := by rw [if_neg (show ¬ (false = true) by decide)] at H; exact H
                clear H
                have H := H1
                clear H1
                exact absurd ((Option.some.inj H).trans hr_.out) (by decide)
            · rw [if_neg c18] at H
              have c18b0 : (t187 == 0) = false := beq_eq_false_iff_ne.mpr c18
              have c18b1 : (t187 != 0) = true := bne_iff_ne.mpr c18
              exact absurd ((Option.some.inj H).trans hr_.out) (by decide)
          · rw [if_neg c15] at H
            have c15b0 : (t182 == 0) = false := beq_eq_false_iff_ne.mpr c15
            have c15b1 : (t182 != 0) = true := bne_iff_ne.mpr c15
            (first | rw [c15b0] | (simp only [i64_w, i32_w]; rw [c15b0]) | skip)
            have H' := Aside0.mk H
            clear H
            go_wp2
            go_meet
            case rel => exact ⟨_, H', ⟨by have := HJ3.out; first | omega | exact Nat.le_refl _⟩, ⟨by repeat (first | (with_reducible first | exact HB.out | apply below_alloc | apply pw_below_drewN | apply below_drew1) | exact HB.out)⟩⟩
        case rest =>
          clear HC12
          try clear c1
          try clear c2
          try clear p2
          try clear c4
          try clear c5
          try clear c5b0
          try clear c5b1
          try clear c6
          try clear c8
          try clear c9
          try clear c11
          try clear c13
          try clear c15
          try clear c15b0
          try clear c15b1
          try clear c18
          try clear c18b0
          try clear c18b1
          try clear c20
          try clear p2
          obtain ⟨kq, HA, HJ11, HB⟩ := hcut
          cases kq with
          | zero => exact absurd HA.out (by simp [garrisonlaw12_AddrBack.j1])
          | succ kj11 =>
            have H := HA.out
            clear HA
            simp only [garrisonlaw12_AddrBack.j1] at H
            have HC23 := Aside0.mk H
            clear H
            go_upto_region 9 with (fail)
            go_cut [67] (fun v67 wc => ∃ (kq : Nat) (x67_22 : Bool), v67 = .bool x67_22 ∧ Aside0 (garrisonlaw12_AddrBack.j2 kq a2 x67_22 = some r) ∧ Aside0 (kq ≤ kj11) ∧ Aside0 (Below w.heap.size w wc))
            case first =>
              have H := HC23.out
              clear HC23
              replace H := Option.bind_eq_some_iff.mp H
              obtain ⟨t189, A240, H⟩ := H
              replace H : ((garrisonlaw12_num.f t181).bind fun t190 => (if (wrap64 (t189 + t190)) = 0 then ((garrisonref12_Same.f kj11 l0 l1).bind fun t191 => (garrisonlaw12_AddrBack.j2 kj11 a2 ((t178 == t180) != t191))) else (garrisonlaw12_AddrBack.j2 kj11 a2 false))) = some r := H
              have A24 := Aside0.mk A240
              clear A240
              replace H := Option.bind_eq_some_iff.mp H
              obtain ⟨t190, A250, H⟩ := H
              replace H : (if (wrap64 (t189 + t190)) = 0 then ((garrisonref12_Same.f kj11 l0 l1).bind fun t191 => (garrisonlaw12_AddrBack.j2 kj11 a2 ((t178 == t180) != t191))) else (garrisonlaw12_AddrBack.j2 kj11 a2 false)) = some r := H
              have A25 := Aside0.mk A250
              clear A250
              by_cases c26 : (wrap64 (t189 + t190)) = 0
              · rw [if_pos c26] at H
                have c26b0 : ((wrap64 (t189 + t190)) == 0) = true := beq_iff_eq.mpr c26
                have c26b1 : ((wrap64 (t189 + t190)) != 0) = false := bne_eq_false_iff_eq.mpr c26
                clear c26
                (first | rw [c26b0] | (simp only [i64_w, i32_w]; rw [c26b0]) | skip)
                replace H := Option.bind_eq_some_iff.mp H
                obtain ⟨t191, A270, H⟩ := H
                replace H : (garrisonlaw12_AddrBack.j2 kj11 a2 ((t178 == t180) != t191)) = some r := H
                have A27 := Aside0.mk A270
                clear A270
                have H' := Aside0.mk H
                clear H
                go_wp2_with (first | ((with_reducible refine gate_callee (f := 13) rfl ?_); refine goesL_ (some 54) rfl rfl Try.func13 (by kernel_rfl) rfl #[.int .i64 t179] rfl (by (try simp only [List.map_toArray, List.map_cons, List.map_nil]); first | done | rfl | (simp only [List.length_drop, List.length_take]; rfl)) ?_; (with_reducible refine (garrisonlaw12_num.calls t179 t189 _ A24.out).mono ?_); rintro e w' ⟨rfl, ⟨nd, rfl⟩⟩; refine ⟨_, rfl, ?_⟩) | ((with_reducible refine gate_callee (f := 13) rfl ?_); refine goesL_ (some 56) rfl rfl Try.func13 (by kernel_rfl) rfl #[.int .i64 t181] rfl (by (try simp only [List.map_toArray, List.map_cons, List.map_nil]); first | done | rfl | (simp only [List.length_drop, List.length_take]; rfl)) ?_; (with_reducible refine (garrisonlaw12_num.calls t181 t190 _ A25.out).mono ?_); rintro e w' ⟨rfl, ⟨nd, rfl⟩⟩; refine ⟨_, rfl, ?_⟩) | (go_at_call 16; (with_reducible refine (garrisonref12_Same.calls kj11 _ _ l0 _ _ l1 t191 _ ?side1 ?side2 ?side3 ?side4 A27.out).mono ?_); (case side1 => repeat (first | exact (Kd.C_below HR0.out (by repeat (first | (with_reducible first | exact HB.out | apply below_alloc | apply pw_below_drewN | apply below_drew1) | exact HB.out))) | (with_reducible refine Kd.C_alloc ?_ _) | (with_reducible refine Kd.C_drewN ?_ _) | (with_reducible refine Kd.C_drew ?_))); (case side2 => exact HC0.out); (case side3 => repeat (first | exact (Kd.C_below HR1.out (by repeat (first | (with_reducible first | exact HB.out | apply below_alloc | apply pw_below_drewN | apply below_drew1) | exact HB.out))) | (with_reducible refine Kd.C_alloc ?_ _) | (with_reducible refine Kd.C_drewN ?_ _) | (with_reducible refine Kd.C_drew ?_))); (case side4 => exact HC1.out); rintro e w' ⟨rfl, ⟨nd, rfl⟩⟩))
                go_meet
                case rel => exact ⟨_, (((t178 == t180) != t191)), (by first | rfl | (simp; done) | (simp [*]; done)), H', ⟨by have := HJ3.out; have := HJ11.out; first | omega | exact Nat.le_refl _⟩, ⟨by repeat (first | (with_reducible first | exact HB.out | apply below_alloc | apply pw_below_drewN | apply below_drew1) | exact HB.out)⟩⟩
              · rw [if_neg c26] at H
                have c26b0 : ((wrap64 (t189 + t190)) == 0) = false := beq_eq_false_iff_ne.mpr c26
                have c26b1 : ((wrap64 (t189 + t190)) != 0) = true := bne_iff_ne.mpr c26
                (first | rw [c26b0] | (simp only [i64_w, i32_w]; rw [c26b0]) | skip)
                have H' := Aside0.mk H
                clear H
                go_wp2_with (first | ((with_reducible refine gate_callee (f := 13) rfl ?_); refine goesL_ (some 54) rfl rfl Try.func13 (by kernel_rfl) rfl #[.int .i64 t179] rfl (by (try simp only [List.map_toArray, List.map_cons, List.map_nil]); first | done | rfl | (simp only [List.length_drop, List.length_take]; rfl)) ?_; (with_reducible refine (garrisonlaw12_num.calls t179 t189 _ A24.out).mono ?_); rintro e w' ⟨rfl, ⟨nd, rfl⟩⟩; refine ⟨_, rfl, ?_⟩) | ((with_reducible refine gate_callee (f := 13) rfl ?_); refine goesL_ (some 56) rfl rfl Try.func13 (by kernel_rfl) rfl #[.int .i64 t181] rfl (by (try simp only [List.map_toArray, List.map_cons, List.map_nil]); first | done | rfl | (simp only [List.length_drop, List.length_take]; rfl)) ?_; (with_reducible refine (garrisonlaw12_num.calls t181 t190 _ A25.out).mono ?_); rintro e w' ⟨rfl, ⟨nd, rfl⟩⟩; refine ⟨_, rfl, ?_⟩))
                go_meet
                case rel => exact ⟨_, (false), (by first | rfl | (simp; done) | (simp [*]; done)), H', ⟨by have := HJ3.out; have := HJ11.out; first | omega | exact Nat.le_refl _⟩, ⟨by repeat (first | (with_reducible first | exact HB.out | apply below_alloc | apply pw_below_drewN | apply below_drew1) | exact HB.out)⟩⟩
            case rest =>
              clear HC23
              try clear c1
              try clear c2
              try clear p2
              try clear c4
              try clear c5
              try clear c5b0
              try clear c5b1
              try clear c6
              try clear p6
              try clear c8
              try clear c9
              try clear c11
              try clear c13
              try clear c15
              try clear c15b0
              try clear c15b1
              try clear c18
              try clear c18b0
              try clear c18b1
              try clear c20
              try clear c26
              try clear c26b0
              try clear c26b1
              try clear p2
              obtain ⟨kq, x67_22, rfl, HA, HJ22, HB⟩ := hcut
              cases kq with
              | zero => exact absurd HA.out (by simp [garrisonlaw12_AddrBack.j2])
              | succ kj22 =>
                have H := HA.out
                clear HA
                simp only [garrisonlaw12_AddrBack.j2] at H
                by_cases c28 : x67_22 = true
                · subst c28
                  have H1 : (some false) = some r := by rw [if_pos rfl] at H; exact H
                  clear H
                  have H := H1
                  clear H1
                  exact absurd ((Option.some.inj H).trans hr_.out) (by decide)
                · replace c28 := Bool.eq_false_iff.mpr c28
                  subst c28
                  have H1 : ((addr_Parse.f kj22 a2).bind fun bt192 => ((garrisonlaw12_num.f bt192.2).bind fun t196 => (if t196 = 0 then ((addr_Put.f kj22 bt192.1).bind fun bt198 => ((garrisonlaw12_num.f bt198.2).bind fun t200 => (if t200 = 0 then (if bt198.1 = a2 then ((addr_Check.f bt192.1).bind fun t201 => ((garrisonlaw12_num.f t201).bind fun t202 => (if t202 = 0 then ((garrisonlaw12_live.f).bind fun t203 => (some t203)) else (some false)))) else (some false)) else (some false)))) else (if (bt192.1.length : Int) = 0 then ((garrisonlaw12_live.f).bind fun t197 => (some t197)) else (some false))))) = some r := by rw [if_neg (show ¬ (false = true) by decide)] at H; exact H
                  clear H
                  have H := H1
                  clear H1
                  replace H := Option.bind_eq_some_iff.mp H
                  obtain ⟨⟨t192, t193⟩, A290, H⟩ := H
                  replace H : ((garrisonlaw12_num.f t193).bind fun t196 => (if t196 = 0 then ((addr_Put.f kj22 t192).bind fun bt198 => ((garrisonlaw12_num.f bt198.2).bind fun t200 => (if t200 = 0 then (if bt198.1 = a2 then ((addr_Check.f t192).bind fun t201 => ((garrisonlaw12_num.f t201).bind fun t202 => (if t202 = 0 then ((garrisonlaw12_live.f).bind fun t203 => (some t203)) else (some false)))) else (some false)) else (some false)))) else (if (t192.length : Int) = 0 then ((garrisonlaw12_live.f).bind fun t197 => (some t197)) else (some false)))) = some r := H
                  have A29 := Aside0.mk A290
                  clear A290
                  replace H := Option.bind_eq_some_iff.mp H
                  obtain ⟨t196, A300, H⟩ := H
                  replace H : (if t196 = 0 then ((addr_Put.f kj22 t192).bind fun bt198 => ((garrisonlaw12_num.f bt198.2).bind fun t200 => (if t200 = 0 then (if bt198.1 = a2 then ((addr_Check.f t192).bind fun t201 => ((garrisonlaw12_num.f t201).bind fun t202 => (if t202 = 0 then ((garrisonlaw12_live.f).bind fun t203 => (some t203)) else (some false)))) else (some false)) else (some false)))) else (if (t192.length : Int) = 0 then ((garrisonlaw12_live.f).bind fun t197 => (some t197)) else (some false))) = some r := H
                  have A30 := Aside0.mk A300
                  clear A300
                  by_cases c31 : t196 = 0
                  · rw [if_pos c31] at H
                    have c31b0 : (t196 == 0) = true := beq_iff_eq.mpr c31
                    have c31b1 : (t196 != 0) = false := bne_eq_false_iff_eq.mpr c31
                    clear c31
                    replace H := Option.bind_eq_some_iff.mp H
                    obtain ⟨⟨t198, t199⟩, A320, H⟩ := H
                    replace H : ((garrisonlaw12_num.f t199).bind fun t200 => (if t200 = 0 then (if t198 = a2 then ((addr_Check.f t192).bind fun t201 => ((garrisonlaw12_num.f t201).bind fun t202 => (if t202 = 0 then ((garrisonlaw12_live.f).bind fun t203 => (some t203)) else (some false)))) else (some false)) else (some false))) = some r := H
                    have A32 := Aside0.mk A320
                    clear A320
                    replace H := Option.bind_eq_some_iff.mp H
                    obtain ⟨t200, A330, H⟩ := H
                    replace H : (if t200 = 0 then (if t198 = a2 then ((addr_Check.f t192).bind fun t201 => ((garrisonlaw12_num.f t201).bind fun t202 => (if t202 = 0 then ((garrisonlaw12_live.f).bind fun t203 => (some t203)) else (some false)))) else (some false)) else (some false)) = some r := H
                    have A33 := Aside0.mk A330
                    clear A330
                    by_cases c34 : t200 = 0
                    · rw [if_pos c34] at H
                      have c34b0 : (t200 == 0) = true := beq_iff_eq.mpr c34
                      have c34b1 : (t200 != 0) = false := bne_eq_false_iff_eq.mpr c34
                      clear c34
                      by_cases c35 : t198 = a2
                      · rw [if_pos c35] at H
                        have c35b0 : (t198 == a2) = true := beq_iff_eq.mpr c35
                        have c35b1 : (t198 != a2) = false := bne_eq_false_iff_eq.mpr c35
                        clear c35
                        replace H := Option.bind_eq_some_iff.mp H
                        obtain ⟨t201, A360, H⟩ := H
                        replace H : ((garrisonlaw12_num.f t201).bind fun t202 => (if t202 = 0 then ((garrisonlaw12_live.f).bind fun t203 => (some t203)) else (some false))) = some r := H
                        have A36 := Aside0.mk A360
                        clear A360
                        replace H := Option.bind_eq_some_iff.mp H
                        obtain ⟨t202, A370, H⟩ := H
                        replace H : (if t202 = 0 then ((garrisonlaw12_live.f).bind fun t203 => (some t203)) else (some false)) = some r := H
                        have A37 := Aside0.mk A370
                        clear A370
                        by_cases c38 : t202 = 0
                        · rw [if_pos c38] at H
                          have c38b0 : (t202 == 0) = true := beq_iff_eq.mpr c38
                          have c38b1 : (t202 != 0) = false := bne_eq_false_iff_eq.mpr c38
                          clear c38
                          replace H := Option.bind_eq_some_iff.mp H
                          obtain ⟨t203, A390, H⟩ := H
                          replace H : (some t203) = some r := H
                          have A39 := Aside0.mk A390
                          clear A390
                          obtain rfl := Option.some.inj H
                          go_wp2_with (first | ((with_reducible refine gate_callee (f := 11) rfl ?_); refine goesL_ (some 70) rfl rfl Try.func11 (by kernel_rfl) rfl #[.int .u64 a2] rfl (by (try simp only [List.map_toArray, List.map_cons, List.map_nil]); first | done | rfl | (simp only [List.length_drop, List.length_take]; rfl)) ?_; (with_reducible refine (addr_Parse.calls kj22 a2 t192 t193 _ A29.out).mono ?_); rintro e w40 ⟨v194, rfl, ho0, hb⟩; refine ⟨_, rfl, ?_⟩; have n0_ := Aside0.mk (Kd.R_lower ho0 (below_size (by repeat (first | (with_reducible first | exact HB.out | apply below_alloc | apply pw_below_drewN | apply below_drew1) | exact HB.out)))); have n1_ := Aside0.mk (below_step (by repeat (first | (with_reducible first | exact HB.out | apply below_alloc | apply pw_below_drewN | apply below_drew1) | exact HB.out)) hb); clear HB; have HO195 := n0_; have HB := n1_; clear n0_ n1_; (try clear hb); (try clear hb2); (try clear hk); (try clear hi); (try clear ho0)) | ((with_reducible refine gate_callee (f := 13) rfl ?_); refine goesL_ (some 74) rfl rfl Try.func13 (by kernel_rfl) rfl #[.int .i64 t193] rfl (by (try simp only [List.map_toArray, List.map_cons, List.map_nil]); first | done | rfl | (simp only [List.length_drop, List.length_take]; rfl)) ?_; (with_reducible refine (garrisonlaw12_num.calls t193 t196 _ A30.out).mono ?_); rintro e w' ⟨rfl, ⟨nd, rfl⟩⟩; refine ⟨_, rfl, ?_⟩; obtain ⟨Ao41, co41, eo41⟩ := Kd.R_slice HO195.out; subst eo41) | ((with_reducible refine gate_callee (f := 9) rfl ?_); refine goesL_ (some 84) rfl rfl Try.func9 (by kernel_rfl) rfl #[.slice Ao41 t192.length co41] rfl (by (try simp only [List.map_toArray, List.map_cons, List.map_nil]); first | done | rfl | (simp only [List.length_drop, List.length_take]; rfl)) ?_; (with_reducible refine (addr_Put.calls kj22 _ _ t192 t198 t199 _ ?side1 ?side2 A32.out).mono ?_); (case side1 => repeat (first | exact (Kd.R_reads' HO195.out).2.2 | (with_reducible refine Kd.C_alloc ?_ _) | (with_reducible refine Kd.C_drewN ?_ _) | (with_reducible refine Kd.C_drew ?_))); (case side2 => exact (Kd.R_reads' HO195.out).2.1); rintro e w42 ⟨rfl, hb⟩; refine ⟨_, rfl, ?_⟩; have n0_ := Aside0.mk (Kd.R_below (by (with_reducible repeat (first | apply Kd.R_alloc | apply Kd.R_drewN | apply Kd.R_drew)); exact HO195.out) hb); have n1_ := Aside0.mk (below_step (by repeat (first | (with_reducible first | exact HB.out | apply below_alloc | apply pw_below_drewN | apply below_drew1) | exact HB.out)) hb); clear HO195; clear HB; have HO195 := n0_; have HB := n1_; clear n0_ n1_; (try clear hb); (try clear hb2); (try clear hk); (try clear hi)) | ((with_reducible refine gate_callee (f := 13) rfl ?_); refine goesL_ (some 88) rfl rfl Try.func13 (by kernel_rfl) rfl #[.int .i64 t199] rfl (by (try simp only [List.map_toArray, List.map_cons, List.map_nil]); first | done | rfl | (simp only [List.length_drop, List.length_take]; rfl)) ?_; (with_reducible refine (garrisonlaw12_num.calls t199 t200 _ A33.out).mono ?_); rintro e w' ⟨rfl, ⟨nd, rfl⟩⟩; refine ⟨_, rfl, ?_⟩) | (go_at_call 14; (with_reducible refine (addr_Check.calls _ _ t192 t201 _ ?side1 ?side2 A36.out).mono ?_); (case side1 => repeat (first | exact (Kd.R_reads' HO195.out).2.2 | (with_reducible refine Kd.C_alloc ?_ _) | (with_reducible refine Kd.C_drewN ?_ _) | (with_reducible refine Kd.C_drew ?_))); (case side2 => exact (Kd.R_reads' HO195.out).2.1); rintro e w43 ⟨rfl, hb⟩; have n0_ := Aside0.mk (Kd.R_below (by (with_reducible repeat (first | apply Kd.R_alloc | apply Kd.R_drewN | apply Kd.R_drew)); exact HO195.out) hb); have n1_ := Aside0.mk (below_step (by repeat (first | (with_reducible first | exact HB.out | apply below_alloc | apply pw_below_drewN | apply below_drew1) | exact HB.out)) hb); clear HO195; clear HB; have HO195 := n0_; have HB := n1_; clear n0_ n1_; (try clear hb); (try clear hb2); (try clear hk); (try clear hi)) | (go_at_call 13; (with_reducible refine (garrisonlaw12_num.calls t201 t202 _ A37.out).mono ?_); rintro e w' ⟨rfl, ⟨nd, rfl⟩⟩) | (go_at_call 8; (with_reducible refine (garrisonlaw12_live.calls  t203 _ A39.out).mono ?_); rintro e w44 ⟨rfl, hb⟩; have n0_ := Aside0.mk (Kd.R_below (by (with_reducible repeat (first | apply Kd.R_alloc | apply Kd.R_drewN | apply Kd.R_drew)); exact HO195.out) hb); have n1_ := Aside0.mk (below_step (by repeat (first | (with_reducible first | exact HB.out | apply below_alloc | apply pw_below_drewN | apply below_drew1) | exact HB.out)) hb); clear HO195; clear HB; have HO195 := n0_; have HB := n1_; clear n0_ n1_; (try clear hb); (try clear hb2); (try clear hk); (try clear hi)))
                          go_ret
                          exact ⟨by first | rfl | (simp [errW_none, errW_some] <;> rfl) | (simp [*, errW_none, errW_some] <;> rfl), by repeat (first | (with_reducible first | exact HB.out | apply below_alloc | apply pw_below_drewN | apply below_drew1) | exact HB.out)⟩
                        · rw [if_neg c38] at H
                          have c38b0 : (t202 == 0) = false := beq_eq_false_iff_ne.mpr c38
                          have c38b1 : (t202 != 0) = true := bne_iff_ne.mpr c38
                          exact absurd ((Option.some.inj H).trans hr_.out) (by decide)
                      · rw [if_neg c35] at H
                        have c35b0 : (t198 == a2) = false := beq_eq_false_iff_ne.mpr c35
                        have c35b1 : (t198 != a2) = true := bne_iff_ne.mpr c35
                        exact absurd ((Option.some.inj H).trans hr_.out) (by decide)
                    · rw [if_neg c34] at H
                      have c34b0 : (t200 == 0) = false := beq_eq_false_iff_ne.mpr c34
                      have c34b1 : (t200 != 0) = true := bne_iff_ne.mpr c34
                      exact absurd ((Option.some.inj H).trans hr_.out) (by decide)
                  · rw [if_neg c31] at H
                    have c31b0 : (t196 == 0) = false := beq_eq_false_iff_ne.mpr c31
                    have c31b1 : (t196 != 0) = true := bne_iff_ne.mpr c31
                    by_cases c45 : (t192.length : Int) = 0
                    · rw [if_pos c45] at H
                      have c45b0 : ((t192.length : Int) == 0) = true := beq_iff_eq.mpr c45
                      have c45b1 : ((t192.length : Int) != 0) = false := bne_eq_false_iff_eq.mpr c45
                      clear c45
                      replace H := Option.bind_eq_some_iff.mp H
                      obtain ⟨t197, A460, H⟩ := H
                      replace H : (some t197) = some r := H
                      have A46 := Aside0.mk A460
                      clear A460
                      obtain rfl := Option.some.inj H
                      go_wp2_with (first | ((with_reducible refine gate_callee (f := 11) rfl ?_); refine goesL_ (some 70) rfl rfl Try.func11 (by kernel_rfl) rfl #[.int .u64 a2] rfl (by (try simp only [List.map_toArray, List.map_cons, List.map_nil]); first | done | rfl | (simp only [List.length_drop, List.length_take]; rfl)) ?_; (with_reducible refine (addr_Parse.calls kj22 a2 t192 t193 _ A29.out).mono ?_); rintro e w47 ⟨v194, rfl, ho0, hb⟩; refine ⟨_, rfl, ?_⟩; have n0_ := Aside0.mk (Kd.R_lower ho0 (below_size (by repeat (first | (with_reducible first | exact HB.out | apply below_alloc | apply pw_below_drewN | apply below_drew1) | exact HB.out)))); have n1_ := Aside0.mk (below_step (by repeat (first | (with_reducible first | exact HB.out | apply below_alloc | apply pw_below_drewN | apply below_drew1) | exact HB.out)) hb); clear HB; have HO195 := n0_; have HB := n1_; clear n0_ n1_; (try clear hb); (try clear hb2); (try clear hk); (try clear hi); (try clear ho0)) | ((with_reducible refine gate_callee (f := 13) rfl ?_); refine goesL_ (some 74) rfl rfl Try.func13 (by kernel_rfl) rfl #[.int .i64 t193] rfl (by (try simp only [List.map_toArray, List.map_cons, List.map_nil]); first | done | rfl | (simp only [List.length_drop, List.length_take]; rfl)) ?_; (with_reducible refine (garrisonlaw12_num.calls t193 t196 _ A30.out).mono ?_); rintro e w' ⟨rfl, ⟨nd, rfl⟩⟩; refine ⟨_, rfl, ?_⟩; obtain ⟨Ao48, co48, eo48⟩ := Kd.R_slice HO195.out; subst eo48) | (go_at_call 8; (with_reducible refine (garrisonlaw12_live.calls  t197 _ A46.out).mono ?_); rintro e w49 ⟨rfl, hb⟩; have n0_ := Aside0.mk (Kd.R_below (by (with_reducible repeat (first | apply Kd.R_alloc | apply Kd.R_drewN | apply Kd.R_drew)); exact HO195.out) hb); have n1_ := Aside0.mk (below_step (by repeat (first | (with_reducible first | exact HB.out | apply below_alloc | apply pw_below_drewN | apply below_drew1) | exact HB.out)) hb); clear HO195; clear HB; have HO195 := n0_; have HB := n1_; clear n0_ n1_; (try clear hb); (try clear hb2); (try clear hk); (try clear hi)))
                      go_ret
                      exact ⟨by first | rfl | (simp [errW_none, errW_some] <;> rfl) | (simp [*, errW_none, errW_some] <;> rfl), by repeat (first | (with_reducible first | exact HB.out | apply below_alloc | apply pw_below_drewN | apply below_drew1) | exact HB.out)⟩
                    · rw [if_neg c45] at H
                      have c45b0 : ((t192.length : Int) == 0) = false := beq_eq_false_iff_ne.mpr c45
                      have c45b1 : ((t192.length : Int) != 0) = true := bne_iff_ne.mpr c45
                      have c45b2 : ¬ (t192 = []) := fun h_ => c45 (by rw [h_]; rfl)
                      exact absurd ((Option.some.inj H).trans hr_.out) (by decide)

def garrisonlaw12_AddrBack.Pure : Prop := ∀ (l0 : List (S53)) (l1 : List (S53)) (a2 : Int), l0.length ≤ maxLen → (∀ x_ : S53, x_ ∈ l0 → ((Lit.int .i64 x_.f0).wf = true ∧ (Lit.int .i64 x_.f1).wf = true)) → l1.length ≤ maxLen → (∀ x_ : S53, x_ ∈ l1 → ((Lit.int .i64 x_.f0).wf = true ∧ (Lit.int .i64 x_.f1).wf = true)) → (Lit.int .u64 a2).wf = true → ∃ k, garrisonlaw12_AddrBack.f k l0 l1 a2 = some true
theorem garrisonlaw12_AddrBack.walk : True := trivial

end Go.Proofs.Ytkdebaopfabbbaa.P
