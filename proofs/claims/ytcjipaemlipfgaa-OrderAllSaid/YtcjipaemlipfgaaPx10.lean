-- Written by a program of this session (wip/tools/myprint.py) out of the translation.
import Derived.Test.YtcjipaemlipfgaaPx0
import Derived.Test.YtcjipaemlipfgaaPx3
import Derived.Test.YtcjipaemlipfgaaPx4
import Derived.Test.YtcjipaemlipfgaaPx6
import Derived.Test.YtcjipaemlipfgaaGLive
import Derived.Test.YtcjipaemlipfgaaGSort
namespace Go.Proofs.Ytcjipaemlipfgaa.Given
end Go.Proofs.Ytcjipaemlipfgaa.Given
namespace Go.Proofs.Ytcjipaemlipfgaa.P
open Go.Proofs.Ytcjipaemlipfgaa.Given
open Go.RowKit Go.Proofs.YtcjipaemlipfgaaW.PrintWords Go.Proofs.YtcjipaemlipfgaaW.PrintLast Go.Proofs.YtcjipaemlipfgaaW.PrintMore
attribute [local go_sem] max2_int min2_int max_two min_two max_three min_three max_four min_four u64_signed   -- for this text's walks alone
set_option linter.unusedVariables false
set_option linter.unusedSimpArgs false

/-! ### garrisonlaw06_OrderAll: function 7 -/
mutual
def garrisonlaw06_OrderAll.j0 : Nat → List (S23) → Int → Bool → Option (Bool)
  | 0, _, _, _ => none
  | k + 1, x0, x1, x24 => if x24 = true then ((garrisonlaw06_live.f).bind fun t246 => (some t246)) else ((order_Sort.f x0).bind fun bt247 => ((garrisonlaw06_num.f bt247.2).bind fun t251 => (if t251 = 0 then ((some (([] : List (S23)) : List (S23))).bind fun y253 => (if 0 ≤ x1 then (if x1 ≤ (x0.length : Int) then ((some (x0.drop (x1 : Int).toNat : List (S23))).bind fun y256 => (if y253.length + y256.length < 8796093022208 then ((some (y253 ++ y256 : List (S23))).bind fun y260 => ((some (x0.take (x1 : Int).toNat : List (S23))).bind fun y263 => (if y260.length + y263.length < 8796093022208 then ((order_Sort.f (y260 ++ y263)).bind fun bt270 => ((garrisonlaw06_num.f bt270.2).bind fun t274 => (if t274 = 0 then ((garrisonref06_Same.f k bt247.1 bt270.1).bind fun t275 => (if t275 = true then ((order_Rising.f k bt247.1).bind fun t276 => (if t276 = true then (garrisonlaw06_OrderAll.j1 k x0 bt247.1 (decide ((bt247.1.length : Int) > (x0.length : Int)))) else (garrisonlaw06_OrderAll.j1 k x0 bt247.1 true))) else (garrisonlaw06_OrderAll.j1 k x0 bt247.1 true))) else (garrisonlaw06_OrderAll.j1 k x0 bt247.1 true)))) else (none)))) else (none))) else (none)) else (none))) else (if (bt247.1.length : Int) = 0 then ((garrisonlaw06_live.f).bind fun t252 => (some t252)) else (some false)))))
def garrisonlaw06_OrderAll.j1 : Nat → List (S23) → List (S23) → Bool → Option (Bool)
  | 0, _, _, _ => none
  | k + 1, x0, x5, x74 => if x74 = true then (some false) else (garrisonlaw06_OrderAll.l0 k x0 x5 0)
def garrisonlaw06_OrderAll.l0 : Nat → List (S23) → List (S23) → Int → Option (Bool)
  | 0, _, _, _ => none
  | k + 1, x0, x5, x10 => if x10 < (x0.length : Int) then (if 0 ≤ x10 then ((order_Has.f k x5 ((rd_T23 x0 x10).f0) ((rd_T23 x0 x10).f1)).bind fun t278 => (if t278 = true then (garrisonlaw06_OrderAll.l0 k x0 x5 (wrap64 (x10 + 1))) else (some false))) else (none)) else (garrisonlaw06_OrderAll.l1 k x0 x5 0)
def garrisonlaw06_OrderAll.l1 : Nat → List (S23) → List (S23) → Int → Option (Bool)
  | 0, _, _, _ => none
  | k + 1, x0, x5, x11 => if x11 < (x5.length : Int) then (if 0 ≤ x11 then ((garrisonref06_Has.f k x0 ((rd_T23 x5 x11).f0) ((rd_T23 x5 x11).f1)).bind fun t280 => (if t280 = true then (garrisonlaw06_OrderAll.l1 k x0 x5 (wrap64 (x11 + 1))) else (some false))) else (none)) else ((garrisonlaw06_live.f).bind fun t281 => (some t281))
end
def garrisonlaw06_OrderAll.f (k : Nat) (l0 : List (S23)) (a1 : Int) : Option (Bool) := if (l0.length : Int) > 100 then (garrisonlaw06_OrderAll.j0 k l0 a1 true) else (if a1 < 0 then (garrisonlaw06_OrderAll.j0 k l0 a1 true) else (garrisonlaw06_OrderAll.j0 k l0 a1 (decide (a1 > (l0.length : Int)))))
theorem garrisonlaw06_OrderAll.mono_l : ∀ k, (∀ y0 y1 y2, LeO (garrisonlaw06_OrderAll.j0 k y0 y1 y2) (garrisonlaw06_OrderAll.j0 (k + 1) y0 y1 y2)) ∧ (∀ y0 y1 y2, LeO (garrisonlaw06_OrderAll.j1 k y0 y1 y2) (garrisonlaw06_OrderAll.j1 (k + 1) y0 y1 y2)) ∧ (∀ y0 y1 y2, LeO (garrisonlaw06_OrderAll.l0 k y0 y1 y2) (garrisonlaw06_OrderAll.l0 (k + 1) y0 y1 y2)) ∧ (∀ y0 y1 y2, LeO (garrisonlaw06_OrderAll.l1 k y0 y1 y2) (garrisonlaw06_OrderAll.l1 (k + 1) y0 y1 y2))
  | 0 => ⟨fun _ _ _ r h => by simp [garrisonlaw06_OrderAll.j0] at h, fun _ _ _ r h => by simp [garrisonlaw06_OrderAll.j1] at h, fun _ _ _ r h => by simp [garrisonlaw06_OrderAll.l0] at h, fun _ _ _ r h => by simp [garrisonlaw06_OrderAll.l1] at h⟩
  | k + 1 => by
    obtain ⟨ih0, ih1, ih2, ih3⟩ := garrisonlaw06_OrderAll.mono_l k
    refine ⟨?_, ?_, ?_, ?_⟩
    · intro y0 y1 y2
      unfold garrisonlaw06_OrderAll.j0
      repeat' first
      | (with_reducible exact ih0 _ _ _)
      | (with_reducible exact ih1 _ _ _)
      | (with_reducible exact ih2 _ _ _)
      | (with_reducible exact ih3 _ _ _)
      | (with_reducible exact garrisonref06_Has.mono _ _ _ _)
      | (with_reducible exact garrisonref06_Same.mono _ _ _)
      | (with_reducible exact order_Has.mono _ _ _ _)
      | (with_reducible exact order_Rising.mono _ _)
      | (with_reducible exact LeO.refl _)
      | (with_reducible exact LeO.none _)
      | (with_reducible refine LeO.ite ?_ ?_)
      | (with_reducible refine LeO.bind ?_ (fun _ => ?_))
      | exact ih0 _ _ _
      | exact ih1 _ _ _
      | exact ih2 _ _ _
      | exact ih3 _ _ _
      | exact garrisonref06_Has.mono _ _ _ _
      | exact garrisonref06_Same.mono _ _ _
      | exact order_Has.mono _ _ _ _
      | exact order_Rising.mono _ _
      | exact LeO.none _
      | refine LeO.ite ?_ ?_
      | refine LeO.bind ?_ (fun _ => ?_)
    · intro y0 y1 y2
      unfold garrisonlaw06_OrderAll.j1
      repeat' first
      | (with_reducible exact ih0 _ _ _)
      | (with_reducible exact ih1 _ _ _)
      | (with_reducible exact ih2 _ _ _)
      | (with_reducible exact ih3 _ _ _)
      | (with_reducible exact garrisonref06_Has.mono _ _ _ _)
      | (with_reducible exact garrisonref06_Same.mono _ _ _)
      | (with_reducible exact order_Has.mono _ _ _ _)
      | (with_reducible exact order_Rising.mono _ _)
      | (with_reducible exact LeO.refl _)
      | (with_reducible exact LeO.none _)
      | (with_reducible refine LeO.ite ?_ ?_)
      | (with_reducible refine LeO.bind ?_ (fun _ => ?_))
      | exact ih0 _ _ _
      | exact ih1 _ _ _
      | exact ih2 _ _ _
      | exact ih3 _ _ _
      | exact garrisonref06_Has.mono _ _ _ _
      | exact garrisonref06_Same.mono _ _ _
      | exact order_Has.mono _ _ _ _
      | exact order_Rising.mono _ _
      | exact LeO.none _
      | refine LeO.ite ?_ ?_
      | refine LeO.bind ?_ (fun _ => ?_)
    · intro y0 y1 y2
      unfold garrisonlaw06_OrderAll.l0
      repeat' first
      | (with_reducible exact ih0 _ _ _)
      | (with_reducible exact ih1 _ _ _)
      | (with_reducible exact ih2 _ _ _)
      | (with_reducible exact ih3 _ _ _)
      | (with_reducible exact garrisonref06_Has.mono _ _ _ _)
      | (with_reducible exact garrisonref06_Same.mono _ _ _)
      | (with_reducible exact order_Has.mono _ _ _ _)
      | (with_reducible exact order_Rising.mono _ _)
      | (with_reducible exact LeO.refl _)
      | (with_reducible exact LeO.none _)
      | (with_reducible refine LeO.ite ?_ ?_)
      | (with_reducible refine LeO.bind ?_ (fun _ => ?_))
      | exact ih0 _ _ _
      | exact ih1 _ _ _
      | exact ih2 _ _ _
      | exact ih3 _ _ _
      | exact garrisonref06_Has.mono _ _ _ _
      | exact garrisonref06_Same.mono _ _ _
      | exact order_Has.mono _ _ _ _
      | exact order_Rising.mono _ _
      | exact LeO.none _
      | refine LeO.ite ?_ ?_
      | refine LeO.bind ?_ (fun _ => ?_)
    · intro y0 y1 y2
      unfold garrisonlaw06_OrderAll.l1
      repeat' first
      | (with_reducible exact ih0 _ _ _)
      | (with_reducible exact ih1 _ _ _)
      | (with_reducible exact ih2 _ _ _)
      | (with_reducible exact ih3 _ _ _)
      | (with_reducible exact garrisonref06_Has.mono _ _ _ _)
      | (with_reducible exact garrisonref06_Same.mono _ _ _)
      | (with_reducible exact order_Has.mono _ _ _ _)
      | (with_reducible exact order_Rising.mono _ _)
      | (with_reducible exact LeO.refl _)
      | (with_reducible exact LeO.none _)
      | (with_reducible refine LeO.ite ?_ ?_)
      | (with_reducible refine LeO.bind ?_ (fun _ => ?_))
      | exact ih0 _ _ _
      | exact ih1 _ _ _
      | exact ih2 _ _ _
      | exact ih3 _ _ _
      | exact garrisonref06_Has.mono _ _ _ _
      | exact garrisonref06_Same.mono _ _ _
      | exact order_Has.mono _ _ _ _
      | exact order_Rising.mono _ _
      | exact LeO.none _
      | refine LeO.ite ?_ ?_
      | refine LeO.bind ?_ (fun _ => ?_)
theorem garrisonlaw06_OrderAll.mono : ∀ a0 a1 k, LeO (garrisonlaw06_OrderAll.f k a0 a1) (garrisonlaw06_OrderAll.f (k + 1) a0 a1) := by
  intro a0 a1 k
  obtain ⟨ih0, ih1, ih2, ih3⟩ := garrisonlaw06_OrderAll.mono_l k
  unfold garrisonlaw06_OrderAll.f
  repeat' first
      | (with_reducible exact ih0 _ _ _)
      | (with_reducible exact ih1 _ _ _)
      | (with_reducible exact ih2 _ _ _)
      | (with_reducible exact ih3 _ _ _)
      | (with_reducible exact garrisonref06_Has.mono _ _ _ _)
      | (with_reducible exact garrisonref06_Same.mono _ _ _)
      | (with_reducible exact order_Has.mono _ _ _ _)
      | (with_reducible exact order_Rising.mono _ _)
      | (with_reducible exact LeO.refl _)
      | (with_reducible exact LeO.none _)
      | (with_reducible refine LeO.ite ?_ ?_)
      | (with_reducible refine LeO.bind ?_ (fun _ => ?_))
      | exact ih0 _ _ _
      | exact ih1 _ _ _
      | exact ih2 _ _ _
      | exact ih3 _ _ _
      | exact garrisonref06_Has.mono _ _ _ _
      | exact garrisonref06_Same.mono _ _ _
      | exact order_Has.mono _ _ _ _
      | exact order_Rising.mono _ _
      | exact LeO.none _
      | refine LeO.ite ?_ ?_
      | refine LeO.bind ?_ (fun _ => ?_)
def garrisonlaw06_OrderAll.T6 : Bool × List (List Nat × List Nat) := (true, [([], []), ([], []), ([], []), ([1, 2], [1, 2]), ([0, 3], [0, 3]), ([], []), ([], []), ([5, 6], [5, 6]), ([4, 7, 4], [4, 7]), ([8, 8, 0, 1, 2, 3, 4, 5, 6, 7, 8], [8])])
def garrisonlaw06_OrderAll.B6 : List Nat := [0, 0, 0, 6, 15, 0, 0, 96, 255, 511]
theorem garrisonlaw06_OrderAll.tab6 : rtab .any (opsOf Try.f7 6) = garrisonlaw06_OrderAll.T6 := by kernel_rfl
theorem garrisonlaw06_OrderAll.bits6 : waitsOk garrisonlaw06_OrderAll.T6.2 garrisonlaw06_OrderAll.B6 = true := by kernel_rfl
set_option maxHeartbeats 8000000 in
set_option maxRecDepth 100000 in
theorem garrisonlaw06_OrderAll.calls (k : Nat) (A0 : Option Addr) (c0 : Nat) (l0 : List (S23)) (a1 : Int) (r : Bool) (w : World) (hr_ : Aside0 (r = true)) (hr0 : Kd.C k23 w A0 l0.length l0) (hc0 : l0.length ≤ c0) (h : garrisonlaw06_OrderAll.f k l0 a1 = some r) :
    Calls Try.prog 7 #[.slice A0 l0.length c0, .int .i64 a1] w fun e w' => e = .returned (.bool r) ∧ Below w.heap.size w w' := by
  have hu23 := Try.underlying23
  have HR0 := Aside0.mk hr0
  have HC0 := Aside0.mk hc0
  clear hr0 hc0
  have HB := Aside0.mk (Below.refl w.heap.size w)
  have H : (if (l0.length : Int) > 100 then (garrisonlaw06_OrderAll.j0 k l0 a1 true) else (if a1 < 0 then (garrisonlaw06_OrderAll.j0 k l0 a1 true) else (garrisonlaw06_OrderAll.j0 k l0 a1 (decide (a1 > (l0.length : Int)))))) = some r := h
  clear h
  have HC3 := Aside0.mk H
  clear H
  go_enter Try.func7, Try.ntmps7
  go_upto_region 1 with (fail)
  go_cut [24] (fun v24 wc => ∃ (kq : Nat) (x24_2 : Bool), v24 = .bool x24_2 ∧ Aside0 (garrisonlaw06_OrderAll.j0 kq l0 a1 x24_2 = some r) ∧ Aside0 (kq ≤ k) ∧ Aside0 (Below w.heap.size w wc))
  case first =>
    have H := HC3.out
    clear HC3
    by_cases c4 : (l0.length : Int) > 100
    · rw [if_pos c4] at H
      have c4b0 : decide (100 < (l0.length : Int)) = true := decide_eq_true c4
      have c4b1 : decide (100 < l0.length) = true := decide_eq_true (by omega)
      clear c4
      (first | rw [c4b0] | (simp only [i64_w, i32_w]; rw [c4b0]) | skip)
      have H' := Aside0.mk H
      clear H
      go_wp2
      go_meet
      case rel => exact ⟨_, (true), (by first | rfl | (simp; done) | (simp [*]; done)), H', ⟨by first | omega | exact Nat.le_refl _⟩, ⟨by repeat (first | (with_reducible first | exact HB.out | apply below_alloc | apply pw_below_drewN | apply below_drew1) | exact HB.out)⟩⟩
    · rw [if_neg c4] at H
      have c4b0 : decide (100 < (l0.length : Int)) = false := decide_eq_false c4
      have c4b1 : decide (100 < l0.length) = false := decide_eq_false (by omega)
      clear c4
      (first | rw [c4b0] | (simp only [i64_w, i32_w]; rw [c4b0]) | skip)
      by_cases c5 : a1 < 0
      · rw [if_pos c5] at H
        have c5b0 : decide (a1 < 0) = true := decide_eq_true c5
        clear c5
        have H' := Aside0.mk H
        clear H
        go_wp2
        go_meet
        case rel => exact ⟨_, (true), (by first | rfl | (simp; done) | (simp [*]; done)), H', ⟨by first | omega | exact Nat.le_refl _⟩, ⟨by repeat (first | (with_reducible first | exact HB.out | apply below_alloc | apply pw_below_drewN | apply below_drew1) | exact HB.out)⟩⟩
      · rw [if_neg c5] at H
        have c5b0 : decide (a1 < 0) = false := decide_eq_false c5
        clear c5
        have H' := Aside0.mk H
        clear H
        go_wp2
        go_meet
        case rel => exact ⟨_, (decide (a1 > (l0.length : Int))), (by first | rfl | (simp; done) | (simp [*]; done)), H', ⟨by first | omega | exact Nat.le_refl _⟩, ⟨by repeat (first | (with_reducible first | exact HB.out | apply below_alloc | apply pw_below_drewN | apply below_drew1) | exact HB.out)⟩⟩
  case rest =>
    clear HC3
    try clear p2
    try clear c4
    try clear c4b0
    try clear c4b1
    try clear c5
    try clear c5b0
    obtain ⟨kq, x24_2, rfl, HA, HJ2, HB⟩ := hcut
    cases kq with
    | zero => exact absurd HA.out (by simp [garrisonlaw06_OrderAll.j0])
    | succ kj2 =>
      have H := HA.out
      clear HA
      simp only [garrisonlaw06_OrderAll.j0] at H
      by_cases c6 : x24_2 = true
      · subst c6
        have H1 : ((garrisonlaw06_live.f).bind fun t246 => (some t246)) = some r := by rw [if_pos rfl] at H; exact H
        clear H
        have H := H1
        clear H1
        replace H := Option.bind_eq_some_iff.mp H
        obtain ⟨t246, A70, H⟩ := H
        replace H : (some t246) = some r := H
        have A7 := Aside0.mk A70
        clear A70
        obtain rfl := Option.some.inj H
        go_wp2_with (first | ((with_reducible refine gate_callee (f := 19) rfl ?_); refine goesL_ (some 25) rfl rfl Try.func19 (by kernel_rfl) rfl #[] rfl (by (try simp only [List.map_toArray, List.map_cons, List.map_nil]); first | done | rfl | (simp only [List.length_drop, List.length_take]; rfl)) ?_; (with_reducible refine (garrisonlaw06_live.calls  t246 _ A7.out).mono ?_); rintro e w8 ⟨rfl, hb⟩; refine ⟨_, rfl, ?_⟩; have n0_ := Aside0.mk (below_step (by repeat (first | (with_reducible first | exact HB.out | apply below_alloc | apply pw_below_drewN | apply below_drew1) | exact HB.out)) hb); clear HB; have HB := n0_; clear n0_; (try clear hb); (try clear hb2); (try clear hk); (try clear hi)))
        go_ret
        exact ⟨by first | rfl | (simp [errW_none, errW_some] <;> rfl) | (simp [*, errW_none, errW_some] <;> rfl), by repeat (first | (with_reducible first | exact HB.out | apply below_alloc | apply pw_below_drewN | apply below_drew1) | exact HB.out)⟩
      · replace c6 := Bool.eq_false_iff.mpr c6
        subst c6
        have H1 : ((order_Sort.f l0).bind fun bt247 => ((garrisonlaw06_num.f bt247.2).bind fun t251 => (if t251 = 0 then ((some (([] : List (S23)) : List (S23))).bind fun y253 => (if 0 ≤ a1 then (if a1 ≤ (l0.length : Int) then ((some (l0.drop (a1 : Int).toNat : List (S23))).bind fun y256 => (if y253.length + y256.length < 8796093022208 then ((some (y253 ++ y256 : List (S23))).bind fun y260 => ((some (l0.take (a1 : Int).toNat : List (S23))).bind fun y263 => (if y260.length + y263.length < 8796093022208 then ((order_Sort.f (y260 ++ y263)).bind fun bt270 => ((garrisonlaw06_num.f bt270.2).bind fun t274 => (if t274 = 0 then ((garrisonref06_Same.f kj2 bt247.1 bt270.1).bind fun t275 => (if t275 = true then ((order_Rising.f kj2 bt247.1).bind fun t276 => (if t276 = true then (garrisonlaw06_OrderAll.j1 kj2 l0 bt247.1 (decide ((bt247.1.length : Int) > (l0.length : Int)))) else (garrisonlaw06_OrderAll.j1 kj2 l0 bt247.1 true))) else (garrisonlaw06_OrderAll.j1 kj2 l0 bt247.1 true))) else (garrisonlaw06_OrderAll.j1 kj2 l0 bt247.1 true)))) else (none)))) else (none))) else (none)) else (none))) else (if (bt247.1.length : Int) = 0 then ((garrisonlaw06_live.f).bind fun t252 => (some t252)) else (some false))))) = some r := by rw [if_neg (show ¬ (false = true) by decide)] at H; exact H
        clear H
        have H := H1
        clear H1
        replace H := Option.bind_eq_some_iff.mp H
        obtain ⟨⟨t247, t248⟩, A90, H⟩ := H
        replace H : ((garrisonlaw06_num.f t248).bind fun t251 => (if t251 = 0 then ((some (([] : List (S23)) : List (S23))).bind fun y253 => (if 0 ≤ a1 then (if a1 ≤ (l0.length : Int) then ((some (l0.drop (a1 : Int).toNat : List (S23))).bind fun y256 => (if y253.length + y256.length < 8796093022208 then ((some (y253 ++ y256 : List (S23))).bind fun y260 => ((some (l0.take (a1 : Int).toNat : List (S23))).bind fun y263 => (if y260.length + y263.length < 8796093022208 then ((order_Sort.f (y260 ++ y263)).bind fun bt270 => ((garrisonlaw06_num.f bt270.2).bind fun t274 => (if t274 = 0 then ((garrisonref06_Same.f kj2 t247 bt270.1).bind fun t275 => (if t275 = true then ((order_Rising.f kj2 t247).bind fun t276 => (if t276 = true then (garrisonlaw06_OrderAll.j1 kj2 l0 t247 (decide ((t247.length : Int) > (l0.length : Int)))) else (garrisonlaw06_OrderAll.j1 kj2 l0 t247 true))) else (garrisonlaw06_OrderAll.j1 kj2 l0 t247 true))) else (garrisonlaw06_OrderAll.j1 kj2 l0 t247 true)))) else (none)))) else (none))) else (none)) else (none))) else (if (t247.length : Int) = 0 then ((garrisonlaw06_live.f).bind fun t252 => (some t252)) else (some false)))) = some r := H
        have A9 := Aside0.mk A90
        clear A90
        replace H := Option.bind_eq_some_iff.mp H
        obtain ⟨t251, A100, H⟩ := H
        replace H : (if t251 = 0 then ((some (([] : List (S23)) : List (S23))).bind fun y253 => (if 0 ≤ a1 then (if a1 ≤ (l0.length : Int) then ((some (l0.drop (a1 : Int).toNat : List (S23))).bind fun y256 => (if y253.length + y256.length < 8796093022208 then ((some (y253 ++ y256 : List (S23))).bind fun y260 => ((some (l0.take (a1 : Int).toNat : List (S23))).bind fun y263 => (if y260.length + y263.length < 8796093022208 then ((order_Sort.f (y260 ++ y263)).bind fun bt270 => ((garrisonlaw06_num.f bt270.2).bind fun t274 => (if t274 = 0 then ((garrisonref06_Same.f kj2 t247 bt270.1).bind fun t275 => (if t275 = true then ((order_Rising.f kj2 t247).bind fun t276 => (if t276 = true then (garrisonlaw06_OrderAll.j1 kj2 l0 t247 (decide ((t247.length : Int) > (l0.length : Int)))) else (garrisonlaw06_OrderAll.j1 kj2 l0 t247 true))) else (garrisonlaw06_OrderAll.j1 kj2 l0 t247 true))) else (garrisonlaw06_OrderAll.j1 kj2 l0 t247 true)))) else (none)))) else (none))) else (none)) else (none))) else (if (t247.length : Int) = 0 then ((garrisonlaw06_live.f).bind fun t252 => (some t252)) else (some false))) = some r := H
        have A10 := Aside0.mk A100
        clear A100
        by_cases c11 : t251 = 0
        · rw [if_pos c11] at H
          have c11b0 : (t251 == 0) = true := beq_iff_eq.mpr c11
          have c11b1 : (t251 != 0) = false := bne_eq_false_iff_eq.mpr c11
          clear c11
          obtain ⟨y253, hy253⟩ : ∃ y_ : List (S23), y_ = (([] : List (S23))) := ⟨_, rfl⟩
          replace H : (if 0 ≤ a1 then (if a1 ≤ (l0.length : Int) then ((some (l0.drop (a1 : Int).toNat : List (S23))).bind fun y256 => (if y253.length + y256.length < 8796093022208 then ((some (y253 ++ y256 : List (S23))).bind fun y260 => ((some (l0.take (a1 : Int).toNat : List (S23))).bind fun y263 => (if y260.length + y263.length < 8796093022208 then ((order_Sort.f (y260 ++ y263)).bind fun bt270 => ((garrisonlaw06_num.f bt270.2).bind fun t274 => (if t274 = 0 then ((garrisonref06_Same.f kj2 t247 bt270.1).bind fun t275 => (if t275 = true then ((order_Rising.f kj2 t247).bind fun t276 => (if t276 = true then (garrisonlaw06_OrderAll.j1 kj2 l0 t247 (decide ((t247.length : Int) > (l0.length : Int)))) else (garrisonlaw06_OrderAll.j1 kj2 l0 t247 true))) else (garrisonlaw06_OrderAll.j1 kj2 l0 t247 true))) else (garrisonlaw06_OrderAll.j1 kj2 l0 t247 true)))) else (none)))) else (none))) else (none)) else (none)) = some r := by first | (rw [hy253]; with_reducible exact H) | (have H2_ := (Option.bind_some _ _).symm.trans H; rw [hy253]; with_reducible exact H2_) | (have H2_ := (Option.bind_some _ _).symm.trans H; with_reducible exact H2_) | with_reducible exact H | (rw [hy253]; exact H) | exact H
          have Ny253 := Aside0.mk hy253
          clear hy253
          by_cases c12 : 0 ≤ a1
          · rw [if_pos c12] at H
            have c12b0 := eq_true c12
            have c12b1 : decide (0 ≤ a1) = true := decide_eq_true c12
            clear c12
            by_cases c13 : a1 ≤ (l0.length : Int)
            · rw [if_pos c13] at H
              have c13b0 := eq_true c13
              have c13b1 : decide (a1 ≤ (l0.length : Int)) = true := decide_eq_true c13
              clear c13
              obtain ⟨y256, hy256⟩ : ∃ y_ : List (S23), y_ = (l0.drop (a1 : Int).toNat) := ⟨_, rfl⟩
              replace H : (if y253.length + y256.length < 8796093022208 then ((some (y253 ++ y256 : List (S23))).bind fun y260 => ((some (l0.take (a1 : Int).toNat : List (S23))).bind fun y263 => (if y260.length + y263.length < 8796093022208 then ((order_Sort.f (y260 ++ y263)).bind fun bt270 => ((garrisonlaw06_num.f bt270.2).bind fun t274 => (if t274 = 0 then ((garrisonref06_Same.f kj2 t247 bt270.1).bind fun t275 => (if t275 = true then ((order_Rising.f kj2 t247).bind fun t276 => (if t276 = true then (garrisonlaw06_OrderAll.j1 kj2 l0 t247 (decide ((t247.length : Int) > (l0.length : Int)))) else (garrisonlaw06_OrderAll.j1 kj2 l0 t247 true))) else (garrisonlaw06_OrderAll.j1 kj2 l0 t247 true))) else (garrisonlaw06_OrderAll.j1 kj2 l0 t247 true)))) else (none)))) else (none)) = some r := by first | (rw [hy256]; with_reducible exact H) | (have H2_ := (Option.bind_some _ _).symm.trans H; rw [hy256]; with_reducible exact H2_) | (have H2_ := (Option.bind_some _ _).symm.trans H; with_reducible exact H2_) | with_reducible exact H | (rw [hy256]; exact H) | exact H
              have Ny256 := Aside0.mk hy256
              clear hy256
              by_cases c14 : y253.length + y256.length < 8796093022208
              · rw [if_pos c14] at H
                have LMc14 := Aside0.mk c14
                clear c14
                obtain ⟨y260, hy260⟩ : ∃ y_ : List (S23), y_ = (y253 ++ y256) := ⟨_, rfl⟩
                replace H : ((some (l0.take (a1 : Int).toNat : List (S23))).bind fun y263 => (if y260.length + y263.length < 8796093022208 then ((order_Sort.f (y260 ++ y263)).bind fun bt270 => ((garrisonlaw06_num.f bt270.2).bind fun t274 => (if t274 = 0 then ((garrisonref06_Same.f kj2 t247 bt270.1).bind fun t275 => (if t275 = true then ((order_Rising.f kj2 t247).bind fun t276 => (if t276 = true then (garrisonlaw06_OrderAll.j1 kj2 l0 t247 (decide ((t247.length : Int) > (l0.length : Int)))) else (garrisonlaw06_OrderAll.j1 kj2 l0 t247 true))) else (garrisonlaw06_OrderAll.j1 kj2 l0 t247 true))) else (garrisonlaw06_OrderAll.j1 kj2 l0 t247 true)))) else (none))) = some r := by first | (rw [hy260]; with_reducible exact H) | (have H2_ := (Option.bind_some _ _).symm.trans H; rw [hy260]; with_reducible exact H2_) | (have H2_ := (Option.bind_some _ _).symm.trans H; with_reducible exact H2_) | with_reducible exact H | (rw [hy260]; exact H) | exact H
                have Ny260 := Aside0.mk hy260
                clear hy260
                have c15b0 := eq_true (of_decide_eq_true (by first | (with_reducible assumption) | assumption) : 0 ≤ a1)
                have c16b0 := eq_true (of_decide_eq_true (by first | (with_reducible assumption) | assumption) : a1 ≤ (l0.length : Int))
                obtain ⟨y263, hy263⟩ : ∃ y_ : List (S23), y_ = (l0.take (a1 : Int).toNat) := ⟨_, rfl⟩
                replace H : (if y260.length + y263.length < 8796093022208 then ((order_Sort.f (y260 ++ y263)).bind fun bt270 => ((garrisonlaw06_num.f bt270.2).bind fun t274 => (if t274 = 0 then ((garrisonref06_Same.f kj2 t247 bt270.1).bind fun t275 => (if t275 = true then ((order_Rising.f kj2 t247).bind fun t276 => (if t276 = true then (garrisonlaw06_OrderAll.j1 kj2 l0 t247 (decide ((t247.length : Int) > (l0.length : Int)))) else (garrisonlaw06_OrderAll.j1 kj2 l0 t247 true))) else (garrisonlaw06_OrderAll.j1 kj2 l0 t247 true))) else (garrisonlaw06_OrderAll.j1 kj2 l0 t247 true)))) else (none)) = some r := by first | (rw [hy263]; with_reducible exact H) | (have H2_ := (Option.bind_some _ _).symm.trans H; rw [hy263]; with_reducible exact H2_) | (have H2_ := (Option.bind_some _ _).symm.trans H; with_reducible exact H2_) | with_reducible exact H | (rw [hy263]; exact H) | exact H
                have Ny263 := Aside0.mk hy263
                clear hy263
                by_cases c17 : y260.length + y263.length < 8796093022208
                · rw [if_pos c17] at H
                  have LMc17 := Aside0.mk c17
                  clear c17
                  obtain ⟨y267, hy267⟩ : ∃ y_ : List (S23), y_ = (y260 ++ y263) := ⟨_, rfl⟩
                  replace H : ((order_Sort.f y267).bind fun bt270 => ((garrisonlaw06_num.f bt270.2).bind fun t274 => (if t274 = 0 then ((garrisonref06_Same.f kj2 t247 bt270.1).bind fun t275 => (if t275 = true then ((order_Rising.f kj2 t247).bind fun t276 => (if t276 = true then (garrisonlaw06_OrderAll.j1 kj2 l0 t247 (decide ((t247.length : Int) > (l0.length : Int)))) else (garrisonlaw06_OrderAll.j1 kj2 l0 t247 true))) else (garrisonlaw06_OrderAll.j1 kj2 l0 t247 true))) else (garrisonlaw06_OrderAll.j1 kj2 l0 t247 true)))) = some r := by first | (rw [hy267]; with_reducible exact H) | (have H2_ := (Option.bind_some _ _).symm.trans H; rw [hy267]; with_reducible exact H2_) | (have H2_ := (Option.bind_some _ _).symm.trans H; with_reducible exact H2_) | with_reducible exact H | (rw [hy267]; exact H) | exact H
                  have Ny267 := Aside0.mk hy267
                  clear hy267
                  replace H := Option.bind_eq_some_iff.mp H
                  obtain ⟨⟨t270, t271⟩, A180, H⟩ := H
                  replace H : ((garrisonlaw06_num.f t271).bind fun t274 => (if t274 = 0 then ((garrisonref06_Same.f kj2 t247 t270).bind fun t275 => (if t275 = true then ((order_Rising.f kj2 t247).bind fun t276 => (if t276 = true then (garrisonlaw06_OrderAll.j1 kj2 l0 t247 (decide ((t247.length : Int) > (l0.length : Int)))) else (garrisonlaw06_OrderAll.j1 kj2 l0 t247 true))) else (garrisonlaw06_OrderAll.j1 kj2 l0 t247 true))) else (garrisonlaw06_OrderAll.j1 kj2 l0 t247 true))) = some r := H
                  have A18 := Aside0.mk A180
                  clear A180
                  have HC19 := Aside0.mk H
                  clear H
                  try go_wp2_with (first | ((with_reducible refine gate_callee (f := 20) rfl ?_); refine goesL_ (some 28) rfl rfl Try.func20 (by kernel_rfl) rfl #[.slice A0 l0.length c0] rfl (by (try simp only [List.map_toArray, List.map_cons, List.map_nil]); first | done | rfl | (simp only [List.length_drop, List.length_take]; rfl)) ?_; (with_reducible refine (order_Sort.calls _ _ l0 t247 t248 _ ?side1 ?side2 A9.out).mono ?_); (case side1 => repeat (first | exact (Kd.C_below HR0.out HB.out) | (with_reducible refine Kd.C_alloc ?_ _) | (with_reducible refine Kd.C_drewN ?_ _) | (with_reducible refine Kd.C_drew ?_))); (case side2 => exact HC0.out); rintro e w20 ⟨v249, rfl, ho0, hb⟩; refine ⟨_, rfl, ?_⟩; have n0_ := Aside0.mk (Kd.R_lower ho0 (below_size (by repeat (first | (with_reducible first | exact HB.out | apply below_alloc | apply pw_below_drewN | apply below_drew1) | exact HB.out)))); have n1_ := Aside0.mk (below_step (by repeat (first | (with_reducible first | exact HB.out | apply below_alloc | apply pw_below_drewN | apply below_drew1) | exact HB.out)) hb); clear HB; have HO250 := n0_; have HB := n1_; clear n0_ n1_; (try clear hb); (try clear hb2); (try clear hk); (try clear hi); (try clear ho0)) | ((with_reducible refine gate_callee (f := 12) rfl ?_); refine goesL_ (some 32) rfl rfl Try.func12 (by kernel_rfl) rfl #[.int .i64 t248] rfl (by (try simp only [List.map_toArray, List.map_cons, List.map_nil]); first | done | rfl | (simp only [List.length_drop, List.length_take]; rfl)) ?_; (with_reducible refine (garrisonlaw06_num.calls t248 t251 _ A10.out).mono ?_); rintro e w' ⟨rfl, ⟨nd, rfl⟩⟩; refine ⟨_, rfl, ?_⟩))
                  (try (rw [drewN_self w20]; generalize hq_ : World.drewN w20 _ = w20; have n0_ : Aside0 (Kd.R k23 23 w20 w.heap.size (fun _ => True) v249 t247) := ⟨by rw [← hq_]; exact (by (with_reducible repeat (first | apply Kd.R_alloc | apply Kd.R_drewN | apply Kd.R_drew)); exact HO250.out)⟩; have n1_ : Aside0 (Below w.heap.size w w20) := ⟨by rw [← hq_]; exact (by repeat (first | (with_reducible first | exact HB.out | apply below_alloc | apply pw_below_drewN | apply below_drew1) | exact HB.out))⟩; clear HO250 HB hq_; have HO250 := n0_; have HB := n1_; clear n0_ n1_))
                  have n0_ := Aside0.mk (Kd.R_drew HO250.out)
                  have n1_ := Aside0.mk (below_drew1 HB.out)
                  clear HO250
                  clear HB
                  have HO250 := n0_
                  have HB := n1_
                  clear n0_ n1_
                  have q22 : (a1 : Int) ≤ ((l0.length : Int) : Int) := of_decide_eq_true (by first | (with_reducible assumption) | assumption)
                  obtain ⟨i022, hi022, _, hsz22, _⟩ := info_parts info23
                  have hroom22 : l0.length ≤ c0 := HC0.out
                  have hC22 : Kd.C k23 _ A0 l0.length l0 := HR0.out
                  have q022 : (0 : Int) ≤ (a1 : Int) := of_decide_eq_true (by first | (with_reducible assumption) | assumption)
                  have hcut22 := cut_from (P := Try.prog) 36 23 .i64 Try.underlying36 hi022 2 hsz22 A0 l0.length c0 a1 q022 q22
                  have hr22 := Kd.C_drop (m := (a1 : Int).toNat) (c := c0) hC22 (by omega) hroom22
                  obtain ⟨A22, hA22⟩ : ∃ A1, A1 = (if c0 = (a1 : Int).toNat then A0 else (A0 : Option Addr).map (·.add ((a1 : Int).toNat * 2))) := ⟨_, rfl⟩
                  obtain ⟨c22, hc22⟩ : ∃ c1, c1 = c0 - (a1 : Int).toNat := ⟨_, rfl⟩
                  have hy22 : y256.length = l0.length - (a1 : Int).toNat := (by rw [Ny256.out, List.length_drop] <;> omega)
                  rw [show (l0).drop (a1 : Int).toNat = y256 from Ny256.out.symm] at hr22
                  replace hr22 : Kd.C k23 _ A22 y256.length y256 := (by rw [hA22]; exact hr22)
                  rw [← hy22, ← hA22, ← hc22] at hcut22
                  have HR259 := Aside0.mk hr22
                  have HC259 := Aside0.mk (show y256.length ≤ c22 from by rw [hy22, hc22]; exact Nat.sub_le_sub_right hroom22 _)
                  clear hr22 hC22 hroom22 hi022 hsz22 hc22
                  have KY22 := Aside0.mk hy22
                  have KA22 := Aside0.mk hA22
                  clear hy22 hA22
                  replace q22 := eq_true q22
                  have q23 : (a1 : Int) ≤ ((l0.length : Int) : Int) := of_decide_eq_true (by first | (with_reducible assumption) | assumption)
                  obtain ⟨i023, hi023, _, hsz23, _⟩ := info_parts info23
                  have hroom23 : l0.length ≤ c0 := HC0.out
                  have hC23 : Kd.C k23 _ A0 l0.length l0 := HR0.out
                  have hcut23 := cut_to (P := Try.prog) 36 23 .i64 Try.underlying36 hi023 A0 l0.length c0 a1 (of_decide_eq_true (by first | (with_reducible assumption) | assumption)) q23 hroom23
                  have hr23 := Kd.C_take (m := (a1 : Int).toNat) hC23 (by omega)
                  have hy23 : y263.length = (a1 : Int).toNat := (by rw [Ny263.out, List.length_take]; omega)
                  rw [← Ny263.out] at hr23
                  rw [← hy23] at hcut23
                  have HR266 := Aside0.mk hr23
                  have HC266 := Aside0.mk (show y263.length ≤ c0 from by omega)
                  clear hr23 hC23 hroom23 hi023 hsz23
                  have KY23 := Aside0.mk hy23
                  clear hy23
                  replace q23 := eq_true q23
                  refine start_ (n := 10) (S := fun w' => True) (ds := []) #[false, false, false, false, false, false, false, false, false, false] (by kernel_rfl) rfl rfl trivial (fun hHeld => ?_); refine with_tabW garrisonlaw06_OrderAll.tab6 garrisonlaw06_OrderAll.bits6 (fun HT_ HW_ => ?_)
                  generalize w20.drew = w21 at HO250 HB HR259 HR266 hHeld ⊢
                  refine pure_ (i := 1) (N := some 41) (v := ?_) (a' := ?_) #[false, true, false, false, false, false, false, false, false, false] rfl rfl (any_of HT_.out (by kernel_rfl)) (fun _ _ _ h => h) (Or.inl ⟨by rfl, ?_⟩) ?_ ?_
                  rotate_left
                  · intro w'
                    go_simp
                    with_reducible rfl
                  rotate_left
                  · simp only [Act.put, List.setIfInBounds_toArray, List.set_cons_zero, List.set_cons_succ, i64_w, i32_w]
                    rfl
                  refine pure_ (i := 2) (N := some 42) (v := ?_) (a' := ?_) #[false, true, true, false, false, false, false, false, false, false] rfl rfl (any_of HT_.out (by kernel_rfl)) (fun _ _ _ h => h) (Or.inl ⟨by rfl, ?_⟩) ?_ ?_
                  rotate_left
                  · intro w'
                    go_simp
                    with_reducible rfl
                  rotate_left
                  · simp only [Act.put, List.setIfInBounds_toArray, List.set_cons_zero, List.set_cons_succ, i64_w, i32_w]
                    rfl
                  refine pure_ (i := 3) (N := some 43) (v := ?_) (a' := ?_) #[false, true, true, true, false, false, false, false, false, false] rfl rfl (any_of HT_.out (by kernel_rfl)) (fun _ _ _ h => h) (Or.inl ⟨by rfl, ?_⟩) ?_ ?_
                  rotate_left
                  · intro w'
                    go_simp
                    with_reducible rfl
                  rotate_left
                  · simp only [Act.put, List.setIfInBounds_toArray, List.set_cons_zero, List.set_cons_succ, i64_w, i32_w]
                    rfl
                  refine pure_ (i := 5) (N := some 45) (v := ?_) (a' := ?_) #[false, true, true, true, false, true, false, false, false, false] rfl rfl (any_of HT_.out (by kernel_rfl)) (fun _ _ _ h => h) (Or.inl ⟨by rfl, ?_⟩) ?_ ?_
                  rotate_left
                  · intro w'
                    go_simp
                    with_reducible rfl
                  rotate_left
                  · simp only [Act.put, List.setIfInBounds_toArray, List.set_cons_zero, List.set_cons_succ, i64_w, i32_w]
                    rfl
                  refine pure_ (i := 6) (N := some 46) (v := ?_) (a' := ?_) #[false, true, true, true, false, true, true, false, false, false] rfl rfl (any_of HT_.out (by kernel_rfl)) (fun _ _ _ h => h) (Or.inl ⟨by rfl, ?_⟩) ?_ ?_
                  rotate_left
                  · intro w'
                    go_simp
                    with_reducible rfl
                  rotate_left
                  · simp only [Act.put, List.setIfInBounds_toArray, List.set_cons_zero, List.set_cons_succ, i64_w, i32_w]
                    rfl
                  refine pure_ (i := 7) (N := some 47) (v := ?_) (a' := ?_) #[false, true, true, true, false, true, true, true, false, false] rfl rfl (any_of HT_.out (by kernel_rfl)) (fun _ _ _ h => h) (Or.inl ⟨by rfl, ?_⟩) ?_ ?_
                  rotate_left
                  · intro w'
                    go_simp
                    with_reducible rfl
                  rotate_left
                  · simp only [Act.put, List.setIfInBounds_toArray, List.set_cons_zero, List.set_cons_succ, i64_w, i32_w]
                    rfl
                  refine one_ (i := 0) (N := some 40) #[true, true, true, true, false, true, true, true, false, false] rfl rfl (one_of HT_.out (by kernel_rfl)) (by decide) (fun K hK => ?_)
                  refine Kd.R_lit_step k23 _ 23 ?hg (N := 40) ?hd (xs := ([] : List (S23))) (inner := []) (ok := fun _ => True) (okp := fun _ => True) ?hr ?hp (fun _ hk => hk) trivial (Below.refl _ _) (Nat.le_refl _) (by simp) ?_; (case hd => rfl); (case hg => rfl); (case hr => first | (go_simp; done) | (go_simp; rfl)); (case hp => exact (Reps.none _ _))
                  intro v254 w24 ho25 hb hg_ hnew_
                  clear hg_ hnew_
                  (first | rw [← Ny253.out] at ho25 | (simp only [Int.reduceToNat] at ho25; rw [← Ny253.out] at ho25))
                  have n0_ := Aside0.mk (Kd.R_elder' (by (with_reducible repeat (first | apply Kd.R_alloc | apply Kd.R_drewN | apply Kd.R_drew)); exact HO250.out) (Kd.R_base ho25) hb)
                  have n1_ := Aside0.mk (Kd.R_lower (Kd.R_new' ho25 (Kd.R_lt (by (with_reducible repeat (first | apply Kd.R_alloc | apply Kd.R_drewN | apply Kd.R_drew)); exact HO250.out))) (below_size (by repeat (first | (with_reducible first | exact HB.out | apply below_alloc | apply pw_below_drewN | apply below_drew1) | exact HB.out))))
                  have n2_ := Aside0.mk (below_step (by repeat (first | (with_reducible first | exact HB.out | apply below_alloc | apply pw_below_drewN | apply below_drew1) | exact HB.out)) hb)
                  clear HO250
                  clear HB
                  have HO250 := n0_
                  have HO255 := n1_
                  have HB := n2_
                  clear n0_ n1_ n2_
                  clear hb ho25
                  refine hK.out _ _ trivial (fun hHeld => ?_)
                  clear hK K
                  refine norm_ (a' := ?_) ?_ ?_
                  rotate_left
                  · show Act.put _ (some 40) _ = _
                    simp only [Act.put, List.setIfInBounds_toArray, List.set_cons_zero, List.set_cons_succ, i64_w, i32_w]
                    rfl
                  refine one_ (i := 4) (N := some 44) #[true, true, true, true, true, true, true, true, false, false] rfl rfl (one_of HT_.out (by kernel_rfl)) (by decide) (fun K hK => ?_)
                  refine Kd.R_append_rows_step k23 (w0 := w) w.heap.size (by rfl) (.tmp 40) (.tmp 43) 36 23 (.agg #[(.int .i64 0), (.int .i64 0)]) 16 rfl Try.underlying36 info23 rfl (by decide) (by omega) v254 y253 y256 _ _ _ (fun k_ => some k_ ≠ (v249 : Value).ownBlock) (fun _ => False) rfl rfl ?aO ?aR (fun _ _ h => h) (fun _ h => h.elim) ?aF ?aB ?aS ?aL ?_
                  (case aR => repeat (first | exact (Kd.C_below HR259.out HB.out) | (with_reducible refine Kd.C_alloc ?_ _) | (with_reducible refine Kd.C_drewN ?_ _) | (with_reducible refine Kd.C_drew ?_)))
                  (case aB => exact (by repeat (first | (with_reducible first | exact HB.out | apply below_alloc | apply pw_below_drewN | apply below_drew1) | exact HB.out)))
                  (case aF => exact (fun k_ hk => Kd.fresh' (Kd.R_lt (by (with_reducible repeat (first | apply Kd.R_alloc | apply Kd.R_drewN | apply Kd.R_drew)); exact HO250.out)) k_ hk))
                  (case aO => exact (by (with_reducible repeat (first | apply Kd.R_alloc | apply Kd.R_drewN | apply Kd.R_drew)); exact Kd.R_mono HO255.out (fun _ hk => hk.2)))
                  (case aS => exact (below_size (by repeat (first | (with_reducible first | exact HB.out | apply below_alloc | apply pw_below_drewN | apply below_drew1) | exact HB.out))))
                  (case aL => have := LMc14.out; omega)
                  intro v261 w26 ho hb hg hat
                  rw [← Ny260.out] at ho
                  have n0_ := Aside0.mk (Kd.R_after (ok := (fun _ => True)) (by (with_reducible repeat (first | apply Kd.R_alloc | apply Kd.R_drewN | apply Kd.R_drew)); exact HO250.out) hg hat)
                  have n1_ := Aside0.mk (hb)
                  have n2_ := Aside0.mk (ho)
                  clear HO250
                  clear HB
                  clear HO255
                  have HO250 := n0_
                  have HB := n1_
                  have HO262 := n2_
                  clear n0_ n1_ n2_
                  clear ho hb hg hat
                  refine hK.out _ _ trivial (fun hHeld => ?_)
                  clear hK K
                  refine norm_ (a' := ?_) ?_ ?_
                  rotate_left
                  · show Act.put _ (some 44) _ = _
                    simp only [Act.put, List.setIfInBounds_toArray, List.set_cons_zero, List.set_cons_succ, i64_w, i32_w]
                    rfl
                  refine one_ (i := 8) (N := some 48) #[true, true, true, true, true, true, true, true, true, false] rfl rfl (one_of HT_.out (by kernel_rfl)) (by decide) (fun K hK => ?_)
                  refine Kd.R_append_rows_step k23 (w0 := w) w.heap.size (by rfl) (.tmp 44) (.tmp 47) 36 23 (.agg #[(.int .i64 0), (.int .i64 0)]) 16 rfl Try.underlying36 info23 rfl (by decide) (by omega) v261 y260 y263 _ _ _ (fun k_ => some k_ ≠ (v249 : Value).ownBlock) (fun _ => False) rfl rfl ?aO ?aR (fun _ _ h => h) (fun _ h => h.elim) ?aF ?aB ?aS ?aL ?_
                  (case aR => repeat (first | exact (Kd.C_below HR266.out HB.out) | (with_reducible refine Kd.C_alloc ?_ _) | (with_reducible refine Kd.C_drewN ?_ _) | (with_reducible refine Kd.C_drew ?_)))
                  (case aB => exact (by repeat (first | (with_reducible first | exact HB.out | apply below_alloc | apply pw_below_drewN | apply below_drew1) | exact HB.out)))
                  (case aF => exact (fun k_ hk => Kd.fresh' (Kd.R_lt (by (with_reducible repeat (first | apply Kd.R_alloc | apply Kd.R_drewN | apply Kd.R_drew)); exact HO250.out)) k_ hk))
                  (case aO => exact (by (with_reducible repeat (first | apply Kd.R_alloc | apply Kd.R_drewN | apply Kd.R_drew)); exact HO262.out))
                  (case aS => exact (below_size (by repeat (first | (with_reducible first | exact HB.out | apply below_alloc | apply pw_below_drewN | apply below_drew1) | exact HB.out))))
                  (case aL => have := LMc17.out; omega)
                  intro v268 w27 ho hb hg hat
                  rw [← Ny267.out] at ho
                  have n0_ := Aside0.mk (Kd.R_after (ok := (fun _ => True)) (by (with_reducible repeat (first | apply Kd.R_alloc | apply Kd.R_drewN | apply Kd.R_drew)); exact HO250.out) hg hat)
                  have n1_ := Aside0.mk (hb)
                  have n2_ := Aside0.mk (ho)
                  clear HO250
                  clear HB
                  clear HO262
                  have HO250 := n0_
                  have HB := n1_
                  have HO269 := n2_
                  clear n0_ n1_ n2_
                  clear ho hb hg hat
                  refine hK.out _ _ trivial (fun hHeld => ?_)
                  clear hK K
                  refine norm_ (a' := ?_) ?_ ?_
                  rotate_left
                  · show Act.put _ (some 48) _ = _
                    simp only [Act.put, List.setIfInBounds_toArray, List.set_cons_zero, List.set_cons_succ, i64_w, i32_w]
                    rfl
                  refine pure_ (i := 9) (N := some 7) (v := ?_) (a' := ?_) #[true, true, true, true, true, true, true, true, true, true] rfl rfl (any_of HT_.out (by kernel_rfl)) (fun _ _ _ h => h) (Or.inl ⟨by rfl, ?_⟩) ?_ ?_
                  rotate_left
                  · intro w'
                    go_simp
                    with_reducible rfl
                  rotate_left
                  · simp only [Act.put, List.setIfInBounds_toArray, List.set_cons_zero, List.set_cons_succ, i64_w, i32_w]
                    rfl
                  refine done_ (done_of HT_.out (by kernel_rfl)) ?_
                  obtain ⟨Ao28, co28, eo28⟩ := Kd.R_slice HO269.out
                  subst eo28
                  go_upto_region 8 with (first | ((with_reducible refine gate_callee (f := 20) rfl ?_); refine goesL_ (some 51) rfl rfl Try.func20 (by kernel_rfl) rfl #[.slice Ao28 y267.length co28] rfl (by (try simp only [List.map_toArray, List.map_cons, List.map_nil]); first | done | rfl | (simp only [List.length_drop, List.length_take]; rfl)) ?_; (with_reducible refine (order_Sort.calls _ _ y267 t270 t271 _ ?side1 ?side2 A18.out).mono ?_); (case side1 => repeat (first | exact (Kd.R_reads' HO269.out).2.2 | (with_reducible refine Kd.C_alloc ?_ _) | (with_reducible refine Kd.C_drewN ?_ _) | (with_reducible refine Kd.C_drew ?_))); (case side2 => exact (Kd.R_reads' HO269.out).2.1); rintro e w29 ⟨v272, rfl, ho0, hb⟩; refine ⟨_, rfl, ?_⟩; have n0_ := Aside0.mk (Kd.R_elder' (by (with_reducible repeat (first | apply Kd.R_alloc | apply Kd.R_drewN | apply Kd.R_drew)); exact HO250.out) (Kd.R_base ho0) hb); have n1_ := Aside0.mk (Kd.R_elder' (by (with_reducible repeat (first | apply Kd.R_alloc | apply Kd.R_drewN | apply Kd.R_drew)); exact HO269.out) (Kd.R_base ho0) hb); have n2_ := Aside0.mk (Kd.R_lower (Kd.R_new' (Kd.R_new' ho0 (Kd.R_lt (by (with_reducible repeat (first | apply Kd.R_alloc | apply Kd.R_drewN | apply Kd.R_drew)); exact HO250.out))) (Kd.R_lt (by (with_reducible repeat (first | apply Kd.R_alloc | apply Kd.R_drewN | apply Kd.R_drew)); exact HO269.out))) (below_size (by repeat (first | (with_reducible first | exact HB.out | apply below_alloc | apply pw_below_drewN | apply below_drew1) | exact HB.out)))); have n3_ := Aside0.mk (below_step (by repeat (first | (with_reducible first | exact HB.out | apply below_alloc | apply pw_below_drewN | apply below_drew1) | exact HB.out)) hb); clear HO250; clear HO269; clear HB; have HO250 := n0_; have HO269 := n1_; have HO273 := n2_; have HB := n3_; clear n0_ n1_ n2_ n3_; (try clear hb); (try clear hb2); (try clear hk); (try clear hi); (try clear ho0)))
                  (try simp only [Act.put, List.setIfInBounds_toArray, List.set_cons_zero, List.set_cons_succ])
                  go_cut [74] (fun v74 wc => ∃ (kq : Nat) (x74_18 : Bool), v74 = .bool x74_18 ∧ Aside0 (garrisonlaw06_OrderAll.j1 kq l0 t247 x74_18 = some r) ∧ Aside0 (kq ≤ kj2) ∧ Aside0 (Kd.R k23 23 wc w.heap.size (fun _ => True) v249 t247) ∧ Aside0 (Below w.heap.size w wc))
                  case first =>
                    have H := HC19.out
                    clear HC19
                    replace H := Option.bind_eq_some_iff.mp H
                    obtain ⟨t274, A300, H⟩ := H
                    replace H : (if t274 = 0 then ((garrisonref06_Same.f kj2 t247 t270).bind fun t275 => (if t275 = true then ((order_Rising.f kj2 t247).bind fun t276 => (if t276 = true then (garrisonlaw06_OrderAll.j1 kj2 l0 t247 (decide ((t247.length : Int) > (l0.length : Int)))) else (garrisonlaw06_OrderAll.j1 kj2 l0 t247 true))) else (garrisonlaw06_OrderAll.j1 kj2 l0 t247 true))) else (garrisonlaw06_OrderAll.j1 kj2 l0 t247 true)) = some r := H
                    have A30 := Aside0.mk A300
                    clear A300
                    by_cases c31 : t274 = 0
                    · rw [if_pos c31] at H
                      have c31b0 : (t274 == 0) = true := beq_iff_eq.mpr c31
                      have c31b1 : (t274 != 0) = false := bne_eq_false_iff_eq.mpr c31
                      clear c31
                      (first | rw [c31b0] | (simp only [i64_w, i32_w]; rw [c31b0]) | skip)
                      replace H := Option.bind_eq_some_iff.mp H
                      obtain ⟨t275, A320, H⟩ := H
                      replace H : (if t275 = true then ((order_Rising.f kj2 t247).bind fun t276 => (if t276 = true then (garrisonlaw06_OrderAll.j1 kj2 l0 t247 (decide ((t247.length : Int) > (l0.length : Int)))) else (garrisonlaw06_OrderAll.j1 kj2 l0 t247 true))) else (garrisonlaw06_OrderAll.j1 kj2 l0 t247 true)) = some r := H
                      have A32 := Aside0.mk A320
                      clear A320
                      by_cases c33 : t275 = true
                      · subst c33
                        have H1 : ((order_Rising.f kj2 t247).bind fun t276 => (if t276 = true then (garrisonlaw06_OrderAll.j1 kj2 l0 t247 (decide ((t247.length : Int) > (l0.length : Int)))) else (garrisonlaw06_OrderAll.j1 kj2 l0 t247 true))) = some r := by rw [if_pos rfl] at H; exact H
                        clear H
                        have H := H1
                        clear H1
                        replace H := Option.bind_eq_some_iff.mp H
                        obtain ⟨t276, A340, H⟩ := H
                        replace H : (if t276 = true then (garrisonlaw06_OrderAll.j1 kj2 l0 t247 (decide ((t247.length : Int) > (l0.length : Int)))) else (garrisonlaw06_OrderAll.j1 kj2 l0 t247 true)) = some r := H
                        have A34 := Aside0.mk A340
                        clear A340
                        by_cases c35 : t276 = true
                        · subst c35
                          have H1 : (garrisonlaw06_OrderAll.j1 kj2 l0 t247 (decide ((t247.length : Int) > (l0.length : Int)))) = some r := by rw [if_pos rfl] at H; exact H
                          clear H
                          have H := H1
                          clear H1
                          have H' := Aside0.mk H
                          clear H
                          go_wp2_with (first | ((with_reducible refine gate_callee (f := 12) rfl ?_); refine goesL_ (some 55) rfl rfl Try.func12 (by kernel_rfl) rfl #[.int .i64 t271] rfl (by (try simp only [List.map_toArray, List.map_cons, List.map_nil]); first | done | rfl | (simp only [List.length_drop, List.length_take]; rfl)) ?_; (with_reducible refine (garrisonlaw06_num.calls t271 t274 _ A30.out).mono ?_); rintro e w' ⟨rfl, ⟨nd, rfl⟩⟩; refine ⟨_, rfl, ?_⟩; obtain ⟨Ao36, co36, eo36⟩ := Kd.R_slice HO250.out; subst eo36; obtain ⟨Ao37, co37, eo37⟩ := Kd.R_slice HO273.out; subst eo37) | (go_at_call 22; (with_reducible refine (garrisonref06_Same.calls kj2 _ _ t247 _ _ t270 true _ ?side1 ?side2 ?side3 ?side4 A32.out).mono ?_); (case side1 => repeat (first | exact (Kd.R_reads' HO250.out).2.2 | (with_reducible refine Kd.C_alloc ?_ _) | (with_reducible refine Kd.C_drewN ?_ _) | (with_reducible refine Kd.C_drew ?_))); (case side2 => exact (Kd.R_reads' HO250.out).2.1); (case side3 => repeat (first | exact (Kd.R_reads' HO273.out).2.2 | (with_reducible refine Kd.C_alloc ?_ _) | (with_reducible refine Kd.C_drewN ?_ _) | (with_reducible refine Kd.C_drew ?_))); (case side4 => exact (Kd.R_reads' HO273.out).2.1); rintro e w' ⟨rfl, ⟨nd, rfl⟩⟩) | (go_at_call 23; (with_reducible refine (order_Rising.calls kj2 _ _ t247 true _ ?side1 ?side2 A34.out).mono ?_); (case side1 => repeat (first | exact (Kd.R_reads' HO250.out).2.2 | (with_reducible refine Kd.C_alloc ?_ _) | (with_reducible refine Kd.C_drewN ?_ _) | (with_reducible refine Kd.C_drew ?_))); (case side2 => exact (Kd.R_reads' HO250.out).2.1); rintro e w38 ⟨rfl, hb⟩; have n0_ := Aside0.mk (Kd.R_below (by (with_reducible repeat (first | apply Kd.R_alloc | apply Kd.R_drewN | apply Kd.R_drew)); exact HO250.out) hb); have n1_ := Aside0.mk (Kd.R_below (by (with_reducible repeat (first | apply Kd.R_alloc | apply Kd.R_drewN | apply Kd.R_drew)); exact HO269.out) hb); have n2_ := Aside0.mk (Kd.R_below (by (with_reducible repeat (first | apply Kd.R_alloc | apply Kd.R_drewN | apply Kd.R_drew)); exact HO273.out) hb); have n3_ := Aside0.mk (below_step (by repeat (first | (with_reducible first | exact HB.out | apply below_alloc | apply pw_below_drewN | apply below_drew1) | exact HB.out)) hb); clear HO250; clear HO269; clear HO273; clear HB; have HO250 := n0_; have HO269 := n1_; have HO273 := n2_; have HB := n3_; clear n0_ n1_ n2_ n3_; (try clear hb); (try clear hb2); (try clear hk); (try clear hi)))
                          go_meet
                          case rel => exact ⟨_, (decide ((t247.length : Int) > (l0.length : Int))), (by first | rfl | (simp; done) | (simp [*]; done)), H', ⟨by have := HJ2.out; first | omega | exact Nat.le_refl _⟩, ⟨by (with_reducible repeat (first | apply Kd.R_alloc | apply Kd.R_drewN | apply Kd.R_drew)); exact Kd.R_mono HO250.out (fun _ hk => trivial)⟩, ⟨by repeat (first | (with_reducible first | exact HB.out | apply below_alloc | apply pw_below_drewN | apply below_drew1) | exact HB.out)⟩⟩
                        · replace c35 := Bool.eq_false_iff.mpr c35
                          subst c35
                          have H1 : (garrisonlaw06_OrderAll.j1 kj2 l0 t247 true) = some r := by rw [if_neg (show ¬ (false = true) by decide)] at H; exact H
                          clear H
                          have H := H1
                          clear H1
                          have H' := Aside0.mk H
                          clear H
                          go_wp2_with (first | ((with_reducible refine gate_callee (f := 12) rfl ?_); refine goesL_ (some 55) rfl rfl Try.func12 (by kernel_rfl) rfl #[.int .i64 t271] rfl (by (try simp only [List.map_toArray, List.map_cons, List.map_nil]); first | done | rfl | (simp only [List.length_drop, List.length_take]; rfl)) ?_; (with_reducible refine (garrisonlaw06_num.calls t271 t274 _ A30.out).mono ?_); rintro e w' ⟨rfl, ⟨nd, rfl⟩⟩; refine ⟨_, rfl, ?_⟩; obtain ⟨Ao39, co39, eo39⟩ := Kd.R_slice HO250.out; subst eo39; obtain ⟨Ao40, co40, eo40⟩ := Kd.R_slice HO273.out; subst eo40) | (go_at_call 22; (with_reducible refine (garrisonref06_Same.calls kj2 _ _ t247 _ _ t270 true _ ?side1 ?side2 ?side3 ?side4 A32.out).mono ?_); (case side1 => repeat (first | exact (Kd.R_reads' HO250.out).2.2 | (with_reducible refine Kd.C_alloc ?_ _) | (with_reducible refine Kd.C_drewN ?_ _) | (with_reducible refine Kd.C_drew ?_))); (case side2 => exact (Kd.R_reads' HO250.out).2.1); (case side3 => repeat (first | exact (Kd.R_reads' HO273.out).2.2 | (with_reducible refine Kd.C_alloc ?_ _) | (with_reducible refine Kd.C_drewN ?_ _) | (with_reducible refine Kd.C_drew ?_))); (case side4 => exact (Kd.R_reads' HO273.out).2.1); rintro e w' ⟨rfl, ⟨nd, rfl⟩⟩) | (go_at_call 23; (with_reducible refine (order_Rising.calls kj2 _ _ t247 false _ ?side1 ?side2 A34.out).mono ?_); (case side1 => repeat (first | exact (Kd.R_reads' HO250.out).2.2 | (with_reducible refine Kd.C_alloc ?_ _) | (with_reducible refine Kd.C_drewN ?_ _) | (with_reducible refine Kd.C_drew ?_))); (case side2 => exact (Kd.R_reads' HO250.out).2.1); rintro e w41 ⟨rfl, hb⟩; have n0_ := Aside0.mk (Kd.R_below (by (with_reducible repeat (first | apply Kd.R_alloc | apply Kd.R_drewN | apply Kd.R_drew)); exact HO250.out) hb); have n1_ := Aside0.mk (Kd.R_below (by (with_reducible repeat (first | apply Kd.R_alloc | apply Kd.R_drewN | apply Kd.R_drew)); exact HO269.out) hb); have n2_ := Aside0.mk (Kd.R_below (by (with_reducible repeat (first | apply Kd.R_alloc | apply Kd.R_drewN | apply Kd.R_drew)); exact HO273.out) hb); have n3_ := Aside0.mk (below_step (by repeat (first | (with_reducible first | exact HB.out | apply below_alloc | apply pw_below_drewN | apply below_drew1) | exact HB.out)) hb); clear HO250; clear HO269; clear HO273; clear HB; have HO250 := n0_; have HO269 := n1_; have HO273 := n2_; have HB := n3_; clear n0_ n1_ n2_ n3_; (try clear hb); (try clear hb2); (try clear hk); (try clear hi)))
                          go_meet
                          case rel => exact ⟨_, (true), (by first | rfl | (simp; done) | (simp [*]; done)), H', ⟨by have := HJ2.out; first | omega | exact Nat.le_refl _⟩, ⟨by (with_reducible repeat (first | apply Kd.R_alloc | apply Kd.R_drewN | apply Kd.R_drew)); exact Kd.R_mono HO250.out (fun _ hk => trivial)⟩, ⟨by repeat (first | (with_reducible first | exact HB.out | apply below_alloc | apply pw_below_drewN | apply below_drew1) | exact HB.out)⟩⟩
                      · replace c33 := Bool.eq_false_iff.mpr c33
                        subst c33
                        have H1 : (garrisonlaw06_OrderAll.j1 kj2 l0 t247 true) = some r := by rw [if_neg (show ¬ (false = true) by decide)] at H; exact H
                        clear H
                        have H := H1
                        clear H1
                        have H' := Aside0.mk H
                        clear H
                        go_wp2_with (first | ((with_reducible refine gate_callee (f := 12) rfl ?_); refine goesL_ (some 55) rfl rfl Try.func12 (by kernel_rfl) rfl #[.int .i64 t271] rfl (by (try simp only [List.map_toArray, List.map_cons, List.map_nil]); first | done | rfl | (simp only [List.length_drop, List.length_take]; rfl)) ?_; (with_reducible refine (garrisonlaw06_num.calls t271 t274 _ A30.out).mono ?_); rintro e w' ⟨rfl, ⟨nd, rfl⟩⟩; refine ⟨_, rfl, ?_⟩; obtain ⟨Ao42, co42, eo42⟩ := Kd.R_slice HO250.out; subst eo42; obtain ⟨Ao43, co43, eo43⟩ := Kd.R_slice HO273.out; subst eo43) | (go_at_call 22; (with_reducible refine (garrisonref06_Same.calls kj2 _ _ t247 _ _ t270 false _ ?side1 ?side2 ?side3 ?side4 A32.out).mono ?_); (case side1 => repeat (first | exact (Kd.R_reads' HO250.out).2.2 | (with_reducible refine Kd.C_alloc ?_ _) | (with_reducible refine Kd.C_drewN ?_ _) | (with_reducible refine Kd.C_drew ?_))); (case side2 => exact (Kd.R_reads' HO250.out).2.1); (case side3 => repeat (first | exact (Kd.R_reads' HO273.out).2.2 | (with_reducible refine Kd.C_alloc ?_ _) | (with_reducible refine Kd.C_drewN ?_ _) | (with_reducible refine Kd.C_drew ?_))); (case side4 => exact (Kd.R_reads' HO273.out).2.1); rintro e w' ⟨rfl, ⟨nd, rfl⟩⟩))
                        go_meet
                        case rel => exact ⟨_, (true), (by first | rfl | (simp; done) | (simp [*]; done)), H', ⟨by have := HJ2.out; first | omega | exact Nat.le_refl _⟩, ⟨by (with_reducible repeat (first | apply Kd.R_alloc | apply Kd.R_drewN | apply Kd.R_drew)); exact Kd.R_mono HO250.out (fun _ hk => trivial)⟩, ⟨by repeat (first | (with_reducible first | exact HB.out | apply below_alloc | apply pw_below_drewN | apply below_drew1) | exact HB.out)⟩⟩
                    · rw [if_neg c31] at H
                      have c31b0 : (t274 == 0) = false := beq_eq_false_iff_ne.mpr c31
                      have c31b1 : (t274 != 0) = true := bne_iff_ne.mpr c31
                      (first | rw [c31b0] | (simp only [i64_w, i32_w]; rw [c31b0]) | skip)
                      have H' := Aside0.mk H
                      clear H
                      go_wp2_with (first | ((with_reducible refine gate_callee (f := 12) rfl ?_); refine goesL_ (some 55) rfl rfl Try.func12 (by kernel_rfl) rfl #[.int .i64 t271] rfl (by (try simp only [List.map_toArray, List.map_cons, List.map_nil]); first | done | rfl | (simp only [List.length_drop, List.length_take]; rfl)) ?_; (with_reducible refine (garrisonlaw06_num.calls t271 t274 _ A30.out).mono ?_); rintro e w' ⟨rfl, ⟨nd, rfl⟩⟩; refine ⟨_, rfl, ?_⟩))
                      go_meet
                      case rel => exact ⟨_, (true), (by first | rfl | (simp; done) | (simp [*]; done)), H', ⟨by have := HJ2.out; first | omega | exact Nat.le_refl _⟩, ⟨by (with_reducible repeat (first | apply Kd.R_alloc | apply Kd.R_drewN | apply Kd.R_drew)); exact Kd.R_mono HO250.out (fun _ hk => trivial)⟩, ⟨by repeat (first | (with_reducible first | exact HB.out | apply below_alloc | apply pw_below_drewN | apply below_drew1) | exact HB.out)⟩⟩
                  case rest =>
                    clear HC19
                    try clear c1
                    try clear c2
                    try clear p2
                    try clear q2
                    try clear c3
                    try clear c4
                    try clear c4b0
                    try clear c4b1
                    try clear c5
                    try clear c5b0
                    try clear c6
                    try clear c7
                    try clear c11
                    try clear c11b0
                    try clear c11b1
                    try clear c12
                    try clear c12b0
                    try clear c12b1
                    try clear c13
                    try clear c13b0
                    try clear c13b1
                    try clear c14
                    try clear c15
                    try clear c15b0
                    try clear c16
                    try clear c16b0
                    try clear c17
                    try clear c19
                    try clear c20
                    try clear c22
                    try clear q22
                    try clear q23
                    try clear c31
                    try clear c31b0
                    try clear c31b1
                    try clear c33
                    try clear c35
                    try clear p2
                    try clear q022
                    try clear q22
                    try clear q23
                    obtain ⟨kq, x74_18, rfl, HA, HJ18, HO_5, HB⟩ := hcut
                    cases kq with
                    | zero => exact absurd HA.out (by simp [garrisonlaw06_OrderAll.j1])
                    | succ kj18 =>
                      have H := HA.out
                      clear HA
                      simp only [garrisonlaw06_OrderAll.j1] at H
                      by_cases c44 : x74_18 = true
                      · subst c44
                        have H1 : (some false) = some r := by rw [if_pos rfl] at H; exact H
                        clear H
                        have H := H1
                        clear H1
                        exact absurd ((Option.some.inj H).trans hr_.out) (by decide)
                      · replace c44 := Bool.eq_false_iff.mpr c44
                        subst c44
                        have H1 : (garrisonlaw06_OrderAll.l0 kj18 l0 t247 0) = some r := by rw [if_neg (show ¬ (false = true) by decide)] at H; exact H
                        clear H
                        have H := H1
                        clear H1
                        have H' := Aside0.mk H
                        clear H
                        go_wp2
                        go_loopg [10] kj18 (fun kq v10 w' => ∃ (x10_3 : Int), v10 = .int .i64 x10_3 ∧ Aside0 (garrisonlaw06_OrderAll.l0 kq l0 t247 x10_3 = some r) ∧ Aside0 (kq ≤ kj18) ∧ Aside0 (Kd.R k23 23 w' w.heap.size (fun _ => True) v249 t247) ∧ Aside0 (Below w.heap.size w w'))
                        case atStart => exact ⟨(0), (by first | rfl | (simp; done) | (simp [*]; done)), H', ⟨Nat.le_refl _⟩, ⟨by (with_reducible repeat (first | apply Kd.R_alloc | apply Kd.R_drewN | apply Kd.R_drew)); exact HO_5.out⟩, ⟨by repeat (first | (with_reducible first | exact HB.out | apply below_alloc | apply pw_below_drewN | apply below_drew1) | exact HB.out)⟩⟩
                        case round =>
                          clear H'
                          try clear c1
                          try clear c2
                          try clear p2
                          try clear q2
                          try clear c3
                          try clear c4
                          try clear c4b0
                          try clear c4b1
                          try clear c5
                          try clear c5b0
                          try clear c6
                          try clear c7
                          try clear c11
                          try clear c11b0
                          try clear c11b1
                          try clear c12
                          try clear c12b0
                          try clear c12b1
                          try clear c13
                          try clear c13b0
                          try clear c13b1
                          try clear c14
                          try clear c15
                          try clear c15b0
                          try clear c16
                          try clear c16b0
                          try clear c17
                          try clear c19
                          try clear c20
                          try clear c22
                          try clear q22
                          try clear q23
                          try clear c31
                          try clear c31b0
                          try clear c31b1
                          try clear c33
                          try clear c35
                          try clear c44
                          try clear p2
                          try clear q022
                          try clear q2
                          try clear q22
                          try clear q23
                          obtain ⟨x10_3, rfl, HA, HK3, HO_5, HB⟩ := hrel
                          cases gk with
                          | zero => exact absurd HA.out (by simp [garrisonlaw06_OrderAll.l0])
                          | succ k3 =>
                            have H := HA.out
                            clear HA
                            simp only [garrisonlaw06_OrderAll.l0] at H
                            by_cases c45 : x10_3 < (l0.length : Int)
                            · rw [if_pos c45] at H
                              have c45b0 : decide (x10_3 < (l0.length : Int)) = true := decide_eq_true c45
                              clear c45
                              by_cases c46 : 0 ≤ x10_3
                              · rw [if_pos c46] at H
                                have c46b0 : decide (0 ≤ x10_3) = true := decide_eq_true c46
                                clear c46
                                replace H := Option.bind_eq_some_iff.mp H
                                obtain ⟨t278, A470, H⟩ := H
                                replace H : (if t278 = true then (garrisonlaw06_OrderAll.l0 k3 l0 t247 (wrap64 (x10_3 + 1))) else (some false)) = some r := H
                                have A47 := Aside0.mk A470
                                clear A470
                                by_cases c48 : t278 = true
                                · subst c48
                                  have H1 : (garrisonlaw06_OrderAll.l0 k3 l0 t247 (wrap64 (x10_3 + 1))) = some r := by rw [if_pos rfl] at H; exact H
                                  clear H
                                  have H := H1
                                  clear H1
                                  have H' := Aside0.mk H
                                  clear H
                                  have p277 : 0 ≤ (x10_3 : Int) := of_decide_eq_true (by first | (with_reducible assumption) | assumption)
                                  have q277 : x10_3 < (l0.length : Int) := of_decide_eq_true (by first | (with_reducible assumption) | assumption)
                                  obtain ⟨ad277, e277, hx277_0, hx277_1⟩ := at_T23 HR0.out x10_3 p277 q277
                                  cases e277
                                  replace hx277_0 := (HB.out.cell (World.block_lt_of_cell? w _ hx277_0)).trans hx277_0
                                  replace hx277_1 := (HB.out.cell (World.block_lt_of_cell? w _ hx277_1)).trans hx277_1
                                  replace p277 := eq_true p277
                                  replace q277 := eq_true q277
                                  obtain ⟨Ao49, co49, eo49⟩ := Kd.R_slice HO_5.out
                                  subst eo49
                                  go_wp2_with (first | ((with_reducible refine gate_callee (f := 25) rfl ?_); refine goesL_ (some 86) rfl rfl Try.func25 (by kernel_rfl) rfl #[.slice Ao49 t247.length co49, .agg #[.int .i64 ((rd_T23 l0 x10_3).f0), .int .i64 ((rd_T23 l0 x10_3).f1)]] rfl (by (try simp only [List.map_toArray, List.map_cons, List.map_nil]); first | done | rfl | (simp only [List.length_drop, List.length_take]; rfl)) ?_; (with_reducible refine (order_Has.calls k3 _ _ t247 ((rd_T23 l0 x10_3).f0) ((rd_T23 l0 x10_3).f1) true _ ?side1 ?side2 A47.out).mono ?_); (case side1 => repeat (first | exact (Kd.R_reads' HO_5.out).2.2 | (with_reducible refine Kd.C_alloc ?_ _) | (with_reducible refine Kd.C_drewN ?_ _) | (with_reducible refine Kd.C_drew ?_))); (case side2 => exact (Kd.R_reads' HO_5.out).2.1); rintro e w50 ⟨rfl, hb⟩; refine ⟨_, rfl, ?_⟩; have n0_ := Aside0.mk (Kd.R_below (by (with_reducible repeat (first | apply Kd.R_alloc | apply Kd.R_drewN | apply Kd.R_drew)); exact HO_5.out) hb); have n1_ := Aside0.mk (below_step (by repeat (first | (with_reducible first | exact HB.out | apply below_alloc | apply pw_below_drewN | apply below_drew1) | exact HB.out)) hb); clear HO_5; clear HB; have HO_5 := n0_; have HB := n1_; clear n0_ n1_; (try clear hb); (try clear hb2); (try clear hk); (try clear hi)))
                                  go_roundg k3
                                  case measure => have := HJ2.out; have := HJ18.out; have := HK3.out; omega
                                  case rel => exact ⟨(wrap64 (x10_3 + 1)), (by first | rfl | (simp; done) | (simp [*]; done)), H', ⟨by have := HJ2.out; have := HJ18.out; have := HK3.out; omega⟩, ⟨by (with_reducible repeat (first | apply Kd.R_alloc | apply Kd.R_drewN | apply Kd.R_drew)); exact HO_5.out⟩, ⟨by repeat (first | (with_reducible first | exact HB.out | apply below_alloc | apply pw_below_drewN | apply below_drew1) | exact HB.out)⟩⟩
                                · replace c48 := Bool.eq_false_iff.mpr c48
                                  subst c48
                                  have H1 : (some false) = some r := by rw [if_neg (show ¬ (false = true) by decide)] at H; exact H
                                  clear H
                                  have H := H1
                                  clear H1
                                  exact absurd ((Option.some.inj H).trans hr_.out) (by decide)
                              · rw [if_neg c46] at H
                                exact absurd H (by simp)
                            · rw [if_neg c45] at H
                              have c45b0 : decide (x10_3 < (l0.length : Int)) = false := decide_eq_false c45
                              clear c45
                              have H' := Aside0.mk H
                              clear H
                              go_wp2
                              go_loopg [11] k3 (fun kq v11 w' => ∃ (x11_4 : Int), v11 = .int .i64 x11_4 ∧ Aside0 (garrisonlaw06_OrderAll.l1 kq l0 t247 x11_4 = some r) ∧ Aside0 (kq ≤ k3) ∧ Aside0 (Kd.R k23 23 w' w.heap.size (fun _ => True) v249 t247) ∧ Aside0 (Below w.heap.size w w'))
                              case atStart => exact ⟨(0), (by first | rfl | (simp; done) | (simp [*]; done)), H', ⟨Nat.le_refl _⟩, ⟨by (with_reducible repeat (first | apply Kd.R_alloc | apply Kd.R_drewN | apply Kd.R_drew)); exact HO_5.out⟩, ⟨by repeat (first | (with_reducible first | exact HB.out | apply below_alloc | apply pw_below_drewN | apply below_drew1) | exact HB.out)⟩⟩
                              case round =>
                                clear H'
                                try clear c1
                                try clear c2
                                try clear p2
                                try clear q2
                                try clear hx2
                                try clear c3
                                try clear c4
                                try clear c4b0
                                try clear c4b1
                                try clear c5
                                try clear c5b0
                                try clear c6
                                try clear p6
                                try clear c7
                                try clear c11
                                try clear c11b0
                                try clear c11b1
                                try clear c12
                                try clear c12b0
                                try clear c12b1
                                try clear c13
                                try clear c13b0
                                try clear c13b1
                                try clear c14
                                try clear c15
                                try clear c15b0
                                try clear c16
                                try clear c16b0
                                try clear c17
                                try clear c19
                                try clear c20
                                try clear c22
                                try clear q22
                                try clear q23
                                try clear c25
                                try clear p27
                                try clear q27
                                try clear hx27
                                try clear c31
                                try clear c31b0
                                try clear c31b1
                                try clear c33
                                try clear c35
                                try clear c44
                                try clear c45
                                try clear c45b0
                                try clear c46
                                try clear c46b0
                                try clear c48
                                try clear hx277_0
                                try clear hx277_1
                                try clear p2
                                try clear p277
                                try clear q022
                                try clear q2
                                try clear q22
                                try clear q23
                                try clear q277
                                obtain ⟨x11_4, rfl, HA, HK4, HO_5, HB⟩ := hrel
                                cases gk with
                                | zero => exact absurd HA.out (by simp [garrisonlaw06_OrderAll.l1])
                                | succ k4 =>
                                  have H := HA.out
                                  clear HA
                                  simp only [garrisonlaw06_OrderAll.l1] at H
                                  by_cases c51 : x11_4 < (t247.length : Int)
                                  · rw [if_pos c51] at H
                                    have c51b0 : decide (x11_4 < (t247.length : Int)) = true := decide_eq_true c51
                                    clear c51
                                    by_cases c52 : 0 ≤ x11_4
                                    · rw [if_pos c52] at H
                                      have c52b0 : decide (0 ≤ x11_4) = true := decide_eq_true c52
                                      clear c52
                                      replace H := Option.bind_eq_some_iff.mp H
                                      obtain ⟨t280, A530, H⟩ := H
                                      replace H : (if t280 = true then (garrisonlaw06_OrderAll.l1 k4 l0 t247 (wrap64 (x11_4 + 1))) else (some false)) = some r := H
                                      have A53 := Aside0.mk A530
                                      clear A530
                                      by_cases c54 : t280 = true
                                      · subst c54
                                        have H1 : (garrisonlaw06_OrderAll.l1 k4 l0 t247 (wrap64 (x11_4 + 1))) = some r := by rw [if_pos rfl] at H; exact H
                                        clear H
                                        have H := H1
                                        clear H1
                                        have H' := Aside0.mk H
                                        clear H
                                        obtain ⟨Ao55, co55, eo55⟩ := Kd.R_slice HO_5.out
                                        subst eo55
                                        have p279 : 0 ≤ (x11_4 : Int) := of_decide_eq_true (by first | (with_reducible assumption) | assumption)
                                        have q279 : x11_4 < (t247.length : Int) := of_decide_eq_true (by first | (with_reducible assumption) | assumption)
                                        (try (obtain ⟨Aoz_, coz_, eoz_⟩ := Kd.R_slice HO_5.out; subst eoz_))
                                        obtain ⟨ad279, e279, hx279_0, hx279_1⟩ := at_T23 (Kd.R_reads' HO_5.out).2.2 x11_4 p279 q279
                                        cases e279
                                        replace p279 := eq_true p279
                                        replace q279 := eq_true q279
                                        go_wp2_with (first | ((with_reducible refine gate_callee (f := 26) rfl ?_); refine goesL_ (some 99) rfl rfl Try.func26 (by kernel_rfl) rfl #[.slice A0 l0.length c0, .agg #[.int .i64 ((rd_T23 t247 x11_4).f0), .int .i64 ((rd_T23 t247 x11_4).f1)]] rfl (by (try simp only [List.map_toArray, List.map_cons, List.map_nil]); first | done | rfl | (simp only [List.length_drop, List.length_take]; rfl)) ?_; (with_reducible refine (garrisonref06_Has.calls k4 _ _ l0 ((rd_T23 t247 x11_4).f0) ((rd_T23 t247 x11_4).f1) true _ ?side1 ?side2 A53.out).mono ?_); (case side1 => repeat (first | exact (Kd.C_below HR0.out HB.out) | (with_reducible refine Kd.C_alloc ?_ _) | (with_reducible refine Kd.C_drewN ?_ _) | (with_reducible refine Kd.C_drew ?_))); (case side2 => exact HC0.out); rintro e w56 ⟨rfl, hb⟩; refine ⟨_, rfl, ?_⟩; have n0_ := Aside0.mk (Kd.R_below (by (with_reducible repeat (first | apply Kd.R_alloc | apply Kd.R_drewN | apply Kd.R_drew)); exact HO_5.out) hb); have n1_ := Aside0.mk (below_step (by repeat (first | (with_reducible first | exact HB.out | apply below_alloc | apply pw_below_drewN | apply below_drew1) | exact HB.out)) hb); clear HO_5; clear HB; have HO_5 := n0_; have HB := n1_; clear n0_ n1_; (try clear hb); (try clear hb2); (try clear hk); (try clear hi)))
                                        go_roundg k4
                                        case measure => have := HJ2.out; have := HJ18.out; have := HK3.out; have := HK4.out; omega
                                        case rel => exact ⟨(wrap64 (x11_4 + 1)), (by first | rfl | (simp; done) | (simp [*]; done)), H', ⟨by have := HJ2.out; have := HJ18.out; have := HK3.out; have := HK4.out; omega⟩, ⟨by (with_reducible repeat (first | apply Kd.R_alloc | apply Kd.R_drewN | apply Kd.R_drew)); exact HO_5.out⟩, ⟨by repeat (first | (with_reducible first | exact HB.out | apply below_alloc | apply pw_below_drewN | apply below_drew1) | exact HB.out)⟩⟩
                                      · replace c54 := Bool.eq_false_iff.mpr c54
                                        subst c54
                                        have H1 : (some false) = some r := by rw [if_neg (show ¬ (false = true) by decide)] at H; exact H
                                        clear H
                                        have H := H1
                                        clear H1
                                        exact absurd ((Option.some.inj H).trans hr_.out) (by decide)
                                    · rw [if_neg c52] at H
                                      exact absurd H (by simp)
                                  · rw [if_neg c51] at H
                                    have c51b0 : decide (x11_4 < (t247.length : Int)) = false := decide_eq_false c51
                                    clear c51
                                    replace H := Option.bind_eq_some_iff.mp H
                                    obtain ⟨t281, A570, H⟩ := H
                                    replace H : (some t281) = some r := H
                                    have A57 := Aside0.mk A570
                                    clear A570
                                    obtain rfl := Option.some.inj H
                                    obtain ⟨Ao58, co58, eo58⟩ := Kd.R_slice HO_5.out
                                    subst eo58
                                    go_wp2_with (first | ((with_reducible refine gate_callee (f := 19) rfl ?_); refine goesL_ (some 101) rfl rfl Try.func19 (by kernel_rfl) rfl #[] rfl (by (try simp only [List.map_toArray, List.map_cons, List.map_nil]); first | done | rfl | (simp only [List.length_drop, List.length_take]; rfl)) ?_; (with_reducible refine (garrisonlaw06_live.calls  t281 _ A57.out).mono ?_); rintro e w59 ⟨rfl, hb⟩; refine ⟨_, rfl, ?_⟩; have n0_ := Aside0.mk (Kd.R_below (by (with_reducible repeat (first | apply Kd.R_alloc | apply Kd.R_drewN | apply Kd.R_drew)); exact HO_5.out) hb); have n1_ := Aside0.mk (below_step (by repeat (first | (with_reducible first | exact HB.out | apply below_alloc | apply pw_below_drewN | apply below_drew1) | exact HB.out)) hb); clear HO_5; clear HB; have HO_5 := n0_; have HB := n1_; clear n0_ n1_; (try clear hb); (try clear hb2); (try clear hk); (try clear hi)))
                                    go_ret
                                    exact ⟨by first | rfl | (simp [errW_none, errW_some] <;> rfl) | (simp [*, errW_none, errW_some] <;> rfl), by repeat (first | (with_reducible first | exact HB.out | apply below_alloc | apply pw_below_drewN | apply below_drew1) | exact HB.out)⟩
                · rw [if_neg c17] at H
                  exact absurd H (by simp)
              · rw [if_neg c14] at H
                exact absurd H (by simp)
            · rw [if_neg c13] at H
              exact absurd H (by simp)
          · rw [if_neg c12] at H
            exact absurd H (by simp)
        · rw [if_neg c11] at H
          have c11b0 : (t251 == 0) = false := beq_eq_false_iff_ne.mpr c11
          have c11b1 : (t251 != 0) = true := bne_iff_ne.mpr c11
          by_cases c60 : (t247.length : Int) = 0
          · rw [if_pos c60] at H
            have c60b0 : ((t247.length : Int) == 0) = true := beq_iff_eq.mpr c60
            have c60b1 : ((t247.length : Int) != 0) = false := bne_eq_false_iff_eq.mpr c60
            clear c60
            replace H := Option.bind_eq_some_iff.mp H
            obtain ⟨t252, A610, H⟩ := H
            replace H : (some t252) = some r := H
            have A61 := Aside0.mk A610
            clear A610
            obtain rfl := Option.some.inj H
            go_wp2_with (first | ((with_reducible refine gate_callee (f := 20) rfl ?_); refine goesL_ (some 28) rfl rfl Try.func20 (by kernel_rfl) rfl #[.slice A0 l0.length c0] rfl (by (try simp only [List.map_toArray, List.map_cons, List.map_nil]); first | done | rfl | (simp only [List.length_drop, List.length_take]; rfl)) ?_; (with_reducible refine (order_Sort.calls _ _ l0 t247 t248 _ ?side1 ?side2 A9.out).mono ?_); (case side1 => repeat (first | exact (Kd.C_below HR0.out HB.out) | (with_reducible refine Kd.C_alloc ?_ _) | (with_reducible refine Kd.C_drewN ?_ _) | (with_reducible refine Kd.C_drew ?_))); (case side2 => exact HC0.out); rintro e w62 ⟨v249, rfl, ho0, hb⟩; refine ⟨_, rfl, ?_⟩; have n0_ := Aside0.mk (Kd.R_lower ho0 (below_size (by repeat (first | (with_reducible first | exact HB.out | apply below_alloc | apply pw_below_drewN | apply below_drew1) | exact HB.out)))); have n1_ := Aside0.mk (below_step (by repeat (first | (with_reducible first | exact HB.out | apply below_alloc | apply pw_below_drewN | apply below_drew1) | exact HB.out)) hb); clear HB; have HO250 := n0_; have HB := n1_; clear n0_ n1_; (try clear hb); (try clear hb2); (try clear hk); (try clear hi); (try clear ho0)) | ((with_reducible refine gate_callee (f := 12) rfl ?_); refine goesL_ (some 32) rfl rfl Try.func12 (by kernel_rfl) rfl #[.int .i64 t248] rfl (by (try simp only [List.map_toArray, List.map_cons, List.map_nil]); first | done | rfl | (simp only [List.length_drop, List.length_take]; rfl)) ?_; (with_reducible refine (garrisonlaw06_num.calls t248 t251 _ A10.out).mono ?_); rintro e w' ⟨rfl, ⟨nd, rfl⟩⟩; refine ⟨_, rfl, ?_⟩; obtain ⟨Ao63, co63, eo63⟩ := Kd.R_slice HO250.out; subst eo63) | (go_at_call 19; (with_reducible refine (garrisonlaw06_live.calls  t252 _ A61.out).mono ?_); rintro e w64 ⟨rfl, hb⟩; have n0_ := Aside0.mk (Kd.R_below (by (with_reducible repeat (first | apply Kd.R_alloc | apply Kd.R_drewN | apply Kd.R_drew)); exact HO250.out) hb); have n1_ := Aside0.mk (below_step (by repeat (first | (with_reducible first | exact HB.out | apply below_alloc | apply pw_below_drewN | apply below_drew1) | exact HB.out)) hb); clear HO250; clear HB; have HO250 := n0_; have HB := n1_; clear n0_ n1_; (try clear hb); (try clear hb2); (try clear hk); (try clear hi)))
            go_ret
            exact ⟨by first | rfl | (simp [errW_none, errW_some] <;> rfl) | (simp [*, errW_none, errW_some] <;> rfl), by repeat (first | (with_reducible first | exact HB.out | apply below_alloc | apply pw_below_drewN | apply below_drew1) | exact HB.out)⟩
          · rw [if_neg c60] at H
            have c60b0 : ((t247.length : Int) == 0) = false := beq_eq_false_iff_ne.mpr c60
            have c60b1 : ((t247.length : Int) != 0) = true := bne_iff_ne.mpr c60
            have c60b2 : ¬ (t247 = []) := fun h_ => c60 (by rw [h_]; rfl)
            exact absurd ((Option.some.inj H).trans hr_.out) (by decide)

def garrisonlaw06_OrderAll.Pure : Prop := ∀ (l0 : List (S23)) (a1 : Int), l0.length ≤ maxLen → (∀ x_ : S23, x_ ∈ l0 → ((Lit.int .i64 x_.f0).wf = true ∧ (Lit.int .i64 x_.f1).wf = true)) → (Lit.int .i64 a1).wf = true → ∃ k, garrisonlaw06_OrderAll.f k l0 a1 = some true
theorem garrisonlaw06_OrderAll.walk : True := trivial

end Go.Proofs.Ytcjipaemlipfgaa.P
