/- garrisonref06.Sort, .Merge at this program: what the calls answer. -/
import Derived.Test.YtcjipaemlipfgaaGIns
import Derived.Test.YtcjipaemlipfgaaPx1
import Derived.Test.YtcjipaemlipfgaaPx3
namespace Go.Proofs.Ytcjipaemlipfgaa.Given
open Go Go.RowKit Go.Proofs Go.Proofs.YtcjipaemlipfgaaW.PrintWords Go.Proofs.YtcjipaemlipfgaaW.PrintLast Go.Proofs.YtcjipaemlipfgaaW.PrintMore Go.Proofs.Ytcjipaemlipfgaa.P Go.Proofs.Ytcjipaemlipfgaa.Ord
attribute [local go_sem] max2_int min2_int max_two min_two max_three min_three max_four min_four u64_signed
attribute [local go_sem high] eqA23
set_option linter.unusedVariables false
set_option linter.unusedSimpArgs false

def garrisonref06_SortP.l0 : Nat → List (S23) → List (S23) → Int → Option ((List (S23)) × Int)
 | 0, _, _, _ => none
 | k + 1, x0, x4, x5 => if x5 < (x0.length : Int) then (if 0 ≤ x5 then ((garrisonref06_Is.f ((rd_T23 x0 x5).f0) ((rd_T23 x0 x5).f1)).bind fun t103 => (if t103 = true then ((insK_.f x4 ((rd_T23 x0 x5).f0) ((rd_T23 x0 x5).f1)).bind fun t105 => (garrisonref06_SortP.l0 k x0 t105 (wrap64 (x5 + 1)))) else (some (([] : List (S23)), 2)))) else (none)) else (some (x4, 0))
def garrisonref06_SortP.f (k : Nat) (l0 : List (S23)) : Option ((List (S23)) × Int) := garrisonref06_SortP.l0 k l0 ([] : List (S23)) 0
set_option maxHeartbeats 8000000 in
set_option maxRecDepth 100000 in
theorem garrisonref06_SortP.calls (k : Nat) (A0 : Option Addr) (c0 : Nat) (l0 : List (S23)) (r1 : List (S23)) (r2 : Int) (w : World) (hr0 : Kd.C k23 w A0 l0.length l0) (hc0 : l0.length ≤ c0) (h : garrisonref06_SortP.f k l0 = some (r1, r2)) :
  Calls Try.prog 21 #[.slice A0 l0.length c0] w fun e w' => ∃ v0_ : Value, e = .returned (.tuple #[v0_, .int .i64 r2]) ∧ Kd.R k23 23 w' w.heap.size (fun _ => True) v0_ r1 ∧ Below w.heap.size w w' := by
 have hu23 := Try.underlying23
 have HR0 := Aside0.mk hr0
 have HC0 := Aside0.mk hc0
 clear hr0 hc0
 have HB := Aside0.mk (Below.refl w.heap.size w)
 have H : (garrisonref06_SortP.l0 k l0 ([] : List (S23)) 0) = some (r1, r2) := h
 clear h
 have H' := Aside0.mk H
 clear H
 go_enter Try.func21, Try.ntmps21
 go_wp2
 go_loopg [4, 5] k (fun kq v4 v5 w' => ∃ (x4_1 : List (S23)) (x5_1 : Int), v5 = .int .i64 x5_1 ∧ Aside0 (garrisonref06_SortP.l0 kq l0 x4_1 x5_1 = some (r1, r2)) ∧ Aside0 (kq ≤ k) ∧ Aside0 (Kd.R k23 23 w' w.heap.size (fun _ => True) v4 x4_1) ∧ Aside0 (Below w.heap.size w w'))
 case atStart => exact ⟨(([] : List (S23))), (0), (by first | rfl | (simp; done) | (simp [*]; done)), H', ⟨Nat.le_refl _⟩, ⟨by first | exact Kd.R_nil _ _ _ _ _ | exact Kd.N_nil _ _ _ _ _ | exact Kd.V_nil _ _ _ _ _ | exact Kd.Q_nil _ _ _ _ _ | exact Kd.S_nil _ _ _ _ _⟩, ⟨by repeat (first | (with_reducible first | exact HB.out | apply below_alloc | apply pw_below_drewN | apply below_drew1) | exact HB.out)⟩⟩
 case round =>
  clear H'
  obtain ⟨x4_1, x5_1, rfl, HA, HK1, HO_4, HB⟩ := hrel
  cases gk with
  | zero => exact absurd HA.out (by simp [garrisonref06_SortP.l0])
  | succ k1 =>
   have H := HA.out
   clear HA
   simp only [garrisonref06_SortP.l0] at H
   by_cases c2 : x5_1 < (l0.length : Int)
   ·rw [if_pos c2] at H
    have c2b0 : decide (x5_1 < (l0.length : Int)) = true := decide_eq_true c2
    clear c2
    by_cases c3 : 0 ≤ x5_1
    ·rw [if_pos c3] at H
     have c3b0 : decide (0 ≤ x5_1) = true := decide_eq_true c3
     clear c3
     replace H := Option.bind_eq_some_iff.mp H
     obtain ⟨t103, A40, H⟩ := H
     replace H : (if t103 = true then ((insK_.f x4_1 ((rd_T23 l0 x5_1).f0) ((rd_T23 l0 x5_1).f1)).bind fun t105 => (garrisonref06_SortP.l0 k1 l0 t105 (wrap64 (x5_1 + 1)))) else (some (([] : List (S23)), 2))) = some (r1, r2) := H
     have A4 := Aside0.mk A40
     clear A40
     by_cases c5 : t103 = true
     ·subst c5
      have H1 : ((insK_.f x4_1 ((rd_T23 l0 x5_1).f0) ((rd_T23 l0 x5_1).f1)).bind fun t105 => (garrisonref06_SortP.l0 k1 l0 t105 (wrap64 (x5_1 + 1)))) = some (r1, r2) := by rw [if_pos rfl] at H; exact H
      clear H
      have H := H1
      clear H1
      replace H := Option.bind_eq_some_iff.mp H
      obtain ⟨t105, A60, H⟩ := H
      replace H : (garrisonref06_SortP.l0 k1 l0 t105 (wrap64 (x5_1 + 1))) = some (r1, r2) := H
      have A6 := Aside0.mk A60
      clear A60
      have H' := Aside0.mk H
      clear H
      have p102 : 0 ≤ (x5_1 : Int) := of_decide_eq_true (by first | (with_reducible assumption) | assumption)
      have q102 : x5_1 < (l0.length : Int) := of_decide_eq_true (by first | (with_reducible assumption) | assumption)
      obtain ⟨ad102, e102, hx102_0, hx102_1⟩ := at_T23 HR0.out x5_1 p102 q102
      cases e102
      replace hx102_0 := (HB.out.cell (World.block_lt_of_cell? w _ hx102_0)).trans hx102_0
      replace hx102_1 := (HB.out.cell (World.block_lt_of_cell? w _ hx102_1)).trans hx102_1
      replace p102 := eq_true p102
      replace q102 := eq_true q102
      go_wp2_with (first | ((with_reducible refine gate_callee (f := 14) rfl ?_); refine goesL_ (some 16) rfl rfl Try.func14 (by kernel_rfl) rfl #[.agg #[.int .i64 ((rd_T23 l0 x5_1).f0), .int .i64 ((rd_T23 l0 x5_1).f1)]] rfl (by (try simp only [List.map_toArray, List.map_cons, List.map_nil]); first | done | rfl | (simp only [List.length_drop, List.length_take]; rfl)) ?_; (with_reducible refine (garrisonref06_Is.calls ((rd_T23 l0 x5_1).f0) ((rd_T23 l0 x5_1).f1) true _ A4.out).mono ?_); rintro e w7 ⟨rfl, hb⟩; refine ⟨_, rfl, ?_⟩; have n0_ := Aside0.mk (Kd.R_below (by (with_reducible repeat (first | apply Kd.R_alloc | apply Kd.R_drewN | apply Kd.R_drew)); exact HO_4.out) hb); have n1_ := Aside0.mk (below_step (by repeat (first | (with_reducible first | exact HB.out | apply below_alloc | apply pw_below_drewN | apply below_drew1) | exact HB.out)) hb); clear HO_4; clear HB; have HO_4 := n0_; have HB := n1_; clear n0_ n1_; (try clear hb); (try clear hb2); (try clear hk); (try clear hi); have p104 : 0 ≤ (x5_1 : Int) := of_decide_eq_true (by first | (with_reducible assumption) | assumption); have q104 : x5_1 < (l0.length : Int) := of_decide_eq_true (by first | (with_reducible assumption) | assumption); obtain ⟨ad104, e104, hx104_0, hx104_1⟩ := at_T23 HR0.out x5_1 p104 q104; obtain rfl : ad102 = ad104 := (by injection e104); replace hx104_0 := (HB.out.cell (World.block_lt_of_cell? w _ hx104_0)).trans hx104_0; replace hx104_1 := (HB.out.cell (World.block_lt_of_cell? w _ hx104_1)).trans hx104_1; replace p104 := eq_true p104; replace q104 := eq_true q104; obtain ⟨Ao8, co8, eo8⟩ := Kd.R_slice HO_4.out; subst eo8) | ((with_reducible refine gate_callee (f := 35) rfl ?_); refine goesL_ (some 23) rfl rfl Try.func35 (by kernel_rfl) rfl #[.slice Ao8 x4_1.length co8, .agg #[.int .i64 ((rd_T23 l0 x5_1).f0), .int .i64 ((rd_T23 l0 x5_1).f1)]] rfl (by (try simp only [List.map_toArray, List.map_cons, List.map_nil]); first | done | rfl | (simp only [List.length_drop, List.length_take]; rfl)) ?_; (with_reducible refine (ins_own (base := w.heap.size) _ _ x4_1 ((rd_T23 l0 x5_1).f0) ((rd_T23 l0 x5_1).f1) t105 _ ?side1 ?side2 A6.out).mono ?_); (case side1 => (with_reducible repeat (first | apply Kd.R_alloc | apply Kd.R_drewN | apply Kd.R_drew)); exact HO_4.out); (case side2 => exact (below_size (by repeat (first | (with_reducible first | exact HB.out | apply below_alloc | apply pw_below_drewN | apply below_drew1) | exact HB.out)))); rintro e w9 ⟨v106, rfl, ho0, hb⟩; refine ⟨_, rfl, ?_⟩; have n0_ := Aside0.mk trivial; have n1_ := Aside0.mk ho0; have n2_ := Aside0.mk (below_step (by repeat (first | (with_reducible first | exact HB.out | apply below_alloc | apply pw_below_drewN | apply below_drew1) | exact HB.out)) hb); clear HO_4; clear HB; have HO_4 := n0_; have HO107 := n1_; have HB := n2_; clear n0_ n1_ n2_; (try clear hb); (try clear hb2); (try clear hk); (try clear hi); (try clear ho0)))
      go_roundg k1
      case measure => have := HK1.out; omega
      case rel => exact ⟨(t105), (wrap64 (x5_1 + 1)), (by first | rfl | (simp; done) | (simp [*]; done)), H', ⟨by have := HK1.out; omega⟩, ⟨by (with_reducible repeat (first | apply Kd.R_alloc | apply Kd.R_drewN | apply Kd.R_drew)); exact Kd.R_mono HO107.out (fun _ hk => trivial)⟩, ⟨by repeat (first | (with_reducible first | exact HB.out | apply below_alloc | apply pw_below_drewN | apply below_drew1) | exact HB.out)⟩⟩
     ·replace c5 := Bool.eq_false_iff.mpr c5
      subst c5
      have H1 : (some (([] : List (S23)), 2)) = some (r1, r2) := by rw [if_neg (show ¬ (false = true) by decide)] at H; exact H
      clear H
      have H := H1
      clear H1
      simp only [Option.some.injEq, Prod.mk.injEq] at H
      obtain ⟨rfl, rfl⟩ := H
      have p102 : 0 ≤ (x5_1 : Int) := of_decide_eq_true (by first | (with_reducible assumption) | assumption)
      have q102 : x5_1 < (l0.length : Int) := of_decide_eq_true (by first | (with_reducible assumption) | assumption)
      obtain ⟨ad102, e102, hx102_0, hx102_1⟩ := at_T23 HR0.out x5_1 p102 q102
      cases e102
      replace hx102_0 := (HB.out.cell (World.block_lt_of_cell? w _ hx102_0)).trans hx102_0
      replace hx102_1 := (HB.out.cell (World.block_lt_of_cell? w _ hx102_1)).trans hx102_1
      replace p102 := eq_true p102
      replace q102 := eq_true q102
      go_wp2_with (first | ((with_reducible refine gate_callee (f := 14) rfl ?_); refine goesL_ (some 16) rfl rfl Try.func14 (by kernel_rfl) rfl #[.agg #[.int .i64 ((rd_T23 l0 x5_1).f0), .int .i64 ((rd_T23 l0 x5_1).f1)]] rfl (by (try simp only [List.map_toArray, List.map_cons, List.map_nil]); first | done | rfl | (simp only [List.length_drop, List.length_take]; rfl)) ?_; (with_reducible refine (garrisonref06_Is.calls ((rd_T23 l0 x5_1).f0) ((rd_T23 l0 x5_1).f1) false _ A4.out).mono ?_); rintro e w10 ⟨rfl, hb⟩; refine ⟨_, rfl, ?_⟩; have n0_ := Aside0.mk (Kd.R_below (by (with_reducible repeat (first | apply Kd.R_alloc | apply Kd.R_drewN | apply Kd.R_drew)); exact HO_4.out) hb); have n1_ := Aside0.mk (below_step (by repeat (first | (with_reducible first | exact HB.out | apply below_alloc | apply pw_below_drewN | apply below_drew1) | exact HB.out)) hb); clear HO_4; clear HB; have HO_4 := n0_; have HB := n1_; clear n0_ n1_; (try clear hb); (try clear hb2); (try clear hk); (try clear hi)))
      go_ret2
      exact ⟨_, by first | rfl | (simp [errW_none, errW_some] <;> rfl) | (simp [*, errW_none, errW_some] <;> rfl), by first | exact Kd.R_nil _ _ _ _ _ | exact Kd.N_nil _ _ _ _ _ | exact Kd.V_nil _ _ _ _ _ | exact Kd.Q_nil _ _ _ _ _ | exact Kd.S_nil _ _ _ _ _, by repeat (first | (with_reducible first | exact HB.out | apply below_alloc | apply pw_below_drewN | apply below_drew1) | exact HB.out)⟩
    ·rw [if_neg c3] at H
     exact absurd H (by simp)
   ·rw [if_neg c2] at H
    have c2b0 : decide (x5_1 < (l0.length : Int)) = false := decide_eq_false c2
    clear c2
    simp only [Option.some.injEq, Prod.mk.injEq] at H
    obtain ⟨rfl, rfl⟩ := H
    go_wp2
    go_ret2
    exact ⟨_, by first | rfl | (simp [errW_none, errW_some] <;> rfl) | (simp [*, errW_none, errW_some] <;> rfl), by (with_reducible repeat (first | apply Kd.R_alloc | apply Kd.R_drewN | apply Kd.R_drew)); exact HO_4.out, by repeat (first | (with_reducible first | exact HB.out | apply below_alloc | apply pw_below_drewN | apply below_drew1) | exact HB.out)⟩
mutual
def garrisonref06_MergeP.l0 : Nat → List (S23) → List (S23) → List (S23) → Int → Option ((List (S23)))
 | 0, _, _, _, _ => none
 | k + 1, x0, x1, x5, x6 => if x6 < (x0.length : Int) then (if 0 ≤ x6 then ((insK_.f x5 ((rd_T23 x0 x6).f0) ((rd_T23 x0 x6).f1)).bind fun t109 => (garrisonref06_MergeP.l0 k x0 x1 t109 (wrap64 (x6 + 1)))) else (none)) else (garrisonref06_MergeP.l1 k x1 x5 0)
def garrisonref06_MergeP.l1 : Nat → List (S23) → List (S23) → Int → Option ((List (S23)))
 | 0, _, _, _ => none
 | k + 1, x1, x5, x7 => if x7 < (x1.length : Int) then (if 0 ≤ x7 then ((insK_.f x5 ((rd_T23 x1 x7).f0) ((rd_T23 x1 x7).f1)).bind fun t113 => (garrisonref06_MergeP.l1 k x1 t113 (wrap64 (x7 + 1)))) else (none)) else (some x5)
end
def garrisonref06_MergeP.f (k : Nat) (l0 : List (S23)) (l1 : List (S23)) : Option ((List (S23))) := garrisonref06_MergeP.l0 k l0 l1 ([] : List (S23)) 0
set_option maxHeartbeats 8000000 in
set_option maxRecDepth 100000 in
theorem garrisonref06_MergeP.calls (k : Nat) (A0 : Option Addr) (c0 : Nat) (l0 : List (S23)) (A1 : Option Addr) (c1 : Nat) (l1 : List (S23)) (r : List (S23)) (w : World) (hr0 : Kd.C k23 w A0 l0.length l0) (hc0 : l0.length ≤ c0) (hr1 : Kd.C k23 w A1 l1.length l1) (hc1 : l1.length ≤ c1) (h : garrisonref06_MergeP.f k l0 l1 = some r) :
  Calls Try.prog 28 #[.slice A0 l0.length c0, .slice A1 l1.length c1] w fun e w' => ∃ v0_ : Value, e = .returned (v0_) ∧ Kd.R k23 23 w' w.heap.size (fun _ => True) v0_ r ∧ Below w.heap.size w w' := by
 have hu23 := Try.underlying23
 have HR0 := Aside0.mk hr0
 have HC0 := Aside0.mk hc0
 clear hr0 hc0
 have HR1 := Aside0.mk hr1
 have HC1 := Aside0.mk hc1
 clear hr1 hc1
 have HB := Aside0.mk (Below.refl w.heap.size w)
 have H : (garrisonref06_MergeP.l0 k l0 l1 ([] : List (S23)) 0) = some r := h
 clear h
 have H' := Aside0.mk H
 clear H
 go_enter Try.func28, Try.ntmps28
 go_wp2
 go_loopg [5, 6] k (fun kq v5 v6 w' => ∃ (x5_1 : List (S23)) (x6_1 : Int), v6 = .int .i64 x6_1 ∧ Aside0 (garrisonref06_MergeP.l0 kq l0 l1 x5_1 x6_1 = some r) ∧ Aside0 (kq ≤ k) ∧ Aside0 (Kd.R k23 23 w' w.heap.size (fun _ => True) v5 x5_1) ∧ Aside0 (Below w.heap.size w w'))
 case atStart => exact ⟨(([] : List (S23))), (0), (by first | rfl | (simp; done) | (simp [*]; done)), H', ⟨Nat.le_refl _⟩, ⟨by first | exact Kd.R_nil _ _ _ _ _ | exact Kd.N_nil _ _ _ _ _ | exact Kd.V_nil _ _ _ _ _ | exact Kd.Q_nil _ _ _ _ _ | exact Kd.S_nil _ _ _ _ _⟩, ⟨by repeat (first | (with_reducible first | exact HB.out | apply below_alloc | apply pw_below_drewN | apply below_drew1) | exact HB.out)⟩⟩
 case round =>
  clear H'
  try clear c1
  try clear c2
  try clear p2
  obtain ⟨x5_1, x6_1, rfl, HA, HK1, HO_5, HB⟩ := hrel
  cases gk with
  | zero => exact absurd HA.out (by simp [garrisonref06_MergeP.l0])
  | succ k1 =>
   have H := HA.out
   clear HA
   simp only [garrisonref06_MergeP.l0] at H
   by_cases c3 : x6_1 < (l0.length : Int)
   ·rw [if_pos c3] at H
    have c3b0 : decide (x6_1 < (l0.length : Int)) = true := decide_eq_true c3
    clear c3
    by_cases c4 : 0 ≤ x6_1
    ·rw [if_pos c4] at H
     have c4b0 : decide (0 ≤ x6_1) = true := decide_eq_true c4
     clear c4
     replace H := Option.bind_eq_some_iff.mp H
     obtain ⟨t109, A50, H⟩ := H
     replace H : (garrisonref06_MergeP.l0 k1 l0 l1 t109 (wrap64 (x6_1 + 1))) = some r := H
     have A5 := Aside0.mk A50
     clear A50
     have H' := Aside0.mk H
     clear H
     have p108 : 0 ≤ (x6_1 : Int) := of_decide_eq_true (by first | (with_reducible assumption) | assumption)
     have q108 : x6_1 < (l0.length : Int) := of_decide_eq_true (by first | (with_reducible assumption) | assumption)
     obtain ⟨ad108, e108, hx108_0, hx108_1⟩ := at_T23 HR0.out x6_1 p108 q108
     cases e108
     replace hx108_0 := (HB.out.cell (World.block_lt_of_cell? w _ hx108_0)).trans hx108_0
     replace hx108_1 := (HB.out.cell (World.block_lt_of_cell? w _ hx108_1)).trans hx108_1
     replace p108 := eq_true p108
     replace q108 := eq_true q108
     obtain ⟨Ao6, co6, eo6⟩ := Kd.R_slice HO_5.out
     subst eo6
     go_wp2_with (first | ((with_reducible refine gate_callee (f := 35) rfl ?_); refine goesL_ (some 19) rfl rfl Try.func35 (by kernel_rfl) rfl #[.slice Ao6 x5_1.length co6, .agg #[.int .i64 ((rd_T23 l0 x6_1).f0), .int .i64 ((rd_T23 l0 x6_1).f1)]] rfl (by (try simp only [List.map_toArray, List.map_cons, List.map_nil]); first | done | rfl | (simp only [List.length_drop, List.length_take]; rfl)) ?_; (with_reducible refine (ins_own (base := w.heap.size) _ _ x5_1 ((rd_T23 l0 x6_1).f0) ((rd_T23 l0 x6_1).f1) t109 _ ?side1 ?side2 A5.out).mono ?_); (case side1 => (with_reducible repeat (first | apply Kd.R_alloc | apply Kd.R_drewN | apply Kd.R_drew)); exact HO_5.out); (case side2 => exact (below_size (by repeat (first | (with_reducible first | exact HB.out | apply below_alloc | apply pw_below_drewN | apply below_drew1) | exact HB.out)))); rintro e w7 ⟨v110, rfl, ho0, hb⟩; refine ⟨_, rfl, ?_⟩; have n0_ := Aside0.mk trivial; have n1_ := Aside0.mk ho0; have n2_ := Aside0.mk (below_step (by repeat (first | (with_reducible first | exact HB.out | apply below_alloc | apply pw_below_drewN | apply below_drew1) | exact HB.out)) hb); clear HO_5; clear HB; have HO_5 := n0_; have HO111 := n1_; have HB := n2_; clear n0_ n1_ n2_; (try clear hb); (try clear hb2); (try clear hk); (try clear hi); (try clear ho0)))
     go_roundg k1
     case measure => have := HK1.out; omega
     case rel => exact ⟨(t109), (wrap64 (x6_1 + 1)), (by first | rfl | (simp; done) | (simp [*]; done)), H', ⟨by have := HK1.out; omega⟩, ⟨by (with_reducible repeat (first | apply Kd.R_alloc | apply Kd.R_drewN | apply Kd.R_drew)); exact Kd.R_mono HO111.out (fun _ hk => trivial)⟩, ⟨by repeat (first | (with_reducible first | exact HB.out | apply below_alloc | apply pw_below_drewN | apply below_drew1) | exact HB.out)⟩⟩
    ·rw [if_neg c4] at H
     exact absurd H (by simp)
   ·rw [if_neg c3] at H
    have c3b0 : decide (x6_1 < (l0.length : Int)) = false := decide_eq_false c3
    clear c3
    have H' := Aside0.mk H
    clear H
    go_wp2
    go_loopg [5, 7] k1 (fun kq v5 v7 w' => ∃ (x5_2 : List (S23)) (x7_2 : Int), v7 = .int .i64 x7_2 ∧ Aside0 (garrisonref06_MergeP.l1 kq l1 x5_2 x7_2 = some r) ∧ Aside0 (kq ≤ k1) ∧ Aside0 (Kd.R k23 23 w' w.heap.size (fun _ => True) v5 x5_2) ∧ Aside0 (Below w.heap.size w w'))
    case atStart => exact ⟨(x5_1), (0), (by first | rfl | (simp; done) | (simp [*]; done)), H', ⟨Nat.le_refl _⟩, ⟨by (with_reducible repeat (first | apply Kd.R_alloc | apply Kd.R_drewN | apply Kd.R_drew)); exact HO_5.out⟩, ⟨by repeat (first | (with_reducible first | exact HB.out | apply below_alloc | apply pw_below_drewN | apply below_drew1) | exact HB.out)⟩⟩
    case round =>
     clear H'
     try clear c1
     try clear p1
     try clear q1
     try clear hx1
     try clear c2
     try clear p2
     try clear c3
     try clear c3b0
     try clear c4
     try clear c4b0
     try clear p6
     try clear hx108_0
     try clear hx108_1
     try clear p108
     try clear p2
     try clear q108
     obtain ⟨x5_2, x7_2, rfl, HA, HK2, HO_5, HB⟩ := hrel
     cases gk with
     | zero => exact absurd HA.out (by simp [garrisonref06_MergeP.l1])
     | succ k2 =>
      have H := HA.out
      clear HA
      simp only [garrisonref06_MergeP.l1] at H
      by_cases c8 : x7_2 < (l1.length : Int)
      ·rw [if_pos c8] at H
       have c8b0 : decide (x7_2 < (l1.length : Int)) = true := decide_eq_true c8
       clear c8
       by_cases c9 : 0 ≤ x7_2
       ·rw [if_pos c9] at H
        have c9b0 : decide (0 ≤ x7_2) = true := decide_eq_true c9
        clear c9
        replace H := Option.bind_eq_some_iff.mp H
        obtain ⟨t113, A100, H⟩ := H
        replace H : (garrisonref06_MergeP.l1 k2 l1 t113 (wrap64 (x7_2 + 1))) = some r := H
        have A10 := Aside0.mk A100
        clear A100
        have H' := Aside0.mk H
        clear H
        have p112 : 0 ≤ (x7_2 : Int) := of_decide_eq_true (by first | (with_reducible assumption) | assumption)
        have q112 : x7_2 < (l1.length : Int) := of_decide_eq_true (by first | (with_reducible assumption) | assumption)
        obtain ⟨ad112, e112, hx112_0, hx112_1⟩ := at_T23 HR1.out x7_2 p112 q112
        cases e112
        replace hx112_0 := (HB.out.cell (World.block_lt_of_cell? w _ hx112_0)).trans hx112_0
        replace hx112_1 := (HB.out.cell (World.block_lt_of_cell? w _ hx112_1)).trans hx112_1
        replace p112 := eq_true p112
        replace q112 := eq_true q112
        obtain ⟨Ao11, co11, eo11⟩ := Kd.R_slice HO_5.out
        subst eo11
        go_wp2_with (first | ((with_reducible refine gate_callee (f := 35) rfl ?_); refine goesL_ (some 31) rfl rfl Try.func35 (by kernel_rfl) rfl #[.slice Ao11 x5_2.length co11, .agg #[.int .i64 ((rd_T23 l1 x7_2).f0), .int .i64 ((rd_T23 l1 x7_2).f1)]] rfl (by (try simp only [List.map_toArray, List.map_cons, List.map_nil]); first | done | rfl | (simp only [List.length_drop, List.length_take]; rfl)) ?_; (with_reducible refine (ins_own (base := w.heap.size) _ _ x5_2 ((rd_T23 l1 x7_2).f0) ((rd_T23 l1 x7_2).f1) t113 _ ?side1 ?side2 A10.out).mono ?_); (case side1 => (with_reducible repeat (first | apply Kd.R_alloc | apply Kd.R_drewN | apply Kd.R_drew)); exact HO_5.out); (case side2 => exact (below_size (by repeat (first | (with_reducible first | exact HB.out | apply below_alloc | apply pw_below_drewN | apply below_drew1) | exact HB.out)))); rintro e w12 ⟨v114, rfl, ho0, hb⟩; refine ⟨_, rfl, ?_⟩; have n0_ := Aside0.mk trivial; have n1_ := Aside0.mk ho0; have n2_ := Aside0.mk (below_step (by repeat (first | (with_reducible first | exact HB.out | apply below_alloc | apply pw_below_drewN | apply below_drew1) | exact HB.out)) hb); clear HO_5; clear HB; have HO_5 := n0_; have HO115 := n1_; have HB := n2_; clear n0_ n1_ n2_; (try clear hb); (try clear hb2); (try clear hk); (try clear hi); (try clear ho0)))
        go_roundg k2
        case measure => have := HK1.out; have := HK2.out; omega
        case rel => exact ⟨(t113), (wrap64 (x7_2 + 1)), (by first | rfl | (simp; done) | (simp [*]; done)), H', ⟨by have := HK1.out; have := HK2.out; omega⟩, ⟨by (with_reducible repeat (first | apply Kd.R_alloc | apply Kd.R_drewN | apply Kd.R_drew)); exact Kd.R_mono HO115.out (fun _ hk => trivial)⟩, ⟨by repeat (first | (with_reducible first | exact HB.out | apply below_alloc | apply pw_below_drewN | apply below_drew1) | exact HB.out)⟩⟩
       ·rw [if_neg c9] at H
        exact absurd H (by simp)
      ·rw [if_neg c8] at H
       have c8b0 : decide (x7_2 < (l1.length : Int)) = false := decide_eq_false c8
       clear c8
       obtain rfl := Option.some.inj H
       go_wp2
       go_ret
       exact ⟨_, by first | rfl | (simp [errW_none, errW_some] <;> rfl) | (simp [*, errW_none, errW_some] <;> rfl), by (with_reducible repeat (first | apply Kd.R_alloc | apply Kd.R_drewN | apply Kd.R_drew)); exact HO_5.out, by repeat (first | (with_reducible first | exact HB.out | apply below_alloc | apply pw_below_drewN | apply below_drew1) | exact HB.out)⟩

theorem is_f (x : S23) : garrisonref06_Is.f x.f0 x.f1 = some (okK x) := by
 unfold garrisonref06_Is.f okK
 by_cases h1 : 0 ≤ x.f0
 ·by_cases h2 : x.f0 ≤ 1023
  ·by_cases h3 : -1 ≤ x.f1
   ·rw [if_pos h1, if_pos h2, if_pos h3, decide_eq_true h1, decide_eq_true h2, decide_eq_true h3]
    rfl
   ·rw [if_pos h1, if_pos h2, if_neg h3, decide_eq_true h1, decide_eq_true h2, decide_eq_false h3]
    rfl
  ·rw [if_pos h1, if_neg h2, decide_eq_true h1, decide_eq_false h2]
   rfl
 ·rw [if_neg h1, decide_eq_false h1]
  rfl
theorem insU (out : List S23) (x : S23) (h : out.length ≤ 2000) : insK_.f out x.f0 x.f1 = some (insK out x) := by
 unfold insK_.f
 rw [if_pos h]
theorem rd_get (m : List S23) (i : Nat) (hi : i < m.length) : rd_T23 m (i : Int) = m[i] := by
 unfold rd_T23
 rw [Int.toNat_natCast, List.getD_eq_getElem?_getD, List.getElem?_eq_getElem hi]
 rfl
theorem refsort_l0 (m : List S23) (hm : m.length ≤ 1000) (d : Nat) : ∀ (k i : Nat) (out : List S23), i ≤ m.length → m.length - i = d → d < k → out.length ≤ i → (m.take i).all okK = true →
  garrisonref06_SortP.l0 k m out (i : Int) = some (if m.all okK = true then ((m.drop i).foldl insK out, 0) else ([], 2)) := by
 induction d with
 | zero =>
  intro k i out h1 h2 h3 _ ha
  obtain ⟨k, rfl⟩ : ∃ q, k = q + 1 := ⟨k - 1, by omega⟩
  have hi : i = m.length := by omega
  subst hi
  rw [List.take_length] at ha
  simp only [garrisonref06_SortP.l0]
  rw [if_neg (by omega), List.drop_length, if_pos ha]
  rfl
 | succ d ih =>
  intro k i out h1 h2 h3 h4 ha
  obtain ⟨k, rfl⟩ : ∃ q, k = q + 1 := ⟨k - 1, by omega⟩
  have hi : i < m.length := by omega
  have hw : wrap64 ((i : Int) + 1) = ((i + 1 : Nat) : Int) := by unfold wrap64; omega
  have hdrop : m.drop i = m[i] :: m.drop (i + 1) := List.drop_eq_getElem_cons hi
  have htake : m.take (i + 1) = m.take i ++ [m[i]] := by rw [List.take_add_one, List.getElem?_eq_getElem hi]; rfl
  simp only [garrisonref06_SortP.l0]
  rw [if_pos (by omega), if_pos (by omega), rd_get m i hi, is_f]
  simp only [Option.bind_some]
  cases hk : okK m[i] with
  | true =>
   rw [if_pos rfl, insU _ _ (by omega)]
   simp only [Option.bind_some]
   have hlen := length_insK out m[i]
   rw [hw, ih k (i + 1) _ (by omega) (by omega) (by omega) (by omega) (by rw [htake, List.all_append, ha]; simp [hk]), hdrop, List.foldl_cons]
  | false =>
   rw [if_neg (by simp), if_neg]
   intro hall
   rw [List.all_eq_true] at hall
   rw [hall _ (List.getElem_mem hi)] at hk
   cases hk
theorem refmerge_l1 (m : List S23) (hm : m.length ≤ 1000) (d : Nat) : ∀ (k i : Nat) (out : List S23), i ≤ m.length → m.length - i = d → d < k → out.length ≤ 1000 + i →
  garrisonref06_MergeP.l1 k m out (i : Int) = some ((m.drop i).foldl insK out) := by
 induction d with
 | zero =>
  intro k i out h1 h2 h3 _
  obtain ⟨k, rfl⟩ : ∃ q, k = q + 1 := ⟨k - 1, by omega⟩
  have hi : i = m.length := by omega
  subst hi
  simp only [garrisonref06_MergeP.l1]
  rw [if_neg (by omega), List.drop_length]
  rfl
 | succ d ih =>
  intro k i out h1 h2 h3 h4
  obtain ⟨k, rfl⟩ : ∃ q, k = q + 1 := ⟨k - 1, by omega⟩
  have hi : i < m.length := by omega
  have hw : wrap64 ((i : Int) + 1) = ((i + 1 : Nat) : Int) := by unfold wrap64; omega
  have hdrop : m.drop i = m[i] :: m.drop (i + 1) := List.drop_eq_getElem_cons hi
  simp only [garrisonref06_MergeP.l1]
  rw [if_pos (by omega), if_pos (by omega), rd_get m i hi, insU _ _ (by omega)]
  simp only [Option.bind_some]
  have hlen := length_insK out m[i]
  rw [hw, ih k (i + 1) _ (by omega) (by omega) (by omega) (by omega), hdrop, List.foldl_cons]
theorem refmerge_l0 (m p : List S23) (hm : m.length ≤ 1000) (hp : p.length ≤ 1000) (d : Nat) : ∀ (k i : Nat) (out : List S23), i ≤ m.length → m.length - i = d → d + 1001 < k → out.length ≤ i →
  garrisonref06_MergeP.l0 k m p out (i : Int) = some (p.foldl insK ((m.drop i).foldl insK out)) := by
 induction d with
 | zero =>
  intro k i out h1 h2 h3 h4
  obtain ⟨k, rfl⟩ : ∃ q, k = q + 1 := ⟨k - 1, by omega⟩
  have hi : i = m.length := by omega
  subst hi
  simp only [garrisonref06_MergeP.l0]
  rw [if_neg (by omega), List.drop_length]
  have h := refmerge_l1 p hp p.length k 0 out (Nat.zero_le _) rfl (by omega) (by omega)
  rw [List.drop_zero] at h
  exact h
 | succ d ih =>
  intro k i out h1 h2 h3 h4
  obtain ⟨k, rfl⟩ : ∃ q, k = q + 1 := ⟨k - 1, by omega⟩
  have hi : i < m.length := by omega
  have hw : wrap64 ((i : Int) + 1) = ((i + 1 : Nat) : Int) := by unfold wrap64; omega
  have hdrop : m.drop i = m[i] :: m.drop (i + 1) := List.drop_eq_getElem_cons hi
  simp only [garrisonref06_MergeP.l0]
  rw [if_pos (by omega), if_pos (by omega), rd_get m i hi, insU _ _ (by omega)]
  simp only [Option.bind_some]
  have hlen := length_insK out m[i]
  rw [hw, ih k (i + 1) _ (by omega) (by omega) (by omega) (by omega), hdrop, List.foldl_cons]

/-- What the calls answer. -/
def garrisonref06_Sort.f (l : List S23) : Option (List S23 × Int) := if l.length ≤ 1000 then some (if l.all okK = true then (sortU l, 0) else ([], 2)) else none
def garrisonref06_Merge.f (l m : List S23) : Option (List S23) := if l.length ≤ 1000 ∧ m.length ≤ 1000 then some (sortU (l ++ m)) else none
theorem garrisonref06_Sort.calls (A0 : Option Addr) (c0 : Nat) (l0 : List S23) (r1 : List S23) (r2 : Int) (w : World) (hr0 : Kd.C k23 w A0 l0.length l0) (hc0 : l0.length ≤ c0) (h : garrisonref06_Sort.f l0 = some (r1, r2)) :
  Calls Try.prog 21 #[.slice A0 l0.length c0] w fun e w' => ∃ v0 : Value, e = .returned (.tuple #[v0, .int .i64 r2]) ∧ Kd.R k23 23 w' w.heap.size (fun _ => True) v0 r1 ∧ Below w.heap.size w w' := by
 unfold garrisonref06_Sort.f at h
 by_cases hl : l0.length ≤ 1000
 ·rw [if_pos hl] at h
  refine garrisonref06_SortP.calls 1001 A0 c0 l0 r1 r2 w hr0 hc0 ?_
  unfold garrisonref06_SortP.f
  have hx := refsort_l0 l0 hl l0.length 1001 0 [] (Nat.zero_le _) rfl (by omega) (by simp) (by simp)
  rw [List.drop_zero] at hx
  exact hx.trans h
 ·rw [if_neg hl] at h
  cases h
theorem garrisonref06_Merge.calls (A0 : Option Addr) (c0 : Nat) (l0 : List S23) (A1 : Option Addr) (c1 : Nat) (l1 : List S23) (r : List S23) (w : World) (hr0 : Kd.C k23 w A0 l0.length l0) (hc0 : l0.length ≤ c0) (hr1 : Kd.C k23 w A1 l1.length l1) (hc1 : l1.length ≤ c1) (h : garrisonref06_Merge.f l0 l1 = some r) :
  Calls Try.prog 28 #[.slice A0 l0.length c0, .slice A1 l1.length c1] w fun e w' => ∃ v0 : Value, e = .returned v0 ∧ Kd.R k23 23 w' w.heap.size (fun _ => True) v0 r ∧ Below w.heap.size w w' := by
 unfold garrisonref06_Merge.f at h
 by_cases hl : l0.length ≤ 1000 ∧ l1.length ≤ 1000
 ·rw [if_pos hl] at h
  refine garrisonref06_MergeP.calls 2003 A0 c0 l0 A1 c1 l1 r w hr0 hc0 hr1 hc1 ?_
  unfold garrisonref06_MergeP.f
  have hx := refmerge_l0 l0 l1 hl.1 hl.2 l0.length 2003 0 [] (Nat.zero_le _) rfl (by omega) (by simp)
  rw [List.drop_zero, ← List.foldl_append] at hx
  exact hx.trans h
 ·rw [if_neg hl] at h
  cases h
end Go.Proofs.Ytcjipaemlipfgaa.Given
