/- Texts of this seat, joined. -/
import Derived.Test.YtmcjccigglekpaaGreatDoorL2
import Derived.Test.YtmcjccigglekpaaGreatDoorL8
import Derived.Test.YtmcjccigglekpaaGreatDoorL10
import Derived.Lib.SplitLaws
import Derived.Lib.ParseIntBTie
import Derived.Lib.ParseIntBCases
import Derived.Lib.ItoaMem
import Derived.Test.YtmcjccigglekpaaGreatDoorRows
import Derived.ProofKit
import Derived.LaidLaws
import Derived.ChangeSame
import Derived.ChangeVars
import Derived.HandedShaped
import Derived.Stop.LaidErr
import Derived.Shelf.Vars
import Derived.Lay
namespace Go.Proofs.YtmcjccigglekpaaGreatDoor.Given
end Go.Proofs.YtmcjccigglekpaaGreatDoor.Given
namespace Go.Proofs.YtmcjccigglekpaaGreatDoor.P
open Go.Proofs.YtmcjccigglekpaaGreatDoor.Given
open Go.RowKit Go.Proofs.YtmcjccigglekpaaGreatDoorW.PrintWords Go.Proofs.YtmcjccigglekpaaGreatDoorW.PrintLast Go.Proofs.YtmcjccigglekpaaGreatDoorW.PrintMore
attribute [local go_sem] max2_int min2_int max_two min_two max_three min_three max_four min_four   -- for this text's walks alone
set_option linter.unusedVariables false
set_option linter.unusedSimpArgs false

/-! ### garrisonlaw27_ImageLong: function 6 -/
def garrisonlaw27_ImageLong.j0 : Nat → Int → Bool → Option (Bool)
 | 0, _, _ => none
 | k + 1, x0, x11 => if x11 = true then ((garrisonlaw27_live.f).bind fun t358 => (some t358)) else (if 0 ≤ x0 then (if (x0 : Int).toNat ≤ 281474976710656 then ((image_Parse.f (strOfNums (List.replicate (x0 : Int).toNat 0))).bind fun bt362 => (if x0 > 262144 then ((garrisonlaw27_num.f bt362.2.2.2.2.2.2.2.2).bind fun t388 => (if t388 = 1 then ((garrisonlaw27_live.f).bind fun t389 => (some t389)) else (some false))) else ((garrisonlaw27_num.f bt362.2.2.2.2.2.2.2.2).bind fun t390 => (if t390 = 270 then ((garrisonlaw27_live.f).bind fun t391 => (some t391)) else (some false))))) else (none)) else (none))
def garrisonlaw27_ImageLong.f (k : Nat) (a0 : Int) : Option (Bool) := if a0 < 0 then (garrisonlaw27_ImageLong.j0 k a0 true) else (garrisonlaw27_ImageLong.j0 k a0 (decide (a0 > 262244)))
theorem garrisonlaw27_ImageLong.mono_l : ∀ k, (∀ y0 y1, LeO (garrisonlaw27_ImageLong.j0 k y0 y1) (garrisonlaw27_ImageLong.j0 (k + 1) y0 y1))
 | 0 => fun _ _ r h => by simp [garrisonlaw27_ImageLong.j0] at h
 | k + 1 => by
  have ih0 := garrisonlaw27_ImageLong.mono_l k
  ·intro y0 y1
   unfold garrisonlaw27_ImageLong.j0
   repeat' first
   | (with_reducible exact ih0 _ _)
   | (with_reducible exact LeO.refl _)
   | (with_reducible exact LeO.none _)
   | (with_reducible refine LeO.ite ?_ ?_)
   | (with_reducible refine LeO.bind ?_ (fun _ => ?_))
   | exact ih0 _ _
   | exact LeO.none _
   | refine LeO.ite ?_ ?_
   | refine LeO.bind ?_ (fun _ => ?_)
theorem garrisonlaw27_ImageLong.mono : ∀ a0 k, LeO (garrisonlaw27_ImageLong.f k a0) (garrisonlaw27_ImageLong.f (k + 1) a0) := by
 intro a0 k
 have ih0 := garrisonlaw27_ImageLong.mono_l k
 unfold garrisonlaw27_ImageLong.f
 repeat' first
   | (with_reducible exact ih0 _ _)
   | (with_reducible exact LeO.refl _)
   | (with_reducible exact LeO.none _)
   | (with_reducible refine LeO.ite ?_ ?_)
   | (with_reducible refine LeO.bind ?_ (fun _ => ?_))
   | exact ih0 _ _
   | exact LeO.none _
   | refine LeO.ite ?_ ?_
   | refine LeO.bind ?_ (fun _ => ?_)
set_option maxHeartbeats 8000000 in
set_option maxRecDepth 100000 in
theorem garrisonlaw27_ImageLong.calls (k : Nat) (a0 : Int) (r : Bool) (w : World) (hG : GL w) (hr_ : Aside0 (r = true)) (h : garrisonlaw27_ImageLong.f k a0 = some r) :
  Calls Tryz.prog 6 #[.int .i64 a0] w fun e w' => e = .returned (.bool r) ∧ Below w.heap.size w w' := by
 have hu32 := Tryz.underlying32
 have HB := Aside0.mk (Below.refl w.heap.size w)
 have H : (if a0 < 0 then (garrisonlaw27_ImageLong.j0 k a0 true) else (garrisonlaw27_ImageLong.j0 k a0 (decide (a0 > 262244)))) = some r := h
 clear h
 have HC2 := Aside0.mk H
 clear H
 go_enter Tryz.func6, Tryz.ntmps6
 go_upto_region 1 with (fail)
 go_cut [11] (fun v11 wc => ∃ (kq : Nat) (x11_1 : Bool), v11 = .bool x11_1 ∧ Aside0 (garrisonlaw27_ImageLong.j0 kq a0 x11_1 = some r) ∧ Aside0 (kq ≤ k) ∧ Aside0 (Below w.heap.size w wc))
 case first =>
  have H := HC2.out
  clear HC2
  by_cases c3 : a0 < 0
  ·rw [if_pos c3] at H
   have c3b0 : decide (a0 < 0) = true := decide_eq_true c3
   clear c3
   (first | rw [c3b0] | (simp only [i64_w, i32_w]; rw [c3b0]) | skip)
   have H' := Aside0.mk H
   clear H
   go_wp2
   go_meet
   case rel => exact ⟨_, (true), (by first | rfl | (simp; done) | (simp [*]; done)), H', ⟨by first | omega | exact Nat.le_refl _⟩, ⟨by repeat (first | (with_reducible first | exact HB.out | apply below_alloc | apply pw_below_drewN | apply below_drew1) | exact HB.out)⟩⟩
  ·rw [if_neg c3] at H
   have c3b0 : decide (a0 < 0) = false := decide_eq_false c3
   clear c3
   (first | rw [c3b0] | (simp only [i64_w, i32_w]; rw [c3b0]) | skip)
   have H' := Aside0.mk H
   clear H
   go_wp2
   go_meet
   case rel => exact ⟨_, (decide (a0 > 262244)), (by first | rfl | (simp; done) | (simp [*]; done)), H', ⟨by first | omega | exact Nat.le_refl _⟩, ⟨by repeat (first | (with_reducible first | exact HB.out | apply below_alloc | apply pw_below_drewN | apply below_drew1) | exact HB.out)⟩⟩
 case rest =>
  clear HC2
  try clear p2
  try clear c3
  try clear c3b0
  obtain ⟨kq, x11_1, rfl, HA, HJ1, HB⟩ := hcut
  cases kq with
  | zero => exact absurd HA.out (by simp [garrisonlaw27_ImageLong.j0])
  | succ kj1 =>
   have H := HA.out
   clear HA
   simp only [garrisonlaw27_ImageLong.j0] at H
   by_cases c4 : x11_1 = true
   ·subst c4
    have H1 : ((garrisonlaw27_live.f).bind fun t358 => (some t358)) = some r := by rw [if_pos rfl] at H; exact H
    clear H
    have H := H1
    clear H1
    replace H := Option.bind_eq_some_iff.mp H
    obtain ⟨t358, A50, H⟩ := H
    replace H : (some t358) = some r := H
    have A5 := Aside0.mk A50
    clear A50
    obtain rfl := Option.some.inj H
    go_wp2_with (first | ((with_reducible refine gate_callee (f := 9) rfl ?_); refine goesL_ (some 12) rfl rfl Tryz.func9 (by kernel_rfl) rfl #[] rfl (by (try simp only [List.map_toArray, List.map_cons, List.map_nil]); first | done | rfl | (simp only [List.length_drop, List.length_take]; rfl)) ?_; (with_reducible refine (garrisonlaw27_live.calls  t358 _ ?side1 A5.out).mono ?_); (case side1 => exact GL.below hG (by repeat (first | (with_reducible first | exact HB.out | apply below_alloc | apply pw_below_drewN | apply below_drew1) | exact HB.out))); rintro e w6 ⟨rfl, hb⟩; refine ⟨_, rfl, ?_⟩; have n0_ := Aside0.mk (below_step (by repeat (first | (with_reducible first | exact HB.out | apply below_alloc | apply pw_below_drewN | apply below_drew1) | exact HB.out)) hb); clear HB; have HB := n0_; clear n0_; (try clear hb); (try clear hb2); (try clear hk); (try clear hi)))
    go_ret
    exact ⟨by first | rfl | (simp [errW_none, errW_some] <;> rfl) | (simp [*, errW_none, errW_some] <;> rfl), by repeat (first | (with_reducible first | exact HB.out | apply below_alloc | apply pw_below_drewN | apply below_drew1) | exact HB.out)⟩
   ·replace c4 := Bool.eq_false_iff.mpr c4
    subst c4
    have H1 : (if 0 ≤ a0 then (if (a0 : Int).toNat ≤ 281474976710656 then ((image_Parse.f (strOfNums (List.replicate (a0 : Int).toNat 0))).bind fun bt362 => (if a0 > 262144 then ((garrisonlaw27_num.f bt362.2.2.2.2.2.2.2.2).bind fun t388 => (if t388 = 1 then ((garrisonlaw27_live.f).bind fun t389 => (some t389)) else (some false))) else ((garrisonlaw27_num.f bt362.2.2.2.2.2.2.2.2).bind fun t390 => (if t390 = 270 then ((garrisonlaw27_live.f).bind fun t391 => (some t391)) else (some false))))) else (none)) else (none)) = some r := by rw [if_neg (show ¬ (false = true) by decide)] at H; exact H
    clear H
    have H := H1
    clear H1
    by_cases c7 : 0 ≤ a0
    ·rw [if_pos c7] at H
     have c7b0 := eq_true c7
     have c7b1 : decide (0 ≤ a0) = true := decide_eq_true c7
     clear c7
     by_cases c8 : (a0 : Int).toNat ≤ 281474976710656
     ·rw [if_pos c8] at H
      have c8b0 := eq_true c8
      have c8b1 : decide ((a0 : Int).toNat ≤ 281474976710656) = true := decide_eq_true c8
      clear c8
      obtain ⟨y359, hy359⟩ : ∃ y_ : List Int, y_ = (List.replicate (a0 : Int).toNat 0) := ⟨_, rfl⟩
      replace H : ((image_Parse.f (strOfNums y359)).bind fun bt362 => (if a0 > 262144 then ((garrisonlaw27_num.f bt362.2.2.2.2.2.2.2.2).bind fun t388 => (if t388 = 1 then ((garrisonlaw27_live.f).bind fun t389 => (some t389)) else (some false))) else ((garrisonlaw27_num.f bt362.2.2.2.2.2.2.2.2).bind fun t390 => (if t390 = 270 then ((garrisonlaw27_live.f).bind fun t391 => (some t391)) else (some false))))) = some r := by first | (rw [hy359]; with_reducible exact H) | (have H2_ := (Option.bind_some _ _).symm.trans H; rw [hy359]; with_reducible exact H2_) | (have H2_ := (Option.bind_some _ _).symm.trans H; with_reducible exact H2_) | with_reducible exact H | (rw [hy359]; exact H) | exact H
      have Ny359 := Aside0.mk hy359
      clear hy359
      replace H := Option.bind_eq_some_iff.mp H
      obtain ⟨⟨t362, t365, t368, t371, t374, t377, t380, t383, t386⟩, A90, H⟩ := H
      replace H : (if a0 > 262144 then ((garrisonlaw27_num.f t386).bind fun t388 => (if t388 = 1 then ((garrisonlaw27_live.f).bind fun t389 => (some t389)) else (some false))) else ((garrisonlaw27_num.f t386).bind fun t390 => (if t390 = 270 then ((garrisonlaw27_live.f).bind fun t391 => (some t391)) else (some false)))) = some r := H
      have A9 := Aside0.mk A90
      clear A90
      by_cases c10 : a0 > 262144
      ·rw [if_pos c10] at H
       have c10b0 : decide (262144 < a0) = true := decide_eq_true c10
       clear c10
       replace H := Option.bind_eq_some_iff.mp H
       obtain ⟨t388, A110, H⟩ := H
       replace H : (if t388 = 1 then ((garrisonlaw27_live.f).bind fun t389 => (some t389)) else (some false)) = some r := H
       have A11 := Aside0.mk A110
       clear A110
       by_cases c12 : t388 = 1
       ·rw [if_pos c12] at H
        have c12b0 : (t388 == 1) = true := beq_iff_eq.mpr c12
        have c12b1 : (t388 != 1) = false := bne_eq_false_iff_eq.mpr c12
        clear c12
        replace H := Option.bind_eq_some_iff.mp H
        obtain ⟨t389, A130, H⟩ := H
        replace H : (some t389) = some r := H
        have A13 := Aside0.mk A130
        clear A130
        obtain rfl := Option.some.inj H
        go_wp2_with (first | ((with_reducible refine gate_dst (N := 15) rfl ?_); refine Kd.R_make (Kd.int .u8) _ 5 rfl (N := 15) rfl 48 _ _ rfl a0 rfl rfl Tryz.underlying48 (.int .u8 0) 1 info5 rfl (by decide) (by omega) 0 (ok := fun _ => True) (okp := fun _ => True) rfl (fun _ hk => hk) trivial (of_decide_eq_true (by first | (with_reducible assumption) | assumption)) (Nat.le_trans (Nat.mul_le_mul_right _ (of_decide_eq_true (by first | (with_reducible assumption) | assumption) : a0.toNat ≤ 281474976710656)) (by omega)) (Below.refl _ _) (Nat.le_refl _) ?_; intro v360 w14 ho15 hb hg_ hnew_; clear hg_ hnew_; (first | rw [← Ny359.out] at ho15 | (simp only [Int.reduceToNat] at ho15; rw [← Ny359.out] at ho15)); have n0_ := Aside0.mk (Kd.R_lower ho15 (below_size (by repeat (first | (with_reducible first | exact HB.out | apply below_alloc | apply pw_below_drewN | apply below_drew1) | exact HB.out)))); have n1_ := Aside0.mk (below_step (by repeat (first | (with_reducible first | exact HB.out | apply below_alloc | apply pw_below_drewN | apply below_drew1) | exact HB.out)) hb); clear HB; have HO361 := n0_; have HB := n1_; clear n0_ n1_; clear hb ho15; have hcv16 := own_string (P := Tryz.prog) Tryz.underlying48 Tryz.underlying5 Tryz.underlying9 (Kd.own_of_R HO361.out)) | ((with_reducible refine gate_callee (f := 15) rfl ?_); refine goesL_ (some 17) rfl rfl Tryz.func15 (by kernel_rfl) rfl #[.string (strOfNums y359)] rfl (by (try simp only [List.map_toArray, List.map_cons, List.map_nil]); first | done | rfl | (simp only [List.length_drop, List.length_take]; rfl)) ?_; (with_reducible refine (image_Parse.calls (strOfNums y359) t362 t365 t368 t371 t374 t377 t380 t383 t386 _ ?side1 A9.out).mono ?_); (case side1 => exact GL.below hG (by repeat (first | (with_reducible first | exact HB.out | apply below_alloc | apply pw_below_drewN | apply below_drew1) | exact HB.out))); rintro e w17 ⟨v363, v366, v369, v372, v375, v378, v381, v384, rfl, ho0, ho1, ho2, ho3, ho4, ho5, ho6, ho7, hb⟩; refine ⟨_, rfl, ?_⟩; have n0_ := Aside0.mk (Kd.R_below (by (with_reducible repeat (first | apply Kd.R_alloc | apply Kd.R_drewN | apply Kd.R_drew)); exact HO361.out) hb); have n1_ := Aside0.mk (Kd.R_lower ho0 (below_size (by repeat (first | (with_reducible first | exact HB.out | apply below_alloc | apply pw_below_drewN | apply below_drew1) | exact HB.out)))); have n2_ := Aside0.mk (Kd.S_lower ho1 (below_size (by repeat (first | (with_reducible first | exact HB.out | apply below_alloc | apply pw_below_drewN | apply below_drew1) | exact HB.out)))); have n3_ := Aside0.mk (Kd.S_lower ho2 (below_size (by repeat (first | (with_reducible first | exact HB.out | apply below_alloc | apply pw_below_drewN | apply below_drew1) | exact HB.out)))); have n4_ := Aside0.mk (Kd.R_lower ho3 (below_size (by repeat (first | (with_reducible first | exact HB.out | apply below_alloc | apply pw_below_drewN | apply below_drew1) | exact HB.out)))); have n5_ := Aside0.mk (Kd.S_lower ho4 (below_size (by repeat (first | (with_reducible first | exact HB.out | apply below_alloc | apply pw_below_drewN | apply below_drew1) | exact HB.out)))); have n6_ := Aside0.mk (Kd.S_lower ho5 (below_size (by repeat (first | (with_reducible first | exact HB.out | apply below_alloc | apply pw_below_drewN | apply below_drew1) | exact HB.out)))); have n7_ := Aside0.mk (Kd.R_lower ho6 (below_size (by repeat (first | (with_reducible first | exact HB.out | apply below_alloc | apply pw_below_drewN | apply below_drew1) | exact HB.out)))); have n8_ := Aside0.mk (Kd.R_lower ho7 (below_size (by repeat (first | (with_reducible first | exact HB.out | apply below_alloc | apply pw_below_drewN | apply below_drew1) | exact HB.out)))); have n9_ := Aside0.mk (below_step (by repeat (first | (with_reducible first | exact HB.out | apply below_alloc | apply pw_below_drewN | apply below_drew1) | exact HB.out)) hb); clear HO361; clear HB; have HO361 := n0_; have HO364 := n1_; have HO367 := n2_; have HO370 := n3_; have HO373 := n4_; have HO376 := n5_; have HO379 := n6_; have HO382 := n7_; have HO385 := n8_; have HB := n9_; clear n0_ n1_ n2_ n3_ n4_ n5_ n6_ n7_ n8_ n9_; (try clear hb); (try clear hb2); (try clear hk); (try clear hi); (try clear ho0); (try clear ho1); (try clear ho2); (try clear ho3); (try clear ho4); (try clear ho5); (try clear ho6); (try clear ho7)) | ((with_reducible refine gate_dst (N := 3) rfl ?_); refine box_event ?hg (N := 3) ?hd (cs := #[.slice none 0 0, .slice none 0 0, .slice none 0 0, .slice none 0 0, .slice none 0 0, .slice none 0 0, .slice none 0 0, .slice none 0 0]) (t := 32) ?hr ?_; (case hd => rfl); (case hg => rfl); (case hr => first | (go_simp; done) | (go_simp; rfl)); intro gb387 hg w18 hbox hb; have n0_ := Aside0.mk (Kd.R_below (by (with_reducible repeat (first | apply Kd.R_alloc | apply Kd.R_drewN | apply Kd.R_drew)); exact HO361.out) hb); have n1_ := Aside0.mk (Kd.R_below (by (with_reducible repeat (first | apply Kd.R_alloc | apply Kd.R_drewN | apply Kd.R_drew)); exact HO364.out) hb); have n2_ := Aside0.mk (Kd.S_below (by (with_reducible repeat (first | apply Kd.S_alloc | apply Kd.S_drewN | apply Kd.S_drew)); exact HO367.out) hb); have n3_ := Aside0.mk (Kd.S_below (by (with_reducible repeat (first | apply Kd.S_alloc | apply Kd.S_drewN | apply Kd.S_drew)); exact HO370.out) hb); have n4_ := Aside0.mk (Kd.R_below (by (with_reducible repeat (first | apply Kd.R_alloc | apply Kd.R_drewN | apply Kd.R_drew)); exact HO373.out) hb); have n5_ := Aside0.mk (Kd.S_below (by (with_reducible repeat (first | apply Kd.S_alloc | apply Kd.S_drewN | apply Kd.S_drew)); exact HO376.out) hb); have n6_ := Aside0.mk (Kd.S_below (by (with_reducible repeat (first | apply Kd.S_alloc | apply Kd.S_drewN | apply Kd.S_drew)); exact HO379.out) hb); have n7_ := Aside0.mk (Kd.R_below (by (with_reducible repeat (first | apply Kd.R_alloc | apply Kd.R_drewN | apply Kd.R_drew)); exact HO382.out) hb); have n8_ := Aside0.mk (Kd.R_below (by (with_reducible repeat (first | apply Kd.R_alloc | apply Kd.R_drewN | apply Kd.R_drew)); exact HO385.out) hb); have n9_ := Aside0.mk (below_step (by repeat (first | (with_reducible first | exact HB.out | apply below_alloc | apply pw_below_drewN | apply below_drew1) | exact HB.out)) hb); have n10_ := Aside0.mk (hbox); have n11_ := Aside0.mk ((by rw [hg]; exact (below_size (by repeat (first | (with_reducible first | exact HB.out | apply below_alloc | apply pw_below_drewN | apply below_drew1) | exact HB.out))) : w.heap.size ≤ gb387)); have n12_ := Aside0.mk ((by rw [hg]; exact (below_size (by repeat (first | (with_reducible first | exact HB.out | apply below_alloc | apply pw_below_drewN | apply below_drew1) | exact HB.out))) : w.heap.size ≤ gb387)); clear HO361; clear HO364; clear HO367; clear HO370; clear HO373; clear HO376; clear HO379; clear HO382; clear HO385; clear HB; have HO361 := n0_; have HO364 := n1_; have HO367 := n2_; have HO370 := n3_; have HO373 := n4_; have HO376 := n5_; have HO379 := n6_; have HO382 := n7_; have HO385 := n8_; have HB := n9_; have BK387 := n10_; have GW387 := n11_; have GE387 := n12_; clear n0_ n1_ n2_ n3_ n4_ n5_ n6_ n7_ n8_ n9_ n10_ n11_ n12_; clear hb hbox hg; obtain ⟨Ao19, co19, eo19⟩ := Kd.R_slice HO364.out; subst eo19; have hcz20_0 : w18.cell? ⟨gb387, 0, none⟩ = some (.slice none 0 0) := (blk_cell BK387.out 0).trans rfl; have hcz20_1 : w18.cell? ⟨gb387, 1, none⟩ = some (.slice none 0 0) := (blk_cell BK387.out 1).trans rfl; have hcz20_2 : w18.cell? ⟨gb387, 2, none⟩ = some (.slice none 0 0) := (blk_cell BK387.out 2).trans rfl; have hcz20_3 : w18.cell? ⟨gb387, 3, none⟩ = some (.slice none 0 0) := (blk_cell BK387.out 3).trans rfl; have hcz20_4 : w18.cell? ⟨gb387, 4, none⟩ = some (.slice none 0 0) := (blk_cell BK387.out 4).trans rfl; have hcz20_5 : w18.cell? ⟨gb387, 5, none⟩ = some (.slice none 0 0) := (blk_cell BK387.out 5).trans rfl; have hcz20_6 : w18.cell? ⟨gb387, 6, none⟩ = some (.slice none 0 0) := (blk_cell BK387.out 6).trans rfl; have hcz20_7 : w18.cell? ⟨gb387, 7, none⟩ = some (.slice none 0 0) := (blk_cell BK387.out 7).trans rfl; have hfz20_0 := blk_frozen BK387.out 0; have hfz20_1 := blk_frozen BK387.out 1; have hfz20_2 := blk_frozen BK387.out 2; have hfz20_3 := blk_frozen BK387.out 3; have hfz20_4 := blk_frozen BK387.out 4; have hfz20_5 := blk_frozen BK387.out 5; have hfz20_6 := blk_frozen BK387.out 6; have hfz20_7 := blk_frozen BK387.out 7; obtain ⟨Ao21, co21, eo21⟩ := Kd.S_slice HO367.out; subst eo21; obtain ⟨Ao22, co22, eo22⟩ := Kd.S_slice HO370.out; subst eo22; obtain ⟨Ao23, co23, eo23⟩ := Kd.R_slice HO373.out; subst eo23; obtain ⟨Ao24, co24, eo24⟩ := Kd.S_slice HO376.out; subst eo24; obtain ⟨Ao25, co25, eo25⟩ := Kd.S_slice HO379.out; subst eo25; obtain ⟨Ao26, co26, eo26⟩ := Kd.R_slice HO382.out; subst eo26; obtain ⟨Ao27, co27, eo27⟩ := Kd.R_slice HO385.out; subst eo27) | ((with_reducible refine gate_callee (f := 12) rfl ?_); refine goesL_ (some 23) rfl rfl Tryz.func12 (by kernel_rfl) rfl #[.int .i64 t386] rfl (by (try simp only [List.map_toArray, List.map_cons, List.map_nil]); first | done | rfl | (simp only [List.length_drop, List.length_take]; rfl)) ?_; (with_reducible refine (garrisonlaw27_num.calls t386 t388 _ A11.out).mono ?_); rintro e w' ⟨rfl, ⟨nd, rfl⟩⟩; refine ⟨_, rfl, ?_⟩) | (go_at_call 9; (with_reducible refine (garrisonlaw27_live.calls  t389 _ ?side1 A13.out).mono ?_); (case side1 => exact GL.below hG (by repeat (first | (with_reducible first | exact HB.out | apply below_alloc | apply pw_below_drewN | apply below_drew1 | refine below_set ?_ GE387.out) | exact HB.out))); rintro e w28 ⟨rfl, hb⟩; have n0_ := Aside0.mk (Kd.R_below (by (with_reducible repeat (first | apply Kd.R_alloc | apply Kd.R_drewN | apply Kd.R_drew)); exact (Kd.R_mono (Kd.R_far (p := ⟨gb387, 7, none⟩) (Kd.R_far (p := ⟨gb387, 6, none⟩) (Kd.R_far (p := ⟨gb387, 5, none⟩) (Kd.R_far (p := ⟨gb387, 4, none⟩) (Kd.R_far (p := ⟨gb387, 3, none⟩) (Kd.R_far (p := ⟨gb387, 2, none⟩) (Kd.R_far (p := ⟨gb387, 1, none⟩) (Kd.R_far (p := ⟨gb387, 0, none⟩) (Kd.R_types HO361.out BK387.out (by decide)) (fun _ hk => hk.2) (.slice Ao19 t362.length co19)) (fun _ hk => hk.2) (.slice Ao21 t365.length co21)) (fun _ hk => hk.2) (.slice Ao22 t368.length co22)) (fun _ hk => hk.2) (.slice Ao23 t371.length co23)) (fun _ hk => hk.2) (.slice Ao24 t374.length co24)) (fun _ hk => hk.2) (.slice Ao25 t377.length co25)) (fun _ hk => hk.2) (.slice Ao26 t380.length co26)) (fun _ hk => hk.2) (.slice Ao27 t383.length co27)) (fun _ h_ => h_.1))) hb); have n1_ := Aside0.mk (Kd.R_below (by (with_reducible repeat (first | apply Kd.R_alloc | apply Kd.R_drewN | apply Kd.R_drew)); exact (Kd.R_mono (Kd.R_far (p := ⟨gb387, 7, none⟩) (Kd.R_far (p := ⟨gb387, 6, none⟩) (Kd.R_far (p := ⟨gb387, 5, none⟩) (Kd.R_far (p := ⟨gb387, 4, none⟩) (Kd.R_far (p := ⟨gb387, 3, none⟩) (Kd.R_far (p := ⟨gb387, 2, none⟩) (Kd.R_far (p := ⟨gb387, 1, none⟩) (Kd.R_far (p := ⟨gb387, 0, none⟩) (Kd.R_types HO364.out BK387.out (by decide)) (fun _ hk => hk.2) (.slice Ao19 t362.length co19)) (fun _ hk => hk.2) (.slice Ao21 t365.length co21)) (fun _ hk => hk.2) (.slice Ao22 t368.length co22)) (fun _ hk => hk.2) (.slice Ao23 t371.length co23)) (fun _ hk => hk.2) (.slice Ao24 t374.length co24)) (fun _ hk => hk.2) (.slice Ao25 t377.length co25)) (fun _ hk => hk.2) (.slice Ao26 t380.length co26)) (fun _ hk => hk.2) (.slice Ao27 t383.length co27)) (fun _ h_ => h_.1))) hb); have n2_ := Aside0.mk (Kd.S_below (by (with_reducible repeat (first | apply Kd.S_alloc | apply Kd.S_drewN | apply Kd.S_drew)); exact (Kd.S_mono (Kd.S_far (p := ⟨gb387, 7, none⟩) (Kd.S_far (p := ⟨gb387, 6, none⟩) (Kd.S_far (p := ⟨gb387, 5, none⟩) (Kd.S_far (p := ⟨gb387, 4, none⟩) (Kd.S_far (p := ⟨gb387, 3, none⟩) (Kd.S_far (p := ⟨gb387, 2, none⟩) (Kd.S_far (p := ⟨gb387, 1, none⟩) (Kd.S_far (p := ⟨gb387, 0, none⟩) (Kd.S_types HO367.out BK387.out (by decide)) (fun _ hk => hk.2) (.slice Ao19 t362.length co19)) (fun _ hk => hk.2) (.slice Ao21 t365.length co21)) (fun _ hk => hk.2) (.slice Ao22 t368.length co22)) (fun _ hk => hk.2) (.slice Ao23 t371.length co23)) (fun _ hk => hk.2) (.slice Ao24 t374.length co24)) (fun _ hk => hk.2) (.slice Ao25 t377.length co25)) (fun _ hk => hk.2) (.slice Ao26 t380.length co26)) (fun _ hk => hk.2) (.slice Ao27 t383.length co27)) (fun _ h_ => h_.1))) hb); have n3_ := Aside0.mk (Kd.S_below (by (with_reducible repeat (first | apply Kd.S_alloc | apply Kd.S_drewN | apply Kd.S_drew)); exact (Kd.S_mono (Kd.S_far (p := ⟨gb387, 7, none⟩) (Kd.S_far (p := ⟨gb387, 6, none⟩) (Kd.S_far (p := ⟨gb387, 5, none⟩) (Kd.S_far (p := ⟨gb387, 4, none⟩) (Kd.S_far (p := ⟨gb387, 3, none⟩) (Kd.S_far (p := ⟨gb387, 2, none⟩) (Kd.S_far (p := ⟨gb387, 1, none⟩) (Kd.S_far (p := ⟨gb387, 0, none⟩) (Kd.S_types HO370.out BK387.out (by decide)) (fun _ hk => hk.2) (.slice Ao19 t362.length co19)) (fun _ hk => hk.2) (.slice Ao21 t365.length co21)) (fun _ hk => hk.2) (.slice Ao22 t368.length co22)) (fun _ hk => hk.2) (.slice Ao23 t371.length co23)) (fun _ hk => hk.2) (.slice Ao24 t374.length co24)) (fun _ hk => hk.2) (.slice Ao25 t377.length co25)) (fun _ hk => hk.2) (.slice Ao26 t380.length co26)) (fun _ hk => hk.2) (.slice Ao27 t383.length co27)) (fun _ h_ => h_.1))) hb); have n4_ := Aside0.mk (Kd.R_below (by (with_reducible repeat (first | apply Kd.R_alloc | apply Kd.R_drewN | apply Kd.R_drew)); exact (Kd.R_mono (Kd.R_far (p := ⟨gb387, 7, none⟩) (Kd.R_far (p := ⟨gb387, 6, none⟩) (Kd.R_far (p := ⟨gb387, 5, none⟩) (Kd.R_far (p := ⟨gb387, 4, none⟩) (Kd.R_far (p := ⟨gb387, 3, none⟩) (Kd.R_far (p := ⟨gb387, 2, none⟩) (Kd.R_far (p := ⟨gb387, 1, none⟩) (Kd.R_far (p := ⟨gb387, 0, none⟩) (Kd.R_types HO373.out BK387.out (by decide)) (fun _ hk => hk.2) (.slice Ao19 t362.length co19)) (fun _ hk => hk.2) (.slice Ao21 t365.length co21)) (fun _ hk => hk.2) (.slice Ao22 t368.length co22)) (fun _ hk => hk.2) (.slice Ao23 t371.length co23)) (fun _ hk => hk.2) (.slice Ao24 t374.length co24)) (fun _ hk => hk.2) (.slice Ao25 t377.length co25)) (fun _ hk => hk.2) (.slice Ao26 t380.length co26)) (fun _ hk => hk.2) (.slice Ao27 t383.length co27)) (fun _ h_ => h_.1))) hb); have n5_ := Aside0.mk (Kd.S_below (by (with_reducible repeat (first | apply Kd.S_alloc | apply Kd.S_drewN | apply Kd.S_drew)); exact (Kd.S_mono (Kd.S_far (p := ⟨gb387, 7, none⟩) (Kd.S_far (p := ⟨gb387, 6, none⟩) (Kd.S_far (p := ⟨gb387, 5, none⟩) (Kd.S_far (p := ⟨gb387, 4, none⟩) (Kd.S_far (p := ⟨gb387, 3, none⟩) (Kd.S_far (p := ⟨gb387, 2, none⟩) (Kd.S_far (p := ⟨gb387, 1, none⟩) (Kd.S_far (p := ⟨gb387, 0, none⟩) (Kd.S_types HO376.out BK387.out (by decide)) (fun _ hk => hk.2) (.slice Ao19 t362.length co19)) (fun _ hk => hk.2) (.slice Ao21 t365.length co21)) (fun _ hk => hk.2) (.slice Ao22 t368.length co22)) (fun _ hk => hk.2) (.slice Ao23 t371.length co23)) (fun _ hk => hk.2) (.slice Ao24 t374.length co24)) (fun _ hk => hk.2) (.slice Ao25 t377.length co25)) (fun _ hk => hk.2) (.slice Ao26 t380.length co26)) (fun _ hk => hk.2) (.slice Ao27 t383.length co27)) (fun _ h_ => h_.1))) hb); have n6_ := Aside0.mk (Kd.S_below (by (with_reducible repeat (first | apply Kd.S_alloc | apply Kd.S_drewN | apply Kd.S_drew)); exact (Kd.S_mono (Kd.S_far (p := ⟨gb387, 7, none⟩) (Kd.S_far (p := ⟨gb387, 6, none⟩) (Kd.S_far (p := ⟨gb387, 5, none⟩) (Kd.S_far (p := ⟨gb387, 4, none⟩) (Kd.S_far (p := ⟨gb387, 3, none⟩) (Kd.S_far (p := ⟨gb387, 2, none⟩) (Kd.S_far (p := ⟨gb387, 1, none⟩) (Kd.S_far (p := ⟨gb387, 0, none⟩) (Kd.S_types HO379.out BK387.out (by decide)) (fun _ hk => hk.2) (.slice Ao19 t362.length co19)) (fun _ hk => hk.2) (.slice Ao21 t365.length co21)) (fun _ hk => hk.2) (.slice Ao22 t368.length co22)) (fun _ hk => hk.2) (.slice Ao23 t371.length co23)) (fun _ hk => hk.2) (.slice Ao24 t374.length co24)) (fun _ hk => hk.2) (.slice Ao25 t377.length co25)) (fun _ hk => hk.2) (.slice Ao26 t380.length co26)) (fun _ hk => hk.2) (.slice Ao27 t383.length co27)) (fun _ h_ => h_.1))) hb); have n7_ := Aside0.mk (Kd.R_below (by (with_reducible repeat (first | apply Kd.R_alloc | apply Kd.R_drewN | apply Kd.R_drew)); exact (Kd.R_mono (Kd.R_far (p := ⟨gb387, 7, none⟩) (Kd.R_far (p := ⟨gb387, 6, none⟩) (Kd.R_far (p := ⟨gb387, 5, none⟩) (Kd.R_far (p := ⟨gb387, 4, none⟩) (Kd.R_far (p := ⟨gb387, 3, none⟩) (Kd.R_far (p := ⟨gb387, 2, none⟩) (Kd.R_far (p := ⟨gb387, 1, none⟩) (Kd.R_far (p := ⟨gb387, 0, none⟩) (Kd.R_types HO382.out BK387.out (by decide)) (fun _ hk => hk.2) (.slice Ao19 t362.length co19)) (fun _ hk => hk.2) (.slice Ao21 t365.length co21)) (fun _ hk => hk.2) (.slice Ao22 t368.length co22)) (fun _ hk => hk.2) (.slice Ao23 t371.length co23)) (fun _ hk => hk.2) (.slice Ao24 t374.length co24)) (fun _ hk => hk.2) (.slice Ao25 t377.length co25)) (fun _ hk => hk.2) (.slice Ao26 t380.length co26)) (fun _ hk => hk.2) (.slice Ao27 t383.length co27)) (fun _ h_ => h_.1))) hb); have n8_ := Aside0.mk (Kd.R_below (by (with_reducible repeat (first | apply Kd.R_alloc | apply Kd.R_drewN | apply Kd.R_drew)); exact (Kd.R_mono (Kd.R_far (p := ⟨gb387, 7, none⟩) (Kd.R_far (p := ⟨gb387, 6, none⟩) (Kd.R_far (p := ⟨gb387, 5, none⟩) (Kd.R_far (p := ⟨gb387, 4, none⟩) (Kd.R_far (p := ⟨gb387, 3, none⟩) (Kd.R_far (p := ⟨gb387, 2, none⟩) (Kd.R_far (p := ⟨gb387, 1, none⟩) (Kd.R_far (p := ⟨gb387, 0, none⟩) (Kd.R_types HO385.out BK387.out (by decide)) (fun _ hk => hk.2) (.slice Ao19 t362.length co19)) (fun _ hk => hk.2) (.slice Ao21 t365.length co21)) (fun _ hk => hk.2) (.slice Ao22 t368.length co22)) (fun _ hk => hk.2) (.slice Ao23 t371.length co23)) (fun _ hk => hk.2) (.slice Ao24 t374.length co24)) (fun _ hk => hk.2) (.slice Ao25 t377.length co25)) (fun _ hk => hk.2) (.slice Ao26 t380.length co26)) (fun _ hk => hk.2) (.slice Ao27 t383.length co27)) (fun _ h_ => h_.1))) hb); have n9_ := Aside0.mk (blk_below (g := gb387) (o := .cells #[.slice Ao19 t362.length co19, .slice Ao21 t365.length co21, .slice Ao22 t368.length co22, .slice Ao23 t371.length co23, .slice Ao24 t374.length co24, .slice Ao25 t377.length co25, .slice Ao26 t380.length co26, .slice Ao27 t383.length co27] 32 (0, 0)) (by (with_reducible repeat (first | refine blk_drewN ?_ _ | refine blk_drew ?_ | refine blk_alloc ?_ _)); refine blk_put (cs := #[.slice Ao19 t362.length co19, .slice Ao21 t365.length co21, .slice Ao22 t368.length co22, .slice Ao23 t371.length co23, .slice Ao24 t374.length co24, .slice Ao25 t377.length co25, .slice Ao26 t380.length co26, .slice none 0 0]) ?_ 7 _ rfl; (with_reducible repeat (first | refine blk_drewN ?_ _ | refine blk_drew ?_ | refine blk_alloc ?_ _)); refine blk_put (cs := #[.slice Ao19 t362.length co19, .slice Ao21 t365.length co21, .slice Ao22 t368.length co22, .slice Ao23 t371.length co23, .slice Ao24 t374.length co24, .slice Ao25 t377.length co25, .slice none 0 0, .slice none 0 0]) ?_ 6 _ rfl; (with_reducible repeat (first | refine blk_drewN ?_ _ | refine blk_drew ?_ | refine blk_alloc ?_ _)); refine blk_put (cs := #[.slice Ao19 t362.length co19, .slice Ao21 t365.length co21, .slice Ao22 t368.length co22, .slice Ao23 t371.length co23, .slice Ao24 t374.length co24, .slice none 0 0, .slice none 0 0, .slice none 0 0]) ?_ 5 _ rfl; (with_reducible repeat (first | refine blk_drewN ?_ _ | refine blk_drew ?_ | refine blk_alloc ?_ _)); refine blk_put (cs := #[.slice Ao19 t362.length co19, .slice Ao21 t365.length co21, .slice Ao22 t368.length co22, .slice Ao23 t371.length co23, .slice none 0 0, .slice none 0 0, .slice none 0 0, .slice none 0 0]) ?_ 4 _ rfl; (with_reducible repeat (first | refine blk_drewN ?_ _ | refine blk_drew ?_ | refine blk_alloc ?_ _)); refine blk_put (cs := #[.slice Ao19 t362.length co19, .slice Ao21 t365.length co21, .slice Ao22 t368.length co22, .slice none 0 0, .slice none 0 0, .slice none 0 0, .slice none 0 0, .slice none 0 0]) ?_ 3 _ rfl; (with_reducible repeat (first | refine blk_drewN ?_ _ | refine blk_drew ?_ | refine blk_alloc ?_ _)); refine blk_put (cs := #[.slice Ao19 t362.length co19, .slice Ao21 t365.length co21, .slice none 0 0, .slice none 0 0, .slice none 0 0, .slice none 0 0, .slice none 0 0, .slice none 0 0]) ?_ 2 _ rfl; (with_reducible repeat (first | refine blk_drewN ?_ _ | refine blk_drew ?_ | refine blk_alloc ?_ _)); refine blk_put (cs := #[.slice Ao19 t362.length co19, .slice none 0 0, .slice none 0 0, .slice none 0 0, .slice none 0 0, .slice none 0 0, .slice none 0 0, .slice none 0 0]) ?_ 1 _ rfl; (with_reducible repeat (first | refine blk_drewN ?_ _ | refine blk_drew ?_ | refine blk_alloc ?_ _)); refine blk_put (cs := #[.slice none 0 0, .slice none 0 0, .slice none 0 0, .slice none 0 0, .slice none 0 0, .slice none 0 0, .slice none 0 0, .slice none 0 0]) ?_ 0 _ rfl; (with_reducible repeat (first | refine blk_drewN ?_ _ | refine blk_drew ?_ | refine blk_alloc ?_ _)); exact BK387.out) hb); have n10_ := Aside0.mk (below_step (by repeat (first | (with_reducible first | exact HB.out | apply below_alloc | apply pw_below_drewN | apply below_drew1 | refine below_set ?_ GE387.out) | exact HB.out)) hb); clear HO361; clear HO364; clear HO367; clear HO370; clear HO373; clear HO376; clear HO379; clear HO382; clear HO385; clear BK387; clear HB; have HO361 := n0_; have HO364 := n1_; have HO367 := n2_; have HO370 := n3_; have HO373 := n4_; have HO376 := n5_; have HO379 := n6_; have HO382 := n7_; have HO385 := n8_; have BK387 := n9_; have HB := n10_; clear n0_ n1_ n2_ n3_ n4_ n5_ n6_ n7_ n8_ n9_ n10_; (try clear hb); (try clear hb2); (try clear hk); (try clear hi)))
        go_ret
        exact ⟨by first | rfl | (simp [errW_none, errW_some] <;> rfl) | (simp [*, errW_none, errW_some] <;> rfl), by repeat (first | (with_reducible first | exact HB.out | apply below_alloc | apply pw_below_drewN | apply below_drew1 | refine below_set ?_ GE387.out) | exact HB.out)⟩
       ·rw [if_neg c12] at H
        have c12b0 : (t388 == 1) = false := beq_eq_false_iff_ne.mpr c12
        have c12b1 : (t388 != 1) = true := bne_iff_ne.mpr c12
        exact absurd ((Option.some.inj H).trans hr_.out) (by decide)
      ·rw [if_neg c10] at H
       have c10b0 : decide (262144 < a0) = false := decide_eq_false c10
       clear c10
       replace H := Option.bind_eq_some_iff.mp H
       obtain ⟨t390, A290, H⟩ := H
       replace H : (if t390 = 270 then ((garrisonlaw27_live.f).bind fun t391 => (some t391)) else (some false)) = some r := H
       have A29 := Aside0.mk A290
       clear A290
       by_cases c30 : t390 = 270
       ·rw [if_pos c30] at H
        have c30b0 : (t390 == 270) = true := beq_iff_eq.mpr c30
        have c30b1 : (t390 != 270) = false := bne_eq_false_iff_eq.mpr c30
        clear c30
        replace H := Option.bind_eq_some_iff.mp H
        obtain ⟨t391, A310, H⟩ := H
        replace H : (some t391) = some r := H
        have A31 := Aside0.mk A310
        clear A310
        obtain rfl := Option.some.inj H
        go_wp2_with (first | ((with_reducible refine gate_dst (N := 15) rfl ?_); refine Kd.R_make (Kd.int .u8) _ 5 rfl (N := 15) rfl 48 _ _ rfl a0 rfl rfl Tryz.underlying48 (.int .u8 0) 1 info5 rfl (by decide) (by omega) 0 (ok := fun _ => True) (okp := fun _ => True) rfl (fun _ hk => hk) trivial (of_decide_eq_true (by first | (with_reducible assumption) | assumption)) (Nat.le_trans (Nat.mul_le_mul_right _ (of_decide_eq_true (by first | (with_reducible assumption) | assumption) : a0.toNat ≤ 281474976710656)) (by omega)) (Below.refl _ _) (Nat.le_refl _) ?_; intro v360 w32 ho33 hb hg_ hnew_; clear hg_ hnew_; (first | rw [← Ny359.out] at ho33 | (simp only [Int.reduceToNat] at ho33; rw [← Ny359.out] at ho33)); have n0_ := Aside0.mk (Kd.R_lower ho33 (below_size (by repeat (first | (with_reducible first | exact HB.out | apply below_alloc | apply pw_below_drewN | apply below_drew1) | exact HB.out)))); have n1_ := Aside0.mk (below_step (by repeat (first | (with_reducible first | exact HB.out | apply below_alloc | apply pw_below_drewN | apply below_drew1) | exact HB.out)) hb); clear HB; have HO361 := n0_; have HB := n1_; clear n0_ n1_; clear hb ho33; have hcv34 := own_string (P := Tryz.prog) Tryz.underlying48 Tryz.underlying5 Tryz.underlying9 (Kd.own_of_R HO361.out)) | ((with_reducible refine gate_callee (f := 15) rfl ?_); refine goesL_ (some 17) rfl rfl Tryz.func15 (by kernel_rfl) rfl #[.string (strOfNums y359)] rfl (by (try simp only [List.map_toArray, List.map_cons, List.map_nil]); first | done | rfl | (simp only [List.length_drop, List.length_take]; rfl)) ?_; (with_reducible refine (image_Parse.calls (strOfNums y359) t362 t365 t368 t371 t374 t377 t380 t383 t386 _ ?side1 A9.out).mono ?_); (case side1 => exact GL.below hG (by repeat (first | (with_reducible first | exact HB.out | apply below_alloc | apply pw_below_drewN | apply below_drew1) | exact HB.out))); rintro e w35 ⟨v363, v366, v369, v372, v375, v378, v381, v384, rfl, ho0, ho1, ho2, ho3, ho4, ho5, ho6, ho7, hb⟩; refine ⟨_, rfl, ?_⟩; have n0_ := Aside0.mk (Kd.R_below (by (with_reducible repeat (first | apply Kd.R_alloc | apply Kd.R_drewN | apply Kd.R_drew)); exact HO361.out) hb); have n1_ := Aside0.mk (Kd.R_lower ho0 (below_size (by repeat (first | (with_reducible first | exact HB.out | apply below_alloc | apply pw_below_drewN | apply below_drew1) | exact HB.out)))); have n2_ := Aside0.mk (Kd.S_lower ho1 (below_size (by repeat (first | (with_reducible first | exact HB.out | apply below_alloc | apply pw_below_drewN | apply below_drew1) | exact HB.out)))); have n3_ := Aside0.mk (Kd.S_lower ho2 (below_size (by repeat (first | (with_reducible first | exact HB.out | apply below_alloc | apply pw_below_drewN | apply below_drew1) | exact HB.out)))); have n4_ := Aside0.mk (Kd.R_lower ho3 (below_size (by repeat (first | (with_reducible first | exact HB.out | apply below_alloc | apply pw_below_drewN | apply below_drew1) | exact HB.out)))); have n5_ := Aside0.mk (Kd.S_lower ho4 (below_size (by repeat (first | (with_reducible first | exact HB.out | apply below_alloc | apply pw_below_drewN | apply below_drew1) | exact HB.out)))); have n6_ := Aside0.mk (Kd.S_lower ho5 (below_size (by repeat (first | (with_reducible first | exact HB.out | apply below_alloc | apply pw_below_drewN | apply below_drew1) | exact HB.out)))); have n7_ := Aside0.mk (Kd.R_lower ho6 (below_size (by repeat (first | (with_reducible first | exact HB.out | apply below_alloc | apply pw_below_drewN | apply below_drew1) | exact HB.out)))); have n8_ := Aside0.mk (Kd.R_lower ho7 (below_size (by repeat (first | (with_reducible first | exact HB.out | apply below_alloc | apply pw_below_drewN | apply below_drew1) | exact HB.out)))); have n9_ := Aside0.mk (below_step (by repeat (first | (with_reducible first | exact HB.out | apply below_alloc | apply pw_below_drewN | apply below_drew1) | exact HB.out)) hb); clear HO361; clear HB; have HO361 := n0_; have HO364 := n1_; have HO367 := n2_; have HO370 := n3_; have HO373 := n4_; have HO376 := n5_; have HO379 := n6_; have HO382 := n7_; have HO385 := n8_; have HB := n9_; clear n0_ n1_ n2_ n3_ n4_ n5_ n6_ n7_ n8_ n9_; (try clear hb); (try clear hb2); (try clear hk); (try clear hi); (try clear ho0); (try clear ho1); (try clear ho2); (try clear ho3); (try clear ho4); (try clear ho5); (try clear ho6); (try clear ho7)) | ((with_reducible refine gate_dst (N := 3) rfl ?_); refine box_event ?hg (N := 3) ?hd (cs := #[.slice none 0 0, .slice none 0 0, .slice none 0 0, .slice none 0 0, .slice none 0 0, .slice none 0 0, .slice none 0 0, .slice none 0 0]) (t := 32) ?hr ?_; (case hd => rfl); (case hg => rfl); (case hr => first | (go_simp; done) | (go_simp; rfl)); intro gb387 hg w36 hbox hb; have n0_ := Aside0.mk (Kd.R_below (by (with_reducible repeat (first | apply Kd.R_alloc | apply Kd.R_drewN | apply Kd.R_drew)); exact HO361.out) hb); have n1_ := Aside0.mk (Kd.R_below (by (with_reducible repeat (first | apply Kd.R_alloc | apply Kd.R_drewN | apply Kd.R_drew)); exact HO364.out) hb); have n2_ := Aside0.mk (Kd.S_below (by (with_reducible repeat (first | apply Kd.S_alloc | apply Kd.S_drewN | apply Kd.S_drew)); exact HO367.out) hb); have n3_ := Aside0.mk (Kd.S_below (by (with_reducible repeat (first | apply Kd.S_alloc | apply Kd.S_drewN | apply Kd.S_drew)); exact HO370.out) hb); have n4_ := Aside0.mk (Kd.R_below (by (with_reducible repeat (first | apply Kd.R_alloc | apply Kd.R_drewN | apply Kd.R_drew)); exact HO373.out) hb); have n5_ := Aside0.mk (Kd.S_below (by (with_reducible repeat (first | apply Kd.S_alloc | apply Kd.S_drewN | apply Kd.S_drew)); exact HO376.out) hb); have n6_ := Aside0.mk (Kd.S_below (by (with_reducible repeat (first | apply Kd.S_alloc | apply Kd.S_drewN | apply Kd.S_drew)); exact HO379.out) hb); have n7_ := Aside0.mk (Kd.R_below (by (with_reducible repeat (first | apply Kd.R_alloc | apply Kd.R_drewN | apply Kd.R_drew)); exact HO382.out) hb); have n8_ := Aside0.mk (Kd.R_below (by (with_reducible repeat (first | apply Kd.R_alloc | apply Kd.R_drewN | apply Kd.R_drew)); exact HO385.out) hb); have n9_ := Aside0.mk (below_step (by repeat (first | (with_reducible first | exact HB.out | apply below_alloc | apply pw_below_drewN | apply below_drew1) | exact HB.out)) hb); have n10_ := Aside0.mk (hbox); have n11_ := Aside0.mk ((by rw [hg]; exact (below_size (by repeat (first | (with_reducible first | exact HB.out | apply below_alloc | apply pw_below_drewN | apply below_drew1) | exact HB.out))) : w.heap.size ≤ gb387)); have n12_ := Aside0.mk ((by rw [hg]; exact (below_size (by repeat (first | (with_reducible first | exact HB.out | apply below_alloc | apply pw_below_drewN | apply below_drew1) | exact HB.out))) : w.heap.size ≤ gb387)); clear HO361; clear HO364; clear HO367; clear HO370; clear HO373; clear HO376; clear HO379; clear HO382; clear HO385; clear HB; have HO361 := n0_; have HO364 := n1_; have HO367 := n2_; have HO370 := n3_; have HO373 := n4_; have HO376 := n5_; have HO379 := n6_; have HO382 := n7_; have HO385 := n8_; have HB := n9_; have BK387 := n10_; have GW387 := n11_; have GE387 := n12_; clear n0_ n1_ n2_ n3_ n4_ n5_ n6_ n7_ n8_ n9_ n10_ n11_ n12_; clear hb hbox hg; obtain ⟨Ao37, co37, eo37⟩ := Kd.R_slice HO364.out; subst eo37; have hcz38_0 : w36.cell? ⟨gb387, 0, none⟩ = some (.slice none 0 0) := (blk_cell BK387.out 0).trans rfl; have hcz38_1 : w36.cell? ⟨gb387, 1, none⟩ = some (.slice none 0 0) := (blk_cell BK387.out 1).trans rfl; have hcz38_2 : w36.cell? ⟨gb387, 2, none⟩ = some (.slice none 0 0) := (blk_cell BK387.out 2).trans rfl; have hcz38_3 : w36.cell? ⟨gb387, 3, none⟩ = some (.slice none 0 0) := (blk_cell BK387.out 3).trans rfl; have hcz38_4 : w36.cell? ⟨gb387, 4, none⟩ = some (.slice none 0 0) := (blk_cell BK387.out 4).trans rfl; have hcz38_5 : w36.cell? ⟨gb387, 5, none⟩ = some (.slice none 0 0) := (blk_cell BK387.out 5).trans rfl; have hcz38_6 : w36.cell? ⟨gb387, 6, none⟩ = some (.slice none 0 0) := (blk_cell BK387.out 6).trans rfl; have hcz38_7 : w36.cell? ⟨gb387, 7, none⟩ = some (.slice none 0 0) := (blk_cell BK387.out 7).trans rfl; have hfz38_0 := blk_frozen BK387.out 0; have hfz38_1 := blk_frozen BK387.out 1; have hfz38_2 := blk_frozen BK387.out 2; have hfz38_3 := blk_frozen BK387.out 3; have hfz38_4 := blk_frozen BK387.out 4; have hfz38_5 := blk_frozen BK387.out 5; have hfz38_6 := blk_frozen BK387.out 6; have hfz38_7 := blk_frozen BK387.out 7; obtain ⟨Ao39, co39, eo39⟩ := Kd.S_slice HO367.out; subst eo39; obtain ⟨Ao40, co40, eo40⟩ := Kd.S_slice HO370.out; subst eo40; obtain ⟨Ao41, co41, eo41⟩ := Kd.R_slice HO373.out; subst eo41; obtain ⟨Ao42, co42, eo42⟩ := Kd.S_slice HO376.out; subst eo42; obtain ⟨Ao43, co43, eo43⟩ := Kd.S_slice HO379.out; subst eo43; obtain ⟨Ao44, co44, eo44⟩ := Kd.R_slice HO382.out; subst eo44; obtain ⟨Ao45, co45, eo45⟩ := Kd.R_slice HO385.out; subst eo45) | ((with_reducible refine gate_callee (f := 12) rfl ?_); refine goesL_ (some 23) rfl rfl Tryz.func12 (by kernel_rfl) rfl #[.int .i64 t386] rfl (by (try simp only [List.map_toArray, List.map_cons, List.map_nil]); first | done | rfl | (simp only [List.length_drop, List.length_take]; rfl)) ?_; (with_reducible refine (garrisonlaw27_num.calls t386 t390 _ A29.out).mono ?_); rintro e w' ⟨rfl, ⟨nd, rfl⟩⟩; refine ⟨_, rfl, ?_⟩) | (go_at_call 9; (with_reducible refine (garrisonlaw27_live.calls  t391 _ ?side1 A31.out).mono ?_); (case side1 => exact GL.below hG (by repeat (first | (with_reducible first | exact HB.out | apply below_alloc | apply pw_below_drewN | apply below_drew1 | refine below_set ?_ GE387.out) | exact HB.out))); rintro e w46 ⟨rfl, hb⟩; have n0_ := Aside0.mk (Kd.R_below (by (with_reducible repeat (first | apply Kd.R_alloc | apply Kd.R_drewN | apply Kd.R_drew)); exact (Kd.R_mono (Kd.R_far (p := ⟨gb387, 7, none⟩) (Kd.R_far (p := ⟨gb387, 6, none⟩) (Kd.R_far (p := ⟨gb387, 5, none⟩) (Kd.R_far (p := ⟨gb387, 4, none⟩) (Kd.R_far (p := ⟨gb387, 3, none⟩) (Kd.R_far (p := ⟨gb387, 2, none⟩) (Kd.R_far (p := ⟨gb387, 1, none⟩) (Kd.R_far (p := ⟨gb387, 0, none⟩) (Kd.R_types HO361.out BK387.out (by decide)) (fun _ hk => hk.2) (.slice Ao37 t362.length co37)) (fun _ hk => hk.2) (.slice Ao39 t365.length co39)) (fun _ hk => hk.2) (.slice Ao40 t368.length co40)) (fun _ hk => hk.2) (.slice Ao41 t371.length co41)) (fun _ hk => hk.2) (.slice Ao42 t374.length co42)) (fun _ hk => hk.2) (.slice Ao43 t377.length co43)) (fun _ hk => hk.2) (.slice Ao44 t380.length co44)) (fun _ hk => hk.2) (.slice Ao45 t383.length co45)) (fun _ h_ => h_.1))) hb); have n1_ := Aside0.mk (Kd.R_below (by (with_reducible repeat (first | apply Kd.R_alloc | apply Kd.R_drewN | apply Kd.R_drew)); exact (Kd.R_mono (Kd.R_far (p := ⟨gb387, 7, none⟩) (Kd.R_far (p := ⟨gb387, 6, none⟩) (Kd.R_far (p := ⟨gb387, 5, none⟩) (Kd.R_far (p := ⟨gb387, 4, none⟩) (Kd.R_far (p := ⟨gb387, 3, none⟩) (Kd.R_far (p := ⟨gb387, 2, none⟩) (Kd.R_far (p := ⟨gb387, 1, none⟩) (Kd.R_far (p := ⟨gb387, 0, none⟩) (Kd.R_types HO364.out BK387.out (by decide)) (fun _ hk => hk.2) (.slice Ao37 t362.length co37)) (fun _ hk => hk.2) (.slice Ao39 t365.length co39)) (fun _ hk => hk.2) (.slice Ao40 t368.length co40)) (fun _ hk => hk.2) (.slice Ao41 t371.length co41)) (fun _ hk => hk.2) (.slice Ao42 t374.length co42)) (fun _ hk => hk.2) (.slice Ao43 t377.length co43)) (fun _ hk => hk.2) (.slice Ao44 t380.length co44)) (fun _ hk => hk.2) (.slice Ao45 t383.length co45)) (fun _ h_ => h_.1))) hb); have n2_ := Aside0.mk (Kd.S_below (by (with_reducible repeat (first | apply Kd.S_alloc | apply Kd.S_drewN | apply Kd.S_drew)); exact (Kd.S_mono (Kd.S_far (p := ⟨gb387, 7, none⟩) (Kd.S_far (p := ⟨gb387, 6, none⟩) (Kd.S_far (p := ⟨gb387, 5, none⟩) (Kd.S_far (p := ⟨gb387, 4, none⟩) (Kd.S_far (p := ⟨gb387, 3, none⟩) (Kd.S_far (p := ⟨gb387, 2, none⟩) (Kd.S_far (p := ⟨gb387, 1, none⟩) (Kd.S_far (p := ⟨gb387, 0, none⟩) (Kd.S_types HO367.out BK387.out (by decide)) (fun _ hk => hk.2) (.slice Ao37 t362.length co37)) (fun _ hk => hk.2) (.slice Ao39 t365.length co39)) (fun _ hk => hk.2) (.slice Ao40 t368.length co40)) (fun _ hk => hk.2) (.slice Ao41 t371.length co41)) (fun _ hk => hk.2) (.slice Ao42 t374.length co42)) (fun _ hk => hk.2) (.slice Ao43 t377.length co43)) (fun _ hk => hk.2) (.slice Ao44 t380.length co44)) (fun _ hk => hk.2) (.slice Ao45 t383.length co45)) (fun _ h_ => h_.1))) hb); have n3_ := Aside0.mk (Kd.S_below (by (with_reducible repeat (first | apply Kd.S_alloc | apply Kd.S_drewN | apply Kd.S_drew)); exact (Kd.S_mono (Kd.S_far (p := ⟨gb387, 7, none⟩) (Kd.S_far (p := ⟨gb387, 6, none⟩) (Kd.S_far (p := ⟨gb387, 5, none⟩) (Kd.S_far (p := ⟨gb387, 4, none⟩) (Kd.S_far (p := ⟨gb387, 3, none⟩) (Kd.S_far (p := ⟨gb387, 2, none⟩) (Kd.S_far (p := ⟨gb387, 1, none⟩) (Kd.S_far (p := ⟨gb387, 0, none⟩) (Kd.S_types HO370.out BK387.out (by decide)) (fun _ hk => hk.2) (.slice Ao37 t362.length co37)) (fun _ hk => hk.2) (.slice Ao39 t365.length co39)) (fun _ hk => hk.2) (.slice Ao40 t368.length co40)) (fun _ hk => hk.2) (.slice Ao41 t371.length co41)) (fun _ hk => hk.2) (.slice Ao42 t374.length co42)) (fun _ hk => hk.2) (.slice Ao43 t377.length co43)) (fun _ hk => hk.2) (.slice Ao44 t380.length co44)) (fun _ hk => hk.2) (.slice Ao45 t383.length co45)) (fun _ h_ => h_.1))) hb); have n4_ := Aside0.mk (Kd.R_below (by (with_reducible repeat (first | apply Kd.R_alloc | apply Kd.R_drewN | apply Kd.R_drew)); exact (Kd.R_mono (Kd.R_far (p := ⟨gb387, 7, none⟩) (Kd.R_far (p := ⟨gb387, 6, none⟩) (Kd.R_far (p := ⟨gb387, 5, none⟩) (Kd.R_far (p := ⟨gb387, 4, none⟩) (Kd.R_far (p := ⟨gb387, 3, none⟩) (Kd.R_far (p := ⟨gb387, 2, none⟩) (Kd.R_far (p := ⟨gb387, 1, none⟩) (Kd.R_far (p := ⟨gb387, 0, none⟩) (Kd.R_types HO373.out BK387.out (by decide)) (fun _ hk => hk.2) (.slice Ao37 t362.length co37)) (fun _ hk => hk.2) (.slice Ao39 t365.length co39)) (fun _ hk => hk.2) (.slice Ao40 t368.length co40)) (fun _ hk => hk.2) (.slice Ao41 t371.length co41)) (fun _ hk => hk.2) (.slice Ao42 t374.length co42)) (fun _ hk => hk.2) (.slice Ao43 t377.length co43)) (fun _ hk => hk.2) (.slice Ao44 t380.length co44)) (fun _ hk => hk.2) (.slice Ao45 t383.length co45)) (fun _ h_ => h_.1))) hb); have n5_ := Aside0.mk (Kd.S_below (by (with_reducible repeat (first | apply Kd.S_alloc | apply Kd.S_drewN | apply Kd.S_drew)); exact (Kd.S_mono (Kd.S_far (p := ⟨gb387, 7, none⟩) (Kd.S_far (p := ⟨gb387, 6, none⟩) (Kd.S_far (p := ⟨gb387, 5, none⟩) (Kd.S_far (p := ⟨gb387, 4, none⟩) (Kd.S_far (p := ⟨gb387, 3, none⟩) (Kd.S_far (p := ⟨gb387, 2, none⟩) (Kd.S_far (p := ⟨gb387, 1, none⟩) (Kd.S_far (p := ⟨gb387, 0, none⟩) (Kd.S_types HO376.out BK387.out (by decide)) (fun _ hk => hk.2) (.slice Ao37 t362.length co37)) (fun _ hk => hk.2) (.slice Ao39 t365.length co39)) (fun _ hk => hk.2) (.slice Ao40 t368.length co40)) (fun _ hk => hk.2) (.slice Ao41 t371.length co41)) (fun _ hk => hk.2) (.slice Ao42 t374.length co42)) (fun _ hk => hk.2) (.slice Ao43 t377.length co43)) (fun _ hk => hk.2) (.slice Ao44 t380.length co44)) (fun _ hk => hk.2) (.slice Ao45 t383.length co45)) (fun _ h_ => h_.1))) hb); have n6_ := Aside0.mk (Kd.S_below (by (with_reducible repeat (first | apply Kd.S_alloc | apply Kd.S_drewN | apply Kd.S_drew)); exact (Kd.S_mono (Kd.S_far (p := ⟨gb387, 7, none⟩) (Kd.S_far (p := ⟨gb387, 6, none⟩) (Kd.S_far (p := ⟨gb387, 5, none⟩) (Kd.S_far (p := ⟨gb387, 4, none⟩) (Kd.S_far (p := ⟨gb387, 3, none⟩) (Kd.S_far (p := ⟨gb387, 2, none⟩) (Kd.S_far (p := ⟨gb387, 1, none⟩) (Kd.S_far (p := ⟨gb387, 0, none⟩) (Kd.S_types HO379.out BK387.out (by decide)) (fun _ hk => hk.2) (.slice Ao37 t362.length co37)) (fun _ hk => hk.2) (.slice Ao39 t365.length co39)) (fun _ hk => hk.2) (.slice Ao40 t368.length co40)) (fun _ hk => hk.2) (.slice Ao41 t371.length co41)) (fun _ hk => hk.2) (.slice Ao42 t374.length co42)) (fun _ hk => hk.2) (.slice Ao43 t377.length co43)) (fun _ hk => hk.2) (.slice Ao44 t380.length co44)) (fun _ hk => hk.2) (.slice Ao45 t383.length co45)) (fun _ h_ => h_.1))) hb); have n7_ := Aside0.mk (Kd.R_below (by (with_reducible repeat (first | apply Kd.R_alloc | apply Kd.R_drewN | apply Kd.R_drew)); exact (Kd.R_mono (Kd.R_far (p := ⟨gb387, 7, none⟩) (Kd.R_far (p := ⟨gb387, 6, none⟩) (Kd.R_far (p := ⟨gb387, 5, none⟩) (Kd.R_far (p := ⟨gb387, 4, none⟩) (Kd.R_far (p := ⟨gb387, 3, none⟩) (Kd.R_far (p := ⟨gb387, 2, none⟩) (Kd.R_far (p := ⟨gb387, 1, none⟩) (Kd.R_far (p := ⟨gb387, 0, none⟩) (Kd.R_types HO382.out BK387.out (by decide)) (fun _ hk => hk.2) (.slice Ao37 t362.length co37)) (fun _ hk => hk.2) (.slice Ao39 t365.length co39)) (fun _ hk => hk.2) (.slice Ao40 t368.length co40)) (fun _ hk => hk.2) (.slice Ao41 t371.length co41)) (fun _ hk => hk.2) (.slice Ao42 t374.length co42)) (fun _ hk => hk.2) (.slice Ao43 t377.length co43)) (fun _ hk => hk.2) (.slice Ao44 t380.length co44)) (fun _ hk => hk.2) (.slice Ao45 t383.length co45)) (fun _ h_ => h_.1))) hb); have n8_ := Aside0.mk (Kd.R_below (by (with_reducible repeat (first | apply Kd.R_alloc | apply Kd.R_drewN | apply Kd.R_drew)); exact (Kd.R_mono (Kd.R_far (p := ⟨gb387, 7, none⟩) (Kd.R_far (p := ⟨gb387, 6, none⟩) (Kd.R_far (p := ⟨gb387, 5, none⟩) (Kd.R_far (p := ⟨gb387, 4, none⟩) (Kd.R_far (p := ⟨gb387, 3, none⟩) (Kd.R_far (p := ⟨gb387, 2, none⟩) (Kd.R_far (p := ⟨gb387, 1, none⟩) (Kd.R_far (p := ⟨gb387, 0, none⟩) (Kd.R_types HO385.out BK387.out (by decide)) (fun _ hk => hk.2) (.slice Ao37 t362.length co37)) (fun _ hk => hk.2) (.slice Ao39 t365.length co39)) (fun _ hk => hk.2) (.slice Ao40 t368.length co40)) (fun _ hk => hk.2) (.slice Ao41 t371.length co41)) (fun _ hk => hk.2) (.slice Ao42 t374.length co42)) (fun _ hk => hk.2) (.slice Ao43 t377.length co43)) (fun _ hk => hk.2) (.slice Ao44 t380.length co44)) (fun _ hk => hk.2) (.slice Ao45 t383.length co45)) (fun _ h_ => h_.1))) hb); have n9_ := Aside0.mk (blk_below (g := gb387) (o := .cells #[.slice Ao37 t362.length co37, .slice Ao39 t365.length co39, .slice Ao40 t368.length co40, .slice Ao41 t371.length co41, .slice Ao42 t374.length co42, .slice Ao43 t377.length co43, .slice Ao44 t380.length co44, .slice Ao45 t383.length co45] 32 (0, 0)) (by (with_reducible repeat (first | refine blk_drewN ?_ _ | refine blk_drew ?_ | refine blk_alloc ?_ _)); refine blk_put (cs := #[.slice Ao37 t362.length co37, .slice Ao39 t365.length co39, .slice Ao40 t368.length co40, .slice Ao41 t371.length co41, .slice Ao42 t374.length co42, .slice Ao43 t377.length co43, .slice Ao44 t380.length co44, .slice none 0 0]) ?_ 7 _ rfl; (with_reducible repeat (first | refine blk_drewN ?_ _ | refine blk_drew ?_ | refine blk_alloc ?_ _)); refine blk_put (cs := #[.slice Ao37 t362.length co37, .slice Ao39 t365.length co39, .slice Ao40 t368.length co40, .slice Ao41 t371.length co41, .slice Ao42 t374.length co42, .slice Ao43 t377.length co43, .slice none 0 0, .slice none 0 0]) ?_ 6 _ rfl; (with_reducible repeat (first | refine blk_drewN ?_ _ | refine blk_drew ?_ | refine blk_alloc ?_ _)); refine blk_put (cs := #[.slice Ao37 t362.length co37, .slice Ao39 t365.length co39, .slice Ao40 t368.length co40, .slice Ao41 t371.length co41, .slice Ao42 t374.length co42, .slice none 0 0, .slice none 0 0, .slice none 0 0]) ?_ 5 _ rfl; (with_reducible repeat (first | refine blk_drewN ?_ _ | refine blk_drew ?_ | refine blk_alloc ?_ _)); refine blk_put (cs := #[.slice Ao37 t362.length co37, .slice Ao39 t365.length co39, .slice Ao40 t368.length co40, .slice Ao41 t371.length co41, .slice none 0 0, .slice none 0 0, .slice none 0 0, .slice none 0 0]) ?_ 4 _ rfl; (with_reducible repeat (first | refine blk_drewN ?_ _ | refine blk_drew ?_ | refine blk_alloc ?_ _)); refine blk_put (cs := #[.slice Ao37 t362.length co37, .slice Ao39 t365.length co39, .slice Ao40 t368.length co40, .slice none 0 0, .slice none 0 0, .slice none 0 0, .slice none 0 0, .slice none 0 0]) ?_ 3 _ rfl; (with_reducible repeat (first | refine blk_drewN ?_ _ | refine blk_drew ?_ | refine blk_alloc ?_ _)); refine blk_put (cs := #[.slice Ao37 t362.length co37, .slice Ao39 t365.length co39, .slice none 0 0, .slice none 0 0, .slice none 0 0, .slice none 0 0, .slice none 0 0, .slice none 0 0]) ?_ 2 _ rfl; (with_reducible repeat (first | refine blk_drewN ?_ _ | refine blk_drew ?_ | refine blk_alloc ?_ _)); refine blk_put (cs := #[.slice Ao37 t362.length co37, .slice none 0 0, .slice none 0 0, .slice none 0 0, .slice none 0 0, .slice none 0 0, .slice none 0 0, .slice none 0 0]) ?_ 1 _ rfl; (with_reducible repeat (first | refine blk_drewN ?_ _ | refine blk_drew ?_ | refine blk_alloc ?_ _)); refine blk_put (cs := #[.slice none 0 0, .slice none 0 0, .slice none 0 0, .slice none 0 0, .slice none 0 0, .slice none 0 0, .slice none 0 0, .slice none 0 0]) ?_ 0 _ rfl; (with_reducible repeat (first | refine blk_drewN ?_ _ | refine blk_drew ?_ | refine blk_alloc ?_ _)); exact BK387.out) hb); have n10_ := Aside0.mk (below_step (by repeat (first | (with_reducible first | exact HB.out | apply below_alloc | apply pw_below_drewN | apply below_drew1 | refine below_set ?_ GE387.out) | exact HB.out)) hb); clear HO361; clear HO364; clear HO367; clear HO370; clear HO373; clear HO376; clear HO379; clear HO382; clear HO385; clear BK387; clear HB; have HO361 := n0_; have HO364 := n1_; have HO367 := n2_; have HO370 := n3_; have HO373 := n4_; have HO376 := n5_; have HO379 := n6_; have HO382 := n7_; have HO385 := n8_; have BK387 := n9_; have HB := n10_; clear n0_ n1_ n2_ n3_ n4_ n5_ n6_ n7_ n8_ n9_ n10_; (try clear hb); (try clear hb2); (try clear hk); (try clear hi)))
        go_ret
        exact ⟨by first | rfl | (simp [errW_none, errW_some] <;> rfl) | (simp [*, errW_none, errW_some] <;> rfl), by repeat (first | (with_reducible first | exact HB.out | apply below_alloc | apply pw_below_drewN | apply below_drew1 | refine below_set ?_ GE387.out) | exact HB.out)⟩
       ·rw [if_neg c30] at H
        have c30b0 : (t390 == 270) = false := beq_eq_false_iff_ne.mpr c30
        have c30b1 : (t390 != 270) = true := bne_iff_ne.mpr c30
        exact absurd ((Option.some.inj H).trans hr_.out) (by decide)
     ·rw [if_neg c8] at H
      exact absurd H (by simp)
    ·rw [if_neg c7] at H
     exact absurd H (by simp)

/-- THE ONE PURE STATEMENT of garrisonlaw27_ImageLong: yours. -/
def garrisonlaw27_ImageLong.Pure : Prop := ∀ (a0 : Int), (Lit.int .i64 a0).wf = true → ∃ k, garrisonlaw27_ImageLong.f k a0 = some true
theorem garrisonlaw27_ImageLong.walk (P : garrisonlaw27_ImageLong.Pure) (a0 : Int) (w : World) (hG : GL w) (w0 : (Lit.int .i64 a0).wf = true) :
  Calls Tryz.prog 6 #[.int .i64 a0] w fun e w' => e = .returned (.bool true) ∧ Below w.heap.size w w' := by
 obtain ⟨k, h⟩ := P a0 w0
 refine (garrisonlaw27_ImageLong.calls k a0 true w hG ⟨rfl⟩ h).mono ?_
 rintro e w' ⟨rfl, hd⟩
 exact ⟨rfl, hd⟩

end Go.Proofs.YtmcjccigglekpaaGreatDoor.P
namespace Go.Proofs.YtmcjccigglekpaaGreatDoor.Plain
open Go

theorem index_one_none : ∀ (l : List UInt8) (c : UInt8), (∀ x ∈ l, x ≠ c) → Lib.index l [c] = -1
 | [], _, _ => rfl
 | b :: l, c, h => by
  have hb := h b List.mem_cons_self
  have ih := index_one_none l c (fun x hx => h x (List.mem_cons_of_mem _ hx))
  unfold Lib.index
  rw [ih]
  simp [List.isPrefixOf, Ne.symm hb]
theorem index_one_at : ∀ (l r : List UInt8) (c : UInt8), (∀ x ∈ l, x ≠ c) → Lib.index (l ++ c :: r) [c] = (l.length : Int)
 | [], r, c, _ => by
  show Lib.index (c :: r) [c] = 0
  unfold Lib.index
  simp [List.isPrefixOf]
 | b :: l, r, c, h => by
  have hb := h b List.mem_cons_self
  have ih := index_one_at l r c (fun x hx => h x (List.mem_cons_of_mem _ hx))
  show Lib.index (b :: (l ++ c :: r)) [c] = _
  unfold Lib.index
  rw [ih]
  have : ((l.length : Int) == -1) = false := by rw [beq_eq_false_iff_ne]; omega
  simp [List.isPrefixOf, Ne.symm hb, this]
theorem cut_none (l : List UInt8) (c : UInt8) (h : ∀ x ∈ l, x ≠ c) : Lib.cut l [c] = (l, [], false) := by
 unfold Lib.cut
 rw [index_one_none l c h, if_neg (by omega)]
theorem cut_at (l r : List UInt8) (c : UInt8) (h : ∀ x ∈ l, x ≠ c) : Lib.cut (l ++ c :: r) [c] = (l, r, true) := by
 unfold Lib.cut
 rw [index_one_at l r c h, if_pos (by omega)]
 simp

/-- Words with blanks between. -/
def joinL : List (List UInt8) → List UInt8
 | [] => []
 | [w] => w
 | w :: v :: ws => w ++ 32 :: joinL (v :: ws)
/-- No blank, no line feed. -/
def Word (w : List UInt8) : Prop := ∀ c ∈ w, c ≠ 32 ∧ c ≠ 10
theorem joinL_cons (w v : List UInt8) (ws : List (List UInt8)) : joinL (w :: v :: ws) = w ++ 32 :: joinL (v :: ws) := rfl
theorem joinL_flat (w : List UInt8) (ws : List (List UInt8)) : joinL (w :: ws) = w ++ ws.flatMap (fun v => 32 :: v) := by
 induction ws generalizing w with
 | nil => simp [joinL]
 | cons v ws ih => rw [joinL_cons, ih v]; simp
theorem joinL_noLF : ∀ (ws : List (List UInt8)), (∀ w ∈ ws, Word w) → ∀ c ∈ joinL ws, c ≠ 10
 | [], _, c, hc => by simp [joinL] at hc
 | [w], h, c, hc => (h w List.mem_cons_self c hc).2
 | w :: v :: ws, h, c, hc => by
  rw [joinL_cons] at hc
  rcases List.mem_append.1 hc with hc | hc
  ·exact (h w List.mem_cons_self c hc).2
  ·rcases List.mem_cons.1 hc with hc | hc
   ·rw [hc]; decide
   ·exact joinL_noLF (v :: ws) (fun x hx => h x (List.mem_cons_of_mem _ hx)) c hc
theorem split_join : ∀ (w : List UInt8) (ws : List (List UInt8)), (∀ x ∈ w :: ws, Word x) → Lib.count (joinL (w :: ws)) [32] = ws.length ∧ ∀ k, ws.length ≤ k → Lib.splitK [32] 0 k (joinL (w :: ws)) = w :: ws
 | w, [], h => by
  have hi := index_one_none w 32 (fun x hx => (h w List.mem_cons_self x hx).1)
  refine ⟨Lib.count_miss hi, fun k _ => ?_⟩
  cases k with
  | zero => rfl
  | succ k => show Lib.splitK [32] 0 (k + 1) w = [w]; unfold Lib.splitK; rw [hi]; rfl
 | w, v :: ws, h => by
  have hi := index_one_at w (joinL (v :: ws)) 32 (fun x hx => (h w List.mem_cons_self x hx).1)
  obtain ⟨h1, h2⟩ := split_join v ws (fun x hx => h x (List.mem_cons_of_mem _ hx))
  have hd : (w ++ 32 :: joinL (v :: ws)).drop (w.length + 1) = joinL (v :: ws) := by simp
  rw [joinL_cons]
  refine ⟨?_, fun k hk => ?_⟩
  ·rw [Lib.count_hit (by simp) hi]
   show 1 + Lib.count ((w ++ 32 :: joinL (v :: ws)).drop (w.length + 1)) [32] = _
   rw [hd, h1, List.length_cons]
   omega
  ·obtain ⟨k, rfl⟩ : ∃ m, k = m + 1 := ⟨k - 1, by simp only [List.length_cons] at hk; omega⟩
   unfold Lib.splitK
   rw [hi]
   have : ((w.length : Int) == -1) = false := by rw [beq_eq_false_iff_ne]; omega
   rw [this]
   show (w ++ 32 :: joinL (v :: ws)).take ((w.length : Int).toNat + 0) :: Lib.splitK [32] 0 k ((w ++ 32 :: joinL (v :: ws)).drop ((w.length : Int).toNat + 1)) = _
   rw [Int.toNat_natCast, hd, h2 k (by simp only [List.length_cons] at hk; omega)]
   simp
theorem ba_ext {a b : ByteArray} (h : a.data.toList = b.data.toList) : a = b := by
 cases a; cases b; congr 1; exact Array.toList_inj.1 h
theorem pieces_join (w : ByteArray) (ws : List ByteArray) (s : ByteArray) (hs : s.data.toList = joinL ((w :: ws).map (fun x => x.data.toList))) (h : ∀ x ∈ w :: ws, Word x.data.toList) :
  Lib.splitB ⟨#[32]⟩ 0 (Lib.countB s ⟨#[32]⟩) s = w :: ws := by
 obtain ⟨h1, h2⟩ := split_join w.data.toList (ws.map (fun x => x.data.toList)) (by
  intro x hx
  rw [← List.map_cons (f := fun x : ByteArray => x.data.toList)] at hx
  obtain ⟨y, hy, rfl⟩ := List.mem_map.1 hx
  exact h y hy)
 have hd := Lib.splitB_data ⟨#[32]⟩ 0 (Lib.countB s ⟨#[32]⟩) s
 have hc : Lib.countB s ⟨#[32]⟩ = ws.length := by
  show Lib.count s.data.toList [32] = _
  rw [hs]
  rw [List.map_cons, h1, List.length_map]
 rw [hc] at hd ⊢
 have hk := h2 ws.length (by simp)
 have he : (Lib.splitB ⟨#[32]⟩ 0 ws.length s).map (fun x => x.data.toList) = (w :: ws).map (fun x => x.data.toList) := by
  rw [hd]
  show Lib.splitK [32] 0 ws.length s.data.toList = _
  rw [hs]
  exact hk
 exact (List.map_inj_right (fun a b h => ba_ext h)).1 he
end Go.Proofs.YtmcjccigglekpaaGreatDoor.Plain
namespace Go.Proofs.YtmcjccigglekpaaGreatDoor.Plain
open Go Go.RowKit Go.Proofs.YtmcjccigglekpaaGreatDoor.P Go.Proofs.YtmcjccigglekpaaGreatDoor.Given Go.Proofs.YtmcjccigglekpaaGreatDoorW.PrintWords Go.Proofs.YtmcjccigglekpaaGreatDoorW.PrintLast
theorem strOfNums_data (l : List Int) : (strOfNums l).data.toList = l.map (fun n => UInt8.ofNat n.toNat) := by
 unfold strOfNums; simp
theorem putT_pos (s : St) : 0 < (putT s).size := by
 unfold putT
 rw [ByteArray.size_append, show (⟨#[10]⟩ : ByteArray).size = 1 from rfl]
 omega
theorem stepLine_false (x : St × Int) (l : ByteArray) : stepLine x l false = none := by
 unfold stepLine
 split
 ·rfl
 ·rw [if_neg (by decide)]
theorem cut_no {s : ByteArray} (h : ∀ c ∈ s.data.toList, c ≠ 10) : cutC s ⟨#[10]⟩ = false := by
 unfold cutC
 rw [show (⟨#[10]⟩ : ByteArray).data.toList = [10] from rfl, cut_none _ _ h]
theorem parse_zeros (n : Nat) (hn : ¬ ((n : Int) > 262144)) : (parseI (strOfNums (List.replicate n 0))).2 = 270 := by
 have hd := strOfNums_data (List.replicate n 0)
 have hsz : (strOfNums (List.replicate n 0)).size = n := by
  show (strOfNums (List.replicate n 0)).data.size = n
  rw [← Array.length_toList, hd]; simp
 generalize strOfNums (List.replicate n 0) = z at *
 have hne : ∀ c ∈ z.data.toList, c ≠ 10 := by
  rw [hd, List.map_replicate]
  intro c hc
  rw [List.eq_of_mem_replicate hc]
  decide
 unfold parseI
 rw [if_neg (by rw [hsz]; exact hn)]
 by_cases h0 : z.size = 0
 ·have hf : foldLines stepLine (z.size + 1) z (stZ, -1) = some (stZ, -1) := by
   unfold foldLines; rw [if_pos h0]
  rw [hf]
  dsimp only
  rw [if_neg (fun h => by have := putT_pos stZ; rw [h.2, h0] at this; omega)]
 ·have hf : foldLines stepLine (z.size + 1) z (stZ, -1) = none := by
   unfold foldLines; rw [if_neg h0, cut_no hne, stepLine_false]; rfl
  rw [hf]
theorem parse_long (n : Nat) (hn : (n : Int) > 262144) : (parseI (strOfNums (List.replicate n 0))).2 = 1 := by
 have hsz : (strOfNums (List.replicate n 0)).size = n := by
  show (strOfNums (List.replicate n 0)).data.size = n
  rw [← Array.length_toList, strOfNums_data]; simp
 unfold parseI
 rw [if_pos (by rw [hsz]; exact hn)]
end Go.Proofs.YtmcjccigglekpaaGreatDoor.Plain
namespace Go.Proofs.YtmcjccigglekpaaGreatDoor.Pure
open Go.RowKit Go.Proofs.YtmcjccigglekpaaGreatDoor.P Go.Proofs.YtmcjccigglekpaaGreatDoor.Plain Go.Proofs.YtmcjccigglekpaaGreatDoor.Given

theorem ImageLong : garrisonlaw27_ImageLong.Pure := by
 intro a0 hw
 refine ⟨1, ?_⟩
 unfold garrisonlaw27_ImageLong.f
 by_cases h0 : a0 < 0
 ·rw [if_pos h0]; rfl
 ·rw [if_neg h0]
  by_cases h1 : a0 > 262244
  ·rw [decide_eq_true h1]; rfl
  ·rw [decide_eq_false h1]
   unfold garrisonlaw27_ImageLong.j0
   dsimp only
   obtain ⟨n, rfl⟩ := Int.eq_ofNat_of_zero_le (show 0 ≤ a0 by omega)
   rw [if_neg (by decide), if_pos (by omega), if_pos (by rw [Int.toNat_natCast]; omega), Int.toNat_natCast]
   unfold image_Parse.f
   by_cases h2 : (n : Int) > 262144
   ·have := parse_long n h2
    simp only [Option.bind_some, garrisonlaw27_num.f]
    rw [if_pos h2, this]; rfl
   ·have := parse_zeros n h2
    simp only [Option.bind_some, garrisonlaw27_num.f]
    rw [if_neg h2, this]; rfl
end Go.Proofs.YtmcjccigglekpaaGreatDoor.Pure
namespace Go.Proofs.YtmcjccigglekpaaGreatDoor.Given
open Go Go.RowKit Go.Proofs Go.Shelf

theorem star : "*" ++ "errors.errorString" = "*errors.errorString" := by decide
theorem rowErr (u : TypeId) (h : Tryz.prog.typeName? 3 u = some "*errors.errorString") : u = 313 :=
  typeName_ptr_named (P := Tryz.prog) (nm := "errors.errorString") (by rw [star]; kernel_rfl) (by kernel_rfl) (by decide) u (by rw [star]; exact h)
theorem errcell {n : String} {text : List UInt8} {r : List (String × DataW Unit)} {W : World} {g : Nat} (h : laidMet Tryz.prog ((n, .iface "*errors.errorString" (.ptr (.agg [.lit (.string text)]))) :: r) W)
    (hg : Tryz.prog.globalNamed n = some g) (ht : (Tryz.prog.globals[g]?).map (·.type) = some 137) : ErrCell W g := by
  obtain ⟨a0, s0, hv0, _, _, _⟩ := laid_sentinel h hg ht Tryz.underlying137 rowErr Tryz.underlying313 Tryz.underlying315 rfl rfl Tryz.underlying9 (by kernel_rfl) (by kernel_rfl)
  exact ⟨_, by have h0 := World.var?_cell hg hv0 0; simpa using h0, Or.inr ⟨_, _, rfl⟩⟩
theorem pow_eq {H : Type} : (Rows.laid_internal_strconv_uint64pow10 : DataW H) = Lib.tabData .u64 Lib.pow10Tab := rfl
theorem tab_of_laid {W : World} {r : List (String × DataW Unit)} (h : laidMet Tryz.prog (("internal/strconv.uint64pow10", Rows.laid_internal_strconv_uint64pow10) :: r) W) : Lib.TabIs Tryz.prog W "internal/strconv.uint64pow10" .u64 Lib.pow10Tab := by
  obtain ⟨ps, h0, _⟩ := h
  obtain ⟨g, t, cs, fuel, p, q, hg, ht, hvar, hd, _, _⟩ := h0
  have e0 : some g = some 0 := hg.symm.trans (by kernel_rfl)
  obtain rfl := Option.some.inj e0
  have e1 : some t = some 277 := ht.symm.trans (by kernel_rfl)
  obtain rfl := Option.some.inj e1
  have hd' : DataW.trod _ Tryz.prog W _ _ _ fuel 277 cs.toList = some (Lib.tabData .u64 Lib.pow10Tab, p) := hd
  have hc := Lib.cells_of_tab Tryz.underlying277 Tryz.underlying88 (by kernel_rfl) (by kernel_rfl) hd'
  unfold Lib.TabIs
  rw [hvar, ← hc]
theorem GL_of_laid {W : World} (h : laidMet Tryz.prog Rows.imageLongRow.laid W) (hs : W.ShapedOpen Tryz.prog) : GL W :=
  ⟨tab_of_laid h.tail.tail, errcell h.tail.tail.tail.tail.tail (by kernel_rfl) (by kernel_rfl), errcell h.tail.tail.tail.tail (by kernel_rfl) (by kernel_rfl),
   cell_of_shapedOpen_int (zero := #[.int .i64 0]) (t := 3) hs (by decide) (by kernel_rfl) rfl (by kernel_rfl) (by kernel_rfl) Tryz.underlying3⟩

/-- A row over listed variables and the world's shape. -/
theorem lift_shaped {H : Type} {enc : TypeId × Value → H} {C : Checked} {os : Os} {f : FuncId} {fn : Func} {s : ChangeSpec} {laid : List (String × DataW Unit)}
    (own : ownKnob C.prog.godebug = none) (started : os.Started) (noInit : C.prog.inits.idxOf? f = none) (hfn : C.prog.funcs[f]? = some fn) (args0 : Array Value)
    (hsh : ((World.laidAll C.prog os laid).forCall (fun _ _ => 0) ⟨#[], args0, []⟩).Shaped C.prog)
    (hok : Input.okWideB C.prog ((World.laidAll C.prog os laid).forCall (fun _ _ => 0) ⟨#[], args0, []⟩) f ⟨#[], args0, []⟩ = true)
    (hpre : s.preB enc C.prog fn [] false ((World.laidAll C.prog os laid).forCall (fun _ _ => 0) ⟨#[], args0, []⟩).memory args0 8 = true)
    (hsz : s.sizedB enc C.prog fn false ((World.laidAll C.prog os laid).forCall (fun _ _ => 0) ⟨#[], args0, []⟩).memory args0 8 = true)
    (hx : laidMet C.prog laid ((World.laidAll C.prog os laid).forCall (fun _ _ => 0) ⟨#[], args0, []⟩).memory)
    (main : ∀ (W : World) (base : Nat) (args : Array Value) (ds gs : List (DataW H)) (before : List MemPlace),
      (∀ (j : Nat) t v, fn.params[j]? = some t → args[j]? = some v → Value.okWide C.prog W .any base t v) →
      DataW.Whole enc C.prog fn.params.toList s.vars false W args.toList ds gs before →
      (DataW.weightsEach C.prog (fn.params.toList ++ s.plain.varTypes C.prog) (ds ++ gs)).all (· ≤ reachBytes) = true →
      laidMet C.prog laid W → W.ShapedOpen C.prog →
      Calls C.prog f args W fun e W' => ∃ v, e = .returned v ∧ s.post enc C.prog fn false true false false W args v W') :
    ReturnsInHanded {} C os f .any (fun w args => (s.pre enc C.prog fn [] false w args ∧ laidMet C.prog laid w) ∧ sizedMet enc C.prog fn (OpenSpec.ofChange s) false w args) (s.post enc C.prog fn false true false false) := by
  refine returnsInHanded_of_calls own started noInit (ChangeSpec.witness_shaped (enc := enc) (C := C) (os := os) (X := fun w _ => laidMet C.prog laid w) false (World.laidAll C.prog os laid) args0 8 (World.laidAll_os _ _ _) hsh hok hpre hsz hx) ?_
  intro w tape i _ hshape _ hin hp _
  obtain ⟨_, _, _, fn1, hfn1, _, _, _, _, hval⟩ := hin
  obtain rfl := Option.some.inj (hfn1.symm.trans hfn)
  obtain ⟨⟨⟨ds, gs, before, hw, _⟩, hl⟩, hz⟩ := hp
  have hl1 : laidMet C.prog laid (w.forCall tape i) := hl.of_heap (by rfl)
  refine (main (w.forCall tape i) w.heap.size i.args ds gs before hval (DataW.Whole.of_heap (w' := w.forCall tape i) (by rfl) hw) (hz.weights hw) hl1 hshape).mono ?_
  rintro e W1 ⟨v, rfl, hpost⟩
  exact ChangeSpec.post_blind hpost
set_option maxRecDepth 1000000 in
theorem laid_shaped (os : Os) (args : Array Value) : ((World.laidAll Tryz.prog os Rows.imageLongRow.laid).forCall (fun _ _ => 0) ⟨#[], args, []⟩).Shaped Tryz.prog :=
  World.shaped_of_ZipB (by kernel_rfl) (by kernel_rfl)
set_option maxRecDepth 1000000 in
theorem laid_met (os : Os) (args : Array Value) : laidMet Tryz.prog Rows.imageLongRow.laid ((World.laidAll Tryz.prog os Rows.imageLongRow.laid).forCall (fun _ _ => 0) ⟨#[], args, []⟩).memory :=
  laidMet_laidAll _ (by kernel_rfl) (by kernel_rfl)
end Go.Proofs.YtmcjccigglekpaaGreatDoor.Given
