/- Texts of this seat, joined. -/
import Derived.Test.YtmcjccigglekpaaGreatDoorA3
import Derived.Laws.Rows
import Derived.Laws.Cells
import Derived.Lib.SplitLaws
import Derived.Lib.ParseIntBTie
import Derived.Lib.ParseIntBCases
import Derived.Lib.ItoaMem
import Derived.Test.YtmcjccigglekpaaGreatDoorA2
import Derived.Test.YtmcjccigglekpaaGreatDoorA1
import Derived.StillTailTactics
namespace Go.Proofs.YtmcjccigglekpaaGreatDoor.Given
open Go Go.RowKit Go.Proofs Go.Proofs.YtmcjccigglekpaaGreatDoorW.PrintWords Go.Proofs.YtmcjccigglekpaaGreatDoorW.PrintLast Go.Proofs.YtmcjccigglekpaaGreatDoorW.PrintMore Go.Proofs.YtmcjccigglekpaaGreatDoor.P

theorem rdElCap (xs : List S87) (k : Nat) (hk : k < xs.length) : rd_T87 xs (k : Int) = xs[k] := by
 unfold rd_T87
 rw [Int.toNat_natCast, List.getD_eq_getElem?_getD, List.getElem?_eq_getElem hk]
 rfl
theorem rdElSweep (xs : List S82) (k : Nat) (hk : k < xs.length) : rd_T82 xs (k : Int) = xs[k] := by
 unfold rd_T82
 rw [Int.toNat_natCast, List.getD_eq_getElem?_getD, List.getElem?_eq_getElem hk]
 rfl
set_option maxRecDepth 100000 in
set_option maxHeartbeats 16000000 in
theorem stateSame_calls (h h' : Sv) (s s' : St) (w : World) (H : h.At s w) (H' : h'.At s' w) : Calls Tryz.prog 19 #[.agg (h.cells s), .agg (h'.cells s')] w (SPost (decide (s = s')) w) := by
 obtain ⟨A0, A1, A2, A3, A4, A5, A6, A7, c0, c1, c2, c3, c4, c5, c6, c7⟩ := h
 obtain ⟨B0, B1, B2, B3, B4, B5, B6, B7, d0, d1, d2, d3, d4, d5, d6, d7⟩ := h'
 obtain ⟨th, fr, no, tr, po, li, ro, sw⟩ := s
 obtain ⟨th', fr', no', tr', po', li', ro', sw'⟩ := s'
 have DA := Lib.hid (fun w' (hb : Below w.heap.size w w') => arenaSame_calls A0 A1 B0 B1 c0 c1 d0 d1 th th' fr fr' w' (Kd.C_below H.r0 hb) (Kd.C_below H.r1 hb) (Kd.C_below H'.r0 hb) (Kd.C_below H'.r1 hb))
 have DT := Lib.hid (fun w' (hb : Below w.heap.size w w') => treeSame_calls A3 B3 c3 d3 tr tr' w' (Kd.C_below H.r3 hb) (Kd.C_below H'.r3 hb))
 have DI := Lib.hid (fun w' (hb : Below w.heap.size w w') => ints_calls A6 B6 c6 d6 ro ro' w' (Kd.C_below H.r6 hb) (Kd.C_below H'.r6 hb))
 have HR2 := Lib.hid (fun w' (hb : Below w.heap.size w w') => (⟨Kd.C_below H.r2 hb, Kd.C_below H'.r2 hb⟩ : Kd.C _ w' A2 no.length no ∧ Kd.C _ w' B2 no'.length no'))
 have HR4 := Lib.hid (fun w' (hb : Below w.heap.size w w') => (⟨Kd.C_below H.r4 hb, Kd.C_below H'.r4 hb⟩ : Kd.C _ w' A4 po.length po ∧ Kd.C _ w' B4 po'.length po'))
 have HR5 := Lib.hid (fun w' (hb : Below w.heap.size w w') => (⟨Kd.C_below H.r5 hb, Kd.C_below H'.r5 hb⟩ : Kd.C _ w' A5 li.length li ∧ Kd.C _ w' B5 li'.length li'))
 have HR7 := Lib.hid (fun w' (hb : Below w.heap.size w w') => (⟨Kd.C_below H.r7 hb, Kd.C_below H'.r7 hb⟩ : Kd.C _ w' A7 sw.length sw ∧ Kd.C _ w' B7 sw'.length sw'))
 have b2 : no.length ≤ 9223372036854775807 := H.r2.2.1
 have b4 : po.length ≤ 9223372036854775807 := H.r4.2.1
 have b5 : li.length ≤ 9223372036854775807 := H.r5.2.1
 have b7 : sw.length ≤ 9223372036854775807 := H.r7.2.1
 have N2 := Lib.hid b2
 have N4 := Lib.hid b4
 have N5 := Lib.hid b5
 have N7 := Lib.hid b7
 clear H H' b2 b4 b5 b7
 dsimp only [Sv.cells]
 have hbx : ((w.alloc (.cells #[.slice A0 th.length c0, .slice A1 fr.length c1, .slice A2 no.length c2, .slice A3 tr.length c3, .slice A4 po.length c4, .slice A5 li.length c5, .slice A6 ro.length c6, .slice A7 sw.length c7] 32)).alloc (.cells #[.slice B0 th'.length d0, .slice B1 fr'.length d1, .slice B2 no'.length d2, .slice B3 tr'.length d3, .slice B4 po'.length d4, .slice B5 li'.length d5, .slice B6 ro'.length d6, .slice B7 sw'.length d7] 32)).heap[w.heap.size]? = some (.cells #[.slice A0 th.length c0, .slice A1 fr.length c1, .slice A2 no.length c2, .slice A3 tr.length c3, .slice A4 po.length c4, .slice A5 li.length c5, .slice A6 ro.length c6, .slice A7 sw.length c7] 32 (0, 0)) := blk_alloc (blk_new w _) _
 have hby : ((w.alloc (.cells #[.slice A0 th.length c0, .slice A1 fr.length c1, .slice A2 no.length c2, .slice A3 tr.length c3, .slice A4 po.length c4, .slice A5 li.length c5, .slice A6 ro.length c6, .slice A7 sw.length c7] 32)).alloc (.cells #[.slice B0 th'.length d0, .slice B1 fr'.length d1, .slice B2 no'.length d2, .slice B3 tr'.length d3, .slice B4 po'.length d4, .slice B5 li'.length d5, .slice B6 ro'.length d6, .slice B7 sw'.length d7] 32)).heap[w.heap.size + 1]? = some (.cells #[.slice B0 th'.length d0, .slice B1 fr'.length d1, .slice B2 no'.length d2, .slice B3 tr'.length d3, .slice B4 po'.length d4, .slice B5 li'.length d5, .slice B6 ro'.length d6, .slice B7 sw'.length d7] 32 (0, 0)) := blk_at (by simp)
 have hbw : Below w.heap.size w ((w.alloc (.cells #[.slice A0 th.length c0, .slice A1 fr.length c1, .slice A2 no.length c2, .slice A3 tr.length c3, .slice A4 po.length c4, .slice A5 li.length c5, .slice A6 ro.length c6, .slice A7 sw.length c7] 32)).alloc (.cells #[.slice B0 th'.length d0, .slice B1 fr'.length d1, .slice B2 no'.length d2, .slice B3 tr'.length d3, .slice B4 po'.length d4, .slice B5 li'.length d5, .slice B6 ro'.length d6, .slice B7 sw'.length d7] 32)) := ((Below.refl _ _).alloc (Nat.le_refl _) _).alloc (by simp) _
 have p0 := (blk_cell hbx 0).trans (show _ = some (.slice A0 th.length c0 : Value) from rfl)
 have p1 := (blk_cell hbx 1).trans (show _ = some (.slice A1 fr.length c1 : Value) from rfl)
 have p2 := (blk_cell hbx 2).trans (show _ = some (.slice A2 no.length c2 : Value) from rfl)
 have p3 := (blk_cell hbx 3).trans (show _ = some (.slice A3 tr.length c3 : Value) from rfl)
 have p4 := (blk_cell hbx 4).trans (show _ = some (.slice A4 po.length c4 : Value) from rfl)
 have p5 := (blk_cell hbx 5).trans (show _ = some (.slice A5 li.length c5 : Value) from rfl)
 have p6 := (blk_cell hbx 6).trans (show _ = some (.slice A6 ro.length c6 : Value) from rfl)
 have p7 := (blk_cell hbx 7).trans (show _ = some (.slice A7 sw.length c7 : Value) from rfl)
 have q0 := (blk_cell hby 0).trans (show _ = some (.slice B0 th'.length d0 : Value) from rfl)
 have q1 := (blk_cell hby 1).trans (show _ = some (.slice B1 fr'.length d1 : Value) from rfl)
 have q2 := (blk_cell hby 2).trans (show _ = some (.slice B2 no'.length d2 : Value) from rfl)
 have q3 := (blk_cell hby 3).trans (show _ = some (.slice B3 tr'.length d3 : Value) from rfl)
 have q4 := (blk_cell hby 4).trans (show _ = some (.slice B4 po'.length d4 : Value) from rfl)
 have q5 := (blk_cell hby 5).trans (show _ = some (.slice B5 li'.length d5 : Value) from rfl)
 have q6 := (blk_cell hby 6).trans (show _ = some (.slice B6 ro'.length d6 : Value) from rfl)
 have q7 := (blk_cell hby 7).trans (show _ = some (.slice B7 sw'.length d7 : Value) from rfl)
 clear hbx hby
 by_cases e0 : th = th' ∧ fr = fr'
 ·rw [decide_eq_true e0] at DA
  by_cases e1 : tr = tr'
  ·rw [decide_eq_true e1] at DT
   by_cases e2 : ro = ro'
   ·rw [decide_eq_true e2] at DI
    by_cases l2 : no.length = no'.length
    ·have i2 : ((no.length : Int) != (no'.length : Int)) = false := by simp [l2]
     by_cases l4 : po.length = po'.length
     ·have i4 : ((po.length : Int) != (po'.length : Int)) = false := by simp [l4]
      by_cases l5 : li.length = li'.length
      ·have i5 : ((li.length : Int) != (li'.length : Int)) = false := by simp [l5]
       by_cases l7 : sw.length = sw'.length
       ·have i7 : ((sw.length : Int) != (sw'.length : Int)) = false := by simp [l7]
        have E0 := Lib.hid e0
        have E1 := Lib.hid e1
        have E2 := Lib.hid e2
        have L2 := Lib.hid l2
        have L4 := Lib.hid l4
        have L5 := Lib.hid l5
        have L7 := Lib.hid l7
        clear e0 e1 e2 l2 l4 l5 l7
        go_enter Tryz.func19, Tryz.ntmps19
        go_wp2_with (first | (go_at_call 54; refine (DA.out _ hbw).mono ?_; rintro e w1 ⟨rfl, hb1⟩; have bw1 := hbw.trans (hb1.mono hbw.size); have r0 := bcellv hb1 p0; have s0 := bcellv hb1 q0; have r1 := bcellv hb1 p1; have s1 := bcellv hb1 q1; have r2 := bcellv hb1 p2; have s2 := bcellv hb1 q2; have r3 := bcellv hb1 p3; have s3 := bcellv hb1 q3; have r4 := bcellv hb1 p4; have s4 := bcellv hb1 q4; have r5 := bcellv hb1 p5; have s5 := bcellv hb1 q5; have r6 := bcellv hb1 p6; have s6 := bcellv hb1 q6; have r7 := bcellv hb1 p7; have s7 := bcellv hb1 q7) | (go_at_call 55; refine (DT.out _ bw1).mono ?_; rintro e w2 ⟨rfl, hb2⟩; have bw2 := bw1.trans (hb2.mono bw1.size); have t0 := bcellv hb2 r0; have u0 := bcellv hb2 s0; have t1 := bcellv hb2 r1; have u1 := bcellv hb2 s1; have t2 := bcellv hb2 r2; have u2 := bcellv hb2 s2; have t3 := bcellv hb2 r3; have u3 := bcellv hb2 s3; have t4 := bcellv hb2 r4; have u4 := bcellv hb2 s4; have t5 := bcellv hb2 r5; have u5 := bcellv hb2 s5; have t6 := bcellv hb2 r6; have u6 := bcellv hb2 s6; have t7 := bcellv hb2 r7; have u7 := bcellv hb2 s7) | (go_at_call 56; refine (DI.out _ bw2).mono ?_; rintro e w3 ⟨rfl, hb3⟩; have bw3 := bw2.trans (hb3.mono bw2.size); have x0 := bcellv hb3 t0; have y0 := bcellv hb3 u0; have x1 := bcellv hb3 t1; have y1 := bcellv hb3 u1; have x2 := bcellv hb3 t2; have y2 := bcellv hb3 u2; have x3 := bcellv hb3 t3; have y3 := bcellv hb3 u3; have x4 := bcellv hb3 t4; have y4 := bcellv hb3 u4; have x5 := bcellv hb3 t5; have y5 := bcellv hb3 u5; have x6 := bcellv hb3 t6; have y6 := bcellv hb3 u6; have x7 := bcellv hb3 t7; have y7 := bcellv hb3 u7))
        clear i2 i4 i5 i7 DA DT DI hb1 hb2 hb3 bw1 bw2 hbw p0 q0 r0 s0 t0 u0 p1 q1 r1 s1 t1 u1 p2 q2 r2 s2 t2 u2 p3 q3 r3 s3 t3 u3 p4 q4 r4 s4 t4 u4 p5 q5 r5 s5 t5 u5 p6 q6 r6 s6 t6 u6 p7 q7 r7 s7 t7 u7 x0 y0 x1 y1 x3 y3 x6 y6
        have HN := N2
        have HL := L2
        have HW := Lib.hid bw3
        have HRA := Lib.hid (HR2.out _ HW.out).1
        have HRB := Lib.hid (HR2.out _ HW.out).2
        clear bw3
        go_loopw [5] (fun v wr => ∃ k : Nat, k ≤ no.length ∧ v = .int .i64 k ∧ Hid (no.take k = no'.take k) ∧ Below w3.heap.size w3 wr) (fun v _ => no.length - (intOf v).toNat)
        case atStart => exact ⟨0, Nat.zero_le _, rfl, Lib.hid rfl, Below.refl _ _⟩
        case round =>
         obtain ⟨k, hk, rfl, he, hB⟩ := hrel
         have zx2 := bcellv hB x2
         have zy2 := bcellv hB y2
         have zx4 := bcellv hB x4
         have zy4 := bcellv hB y4
         have zx5 := bcellv hB x5
         have zy5 := bcellv hB y5
         have zx7 := bcellv hB x7
         have zy7 := bcellv hB y7
         by_cases hlt : k < no.length
         ·have hlt' : k < no'.length := HL.out ▸ hlt
          have hd : decide ((k : Int) < (no.length : Int)) = true := decide_eq_true (by omega)
          have i2 : decide (0 ≤ (k : Int)) = true := decide_eq_true (by omega)
          have j2 : decide (k < no.length) = true := decide_eq_true hlt
          have j3 : decide (k < no'.length) = true := decide_eq_true hlt'
          obtain ⟨ad, C0, g0, e1, hv, -, hw0⟩ := at_row (Kd.C_below HRA.out hB) k hlt
          obtain ⟨bd, C1, g1, e2, hu, -, hw1⟩ := at_row (Kd.C_below HRB.out hB) k hlt'
          subst e1 e2
          have hmore0 := Lib.hid (fun hx : no[k] = no'[k] => take_more he.out hlt hlt' hx)
          have hnot0 := Lib.hid (fun hx : ¬ no[k] = no'[k] => not_at hlt hlt' hx)
          clear he
          generalize no[k] = x at *
          generalize no'[k] = y at *
          by_cases hln : x.length = y.length
          ·have i5 : ((x.length : Int) != (y.length : Int)) = false := by simp [hln]
           have HLX := Lib.hid hln
           have hbx : x.length ≤ 9223372036854775807 := hw0.2.1
           have HNX := Lib.hid hbx
           clear hln hbx
           go_wp2
           obtain ⟨wd, hwd⟩ : ∃ wd, wr.drew = wd := ⟨_, rfl⟩
           have cw : ∀ {a v}, wr.cell? a = some v → wd.cell? a = some v := fun h => by rw [← hwd]; exact h
           have HBD : Below wr.heap.size wr wd := hwd ▸ below_drew (Below.refl _ _)
           replace hv := cw hv
           replace hu := cw hu
           replace zx2 := cw zx2
           replace zy2 := cw zy2
           replace zx4 := cw zx4
           replace zy4 := cw zy4
           replace zx5 := cw zx5
           replace zy5 := cw zy5
           replace zx7 := cw zx7
           replace zy7 := cw zy7
           refine wp_region_sch (fun w' => w' = wd) 12 [(false, 0), (false, 1), (false, 2), (false, 3), (false, 4), (false, 5), (false, 6), (false, 7), (false, 8), (false, 9), (false, 10), (false, 11)] (by kernel_rfl) (by kernel_rfl) (fun _ a d _ _ h => by cases d <;> exact h) wd hwd rfl ?_
           clear hwd
           try dsimp only
           repeat (refine' sch_pure rfl rfl ?_ ?_; rotate_left; · (rintro w' rfl; go_simp <;> rfl)
                   simp only [Act.put, List.setIfInBounds_toArray, List.set_cons_zero, List.set_cons_succ])
           refine sch_last rfl (fun K hK => ?_)
           go_simp
           refine hK.out _ _ ?_
           clear hK K
           go_wp2
           clear i5
           have hX0 := Lib.hid (Kd.C_below hw0 HBD)
           have hX1 := Lib.hid (Kd.C_below hw1 HBD)
           have HBW := Lib.hid (hB.trans (HBD.mono hB.size))
           clear hw0 hw1 cw HBD hB
           go_loopw [6] (fun v wq => ∃ j : Nat, j ≤ x.length ∧ v = .int .i64 j ∧ Hid (x.take j = y.take j) ∧ Below wd.heap.size wd wq) (fun v _ => x.length - (intOf v).toNat)
           case atStart => exact ⟨0, Nat.zero_le _, rfl, Lib.hid rfl, Below.refl _ _⟩
           case round =>
            obtain ⟨j, hj, rfl, he2, hB2⟩ := hrel
            replace hv := bcellv hB2 hv
            replace hu := bcellv hB2 hu
            replace zx2 := bcellv hB2 zx2
            replace zy2 := bcellv hB2 zy2
            replace zx4 := bcellv hB2 zx4
            replace zy4 := bcellv hB2 zy4
            replace zx5 := bcellv hB2 zx5
            replace zy5 := bcellv hB2 zy5
            replace zx7 := bcellv hB2 zx7
            replace zy7 := bcellv hB2 zy7
            by_cases hjt : j < x.length
            ·have hjt' : j < y.length := HLX.out ▸ hjt
             have hd2 : decide ((j : Int) < (x.length : Int)) = true := decide_eq_true (by omega)
             have i6 : decide (0 ≤ (j : Int)) = true := decide_eq_true (by omega)
             have j6 : decide (j < x.length) = true := decide_eq_true hjt
             have j7 : decide (j < y.length) = true := decide_eq_true hjt'
             obtain ⟨ad2, e3, gv0, gv1, gv2, gv3, gv4⟩ := at_T87 (Kd.C_below hX0.out hB2) (j : Int) (by omega) (by omega)
             obtain ⟨bd2, e4, gu0, gu1, gu2, gu3, gu4⟩ := at_T87 (Kd.C_below hX1.out hB2) (j : Int) (by omega) (by omega)
             subst e3 e4
             rw [rdElCap _ j hjt, Int.toNat_natCast] at gv0 gv1 gv2 gv3 gv4
             rw [rdElCap _ j hjt', Int.toNat_natCast] at gu0 gu1 gu2 gu3 gu4
             by_cases hx : x[j] = y[j]
             ·have hmore := Lib.hid (take_more he2.out hjt hjt' hx)
              rw [← hx] at gu0 gu1 gu2 gu3 gu4
              clear hx he2
              generalize x[j] = u at *
              go_wp2
              obtain ⟨wd, hwd⟩ : ∃ wd, wr.drew = wd := ⟨_, rfl⟩
              have cw : ∀ {a v}, wr.cell? a = some v → wd.cell? a = some v := fun h => by rw [← hwd]; exact h
              have HBD : Below wr.heap.size wr wd := hwd ▸ below_drew (Below.refl _ _)
              replace hv := cw hv
              replace hu := cw hu
              replace zx2 := cw zx2
              replace zy2 := cw zy2
              replace zx4 := cw zx4
              replace zy4 := cw zy4
              replace zx5 := cw zx5
              replace zy5 := cw zy5
              replace zx7 := cw zx7
              replace zy7 := cw zy7
              replace gv0 := cw gv0
              replace gv1 := cw gv1
              replace gv2 := cw gv2
              replace gv3 := cw gv3
              replace gv4 := cw gv4
              replace gu0 := cw gu0
              replace gu1 := cw gu1
              replace gu2 := cw gu2
              replace gu3 := cw gu3
              replace gu4 := cw gu4
              refine wp_region_sch (fun w' => w' = wd) 16 [(false, 0), (false, 1), (false, 2), (false, 3), (false, 4), (false, 5), (false, 6), (false, 7), (false, 8), (false, 9), (false, 10), (false, 11), (false, 12), (false, 13), (false, 14), (false, 15)] (by kernel_rfl) (by kernel_rfl) (fun _ a d _ _ h => by cases d <;> exact h) wd hwd rfl ?_
              clear hwd
              try dsimp only
              repeat (refine' sch_pure rfl rfl ?_ ?_; rotate_left; · (rintro w' rfl; go_simp <;> rfl)
                      simp only [Act.put, List.setIfInBounds_toArray, List.set_cons_zero, List.set_cons_succ])
              refine sch_last rfl (fun K hK => ?_)
              go_simp
              refine hK.out _ _ ?_
              clear hK K
              go_wp2
              have hw1 : wrap64 ((j : Int) + 1) = ((j + 1 : Nat) : Int) := by have := HNX.out; unfold wrap64; omega
              refine ⟨⟨j + 1, hjt, by rw [hw1], hmore, hB2.trans (HBD.mono hB2.size)⟩, ?_⟩
              rw [hw1]
              show x.length - (((j + 1 : Nat) : Int)).toNat < x.length - ((j : Int)).toNat
              omega
             ·have hno := hnot0.out (not_at hjt hjt' hx)
              clear he2
              generalize x[j] = u at *
              generalize y[j] = v at *
              have HX := Lib.hid hx
              clear hx
              go_wp2
              obtain ⟨wd, hwd⟩ : ∃ wd, wr.drew = wd := ⟨_, rfl⟩
              have cw : ∀ {a v}, wr.cell? a = some v → wd.cell? a = some v := fun h => by rw [← hwd]; exact h
              have HBD : Below wr.heap.size wr wd := hwd ▸ below_drew (Below.refl _ _)
              replace hv := cw hv
              replace hu := cw hu
              replace zx2 := cw zx2
              replace zy2 := cw zy2
              replace zx4 := cw zx4
              replace zy4 := cw zy4
              replace zx5 := cw zx5
              replace zy5 := cw zy5
              replace zx7 := cw zx7
              replace zy7 := cw zy7
              replace gv0 := cw gv0
              replace gv1 := cw gv1
              replace gv2 := cw gv2
              replace gv3 := cw gv3
              replace gv4 := cw gv4
              replace gu0 := cw gu0
              replace gu1 := cw gu1
              replace gu2 := cw gu2
              replace gu3 := cw gu3
              replace gu4 := cw gu4
              refine wp_region_sch (fun w' => w' = wd) 16 [(false, 0), (false, 1), (false, 2), (false, 3), (false, 4), (false, 5), (false, 6), (false, 7), (false, 8), (false, 9), (false, 10), (false, 11), (false, 12), (false, 13), (false, 14), (false, 15)] (by kernel_rfl) (by kernel_rfl) (fun _ a d _ _ h => by cases d <;> exact h) wd hwd rfl ?_
              clear hwd
              try dsimp only
              repeat (refine' sch_pure rfl rfl ?_ ?_; rotate_left; · (rintro w' rfl; go_simp <;> rfl)
                      simp only [Act.put, List.setIfInBounds_toArray, List.set_cons_zero, List.set_cons_succ])
              refine sch_last rfl (fun K hK => ?_)
              go_simp
              rw [ifneCap HX.out]
              refine hK.out _ _ ?_
              clear hK K
              go_wp2
              go_ret
              exact ⟨by rw [decide_eq_false (fun e => hno (by injection e with k0 k1 k2 k3 k4 k5 k6 k7))]; rfl, HW.out.trans ((HBW.out.trans ((hB2.trans (HBD.mono hB2.size)).mono HBW.out.size)).mono HW.out.size)⟩
            ·have hd2 : decide ((j : Int) < (x.length : Int)) = false := decide_eq_false (by omega)
             have hmore := Lib.hid (hmore0.out (take_done he2.out (by omega) HLX.out))
             have hw9 := HBW.out.trans (hB2.mono HBW.out.size)
             clear he2
             go_wp2
             have hw1 : wrap64 ((k : Int) + 1) = ((k + 1 : Nat) : Int) := by have := HN.out; unfold wrap64; omega
             refine ⟨⟨k + 1, hlt, by rw [hw1], hmore, hw9⟩, ?_⟩
             rw [hw1]
             show no.length - (((k + 1 : Nat) : Int)).toNat < no.length - ((k : Int)).toNat
             omega
          ·have hno := hnot0.out (fun e => hln (by rw [e]))
           have i5 : ((x.length : Int) != (y.length : Int)) = true := by simp; omega
           clear hw0 hw1
           have HLN := Lib.hid hln
           go_wp2
           obtain ⟨wd, hwd⟩ : ∃ wd, wr.drew = wd := ⟨_, rfl⟩
           have cw : ∀ {a v}, wr.cell? a = some v → wd.cell? a = some v := fun h => by rw [← hwd]; exact h
           have HBD : Below wr.heap.size wr wd := hwd ▸ below_drew (Below.refl _ _)
           replace hv := cw hv
           replace hu := cw hu
           replace zx2 := cw zx2
           replace zy2 := cw zy2
           replace zx4 := cw zx4
           replace zy4 := cw zy4
           replace zx5 := cw zx5
           replace zy5 := cw zy5
           replace zx7 := cw zx7
           replace zy7 := cw zy7
           refine wp_region_sch (fun w' => w' = wd) 12 [(false, 0), (false, 1), (false, 2), (false, 3), (false, 4), (false, 5), (false, 6), (false, 7), (false, 8), (false, 9), (false, 10), (false, 11)] (by kernel_rfl) (by kernel_rfl) (fun _ a d _ _ h => by cases d <;> exact h) wd hwd rfl ?_
           clear hwd
           try dsimp only
           repeat (refine' sch_pure rfl rfl ?_ ?_; rotate_left; · (rintro w' rfl; go_simp <;> rfl)
                   simp only [Act.put, List.setIfInBounds_toArray, List.set_cons_zero, List.set_cons_succ])
           refine sch_last rfl (fun K hK => ?_)
           go_simp
           refine hK.out _ _ ?_
           clear hK K
           go_wp2
           go_ret
           exact ⟨by rw [decide_eq_false (fun e => hno (by injection e with k0 k1 k2 k3 k4 k5 k6 k7))]; rfl, HW.out.trans ((hB.trans (HBD.mono hB.size)).mono HW.out.size)⟩
         ·have hd : decide ((k : Int) < (no.length : Int)) = false := decide_eq_false (by omega)
          have y2 := Lib.hid (take_done he.out (by omega) HL.out)
          clear he
          clear HRA HRB
          have HW8 := Lib.hid (HW.out.trans (hB.mono HW.out.size))
          clear HN HL HW hd
          have HN := N4
          have HL := L4
          have HW := HW8
          have HRA := Lib.hid (HR4.out _ HW.out).1
          have HRB := Lib.hid (HR4.out _ HW.out).2
          clear HW8 hB hk
          go_wp2
          generalize wr = W6 at *
          go_loopw [7] (fun v wr => ∃ k : Nat, k ≤ po.length ∧ v = .int .i64 k ∧ Hid (po.take k = po'.take k) ∧ Below W6.heap.size W6 wr) (fun v _ => po.length - (intOf v).toNat)
          case atStart => exact ⟨0, Nat.zero_le _, rfl, Lib.hid rfl, Below.refl _ _⟩
          case round =>
           obtain ⟨k, hk, rfl, he, hB⟩ := hrel
           have zzx4 := bcellv hB zx4
           have zzy4 := bcellv hB zy4
           have zzx5 := bcellv hB zx5
           have zzy5 := bcellv hB zy5
           have zzx7 := bcellv hB zx7
           have zzy7 := bcellv hB zy7
           by_cases hlt : k < po.length
           ·have hlt' : k < po'.length := HL.out ▸ hlt
            have hd : decide ((k : Int) < (po.length : Int)) = true := decide_eq_true (by omega)
            have i2 : decide (0 ≤ (k : Int)) = true := decide_eq_true (by omega)
            have j2 : decide (k < po.length) = true := decide_eq_true hlt
            have j3 : decide (k < po'.length) = true := decide_eq_true hlt'
            obtain ⟨ad, C0, g0, e1, hv0, hv1, hv2, -, hx0⟩ := at_T59 (Kd.C_below HRA.out hB) (k : Int) (by omega) (by omega)
            obtain ⟨bd, C1, g1, e2, hu0, hu1, hu2, -, hx1⟩ := at_T59 (Kd.C_below HRB.out hB) (k : Int) (by omega) (by omega)
            subst e1 e2
            rw [rdPort _ k hlt] at hv0 hv1 hv2 hx0
            rw [rdPort _ k hlt'] at hu0 hu1 hu2 hx1
            rw [Int.toNat_natCast] at hv0 hv1 hv2 hu0 hu1 hu2
            by_cases hx : po[k] = po'[k]
            ·have hmore := Lib.hid (take_more he.out hlt hlt' hx)
             have DI := Lib.hid (fun (w' : World) (hb : Below wr.heap.size wr w') => portSame_calls' C0 C1 g0 g1 po[k].f0 po[k].f1 po'[k].f0 po'[k].f1 _ _ w' (Kd.C_below hx0 hb) (Kd.C_below hx1 hb))
             rw [decide_eq_true (show (⟨po[k].f0, po[k].f1, po[k].f2⟩ : S59) = ⟨po'[k].f0, po'[k].f1, po'[k].f2⟩ from hx)] at DI
             clear hx he hx0 hx1
             generalize po[k] = x at *
             generalize po'[k] = y at *
             go_wp2
             obtain ⟨wd, hwd⟩ : ∃ wd, wr.drew = wd := ⟨_, rfl⟩
             have cw : ∀ {a v}, wr.cell? a = some v → wd.cell? a = some v := fun h => by rw [← hwd]; exact h
             have HBD : Below wr.heap.size wr wd := hwd ▸ below_drew (Below.refl _ _)
             replace hv0 := cw hv0
             replace hv1 := cw hv1
             replace hv2 := cw hv2
             replace hu0 := cw hu0
             replace hu1 := cw hu1
             replace hu2 := cw hu2
             replace zzx4 := cw zzx4
             replace zzy4 := cw zzy4
             replace zzx5 := cw zzx5
             replace zzy5 := cw zzy5
             replace zzx7 := cw zzx7
             replace zzy7 := cw zzy7
             refine wp_region_sch (fun w' => Below wd.heap.size wd w') 11 [(false, 0), (false, 1), (false, 2), (false, 3), (false, 4), (false, 5), (false, 6), (false, 7), (false, 8), (false, 9), (true, 10)] (by kernel_rfl) (by kernel_rfl) (fun _ a d _ _ h => by cases d <;> exact h) wd hwd (Below.refl _ _) ?_
             clear hwd
             try dsimp only
             repeat (refine' sch_pure rfl rfl ?_ ?_; rotate_left; · (rintro w' hs; have z0 := bcellv hs hv0; have z1 := bcellv hs hv1; have z2 := bcellv hs hv2; have z3 := bcellv hs hu0; have z4 := bcellv hs hu1; have z5 := bcellv hs hu2; have z6 := bcellv hs zzx4; have z7 := bcellv hs zzy4; have z8 := bcellv hs zzx5; have z9 := bcellv hs zzy5; have z10 := bcellv hs zzx7; have z11 := bcellv hs zzy7; go_simp <;> rfl)
                     simp only [Act.put, List.setIfInBounds_toArray, List.set_cons_zero, List.set_cons_succ])
             refine sch_alone rfl (fun K hK => ?_)
             go_simp
             refine (DI.out wd HBD).mono ?_
             rintro e w3 ⟨rfl, hb3⟩
             refine hK.out _ _ hb3 ?_
             clear hK K
             try simp only [Act.put, List.setIfInBounds_toArray, List.set_cons_zero, List.set_cons_succ]
             refine sch_last rfl (fun K hK => ?_)
             go_simp
             refine hK.out _ _ ?_
             clear hK K
             go_wp2
             have hw9 := ((hB.trans (HBD.mono hB.size)).trans (hb3.mono (Nat.le_trans hB.size HBD.size)))
             have hw1 : wrap64 ((k : Int) + 1) = ((k + 1 : Nat) : Int) := by have := HN.out; unfold wrap64; omega
             refine ⟨⟨k + 1, hlt, by rw [hw1], hmore, hw9⟩, ?_⟩
             rw [hw1]
             show po.length - (((k + 1 : Nat) : Int)).toNat < po.length - ((k : Int)).toNat
             omega
            ·have hno := not_at hlt hlt' hx
             have DI := Lib.hid (fun (w' : World) (hb : Below wr.heap.size wr w') => portSame_calls' C0 C1 g0 g1 po[k].f0 po[k].f1 po'[k].f0 po'[k].f1 _ _ w' (Kd.C_below hx0 hb) (Kd.C_below hx1 hb))
             rw [decide_eq_false (show ¬ (⟨po[k].f0, po[k].f1, po[k].f2⟩ : S59) = ⟨po'[k].f0, po'[k].f1, po'[k].f2⟩ from hx)] at DI
             clear hx he hx0 hx1
             generalize po[k] = x at *
             generalize po'[k] = y at *
             go_wp2
             obtain ⟨wd, hwd⟩ : ∃ wd, wr.drew = wd := ⟨_, rfl⟩
             have cw : ∀ {a v}, wr.cell? a = some v → wd.cell? a = some v := fun h => by rw [← hwd]; exact h
             have HBD : Below wr.heap.size wr wd := hwd ▸ below_drew (Below.refl _ _)
             replace hv0 := cw hv0
             replace hv1 := cw hv1
             replace hv2 := cw hv2
             replace hu0 := cw hu0
             replace hu1 := cw hu1
             replace hu2 := cw hu2
             replace zzx4 := cw zzx4
             replace zzy4 := cw zzy4
             replace zzx5 := cw zzx5
             replace zzy5 := cw zzy5
             replace zzx7 := cw zzx7
             replace zzy7 := cw zzy7
             refine wp_region_sch (fun w' => Below wd.heap.size wd w') 11 [(false, 0), (false, 1), (false, 2), (false, 3), (false, 4), (false, 5), (false, 6), (false, 7), (false, 8), (false, 9), (true, 10)] (by kernel_rfl) (by kernel_rfl) (fun _ a d _ _ h => by cases d <;> exact h) wd hwd (Below.refl _ _) ?_
             clear hwd
             try dsimp only
             repeat (refine' sch_pure rfl rfl ?_ ?_; rotate_left; · (rintro w' hs; have z0 := bcellv hs hv0; have z1 := bcellv hs hv1; have z2 := bcellv hs hv2; have z3 := bcellv hs hu0; have z4 := bcellv hs hu1; have z5 := bcellv hs hu2; have z6 := bcellv hs zzx4; have z7 := bcellv hs zzy4; have z8 := bcellv hs zzx5; have z9 := bcellv hs zzy5; have z10 := bcellv hs zzx7; have z11 := bcellv hs zzy7; go_simp <;> rfl)
                     simp only [Act.put, List.setIfInBounds_toArray, List.set_cons_zero, List.set_cons_succ])
             refine sch_alone rfl (fun K hK => ?_)
             go_simp
             refine (DI.out wd HBD).mono ?_
             rintro e w3 ⟨rfl, hb3⟩
             refine hK.out _ _ hb3 ?_
             clear hK K
             try simp only [Act.put, List.setIfInBounds_toArray, List.set_cons_zero, List.set_cons_succ]
             refine sch_last rfl (fun K hK => ?_)
             go_simp
             refine hK.out _ _ ?_
             clear hK K
             go_wp2
             go_ret
             exact ⟨by rw [decide_eq_false (fun e => hno (by injection e with k0 k1 k2 k3 k4 k5 k6 k7))]; rfl, HW.out.trans (((hB.trans (HBD.mono hB.size)).trans (hb3.mono (Nat.le_trans hB.size HBD.size))).mono HW.out.size)⟩
           ·have hd : decide ((k : Int) < (po.length : Int)) = false := decide_eq_false (by omega)
            have y4 := Lib.hid (take_done he.out (by omega) HL.out)
            clear he
            clear HRA HRB
            have HW8 := Lib.hid (HW.out.trans (hB.mono HW.out.size))
            clear HN HL HW hd
            have HN := N5
            have HL := L5
            have HW := HW8
            have HRA := Lib.hid (HR5.out _ HW.out).1
            have HRB := Lib.hid (HR5.out _ HW.out).2
            clear HW8 hB hk
            go_wp2
            generalize wr = W7 at *
            go_loopw [8] (fun v wr => ∃ k : Nat, k ≤ li.length ∧ v = .int .i64 k ∧ Hid (li.take k = li'.take k) ∧ Below W7.heap.size W7 wr) (fun v _ => li.length - (intOf v).toNat)
            case atStart => exact ⟨0, Nat.zero_le _, rfl, Lib.hid rfl, Below.refl _ _⟩
            case round =>
             obtain ⟨k, hk, rfl, he, hB⟩ := hrel
             have zzzx5 := bcellv hB zzx5
             have zzzy5 := bcellv hB zzy5
             have zzzx7 := bcellv hB zzx7
             have zzzy7 := bcellv hB zzy7
             by_cases hlt : k < li.length
             ·have hlt' : k < li'.length := HL.out ▸ hlt
              have hd : decide ((k : Int) < (li.length : Int)) = true := decide_eq_true (by omega)
              have i2 : decide (0 ≤ (k : Int)) = true := decide_eq_true (by omega)
              have j2 : decide (k < li.length) = true := decide_eq_true hlt
              have j3 : decide (k < li'.length) = true := decide_eq_true hlt'
              obtain ⟨ad, B0, d0, e1, hv, -, hw0⟩ := at_row (Kd.C_below HRA.out hB) k hlt
              obtain ⟨bd, B1, d1, e2, hu, -, hw1⟩ := at_row (Kd.C_below HRB.out hB) k hlt'
              subst e1 e2
              by_cases hx : li[k] = li'[k]
              ·have hmore := Lib.hid (take_more he.out hlt hlt' hx)
               have DI := Lib.hid (fun (w' : World) (hb : Below wr.heap.size wr w') => ints_calls B0 B1 d0 d1 _ _ w' (Kd.C_below hw0 hb) (Kd.C_below hw1 hb))
               rw [decide_eq_true hx] at DI
               clear hx he hw0 hw1
               generalize li[k] = x at *
               generalize li'[k] = y at *
               go_wp2
               obtain ⟨wd, hwd⟩ : ∃ wd, wr.drew = wd := ⟨_, rfl⟩
               have cw : ∀ {a v}, wr.cell? a = some v → wd.cell? a = some v := fun h => by rw [← hwd]; exact h
               have HBD : Below wr.heap.size wr wd := hwd ▸ below_drew (Below.refl _ _)
               replace hv := cw hv
               replace hu := cw hu
               replace zzzx5 := cw zzzx5
               replace zzzy5 := cw zzzy5
               replace zzzx7 := cw zzzx7
               replace zzzy7 := cw zzzy7
               refine wp_region_sch (fun w' => Below wd.heap.size wd w') 11 [(false, 0), (false, 1), (false, 2), (false, 3), (false, 4), (false, 5), (false, 6), (false, 7), (false, 8), (false, 9), (true, 10)] (by kernel_rfl) (by kernel_rfl) (fun _ a d _ _ h => by cases d <;> exact h) wd hwd (Below.refl _ _) ?_
               clear hwd
               try dsimp only
               repeat (refine' sch_pure rfl rfl ?_ ?_; rotate_left; · (rintro w' hs; have z0 := bcellv hs hv; have z1 := bcellv hs hu; have z2 := bcellv hs zzzx5; have z3 := bcellv hs zzzy5; have z4 := bcellv hs zzzx7; have z5 := bcellv hs zzzy7; go_simp <;> rfl)
                       simp only [Act.put, List.setIfInBounds_toArray, List.set_cons_zero, List.set_cons_succ])
               refine sch_alone rfl (fun K hK => ?_)
               go_simp
               refine (DI.out wd HBD).mono ?_
               rintro e w3 ⟨rfl, hb3⟩
               refine hK.out _ _ hb3 ?_
               clear hK K
               try simp only [Act.put, List.setIfInBounds_toArray, List.set_cons_zero, List.set_cons_succ]
               refine sch_last rfl (fun K hK => ?_)
               go_simp
               refine hK.out _ _ ?_
               clear hK K
               go_wp2
               have hw9 := ((hB.trans (HBD.mono hB.size)).trans (hb3.mono (Nat.le_trans hB.size HBD.size)))
               have hw1 : wrap64 ((k : Int) + 1) = ((k + 1 : Nat) : Int) := by have := HN.out; unfold wrap64; omega
               refine ⟨⟨k + 1, hlt, by rw [hw1], hmore, hw9⟩, ?_⟩
               rw [hw1]
               show li.length - (((k + 1 : Nat) : Int)).toNat < li.length - ((k : Int)).toNat
               omega
              ·have hno := not_at hlt hlt' hx
               have DI := Lib.hid (fun (w' : World) (hb : Below wr.heap.size wr w') => ints_calls B0 B1 d0 d1 _ _ w' (Kd.C_below hw0 hb) (Kd.C_below hw1 hb))
               rw [decide_eq_false hx] at DI
               clear hx he hw0 hw1
               generalize li[k] = x at *
               generalize li'[k] = y at *
               go_wp2
               obtain ⟨wd, hwd⟩ : ∃ wd, wr.drew = wd := ⟨_, rfl⟩
               have cw : ∀ {a v}, wr.cell? a = some v → wd.cell? a = some v := fun h => by rw [← hwd]; exact h
               have HBD : Below wr.heap.size wr wd := hwd ▸ below_drew (Below.refl _ _)
               replace hv := cw hv
               replace hu := cw hu
               replace zzzx5 := cw zzzx5
               replace zzzy5 := cw zzzy5
               replace zzzx7 := cw zzzx7
               replace zzzy7 := cw zzzy7
               refine wp_region_sch (fun w' => Below wd.heap.size wd w') 11 [(false, 0), (false, 1), (false, 2), (false, 3), (false, 4), (false, 5), (false, 6), (false, 7), (false, 8), (false, 9), (true, 10)] (by kernel_rfl) (by kernel_rfl) (fun _ a d _ _ h => by cases d <;> exact h) wd hwd (Below.refl _ _) ?_
               clear hwd
               try dsimp only
               repeat (refine' sch_pure rfl rfl ?_ ?_; rotate_left; · (rintro w' hs; have z0 := bcellv hs hv; have z1 := bcellv hs hu; have z2 := bcellv hs zzzx5; have z3 := bcellv hs zzzy5; have z4 := bcellv hs zzzx7; have z5 := bcellv hs zzzy7; go_simp <;> rfl)
                       simp only [Act.put, List.setIfInBounds_toArray, List.set_cons_zero, List.set_cons_succ])
               refine sch_alone rfl (fun K hK => ?_)
               go_simp
               refine (DI.out wd HBD).mono ?_
               rintro e w3 ⟨rfl, hb3⟩
               refine hK.out _ _ hb3 ?_
               clear hK K
               try simp only [Act.put, List.setIfInBounds_toArray, List.set_cons_zero, List.set_cons_succ]
               refine sch_last rfl (fun K hK => ?_)
               go_simp
               refine hK.out _ _ ?_
               clear hK K
               go_wp2
               go_ret
               exact ⟨by rw [decide_eq_false (fun e => hno (by injection e with k0 k1 k2 k3 k4 k5 k6 k7))]; rfl, HW.out.trans (((hB.trans (HBD.mono hB.size)).trans (hb3.mono (Nat.le_trans hB.size HBD.size))).mono HW.out.size)⟩
             ·have hd : decide ((k : Int) < (li.length : Int)) = false := decide_eq_false (by omega)
              have y5 := Lib.hid (take_done he.out (by omega) HL.out)
              clear he
              clear HRA HRB
              have HW8 := Lib.hid (HW.out.trans (hB.mono HW.out.size))
              clear HN HL HW hd
              have HN := N7
              have HL := L7
              have HW := HW8
              have HRA := Lib.hid (HR7.out _ HW.out).1
              have HRB := Lib.hid (HR7.out _ HW.out).2
              clear HW8 hB hk
              go_wp2
              generalize wr = W8 at *
              go_loopw [9] (fun v wr => ∃ k : Nat, k ≤ sw.length ∧ v = .int .i64 k ∧ Hid (sw.take k = sw'.take k) ∧ Below W8.heap.size W8 wr) (fun v _ => sw.length - (intOf v).toNat)
              case atStart => exact ⟨0, Nat.zero_le _, rfl, Lib.hid rfl, Below.refl _ _⟩
              case round =>
               obtain ⟨k, hk, rfl, he, hB⟩ := hrel
               have zzzzx7 := bcellv hB zzzx7
               have zzzzy7 := bcellv hB zzzy7
               by_cases hlt : k < sw.length
               ·have hlt' : k < sw'.length := HL.out ▸ hlt
                have hd : decide ((k : Int) < (sw.length : Int)) = true := decide_eq_true (by omega)
                have i2 : decide (0 ≤ (k : Int)) = true := decide_eq_true (by omega)
                have j2 : decide (k < sw.length) = true := decide_eq_true hlt
                have j3 : decide (k < sw'.length) = true := decide_eq_true hlt'
                obtain ⟨ad, e1, hv0, hv1, hv2, hv3⟩ := at_T82 (Kd.C_below HRA.out hB) (k : Int) (by omega) (by omega)
                obtain ⟨bd, e2, hu0, hu1, hu2, hu3⟩ := at_T82 (Kd.C_below HRB.out hB) (k : Int) (by omega) (by omega)
                subst e1 e2
                rw [rdElSweep _ k hlt, Int.toNat_natCast] at hv0 hv1 hv2 hv3
                rw [rdElSweep _ k hlt', Int.toNat_natCast] at hu0 hu1 hu2 hu3
                by_cases hx : sw[k] = sw'[k]
                ·have hmore := Lib.hid (take_more he.out hlt hlt' hx)
                 rw [← hx] at hu0 hu1 hu2 hu3
                 clear hx he
                 generalize sw[k] = x at *
                 go_wp2
                 obtain ⟨wd, hwd⟩ : ∃ wd, wr.drew = wd := ⟨_, rfl⟩
                 have cw : ∀ {a v}, wr.cell? a = some v → wd.cell? a = some v := fun h => by rw [← hwd]; exact h
                 have HBD : Below wr.heap.size wr wd := hwd ▸ below_drew (Below.refl _ _)
                 replace hv0 := cw hv0
                 replace hv1 := cw hv1
                 replace hv2 := cw hv2
                 replace hv3 := cw hv3
                 replace hu0 := cw hu0
                 replace hu1 := cw hu1
                 replace hu2 := cw hu2
                 replace hu3 := cw hu3
                 replace zzzzx7 := cw zzzzx7
                 replace zzzzy7 := cw zzzzy7
                 refine wp_region_sch (fun w' => w' = wd) 10 [(false, 0), (false, 1), (false, 2), (false, 3), (false, 4), (false, 5), (false, 6), (false, 7), (false, 8), (false, 9)] (by kernel_rfl) (by kernel_rfl) (fun _ a d _ _ h => by cases d <;> exact h) wd hwd rfl ?_
                 clear hwd
                 try dsimp only
                 repeat (refine' sch_pure rfl rfl ?_ ?_; rotate_left; · (rintro w' rfl; go_simp <;> rfl)
                         simp only [Act.put, List.setIfInBounds_toArray, List.set_cons_zero, List.set_cons_succ])
                 refine sch_last rfl (fun K hK => ?_)
                 go_simp
                 refine hK.out _ _ ?_
                 clear hK K
                 go_wp2
                 have hw1 : wrap64 ((k : Int) + 1) = ((k + 1 : Nat) : Int) := by have := HN.out; unfold wrap64; omega
                 refine ⟨⟨k + 1, hlt, by rw [hw1], hmore, hB.trans (HBD.mono hB.size)⟩, ?_⟩
                 rw [hw1]
                 show sw.length - (((k + 1 : Nat) : Int)).toNat < sw.length - ((k : Int)).toNat
                 omega
                ·have hno := not_at hlt hlt' hx
                 clear he
                 generalize sw[k] = x at *
                 generalize sw'[k] = y at *
                 have HX := Lib.hid hx
                 clear hx
                 go_wp2
                 obtain ⟨wd, hwd⟩ : ∃ wd, wr.drew = wd := ⟨_, rfl⟩
                 have cw : ∀ {a v}, wr.cell? a = some v → wd.cell? a = some v := fun h => by rw [← hwd]; exact h
                 have HBD : Below wr.heap.size wr wd := hwd ▸ below_drew (Below.refl _ _)
                 replace hv0 := cw hv0
                 replace hv1 := cw hv1
                 replace hv2 := cw hv2
                 replace hv3 := cw hv3
                 replace hu0 := cw hu0
                 replace hu1 := cw hu1
                 replace hu2 := cw hu2
                 replace hu3 := cw hu3
                 replace zzzzx7 := cw zzzzx7
                 replace zzzzy7 := cw zzzzy7
                 refine wp_region_sch (fun w' => w' = wd) 10 [(false, 0), (false, 1), (false, 2), (false, 3), (false, 4), (false, 5), (false, 6), (false, 7), (false, 8), (false, 9)] (by kernel_rfl) (by kernel_rfl) (fun _ a d _ _ h => by cases d <;> exact h) wd hwd rfl ?_
                 clear hwd
                 try dsimp only
                 repeat (refine' sch_pure rfl rfl ?_ ?_; rotate_left; · (rintro w' rfl; go_simp <;> rfl)
                         simp only [Act.put, List.setIfInBounds_toArray, List.set_cons_zero, List.set_cons_succ])
                 refine sch_last rfl (fun K hK => ?_)
                 go_simp
                 rw [ifneSweep HX.out]
                 refine hK.out _ _ ?_
                 clear hK K
                 go_wp2
                 go_ret
                 exact ⟨by rw [decide_eq_false (fun e => hno (by injection e with k0 k1 k2 k3 k4 k5 k6 k7))]; rfl, HW.out.trans ((hB.trans (HBD.mono hB.size)).mono HW.out.size)⟩
               ·have hd : decide ((k : Int) < (sw.length : Int)) = false := decide_eq_false (by omega)
                have hyes := Lib.hid (take_done he.out (by omega) HL.out)
                clear he
                go_wp2
                go_ret
                exact ⟨by rw [decide_eq_true (by rw [E0.out.1, E0.out.2, E1.out, E2.out, y2.out, y4.out, y5.out, hyes.out])]; rfl, HW.out.trans (hB.mono HW.out.size)⟩
       ·have Xe0 := Lib.hid e0
        have Xe1 := Lib.hid e1
        have Xe2 := Lib.hid e2
        have Xl2 := Lib.hid l2
        have Xl4 := Lib.hid l4
        have Xl5 := Lib.hid l5
        clear e0 e1 e2 l2 l4 l5
        have i7 : ((sw.length : Int) != (sw'.length : Int)) = true := bne_iff_ne.mpr (by omega)
        have hno : ¬ ((⟨th, fr, no, tr, po, li, ro, sw⟩ : St) = ⟨th', fr', no', tr', po', li', ro', sw'⟩) := fun e => l7 (by injection e with k0 k1 k2 k3 k4 k5 k6 k7; rw [k7])
        go_enter Tryz.func19, Tryz.ntmps19
        go_wp2_with (first | (go_at_call 54; refine (DA.out _ hbw).mono ?_; rintro e w1 ⟨rfl, hb1⟩; have bw1 := hbw.trans (hb1.mono hbw.size); have r0 := bcellv hb1 p0; have s0 := bcellv hb1 q0; have r1 := bcellv hb1 p1; have s1 := bcellv hb1 q1; have r2 := bcellv hb1 p2; have s2 := bcellv hb1 q2; have r3 := bcellv hb1 p3; have s3 := bcellv hb1 q3; have r4 := bcellv hb1 p4; have s4 := bcellv hb1 q4; have r5 := bcellv hb1 p5; have s5 := bcellv hb1 q5; have r6 := bcellv hb1 p6; have s6 := bcellv hb1 q6; have r7 := bcellv hb1 p7; have s7 := bcellv hb1 q7) | (go_at_call 55; refine (DT.out _ bw1).mono ?_; rintro e w2 ⟨rfl, hb2⟩; have bw2 := bw1.trans (hb2.mono bw1.size); have t0 := bcellv hb2 r0; have u0 := bcellv hb2 s0; have t1 := bcellv hb2 r1; have u1 := bcellv hb2 s1; have t2 := bcellv hb2 r2; have u2 := bcellv hb2 s2; have t3 := bcellv hb2 r3; have u3 := bcellv hb2 s3; have t4 := bcellv hb2 r4; have u4 := bcellv hb2 s4; have t5 := bcellv hb2 r5; have u5 := bcellv hb2 s5; have t6 := bcellv hb2 r6; have u6 := bcellv hb2 s6; have t7 := bcellv hb2 r7; have u7 := bcellv hb2 s7) | (go_at_call 56; refine (DI.out _ bw2).mono ?_; rintro e w3 ⟨rfl, hb3⟩; have bw3 := bw2.trans (hb3.mono bw2.size); have x0 := bcellv hb3 t0; have y0 := bcellv hb3 u0; have x1 := bcellv hb3 t1; have y1 := bcellv hb3 u1; have x2 := bcellv hb3 t2; have y2 := bcellv hb3 u2; have x3 := bcellv hb3 t3; have y3 := bcellv hb3 u3; have x4 := bcellv hb3 t4; have y4 := bcellv hb3 u4; have x5 := bcellv hb3 t5; have y5 := bcellv hb3 u5; have x6 := bcellv hb3 t6; have y6 := bcellv hb3 u6; have x7 := bcellv hb3 t7; have y7 := bcellv hb3 u7))
        go_ret
        exact ⟨by rw [decide_eq_false hno]; rfl, bw3⟩
      ·have Xe0 := Lib.hid e0
       have Xe1 := Lib.hid e1
       have Xe2 := Lib.hid e2
       have Xl2 := Lib.hid l2
       have Xl4 := Lib.hid l4
       clear e0 e1 e2 l2 l4
       have i5 : ((li.length : Int) != (li'.length : Int)) = true := bne_iff_ne.mpr (by omega)
       have hno : ¬ ((⟨th, fr, no, tr, po, li, ro, sw⟩ : St) = ⟨th', fr', no', tr', po', li', ro', sw'⟩) := fun e => l5 (by injection e with k0 k1 k2 k3 k4 k5 k6 k7; rw [k5])
       go_enter Tryz.func19, Tryz.ntmps19
       go_wp2_with (first | (go_at_call 54; refine (DA.out _ hbw).mono ?_; rintro e w1 ⟨rfl, hb1⟩; have bw1 := hbw.trans (hb1.mono hbw.size); have r0 := bcellv hb1 p0; have s0 := bcellv hb1 q0; have r1 := bcellv hb1 p1; have s1 := bcellv hb1 q1; have r2 := bcellv hb1 p2; have s2 := bcellv hb1 q2; have r3 := bcellv hb1 p3; have s3 := bcellv hb1 q3; have r4 := bcellv hb1 p4; have s4 := bcellv hb1 q4; have r5 := bcellv hb1 p5; have s5 := bcellv hb1 q5; have r6 := bcellv hb1 p6; have s6 := bcellv hb1 q6; have r7 := bcellv hb1 p7; have s7 := bcellv hb1 q7) | (go_at_call 55; refine (DT.out _ bw1).mono ?_; rintro e w2 ⟨rfl, hb2⟩; have bw2 := bw1.trans (hb2.mono bw1.size); have t0 := bcellv hb2 r0; have u0 := bcellv hb2 s0; have t1 := bcellv hb2 r1; have u1 := bcellv hb2 s1; have t2 := bcellv hb2 r2; have u2 := bcellv hb2 s2; have t3 := bcellv hb2 r3; have u3 := bcellv hb2 s3; have t4 := bcellv hb2 r4; have u4 := bcellv hb2 s4; have t5 := bcellv hb2 r5; have u5 := bcellv hb2 s5; have t6 := bcellv hb2 r6; have u6 := bcellv hb2 s6; have t7 := bcellv hb2 r7; have u7 := bcellv hb2 s7) | (go_at_call 56; refine (DI.out _ bw2).mono ?_; rintro e w3 ⟨rfl, hb3⟩; have bw3 := bw2.trans (hb3.mono bw2.size); have x0 := bcellv hb3 t0; have y0 := bcellv hb3 u0; have x1 := bcellv hb3 t1; have y1 := bcellv hb3 u1; have x2 := bcellv hb3 t2; have y2 := bcellv hb3 u2; have x3 := bcellv hb3 t3; have y3 := bcellv hb3 u3; have x4 := bcellv hb3 t4; have y4 := bcellv hb3 u4; have x5 := bcellv hb3 t5; have y5 := bcellv hb3 u5; have x6 := bcellv hb3 t6; have y6 := bcellv hb3 u6; have x7 := bcellv hb3 t7; have y7 := bcellv hb3 u7))
       go_ret
       exact ⟨by rw [decide_eq_false hno]; rfl, bw3⟩
     ·have Xe0 := Lib.hid e0
      have Xe1 := Lib.hid e1
      have Xe2 := Lib.hid e2
      have Xl2 := Lib.hid l2
      clear e0 e1 e2 l2
      have i4 : ((po.length : Int) != (po'.length : Int)) = true := bne_iff_ne.mpr (by omega)
      have hno : ¬ ((⟨th, fr, no, tr, po, li, ro, sw⟩ : St) = ⟨th', fr', no', tr', po', li', ro', sw'⟩) := fun e => l4 (by injection e with k0 k1 k2 k3 k4 k5 k6 k7; rw [k4])
      go_enter Tryz.func19, Tryz.ntmps19
      go_wp2_with (first | (go_at_call 54; refine (DA.out _ hbw).mono ?_; rintro e w1 ⟨rfl, hb1⟩; have bw1 := hbw.trans (hb1.mono hbw.size); have r0 := bcellv hb1 p0; have s0 := bcellv hb1 q0; have r1 := bcellv hb1 p1; have s1 := bcellv hb1 q1; have r2 := bcellv hb1 p2; have s2 := bcellv hb1 q2; have r3 := bcellv hb1 p3; have s3 := bcellv hb1 q3; have r4 := bcellv hb1 p4; have s4 := bcellv hb1 q4; have r5 := bcellv hb1 p5; have s5 := bcellv hb1 q5; have r6 := bcellv hb1 p6; have s6 := bcellv hb1 q6; have r7 := bcellv hb1 p7; have s7 := bcellv hb1 q7) | (go_at_call 55; refine (DT.out _ bw1).mono ?_; rintro e w2 ⟨rfl, hb2⟩; have bw2 := bw1.trans (hb2.mono bw1.size); have t0 := bcellv hb2 r0; have u0 := bcellv hb2 s0; have t1 := bcellv hb2 r1; have u1 := bcellv hb2 s1; have t2 := bcellv hb2 r2; have u2 := bcellv hb2 s2; have t3 := bcellv hb2 r3; have u3 := bcellv hb2 s3; have t4 := bcellv hb2 r4; have u4 := bcellv hb2 s4; have t5 := bcellv hb2 r5; have u5 := bcellv hb2 s5; have t6 := bcellv hb2 r6; have u6 := bcellv hb2 s6; have t7 := bcellv hb2 r7; have u7 := bcellv hb2 s7) | (go_at_call 56; refine (DI.out _ bw2).mono ?_; rintro e w3 ⟨rfl, hb3⟩; have bw3 := bw2.trans (hb3.mono bw2.size); have x0 := bcellv hb3 t0; have y0 := bcellv hb3 u0; have x1 := bcellv hb3 t1; have y1 := bcellv hb3 u1; have x2 := bcellv hb3 t2; have y2 := bcellv hb3 u2; have x3 := bcellv hb3 t3; have y3 := bcellv hb3 u3; have x4 := bcellv hb3 t4; have y4 := bcellv hb3 u4; have x5 := bcellv hb3 t5; have y5 := bcellv hb3 u5; have x6 := bcellv hb3 t6; have y6 := bcellv hb3 u6; have x7 := bcellv hb3 t7; have y7 := bcellv hb3 u7))
      go_ret
      exact ⟨by rw [decide_eq_false hno]; rfl, bw3⟩
    ·have Xe0 := Lib.hid e0
     have Xe1 := Lib.hid e1
     have Xe2 := Lib.hid e2
     clear e0 e1 e2
     have i2 : ((no.length : Int) != (no'.length : Int)) = true := bne_iff_ne.mpr (by omega)
     have hno : ¬ ((⟨th, fr, no, tr, po, li, ro, sw⟩ : St) = ⟨th', fr', no', tr', po', li', ro', sw'⟩) := fun e => l2 (by injection e with k0 k1 k2 k3 k4 k5 k6 k7; rw [k2])
     go_enter Tryz.func19, Tryz.ntmps19
     go_wp2_with (first | (go_at_call 54; refine (DA.out _ hbw).mono ?_; rintro e w1 ⟨rfl, hb1⟩; have bw1 := hbw.trans (hb1.mono hbw.size); have r0 := bcellv hb1 p0; have s0 := bcellv hb1 q0; have r1 := bcellv hb1 p1; have s1 := bcellv hb1 q1; have r2 := bcellv hb1 p2; have s2 := bcellv hb1 q2; have r3 := bcellv hb1 p3; have s3 := bcellv hb1 q3; have r4 := bcellv hb1 p4; have s4 := bcellv hb1 q4; have r5 := bcellv hb1 p5; have s5 := bcellv hb1 q5; have r6 := bcellv hb1 p6; have s6 := bcellv hb1 q6; have r7 := bcellv hb1 p7; have s7 := bcellv hb1 q7) | (go_at_call 55; refine (DT.out _ bw1).mono ?_; rintro e w2 ⟨rfl, hb2⟩; have bw2 := bw1.trans (hb2.mono bw1.size); have t0 := bcellv hb2 r0; have u0 := bcellv hb2 s0; have t1 := bcellv hb2 r1; have u1 := bcellv hb2 s1; have t2 := bcellv hb2 r2; have u2 := bcellv hb2 s2; have t3 := bcellv hb2 r3; have u3 := bcellv hb2 s3; have t4 := bcellv hb2 r4; have u4 := bcellv hb2 s4; have t5 := bcellv hb2 r5; have u5 := bcellv hb2 s5; have t6 := bcellv hb2 r6; have u6 := bcellv hb2 s6; have t7 := bcellv hb2 r7; have u7 := bcellv hb2 s7) | (go_at_call 56; refine (DI.out _ bw2).mono ?_; rintro e w3 ⟨rfl, hb3⟩; have bw3 := bw2.trans (hb3.mono bw2.size); have x0 := bcellv hb3 t0; have y0 := bcellv hb3 u0; have x1 := bcellv hb3 t1; have y1 := bcellv hb3 u1; have x2 := bcellv hb3 t2; have y2 := bcellv hb3 u2; have x3 := bcellv hb3 t3; have y3 := bcellv hb3 u3; have x4 := bcellv hb3 t4; have y4 := bcellv hb3 u4; have x5 := bcellv hb3 t5; have y5 := bcellv hb3 u5; have x6 := bcellv hb3 t6; have y6 := bcellv hb3 u6; have x7 := bcellv hb3 t7; have y7 := bcellv hb3 u7))
     go_ret
     exact ⟨by rw [decide_eq_false hno]; rfl, bw3⟩
   ·rw [decide_eq_false e2] at DI
    have Xe0 := Lib.hid e0
    have Xe1 := Lib.hid e1
    clear e0 e1
    have hno : ¬ ((⟨th, fr, no, tr, po, li, ro, sw⟩ : St) = ⟨th', fr', no', tr', po', li', ro', sw'⟩) := fun e => e2 (by injection e with k0 k1 k2 k3 k4 k5 k6 k7; first | done | exact k6)
    go_enter Tryz.func19, Tryz.ntmps19
    go_wp2_with (first | (go_at_call 54; refine (DA.out _ hbw).mono ?_; rintro e w1 ⟨rfl, hb1⟩; have bw1 := hbw.trans (hb1.mono hbw.size); have r0 := bcellv hb1 p0; have s0 := bcellv hb1 q0; have r1 := bcellv hb1 p1; have s1 := bcellv hb1 q1; have r2 := bcellv hb1 p2; have s2 := bcellv hb1 q2; have r3 := bcellv hb1 p3; have s3 := bcellv hb1 q3; have r4 := bcellv hb1 p4; have s4 := bcellv hb1 q4; have r5 := bcellv hb1 p5; have s5 := bcellv hb1 q5; have r6 := bcellv hb1 p6; have s6 := bcellv hb1 q6; have r7 := bcellv hb1 p7; have s7 := bcellv hb1 q7) | (go_at_call 55; refine (DT.out _ bw1).mono ?_; rintro e w2 ⟨rfl, hb2⟩; have bw2 := bw1.trans (hb2.mono bw1.size); have t0 := bcellv hb2 r0; have u0 := bcellv hb2 s0; have t1 := bcellv hb2 r1; have u1 := bcellv hb2 s1; have t2 := bcellv hb2 r2; have u2 := bcellv hb2 s2; have t3 := bcellv hb2 r3; have u3 := bcellv hb2 s3; have t4 := bcellv hb2 r4; have u4 := bcellv hb2 s4; have t5 := bcellv hb2 r5; have u5 := bcellv hb2 s5; have t6 := bcellv hb2 r6; have u6 := bcellv hb2 s6; have t7 := bcellv hb2 r7; have u7 := bcellv hb2 s7) | (go_at_call 56; refine (DI.out _ bw2).mono ?_; rintro e w3 ⟨rfl, hb3⟩; have bw3 := bw2.trans (hb3.mono bw2.size); have x0 := bcellv hb3 t0; have y0 := bcellv hb3 u0; have x1 := bcellv hb3 t1; have y1 := bcellv hb3 u1; have x2 := bcellv hb3 t2; have y2 := bcellv hb3 u2; have x3 := bcellv hb3 t3; have y3 := bcellv hb3 u3; have x4 := bcellv hb3 t4; have y4 := bcellv hb3 u4; have x5 := bcellv hb3 t5; have y5 := bcellv hb3 u5; have x6 := bcellv hb3 t6; have y6 := bcellv hb3 u6; have x7 := bcellv hb3 t7; have y7 := bcellv hb3 u7))
    go_ret
    exact ⟨by rw [decide_eq_false hno]; rfl, bw3⟩
  ·rw [decide_eq_false e1] at DT
   have Xe0 := Lib.hid e0
   clear e0
   have hno : ¬ ((⟨th, fr, no, tr, po, li, ro, sw⟩ : St) = ⟨th', fr', no', tr', po', li', ro', sw'⟩) := fun e => e1 (by injection e with k0 k1 k2 k3 k4 k5 k6 k7; first | done | exact k3)
   go_enter Tryz.func19, Tryz.ntmps19
   go_wp2_with (first | (go_at_call 54; refine (DA.out _ hbw).mono ?_; rintro e w1 ⟨rfl, hb1⟩; have bw1 := hbw.trans (hb1.mono hbw.size); have r0 := bcellv hb1 p0; have s0 := bcellv hb1 q0; have r1 := bcellv hb1 p1; have s1 := bcellv hb1 q1; have r2 := bcellv hb1 p2; have s2 := bcellv hb1 q2; have r3 := bcellv hb1 p3; have s3 := bcellv hb1 q3; have r4 := bcellv hb1 p4; have s4 := bcellv hb1 q4; have r5 := bcellv hb1 p5; have s5 := bcellv hb1 q5; have r6 := bcellv hb1 p6; have s6 := bcellv hb1 q6; have r7 := bcellv hb1 p7; have s7 := bcellv hb1 q7) | (go_at_call 55; refine (DT.out _ bw1).mono ?_; rintro e w2 ⟨rfl, hb2⟩; have bw2 := bw1.trans (hb2.mono bw1.size); have t0 := bcellv hb2 r0; have u0 := bcellv hb2 s0; have t1 := bcellv hb2 r1; have u1 := bcellv hb2 s1; have t2 := bcellv hb2 r2; have u2 := bcellv hb2 s2; have t3 := bcellv hb2 r3; have u3 := bcellv hb2 s3; have t4 := bcellv hb2 r4; have u4 := bcellv hb2 s4; have t5 := bcellv hb2 r5; have u5 := bcellv hb2 s5; have t6 := bcellv hb2 r6; have u6 := bcellv hb2 s6; have t7 := bcellv hb2 r7; have u7 := bcellv hb2 s7))
   go_ret
   exact ⟨by rw [decide_eq_false hno]; rfl, bw2⟩
 ·rw [decide_eq_false e0] at DA
  have hno : ¬ ((⟨th, fr, no, tr, po, li, ro, sw⟩ : St) = ⟨th', fr', no', tr', po', li', ro', sw'⟩) := fun e => e0 (by injection e with k0 k1 k2 k3 k4 k5 k6 k7; first | done | exact ⟨k0, k1⟩)
  go_enter Tryz.func19, Tryz.ntmps19
  go_wp2_with (first | (go_at_call 54; refine (DA.out _ hbw).mono ?_; rintro e w1 ⟨rfl, hb1⟩; have bw1 := hbw.trans (hb1.mono hbw.size); have r0 := bcellv hb1 p0; have s0 := bcellv hb1 q0; have r1 := bcellv hb1 p1; have s1 := bcellv hb1 q1; have r2 := bcellv hb1 p2; have s2 := bcellv hb1 q2; have r3 := bcellv hb1 p3; have s3 := bcellv hb1 q3; have r4 := bcellv hb1 p4; have s4 := bcellv hb1 q4; have r5 := bcellv hb1 p5; have s5 := bcellv hb1 q5; have r6 := bcellv hb1 p6; have s6 := bcellv hb1 q6; have r7 := bcellv hb1 p7; have s7 := bcellv hb1 q7))
  go_ret
  exact ⟨by rw [decide_eq_false hno]; rfl, bw1⟩
end Go.Proofs.YtmcjccigglekpaaGreatDoor.Given
namespace Go.Proofs.YtmcjccigglekpaaGreatDoor.Given
open Go Go.RowKit Go.Proofs Go.Proofs.YtmcjccigglekpaaGreatDoorW.PrintWords Go.Proofs.YtmcjccigglekpaaGreatDoorW.PrintLast Go.Proofs.YtmcjccigglekpaaGreatDoorW.PrintMore Go.Proofs.YtmcjccigglekpaaGreatDoor.P

/-- A box that holds a state. -/
structure Bx (g : Nat) (h : Sv) (s : St) (cs : Array Value) (W : World) : Prop where
 blk : W.heap[g]? = some (.cells cs 32 (0, 0))
 row : h.At s W
section
variable {g : Nat} {h : Sv} {s : St} {cs : Array Value} {W W' : World} {a0 a1 a2 a3 a4 a5 a6 a7 : Value}
theorem Bx.on (H : Bx g h s cs W) (hb : Below W.heap.size W W') : Bx g h s cs W' := ⟨blk_below H.blk hb, H.row.below hb⟩
theorem Bx.cells (H : Bx g h s #[a0, a1, a2, a3, a4, a5, a6, a7] W) : W.cell? ⟨g, 0, none⟩ = some a0 ∧ W.cell? ⟨g, 1, none⟩ = some a1 ∧ W.cell? ⟨g, 2, none⟩ = some a2 ∧ W.cell? ⟨g, 3, none⟩ = some a3 ∧ W.cell? ⟨g, 4, none⟩ = some a4 ∧ W.cell? ⟨g, 5, none⟩ = some a5 ∧ W.cell? ⟨g, 6, none⟩ = some a6 ∧ W.cell? ⟨g, 7, none⟩ = some a7 :=
 ⟨(blk_cell H.blk 0).trans rfl, (blk_cell H.blk 1).trans rfl, (blk_cell H.blk 2).trans rfl, (blk_cell H.blk 3).trans rfl, (blk_cell H.blk 4).trans rfl, (blk_cell H.blk 5).trans rfl, (blk_cell H.blk 6).trans rfl, (blk_cell H.blk 7).trans rfl⟩
theorem Bx.make (H : h.At s W) (cs : Array Value) : Bx W.heap.size h s cs (W.alloc (.cells cs 32)) := ⟨blk_new W _, H.below ((Below.refl _ _).alloc (Nat.le_refl _) _)⟩
theorem Bx.alloc (H : Bx g h s cs W) (o : Obj) : Bx g h s cs (W.alloc o) := H.on ((Below.refl _ _).alloc (Nat.le_refl _) _)
end
/-- A state's header as eight letters. -/
theorem Sv.letters (h : Sv) (s : St) : ∃ a0 a1 a2 a3 a4 a5 a6 a7 : Value, h.cells s = #[a0, a1, a2, a3, a4, a5, a6, a7] := ⟨_, _, _, _, _, _, _, _, rfl⟩
set_option maxRecDepth 100000 in
set_option maxHeartbeats 1600000 in
theorem refSame_calls (h h' : Sv) (s s' : St) (w : World) (H : h.At s w) (H' : h'.At s' w) : Calls Tryz.prog 17 #[.agg (h.cells s), .agg (h'.cells s')] w (SPost (decide (s = s')) w) := by
 have D := Lib.hid (fun (W : World) (A : h.At s W) (B : h'.At s' W) => stateSame_calls h h' s s' W A B)
 obtain ⟨a0, a1, a2, a3, a4, a5, a6, a7, hc⟩ := h.letters s
 obtain ⟨b0, b1, b2, b3, b4, b5, b6, b7, hd⟩ := h'.letters s'
 rw [hc, hd] at D ⊢
 have X := (Bx.make H #[a0, a1, a2, a3, a4, a5, a6, a7]).alloc (.cells #[b0, b1, b2, b3, b4, b5, b6, b7] 32)
 have Y := Bx.make (H'.below ((Below.refl _ _).alloc (Nat.le_refl _) (.cells #[a0, a1, a2, a3, a4, a5, a6, a7] 32))) #[b0, b1, b2, b3, b4, b5, b6, b7]
 have HB : Below w.heap.size w ((w.alloc (.cells #[a0, a1, a2, a3, a4, a5, a6, a7] 32)).alloc (.cells #[b0, b1, b2, b3, b4, b5, b6, b7] 32)) := ((Below.refl _ _).alloc (Nat.le_refl _) _).alloc (by simp) _
 go_enter Tryz.func17, Tryz.ntmps17
 go_wp2_with (go_at_call 19; (with_reducible refine (D.out _ X.row Y.row).mono ?_); clear D; rintro e w1 ⟨rfl, hc⟩)
 go_ret
 exact ⟨rfl, HB.trans (hc.mono HB.size)⟩
end Go.Proofs.YtmcjccigglekpaaGreatDoor.Given
namespace Go.Proofs.YtmcjccigglekpaaGreatDoor.Given
open Go Go.RowKit Go.Proofs Go.Proofs.YtmcjccigglekpaaGreatDoorW.PrintWords Go.Proofs.YtmcjccigglekpaaGreatDoorW.PrintLast Go.Proofs.YtmcjccigglekpaaGreatDoorW.PrintMore Go.Proofs.YtmcjccigglekpaaGreatDoor.P

def BoolPost (b : Bool) (w : World) (e : Ending) (w' : World) : Prop := e = .returned (.bool b) ∧ Below w.heap.size w w'
/-- Is a state small? -/
def smallLen (s : St) : Bool := decide (s.th.length ≤ 70 ∧ s.no.length ≤ 70 ∧ s.po.length ≤ 70 ∧ s.tr.length ≤ 520 ∧ s.fr.length ≤ 70 ∧ s.li.length ≤ 70 ∧ s.sw.length ≤ 70 ∧ s.ro.length ≤ 70)
def smallB (s : St) : Bool := smallLen s && (s.no.all (fun x => decide (x.length ≤ 20)) && (s.po.all (fun x => decide (x.f2.length ≤ 70)) && (s.fr.all (fun x => decide (x.length ≤ 70)) && s.li.all (fun x => decide (x.length ≤ 70)))))
theorem leftOne {n k : Nat} (h : k < n) : n - ((k : Int) + 1).toNat < n - ((k : Int)).toNat := by omega
set_option maxRecDepth 100000 in
set_option maxHeartbeats 1600000 in
theorem small_calls (h : Sv) (s : St) (w : World) (hs : h.At s w) : Calls Tryz.prog 8 #[.agg (h.cells s)] w (BoolPost (smallB s) w) := by
 obtain ⟨A0, A1, A2, A3, A4, A5, A6, A7, c0, c1, c2, c3, c4, c5, c6, c7⟩ := h
 have HS := Lib.hid hs
 obtain ⟨r, hr⟩ : ∃ r, smallB s = r := ⟨_, rfl⟩
 have HR := Lib.hid hr
 rw [hr]
 clear hs hr
 dsimp only [Sv.cells]
 by_cases d0 : 70 < (s.th.length : Int)
 ·have b0 : decide (70 < (s.th.length : Int)) = true := decide_eq_true d0
  have e0 := HR.out
  rw [show smallB s = false by unfold smallB smallLen; rw [decide_eq_false (by omega)]; rfl] at e0
  subst e0
  clear HR
  go_enter Tryz.func8, Tryz.ntmps8
  go_wp2
  go_ret
  exact ⟨rfl, (Below.refl _ _).alloc (Nat.le_refl _) _⟩
 have b0 : decide (70 < (s.th.length : Int)) = false := decide_eq_false d0
 by_cases d1 : 70 < (s.no.length : Int)
 ·have b1 : decide (70 < (s.no.length : Int)) = true := decide_eq_true d1
  have e0 := HR.out
  rw [show smallB s = false by unfold smallB smallLen; rw [decide_eq_false (by omega)]; rfl] at e0
  subst e0
  clear HR
  go_enter Tryz.func8, Tryz.ntmps8
  go_wp2
  go_ret
  exact ⟨rfl, (Below.refl _ _).alloc (Nat.le_refl _) _⟩
 have b1 : decide (70 < (s.no.length : Int)) = false := decide_eq_false d1
 by_cases d2 : 70 < (s.po.length : Int)
 ·have b2 : decide (70 < (s.po.length : Int)) = true := decide_eq_true d2
  have e0 := HR.out
  rw [show smallB s = false by unfold smallB smallLen; rw [decide_eq_false (by omega)]; rfl] at e0
  subst e0
  clear HR
  go_enter Tryz.func8, Tryz.ntmps8
  go_wp2
  go_ret
  exact ⟨rfl, (Below.refl _ _).alloc (Nat.le_refl _) _⟩
 have b2 : decide (70 < (s.po.length : Int)) = false := decide_eq_false d2
 by_cases d3 : 520 < (s.tr.length : Int)
 ·have b3 : decide (520 < (s.tr.length : Int)) = true := decide_eq_true d3
  have e0 := HR.out
  rw [show smallB s = false by unfold smallB smallLen; rw [decide_eq_false (by omega)]; rfl] at e0
  subst e0
  clear HR
  go_enter Tryz.func8, Tryz.ntmps8
  go_wp2
  go_ret
  exact ⟨rfl, (Below.refl _ _).alloc (Nat.le_refl _) _⟩
 have b3 : decide (520 < (s.tr.length : Int)) = false := decide_eq_false d3
 by_cases d4 : 70 < (s.fr.length : Int)
 ·have b4 : decide (70 < (s.fr.length : Int)) = true := decide_eq_true d4
  have e0 := HR.out
  rw [show smallB s = false by unfold smallB smallLen; rw [decide_eq_false (by omega)]; rfl] at e0
  subst e0
  clear HR
  go_enter Tryz.func8, Tryz.ntmps8
  go_wp2
  go_ret
  exact ⟨rfl, (Below.refl _ _).alloc (Nat.le_refl _) _⟩
 have b4 : decide (70 < (s.fr.length : Int)) = false := decide_eq_false d4
 by_cases d5 : 70 < (s.li.length : Int)
 ·have b5 : decide (70 < (s.li.length : Int)) = true := decide_eq_true d5
  have e0 := HR.out
  rw [show smallB s = false by unfold smallB smallLen; rw [decide_eq_false (by omega)]; rfl] at e0
  subst e0
  clear HR
  go_enter Tryz.func8, Tryz.ntmps8
  go_wp2
  go_ret
  exact ⟨rfl, (Below.refl _ _).alloc (Nat.le_refl _) _⟩
 have b5 : decide (70 < (s.li.length : Int)) = false := decide_eq_false d5
 by_cases d6 : 70 < (s.sw.length : Int)
 ·have b6 : decide (70 < (s.sw.length : Int)) = true := decide_eq_true d6
  have e0 := HR.out
  rw [show smallB s = false by unfold smallB smallLen; rw [decide_eq_false (by omega)]; rfl] at e0
  subst e0
  clear HR
  go_enter Tryz.func8, Tryz.ntmps8
  go_wp2
  go_ret
  exact ⟨rfl, (Below.refl _ _).alloc (Nat.le_refl _) _⟩
 have b6 : decide (70 < (s.sw.length : Int)) = false := decide_eq_false d6
 by_cases d7 : 70 < (s.ro.length : Int)
 ·have b7 : decide (70 < (s.ro.length : Int)) = true := decide_eq_true d7
  have e0 := HR.out
  rw [show smallB s = false by unfold smallB smallLen; rw [decide_eq_false (by omega)]; rfl] at e0
  subst e0
  clear HR
  go_enter Tryz.func8, Tryz.ntmps8
  go_wp2
  go_ret
  exact ⟨rfl, (Below.refl _ _).alloc (Nat.le_refl _) _⟩
 have b7 : decide (70 < (s.ro.length : Int)) = false := decide_eq_false d7
 go_enter Tryz.func8, Tryz.ntmps8
 go_wp2
 have HB : Below w.heap.size w (w.alloc (Obj.cells #[.slice A0 s.th.length c0, .slice A1 s.fr.length c1, .slice A2 s.no.length c2, .slice A3 s.tr.length c3, .slice A4 s.po.length c4, .slice A5 s.li.length c5, .slice A6 s.ro.length c6, .slice A7 s.sw.length c7] 32)) := (Below.refl _ _).alloc (Nat.le_refl _) _
 have HL : w.heap.size < (w.alloc (Obj.cells #[.slice A0 s.th.length c0, .slice A1 s.fr.length c1, .slice A2 s.no.length c2, .slice A3 s.tr.length c3, .slice A4 s.po.length c4, .slice A5 s.li.length c5, .slice A6 s.ro.length c6, .slice A7 s.sw.length c7] 32)).heap.size := by simp
 have m1 : (w.alloc (Obj.cells #[.slice A0 s.th.length c0, .slice A1 s.fr.length c1, .slice A2 s.no.length c2, .slice A3 s.tr.length c3, .slice A4 s.po.length c4, .slice A5 s.li.length c5, .slice A6 s.ro.length c6, .slice A7 s.sw.length c7] 32)).cell? ⟨w.heap.size, 1, none⟩ = some (.slice A1 s.fr.length c1) := by simp
 have m2 : (w.alloc (Obj.cells #[.slice A0 s.th.length c0, .slice A1 s.fr.length c1, .slice A2 s.no.length c2, .slice A3 s.tr.length c3, .slice A4 s.po.length c4, .slice A5 s.li.length c5, .slice A6 s.ro.length c6, .slice A7 s.sw.length c7] 32)).cell? ⟨w.heap.size, 2, none⟩ = some (.slice A2 s.no.length c2) := by simp
 have m4 : (w.alloc (Obj.cells #[.slice A0 s.th.length c0, .slice A1 s.fr.length c1, .slice A2 s.no.length c2, .slice A3 s.tr.length c3, .slice A4 s.po.length c4, .slice A5 s.li.length c5, .slice A6 s.ro.length c6, .slice A7 s.sw.length c7] 32)).cell? ⟨w.heap.size, 4, none⟩ = some (.slice A4 s.po.length c4) := by simp
 have m5 : (w.alloc (Obj.cells #[.slice A0 s.th.length c0, .slice A1 s.fr.length c1, .slice A2 s.no.length c2, .slice A3 s.tr.length c3, .slice A4 s.po.length c4, .slice A5 s.li.length c5, .slice A6 s.ro.length c6, .slice A7 s.sw.length c7] 32)).cell? ⟨w.heap.size, 5, none⟩ = some (.slice A5 s.li.length c5) := by simp
 generalize (w.alloc (Obj.cells #[.slice A0 s.th.length c0, .slice A1 s.fr.length c1, .slice A2 s.no.length c2, .slice A3 s.tr.length c3, .slice A4 s.po.length c4, .slice A5 s.li.length c5, .slice A6 s.ro.length c6, .slice A7 s.sw.length c7] 32)) = wb at *
 clear b0 b1 b2 b3 b4 b5 b6 b7
 have hb0 : ∀ w', Below wb.heap.size wb w' → Sv.At ⟨A0, A1, A2, A3, A4, A5, A6, A7, c0, c1, c2, c3, c4, c5, c6, c7⟩ s w' := fun w' hb => HS.out.below (HB.trans (hb.mono (Nat.le_of_lt HL)))
 clear HS
 have HAt := Lib.hid hb0
 clear hb0
 go_loopw [3] (fun v wr => ∃ k : Nat, k ≤ s.no.length ∧ v = .int .i64 k ∧ Hid (∀ j, j < k → ∀ hj : j < s.no.length, s.no[j].length ≤ 20) ∧ Below wb.heap.size wb wr) (fun v _ => s.no.length - (intOf v).toNat)
 case atStart => exact ⟨0, Nat.zero_le _, rfl, Lib.hid (fun j hj => absurd hj (Nat.not_lt_zero j)), Below.refl _ _⟩
 case round =>
  obtain ⟨k, hk, rfl, hup, hB⟩ := hrel
  have n2 := bcellv hB m2
  by_cases hlt : k < s.no.length
  ·have hd : decide ((k : Int) < (s.no.length : Int)) = true := decide_eq_true (by omega)
   have hA := HAt.out _ hB
   obtain ⟨ad, A, c, e1, hx, hlc, hN⟩ := at_row hA.r2 k (by omega)
   dsimp only at e1
   subst e1
   clear hA hN
   have i2 : decide (0 ≤ (k : Int)) = true := decide_eq_true (by omega)
   have j3 : decide (k < s.no.length) = true := decide_eq_true (by omega)
   by_cases f0 : 20 < (s.no[k].length : Int)
   ·have g0 : decide (20 < (s.no[k].length : Int)) = true := decide_eq_true f0
    go_wp2
    go_ret
    have e0 := HR.out
    rw [show smallB s = false by unfold smallB; rw [all_take_false (f := fun x : List S87 => decide (x.length ≤ 20)) (l := s.no) k hlt (decide_eq_false (by omega))]; simp] at e0
    subst e0
    exact ⟨rfl, HB.trans (hB.mono (Nat.le_of_lt HL))⟩
   ·have g0 : decide (20 < (s.no[k].length : Int)) = false := decide_eq_false f0
    go_wp2
    refine ⟨⟨k + 1, hlt, rfl, Lib.hid (fun j hj hl => ?_), hB⟩, leftOne hlt⟩
    by_cases hjk : j = k
    ·subst hjk; omega
    ·exact hup.out j (by omega) hl
  ·have hd : decide ((k : Int) < (s.no.length : Int)) = false := decide_eq_false (by omega)
   clear hk
   go_wp2
   have U2 : Hid (s.no.all (fun x => decide (x.length ≤ 20)) = true) := Lib.hid (all_of_get fun j hj => decide_eq_true (hup.out j (by omega) hj))
   have HB0 := hB
   clear hB hlt hd hup
   go_loopw [4] (fun v wr => ∃ k : Nat, k ≤ s.po.length ∧ v = .int .i64 k ∧ Hid (∀ j, j < k → ∀ hj : j < s.po.length, s.po[j].f2.length ≤ 70) ∧ Below wb.heap.size wb wr) (fun v _ => s.po.length - (intOf v).toNat)
   case atStart => exact ⟨0, Nat.zero_le _, rfl, Lib.hid (fun j hj => absurd hj (Nat.not_lt_zero j)), HB0⟩
   case round =>
    obtain ⟨k, hk, rfl, hup, hB⟩ := hrel
    have n4 := bcellv hB m4
    by_cases hlt : k < s.po.length
    ·have hd : decide ((k : Int) < (s.po.length : Int)) = true := decide_eq_true (by omega)
     have hA := HAt.out _ hB
     obtain ⟨ap, Aq, cq, e2, hy0, hy1, hy2, hlq, hQ⟩ := at_T59 hA.r4 (k : Int) (by omega) (by omega)
     rw [rdPort _ k (by omega)] at hy0 hy1 hy2 hlq hQ
     rw [Int.toNat_natCast] at hy0 hy1 hy2
     dsimp only at e2
     subst e2
     clear hA hQ
     have i2 : decide (0 ≤ (k : Int)) = true := decide_eq_true (by omega)
     have j3 : decide (k < s.po.length) = true := decide_eq_true (by omega)
     by_cases f0 : 70 < (s.po[k].f2.length : Int)
     ·have g0 : decide (70 < (s.po[k].f2.length : Int)) = true := decide_eq_true f0
      go_wp2
      go_ret
      have e0 := HR.out
      rw [show smallB s = false by unfold smallB; rw [all_take_false (f := fun x : S59 => decide (x.f2.length ≤ 70)) (l := s.po) k hlt (decide_eq_false (by omega))]; simp] at e0
      subst e0
      exact ⟨rfl, HB.trans (hB.mono (Nat.le_of_lt HL))⟩
     ·have g0 : decide (70 < (s.po[k].f2.length : Int)) = false := decide_eq_false f0
      go_wp2
      refine ⟨⟨k + 1, hlt, rfl, Lib.hid (fun j hj hl => ?_), hB⟩, leftOne hlt⟩
      by_cases hjk : j = k
      ·subst hjk; omega
      ·exact hup.out j (by omega) hl
    ·have hd : decide ((k : Int) < (s.po.length : Int)) = false := decide_eq_false (by omega)
     clear hk
     go_wp2
     have U4 : Hid (s.po.all (fun x => decide (x.f2.length ≤ 70)) = true) := Lib.hid (all_of_get fun j hj => decide_eq_true (hup.out j (by omega) hj))
     have HB0 := hB
     clear hB hlt hd hup
     go_loopw [5] (fun v wr => ∃ k : Nat, k ≤ s.fr.length ∧ v = .int .i64 k ∧ Hid (∀ j, j < k → ∀ hj : j < s.fr.length, s.fr[j].length ≤ 70) ∧ Below wb.heap.size wb wr) (fun v _ => s.fr.length - (intOf v).toNat)
     case atStart => exact ⟨0, Nat.zero_le _, rfl, Lib.hid (fun j hj => absurd hj (Nat.not_lt_zero j)), HB0⟩
     case round =>
      obtain ⟨k, hk, rfl, hup, hB⟩ := hrel
      have n1 := bcellv hB m1
      by_cases hlt : k < s.fr.length
      ·have hd : decide ((k : Int) < (s.fr.length : Int)) = true := decide_eq_true (by omega)
       have hA := HAt.out _ hB
       obtain ⟨ad, A, c, e1, hx, hlc, hN⟩ := at_row hA.r1 k (by omega)
       dsimp only at e1
       subst e1
       clear hA hN
       have i2 : decide (0 ≤ (k : Int)) = true := decide_eq_true (by omega)
       have j3 : decide (k < s.fr.length) = true := decide_eq_true (by omega)
       by_cases f0 : 70 < (s.fr[k].length : Int)
       ·have g0 : decide (70 < (s.fr[k].length : Int)) = true := decide_eq_true f0
        go_wp2
        go_ret
        have e0 := HR.out
        rw [show smallB s = false by unfold smallB; rw [all_take_false (f := fun x : List Int => decide (x.length ≤ 70)) (l := s.fr) k hlt (decide_eq_false (by omega))]; simp] at e0
        subst e0
        exact ⟨rfl, HB.trans (hB.mono (Nat.le_of_lt HL))⟩
       ·have g0 : decide (70 < (s.fr[k].length : Int)) = false := decide_eq_false f0
        go_wp2
        refine ⟨⟨k + 1, hlt, rfl, Lib.hid (fun j hj hl => ?_), hB⟩, leftOne hlt⟩
        by_cases hjk : j = k
        ·subst hjk; omega
        ·exact hup.out j (by omega) hl
      ·have hd : decide ((k : Int) < (s.fr.length : Int)) = false := decide_eq_false (by omega)
       clear hk
       go_wp2
       have U1 : Hid (s.fr.all (fun x => decide (x.length ≤ 70)) = true) := Lib.hid (all_of_get fun j hj => decide_eq_true (hup.out j (by omega) hj))
       have HB0 := hB
       clear hB hlt hd hup
       go_loopw [6] (fun v wr => ∃ k : Nat, k ≤ s.li.length ∧ v = .int .i64 k ∧ Hid (∀ j, j < k → ∀ hj : j < s.li.length, s.li[j].length ≤ 70) ∧ Below wb.heap.size wb wr) (fun v _ => s.li.length - (intOf v).toNat)
       case atStart => exact ⟨0, Nat.zero_le _, rfl, Lib.hid (fun j hj => absurd hj (Nat.not_lt_zero j)), HB0⟩
       case round =>
        obtain ⟨k, hk, rfl, hup, hB⟩ := hrel
        have n5 := bcellv hB m5
        by_cases hlt : k < s.li.length
        ·have hd : decide ((k : Int) < (s.li.length : Int)) = true := decide_eq_true (by omega)
         have hA := HAt.out _ hB
         obtain ⟨ad, A, c, e1, hx, hlc, hN⟩ := at_row hA.r5 k (by omega)
         dsimp only at e1
         subst e1
         clear hA hN
         have i2 : decide (0 ≤ (k : Int)) = true := decide_eq_true (by omega)
         have j3 : decide (k < s.li.length) = true := decide_eq_true (by omega)
         by_cases f0 : 70 < (s.li[k].length : Int)
         ·have g0 : decide (70 < (s.li[k].length : Int)) = true := decide_eq_true f0
          go_wp2
          go_ret
          have e0 := HR.out
          rw [show smallB s = false by unfold smallB; rw [all_take_false (f := fun x : List Int => decide (x.length ≤ 70)) (l := s.li) k hlt (decide_eq_false (by omega))]; simp] at e0
          subst e0
          exact ⟨rfl, HB.trans (hB.mono (Nat.le_of_lt HL))⟩
         ·have g0 : decide (70 < (s.li[k].length : Int)) = false := decide_eq_false f0
          go_wp2
          refine ⟨⟨k + 1, hlt, rfl, Lib.hid (fun j hj hl => ?_), hB⟩, leftOne hlt⟩
          by_cases hjk : j = k
          ·subst hjk; omega
          ·exact hup.out j (by omega) hl
        ·have hd : decide ((k : Int) < (s.li.length : Int)) = false := decide_eq_false (by omega)
         clear hk
         go_wp2
         have U5 : Hid (s.li.all (fun x => decide (x.length ≤ 70)) = true) := Lib.hid (all_of_get fun j hj => decide_eq_true (hup.out j (by omega) hj))
         go_ret
         have e0 := HR.out
         rw [show smallB s = true by unfold smallB smallLen; rw [U2.out, U4.out, U1.out, U5.out, decide_eq_true (by omega)]; rfl] at e0
         subst e0
         exact ⟨rfl, HB.trans (hB.mono (Nat.le_of_lt HL))⟩
end Go.Proofs.YtmcjccigglekpaaGreatDoor.Given
namespace Go.Proofs.YtmcjccigglekpaaGreatDoor.Plain
open Go

theorem index_one_none : ∀ (l : List UInt8) (c : UInt8), (∀ x ∈ l, x ≠ c) → Lib.index l [c] = -1
 | [], _, _ => rfl
 | b :: l, c, h => by
  have hb := h b List.mem_cons_self
  have ih := index_one_none l c (fun x hx => h x (List.mem_cons_of_mem _ hx))
  unfold Lib.index
  rw [ih]
  simp [List.isPrefixOf, Ne.symm hb]
theorem index_one_at : ∀ (l r : List UInt8) (c : UInt8), (∀ x ∈ l, x ≠ c) → Lib.index (l ++ c :: r) [c] = (l.length : Int)
 | [], r, c, _ => by
  show Lib.index (c :: r) [c] = 0
  unfold Lib.index
  simp [List.isPrefixOf]
 | b :: l, r, c, h => by
  have hb := h b List.mem_cons_self
  have ih := index_one_at l r c (fun x hx => h x (List.mem_cons_of_mem _ hx))
  show Lib.index (b :: (l ++ c :: r)) [c] = _
  unfold Lib.index
  rw [ih]
  have : ((l.length : Int) == -1) = false := by rw [beq_eq_false_iff_ne]; omega
  simp [List.isPrefixOf, Ne.symm hb, this]
theorem cut_none (l : List UInt8) (c : UInt8) (h : ∀ x ∈ l, x ≠ c) : Lib.cut l [c] = (l, [], false) := by
 unfold Lib.cut
 rw [index_one_none l c h, if_neg (by omega)]
theorem cut_at (l r : List UInt8) (c : UInt8) (h : ∀ x ∈ l, x ≠ c) : Lib.cut (l ++ c :: r) [c] = (l, r, true) := by
 unfold Lib.cut
 rw [index_one_at l r c h, if_pos (by omega)]
 simp

/-- Words with blanks between. -/
def joinL : List (List UInt8) → List UInt8
 | [] => []
 | [w] => w
 | w :: v :: ws => w ++ 32 :: joinL (v :: ws)
/-- No blank, no line feed. -/
def Word (w : List UInt8) : Prop := ∀ c ∈ w, c ≠ 32 ∧ c ≠ 10
theorem joinL_cons (w v : List UInt8) (ws : List (List UInt8)) : joinL (w :: v :: ws) = w ++ 32 :: joinL (v :: ws) := rfl
theorem joinL_flat (w : List UInt8) (ws : List (List UInt8)) : joinL (w :: ws) = w ++ ws.flatMap (fun v => 32 :: v) := by
 induction ws generalizing w with
 | nil => simp [joinL]
 | cons v ws ih => rw [joinL_cons, ih v]; simp
theorem joinL_noLF : ∀ (ws : List (List UInt8)), (∀ w ∈ ws, Word w) → ∀ c ∈ joinL ws, c ≠ 10
 | [], _, c, hc => by simp [joinL] at hc
 | [w], h, c, hc => (h w List.mem_cons_self c hc).2
 | w :: v :: ws, h, c, hc => by
  rw [joinL_cons] at hc
  rcases List.mem_append.1 hc with hc | hc
  ·exact (h w List.mem_cons_self c hc).2
  ·rcases List.mem_cons.1 hc with hc | hc
   ·rw [hc]; decide
   ·exact joinL_noLF (v :: ws) (fun x hx => h x (List.mem_cons_of_mem _ hx)) c hc
theorem split_join : ∀ (w : List UInt8) (ws : List (List UInt8)), (∀ x ∈ w :: ws, Word x) → Lib.count (joinL (w :: ws)) [32] = ws.length ∧ ∀ k, ws.length ≤ k → Lib.splitK [32] 0 k (joinL (w :: ws)) = w :: ws
 | w, [], h => by
  have hi := index_one_none w 32 (fun x hx => (h w List.mem_cons_self x hx).1)
  refine ⟨Lib.count_miss hi, fun k _ => ?_⟩
  cases k with
  | zero => rfl
  | succ k => show Lib.splitK [32] 0 (k + 1) w = [w]; unfold Lib.splitK; rw [hi]; rfl
 | w, v :: ws, h => by
  have hi := index_one_at w (joinL (v :: ws)) 32 (fun x hx => (h w List.mem_cons_self x hx).1)
  obtain ⟨h1, h2⟩ := split_join v ws (fun x hx => h x (List.mem_cons_of_mem _ hx))
  have hd : (w ++ 32 :: joinL (v :: ws)).drop (w.length + 1) = joinL (v :: ws) := by simp
  rw [joinL_cons]
  refine ⟨?_, fun k hk => ?_⟩
  ·rw [Lib.count_hit (by simp) hi]
   show 1 + Lib.count ((w ++ 32 :: joinL (v :: ws)).drop (w.length + 1)) [32] = _
   rw [hd, h1, List.length_cons]
   omega
  ·obtain ⟨k, rfl⟩ : ∃ m, k = m + 1 := ⟨k - 1, by simp only [List.length_cons] at hk; omega⟩
   unfold Lib.splitK
   rw [hi]
   have : ((w.length : Int) == -1) = false := by rw [beq_eq_false_iff_ne]; omega
   rw [this]
   show (w ++ 32 :: joinL (v :: ws)).take ((w.length : Int).toNat + 0) :: Lib.splitK [32] 0 k ((w ++ 32 :: joinL (v :: ws)).drop ((w.length : Int).toNat + 1)) = _
   rw [Int.toNat_natCast, hd, h2 k (by simp only [List.length_cons] at hk; omega)]
   simp
theorem ba_ext {a b : ByteArray} (h : a.data.toList = b.data.toList) : a = b := by
 cases a; cases b; congr 1; exact Array.toList_inj.1 h
theorem pieces_join (w : ByteArray) (ws : List ByteArray) (s : ByteArray) (hs : s.data.toList = joinL ((w :: ws).map (fun x => x.data.toList))) (h : ∀ x ∈ w :: ws, Word x.data.toList) :
  Lib.splitB ⟨#[32]⟩ 0 (Lib.countB s ⟨#[32]⟩) s = w :: ws := by
 obtain ⟨h1, h2⟩ := split_join w.data.toList (ws.map (fun x => x.data.toList)) (by
  intro x hx
  rw [← List.map_cons (f := fun x : ByteArray => x.data.toList)] at hx
  obtain ⟨y, hy, rfl⟩ := List.mem_map.1 hx
  exact h y hy)
 have hd := Lib.splitB_data ⟨#[32]⟩ 0 (Lib.countB s ⟨#[32]⟩) s
 have hc : Lib.countB s ⟨#[32]⟩ = ws.length := by
  show Lib.count s.data.toList [32] = _
  rw [hs]
  rw [List.map_cons, h1, List.length_map]
 rw [hc] at hd ⊢
 have hk := h2 ws.length (by simp)
 have he : (Lib.splitB ⟨#[32]⟩ 0 ws.length s).map (fun x => x.data.toList) = (w :: ws).map (fun x => x.data.toList) := by
  rw [hd]
  show Lib.splitK [32] 0 ws.length s.data.toList = _
  rw [hs]
  exact hk
 exact (List.map_inj_right (fun a b h => ba_ext h)).1 he
end Go.Proofs.YtmcjccigglekpaaGreatDoor.Plain
namespace Go.Proofs.YtmcjccigglekpaaGreatDoor.Given
open Go Go.RowKit Go.Proofs Go.Proofs.YtmcjccigglekpaaGreatDoorW.PrintWords Go.Lib Go.Sort

/-- The number that a word is read as; 0, or the nearest one, where it is none. -/
def numS (s : ByteArray) : Int := match Lib.parseIntB 64 s.data.toList with
 | .ok v => v
 | .range => Lib.intSat 64 s.data.toList
 | _ => 0
theorem numS_64 (s : ByteArray) : R64 (numS s) := by
 unfold numS
 rcases h : Lib.parseIntB 64 s.data.toList with v | _ | _
 ·show R64 v
  unfold Lib.parseIntB at h
  split at h
  ·cases h
  ·dsimp only at h
   split at h
   ·cases h
   ·cases h
   ·split at h
    ·cases h
    ·split at h
     ·cases h
     ·injection h with h
      subst h
      unfold R64
      split <;> omega
 ·show R64 0; exact ⟨by decide, by decide⟩
 ·show R64 (Lib.intSat 64 _)
  unfold Lib.intSat R64
  split <;> simp
theorem pint_calls (s : ByteArray) (hs : s.size ≤ 1000000) (w : World) (hG : GL w) : Calls Tryz.prog 90 #[.string s, .int .i64 10, .int .i64 64] w fun e w' => (∃ ev, e = .returned (.tuple #[.int .i64 (numS s), ev])) ∧ Below w.heap.size w w' := by
 obtain ⟨_, ⟨e1, hv1, he1⟩, ⟨e2, hv2, he2⟩, _⟩ := hG
 rcases hq : Lib.parseIntB 64 s.data.toList with v | _ | _
 ·have hn : numS s = v := by unfold numS; rw [hq]
  rw [hn]
  refine Calls.mono (Any.strconv_ParseInt_10_at64_ok Tryz.pintC s (by omega) v hq w) ?_
  rintro e w' ⟨rfl, hw⟩
  refine ⟨⟨_, rfl⟩, ?_⟩
  rcases hw with rfl | ⟨t, rfl⟩
  ·exact Below.refl _ _
  ·exact Lib.bytesWorld_below _ _ _
 ·have hn : numS s = 0 := by unfold numS; rw [hq]
  rw [hn]
  refine Calls.mono (Any.strconv_ParseInt_10_at64_syntax Tryz.pintC s (by omega) hq e1 w hv1 he1) ?_
  rintro e w' ⟨N, rfl, _, _, hb⟩
  exact ⟨⟨_, rfl⟩, hb⟩
 ·have hn : numS s = Lib.intSat 64 s.data.toList := by unfold numS; rw [hq]
  rw [hn]
  refine Calls.mono (Any.strconv_ParseInt_10_at64_range Tryz.pintC s (by omega) hq e2 w hv2 he2) ?_
  rintro e w' ⟨N, rfl, _, _, hb⟩
  exact ⟨⟨_, rfl⟩, hb⟩
end Go.Proofs.YtmcjccigglekpaaGreatDoor.Given
namespace Go.Proofs.YtmcjccigglekpaaGreatDoor.Given
open Go Go.RowKit Go.Proofs Go.Proofs.YtmcjccigglekpaaGreatDoorW.PrintWords Go.Proofs.YtmcjccigglekpaaGreatDoorW.PrintLast Go.Proofs.YtmcjccigglekpaaGreatDoorW.PrintMore Go.Proofs.YtmcjccigglekpaaGreatDoor.P

def cellsN (l : List ByteArray) (k : Nat) : Array Value := (((l.take k).map numS ++ List.replicate (l.length - k) 0).map (Value.int .i64)).toArray
theorem cellsN_size (l : List ByteArray) (k : Nat) (hk : k ≤ l.length) : (cellsN l k).size = l.length := by simp [cellsN]; omega
theorem cellsN_get (l : List ByteArray) (k : Nat) (hk : k < l.length) : (cellsN l k)[k]? = some (.int .i64 0) := by
 have hl : ((l.take k).map numS).length = k := by rw [List.length_map, List.length_take]; omega
 unfold cellsN
 rw [List.getElem?_toArray, List.getElem?_map, List.getElem?_append_right (by omega), hl, Nat.sub_self, List.getElem?_replicate, if_pos (by omega)]
 rfl
theorem cellsN_set (l : List ByteArray) (k : Nat) (hk : k < l.length) : (cellsN l k).setIfInBounds k (.int .i64 (numS l[k])) = cellsN l (k + 1) := by
 have hl : ((l.take k).map numS).length = k := by rw [List.length_map, List.length_take]; omega
 have hr : List.replicate (l.length - k) (0 : Int) = 0 :: List.replicate (l.length - (k + 1)) 0 := by
  rw [← List.replicate_succ, show l.length - (k + 1) + 1 = l.length - k by omega]
 unfold cellsN
 rw [List.setIfInBounds_toArray, ← List.map_set]
 congr 2
 rw [List.set_append_right _ _ (by omega), hl, Nat.sub_self, hr, List.set_cons_zero, List.take_succ_eq_append_getElem hk, List.map_append, List.append_assoc]
 rfl
theorem made_cellsN (l : List ByteArray) : madeCells #[.int .i64 0] l.length = cellsN l 0 := by
 unfold madeCells cellsN
 apply Array.ext
 ·simp
 ·intro i h1 h2
  simp [Nat.mod_one]

set_option maxRecDepth 100000 in
set_option maxHeartbeats 1000000 in
theorem numbers_calls (A : Option Addr) (c : Nat) (l : List ByteArray) (hl : ∀ x ∈ l, x.size ≤ 1000000) (hm : l.length ≤ 1000000) (w : World) (hG : GL w) (hr : Kd.C Kd.string w A l.length l) :
  Calls Tryz.prog 47 #[.slice A l.length c] w fun e w' => e = .returned (.slice (some ⟨w.heap.size, 0, none⟩) l.length l.length) ∧ w'.heap[w.heap.size]? = some (.cells (cellsN l l.length) 2 (0, 0)) ∧ Below w.heap.size w w' := by
 obtain ⟨i0, hi, hz0, hz1, hz2⟩ := info_parts (show (Tryz.prog.info? 2).map (fun i => (i.zero, i.size, i.bytes)) = some (some (.int .i64 0), 1, 8) by kernel_rfl)
 have hmk := run_makeSlice (P := Tryz.prog) w 104 2 i0 (.int .i64 0) Tryz.underlying104 hi hz0 .i64 .i64 (l.length : Int) (l.length : Int) (by omega) (by omega) (by rw [hz1]; omega) (by rw [hz2]; omega) (by omega)
 rw [Int.toNat_natCast, hz1] at hmk
 go_enter Tryz.func47, Tryz.ntmps47
 go_wp2
 have HG := Lib.hid hG
 have HL := Lib.hid hl
 clear hG hl hmk
 go_loopw [11] (fun v wr => ∃ k : Nat, k ≤ l.length ∧ v = .int .i64 k ∧ wr.heap[w.heap.size]? = some (.cells (cellsN l k) 2 (0, 0)) ∧ Below w.heap.size w wr) (fun v _ => l.length - (intOf v).toNat)
 case atStart => exact ⟨0, Nat.zero_le _, rfl, by rw [← made_cellsN l]; exact heap_alloc_new w _, (Below.refl _ _).alloc (Nat.le_refl _) _⟩
 case round =>
  obtain ⟨k, hk, rfl, hblk, hB⟩ := hrel
  by_cases hlt : k < l.length
  ·have hd : decide ((k : Int) < (l.length : Int)) = true := decide_eq_true (by omega)
   have i2 : decide (0 ≤ (k : Int)) = true := decide_eq_true (by omega)
   have j2 : decide (k < l.length) = true := decide_eq_true hlt
   obtain ⟨ad, e1, hx⟩ := Kd.at_string (Kd.C_below hr hB) (k : Int) (by omega) (by omega)
   subst e1
   rw [Int.toNat_natCast, show rdOf ByteArray.empty l (k : Int) = l[k] by unfold rdOf; rw [Int.toNat_natCast, List.getD_eq_getElem?_getD, List.getElem?_eq_getElem hlt]; rfl] at hx
   have hset := cellsN_set l k hlt
   have D := Lib.hid (fun w' (h' : GL w') => pint_calls l[k] (HL.out _ (List.getElem_mem hlt)) w' h')
   generalize l[k] = s at *
   generalize numS s = n at *
   have HS := Lib.hid hset
   clear hset
   have hin : k < (cellsN l k).size := by rw [cellsN_size l k hk]; exact hlt
   go_wp2_with (go_at_call 90; (with_reducible refine (D.out _ ?_).mono ?_); clear D; (exact HG.out.below hB); rintro e w2 ⟨⟨ev, rfl⟩, hb2⟩; have n2 := (hb2.block _ (heap_lt hblk)).trans hblk; have c2 := (blk_cell n2 k).trans (cellsN_get l k hlt); have f2 := blk_frozen n2 k)
   have hB2 := hB.trans (hb2.mono hB.size)
   refine ⟨⟨k + 1, hlt, rfl, ?_, hB2.setCell (p := ⟨w.heap.size, k, none⟩) (Nat.le_refl _) _⟩, ?_⟩
   ·rw [← HS.out]
    exact blk_set n2 k _
   ·show l.length - ((k : Int) + 1).toNat < l.length - ((k : Int)).toNat
    omega
  ·have hd : decide ((k : Int) < (l.length : Int)) = false := decide_eq_false (by omega)
   obtain rfl : k = l.length := by omega
   go_wp2
   go_ret
   exact ⟨rfl, hblk, hB⟩
end Go.Proofs.YtmcjccigglekpaaGreatDoor.Given
namespace Go.Proofs.YtmcjccigglekpaaGreatDoor.Given
open Go Go.RowKit Go.Proofs Go.Proofs.YtmcjccigglekpaaGreatDoorW.PrintWords Go.Proofs.YtmcjccigglekpaaGreatDoorW.PrintLast Go.Proofs.YtmcjccigglekpaaGreatDoorW.PrintMore Go.Proofs.YtmcjccigglekpaaGreatDoor.P

/-- The types of the blocks that a reader writes. -/
def stTys : List Nat := [70, 3, 29, 87, 56, 76, 59, 95, 82, 106]
/-- All other blocks are as they were. -/
def Rest (w w' : World) : Prop := w.heap.size ≤ w'.heap.size ∧ ∀ (k : Nat) (o : Obj), w.heap[k]? = some o → (∀ cs T z, o = Obj.cells cs T z → T ∉ stTys) → w'.heap[k]? = some o
theorem Rest.refl (w : World) : Rest w w := ⟨Nat.le_refl _, fun _ _ h _ => h⟩
theorem Rest.trans {a b c : World} (h : Rest a b) (k : Rest b c) : Rest a c := ⟨Nat.le_trans h.1 k.1, fun i o ho hn => k.2 i o (h.2 i o ho hn) hn⟩
theorem Rest.of_below {a b : World} (h : Below a.heap.size a b) : Rest a b := ⟨h.size, fun k _ ho _ => (h.block k (blk_lt ho)).trans ho⟩
theorem Rest.below {a b c : World} (h : Rest a b) (k : Below b.heap.size b c) : Rest a c := h.trans (Rest.of_below k)
theorem Rest.alloc {a b : World} (h : Rest a b) (o : Obj) : Rest a (b.alloc o) := h.below ((Below.refl _ _).alloc (Nat.le_refl _) _)
theorem Rest.drew {a b : World} (h : Rest a b) : Rest a b.drew := h
theorem Rest.grown {a b c : World} (h : Rest a b) {row : Option Nat} (hg : b.grownBy c row) (hr : ∀ k, row = some k → ∃ cs T z, b.heap[k]? = some (.cells cs T z) ∧ T ∈ stTys) : Rest a c := by
 refine h.trans ⟨hg.size, fun k o ho hn => (hg.block k (blk_lt ho) ?_).trans ho⟩
 intro he
 obtain ⟨cs, T, z, hc, hT⟩ := hr k he.symm
 rw [ho] at hc
 exact hn cs T z (Option.some.inj hc) hT
theorem Rest.own {a b c : World} {base e size n : Nat} {v : Value} {xs : List Value} (h : Rest a b) (ho : b.ownsRow base e size v n xs) (hT : e ∈ stTys) (hg : b.grownBy c v.ownBlock) : Rest a c :=
 h.grown hg (fun k hk => (own_typed ho k hk).elim fun cs hc => ⟨cs, e, (0, 0), hc, hT⟩)
theorem Rest.set {a b : World} (h : Rest a b) {g T : Nat} {cs : Array Value} (hb : b.heap[g]? = some (.cells cs T (0, 0))) (hT : T ∈ stTys) (i : Nat) (u : Value) : Rest a (b.setCell ⟨g, i, none⟩ u) := by
 refine h.trans ⟨by simp [World.setCell], fun k o ho hn => ?_⟩
 by_cases hk : k = g
 ·subst hk
  rw [ho] at hb
  exact absurd hT (hn _ _ _ (Option.some.inj hb))
 ·exact (Below.heap_setCell b ⟨g, i, none⟩ u k hk).trans ho
theorem Rest.block {w w' : World} (h : Rest w w') {g T : Nat} {cs : Array Value} (hb : w.heap[g]? = some (.cells cs T (0, 0))) (hT : T ∉ stTys) : w'.heap[g]? = some (.cells cs T (0, 0)) :=
 h.2 g _ hb (fun cs' T' z e => by injection e with _ e2 _; exact e2 ▸ hT)

/-- The slices of a state. -/
structure Rv where
 (v0 v1 v2 v3 v4 v5 v6 v7 : Value)
/-- The state's rows are the reader's own; row i's blocks have colour i. -/
structure Rows (B r : Nat) (col : Nat → Nat) (h : Rv) (s : St) (w : World) : Prop where
 cr : col r = 8
 r0 : Kd.R k70 70 w B (fun k => col k = 0) h.v0 s.th
 r1 : Kd.S (Kd.slice 3 (Kd.int .i64)) 29 w B (fun k => col k = 1) h.v1 s.fr
 r2 : Kd.S (Kd.slice 87 k87) 56 w B (fun k => col k = 2) h.v2 s.no
 r3 : Kd.R k76 76 w B (fun k => col k = 3) h.v3 s.tr
 r4 : Kd.S k59 59 w B (fun k => col k = 4) h.v4 s.po
 r5 : Kd.S (Kd.slice 3 (Kd.int .i64)) 29 w B (fun k => col k = 5) h.v5 s.li
 r6 : Kd.R (Kd.int .i64) 3 w B (fun k => col k = 6) h.v6 s.ro
 r7 : Kd.R k82 82 w B (fun k => col k = 7) h.v7 s.sw
/-- What is new has colour i. -/
def newCol (col : Nat → Nat) (n i : Nat) (k : Nat) : Nat := if k < n then col k else i
theorem newCol_lt {col : Nat → Nat} {n i k : Nat} (h : k < n) : newCol col n i k = col k := if_pos h
theorem newCol_ge {col : Nat → Nat} {n i k : Nat} (h : n ≤ k) : newCol col n i k = i := if_neg (by omega)
section
variable {B r : Nat} {col : Nat → Nat} {h : Rv} {s : St} {w w1 : World} {α : Type} {d : Kd α} {e base : Nat} {v : Value} {xs : List α}
theorem R_recol {i j : Nat} (hR : d.R e w base (fun k => col k = j) v xs) (hj : j ≠ i) (hj8 : j < 8) (hm : ∀ k, k < w.heap.size → col k ≠ i → col k ≠ 8 → w1.heap[k]? = w.heap[k]?) : d.R e w1 base (fun k => newCol col w.heap.size i k = j) v xs :=
 Kd.R_mono (Kd.R_step (Kd.R_bound hR) (fun k hk hlt => hm k hlt (by have := hk.1; omega) (by have := hk.1; omega))) (fun k hk => (newCol_lt hk.2.2.1).trans hk.1)
theorem S_recol {i j : Nat} (hR : Kd.S d e w base (fun k => col k = j) v xs) (hj : j ≠ i) (hj8 : j < 8) (hm : ∀ k, k < w.heap.size → col k ≠ i → col k ≠ 8 → w1.heap[k]? = w.heap[k]?) : Kd.S d e w1 base (fun k => newCol col w.heap.size i k = j) v xs :=
 Kd.S_mono (Kd.S_step (Kd.S_bound hR) (fun k hk hlt => hm k hlt (by have := hk.1; omega) (by have := hk.1; omega))) (fun k hk => (newCol_lt hk.2.2.1).trans hk.1)
/-- Nothing of the rows has been written. -/
theorem Rows.still (H : Rows B r col h s w) (hm : ∀ k, k < w.heap.size → col k ≠ 8 → w1.heap[k]? = w.heap[k]?) : Rows B r col h s w1 :=
 ⟨H.cr, Kd.R_step H.r0 (fun k hk hl => hm k hl (by omega)), Kd.S_step H.r1 (fun k hk hl => hm k hl (by omega)), Kd.S_step H.r2 (fun k hk hl => hm k hl (by omega)), Kd.R_step H.r3 (fun k hk hl => hm k hl (by omega)), Kd.S_step H.r4 (fun k hk hl => hm k hl (by omega)), Kd.S_step H.r5 (fun k hk hl => hm k hl (by omega)), Kd.R_step H.r6 (fun k hk hl => hm k hl (by omega)), Kd.R_step H.r7 (fun k hk hl => hm k hl (by omega))⟩
theorem Rows.below (H : Rows B r col h s w) (hb : Below w.heap.size w w1) : Rows B r col h s w1 := H.still (fun k hl _ => hb.block k hl)
theorem Rows.setR (H : Rows B r col h s w) (i : Nat) (u : Value) : Rows B r col h s (w.setCell ⟨r, i, none⟩ u) :=
 H.still (fun k _ hk => Below.heap_setCell w ⟨r, i, none⟩ u k (fun e => hk (e ▸ H.cr)))
/-- All rows but number i, behind a step that wrote row i, the reader, and what is new. -/
structure RowsBut (i : Nat) (B r : Nat) (col : Nat → Nat) (h : Rv) (s : St) (w : World) : Prop where
 cr : col r = 8
 r0 : 0 ≠ i → Kd.R k70 70 w B (fun k => col k = 0) h.v0 s.th
 r1 : 1 ≠ i → Kd.S (Kd.slice 3 (Kd.int .i64)) 29 w B (fun k => col k = 1) h.v1 s.fr
 r2 : 2 ≠ i → Kd.S (Kd.slice 87 k87) 56 w B (fun k => col k = 2) h.v2 s.no
 r3 : 3 ≠ i → Kd.R k76 76 w B (fun k => col k = 3) h.v3 s.tr
 r4 : 4 ≠ i → Kd.S k59 59 w B (fun k => col k = 4) h.v4 s.po
 r5 : 5 ≠ i → Kd.S (Kd.slice 3 (Kd.int .i64)) 29 w B (fun k => col k = 5) h.v5 s.li
 r6 : 6 ≠ i → Kd.R (Kd.int .i64) 3 w B (fun k => col k = 6) h.v6 s.ro
 r7 : 7 ≠ i → Kd.R k82 82 w B (fun k => col k = 7) h.v7 s.sw
theorem Rows.but (H : Rows B r col h s w) (i : Nat) (hr : r < w.heap.size) (hm : ∀ k, k < w.heap.size → col k ≠ i → col k ≠ 8 → w1.heap[k]? = w.heap[k]?) : RowsBut i B r (newCol col w.heap.size i) h s w1 :=
 ⟨(newCol_lt hr).trans H.cr, fun hi => R_recol H.r0 hi (by decide) hm, fun hi => S_recol H.r1 hi (by decide) hm, fun hi => S_recol H.r2 hi (by decide) hm, fun hi => R_recol H.r3 hi (by decide) hm, fun hi => S_recol H.r4 hi (by decide) hm, fun hi => S_recol H.r5 hi (by decide) hm, fun hi => R_recol H.r6 hi (by decide) hm, fun hi => R_recol H.r7 hi (by decide) hm⟩
end

/-- The reader's cells. -/
abbrev Rv.cells (h : Rv) (wv nv : Value) (p : Int) (bad : Bool) : Array Value := #[h.v0, h.v1, h.v2, h.v3, h.v4, h.v5, h.v6, h.v7, wv, nv, .int .i64 p, .bool bad]
/-- A reader that has read s; p: the port that is read. -/
structure Rd (B r : Nat) (h : Rv) (s : St) (p : Int) (bad : Bool) (wv nv : Value) (w : World) : Prop where
 blk : w.heap[r]? = some (.cells (h.cells wv nv p bad) 106 (0, 0))
 base : B ≤ r
 rows : ∃ col, Rows B r col h s w
 eq : s.no.length = s.po.length
 port : p = -1 ∨ 0 ≤ p ∧ p < s.po.length
theorem Rd.below {B r : Nat} {h : Rv} {s : St} {p : Int} {bad : Bool} {wv nv : Value} {w w1 : World} (H : Rd B r h s p bad wv nv w) (hb : Below w.heap.size w w1) : Rd B r h s p bad wv nv w1 :=
 ⟨blk_below H.blk hb, H.base, H.rows.imp (fun _ hr => hr.below hb), H.eq, H.port⟩
theorem Rd.alloc {B r : Nat} {h : Rv} {s : St} {p : Int} {bad : Bool} {wv nv : Value} {w : World} (H : Rd B r h s p bad wv nv w) (o : Obj) : Rd B r h s p bad wv nv (w.alloc o) := H.below ((Below.refl _ _).alloc (Nat.le_refl _) _)
theorem Rd.drew {B r : Nat} {h : Rv} {s : St} {p : Int} {bad : Bool} {wv nv : Value} {w : World} (H : Rd B r h s p bad wv nv w) : Rd B r h s p bad wv nv w.drew := ⟨H.blk, H.base, H.rows.imp (fun _ hr => hr.below (below_drew (Below.refl _ _))), H.eq, H.port⟩
theorem Rd.setBad {B r : Nat} {h : Rv} {s : St} {p : Int} {bad : Bool} {wv nv : Value} {w : World} (H : Rd B r h s p bad wv nv w) (b : Bool) : Rd B r h s p b wv nv (w.setCell ⟨r, 11, none⟩ (.bool b)) :=
 ⟨blk_put H.blk 11 _ rfl, H.base, H.rows.imp (fun _ hr => hr.setR 11 _), H.eq, H.port⟩
theorem Rd.setPort {B r : Nat} {h : Rv} {s : St} {p : Int} {bad : Bool} {wv nv : Value} {w : World} (H : Rd B r h s p bad wv nv w) (q : Int) (hq : 0 ≤ q ∧ q < s.po.length) : Rd B r h s q bad wv nv (w.setCell ⟨r, 10, none⟩ (.int .i64 q)) :=
 ⟨blk_put H.blk 10 _ rfl, H.base, H.rows.imp (fun _ hr => hr.setR 10 _), H.eq, .inr hq⟩
theorem Rd.setW {B r : Nat} {h : Rv} {s : St} {p : Int} {bad : Bool} {wv nv : Value} {w : World} (H : Rd B r h s p bad wv nv w) (u : Value) : Rd B r h s p bad u nv (w.setCell ⟨r, 8, none⟩ u) :=
 ⟨blk_put H.blk 8 _ rfl, H.base, H.rows.imp (fun _ hr => hr.setR 8 _), H.eq, H.port⟩
theorem Rd.setN {B r : Nat} {h : Rv} {s : St} {p : Int} {bad : Bool} {wv nv : Value} {w : World} (H : Rd B r h s p bad wv nv w) (u : Value) : Rd B r h s p bad wv u (w.setCell ⟨r, 9, none⟩ u) :=
 ⟨blk_put H.blk 9 _ rfl, H.base, H.rows.imp (fun _ hr => hr.setR 9 _), H.eq, H.port⟩

/-- A row that stays whatever a reader does. -/
def RowC {α : Type} (d : Kd α) (w : World) (A : Option Addr) (xs : List α) : Prop := ∀ w', Rest w w' → d.C w' A xs.length xs
theorem RowC.on {α : Type} {d : Kd α} {w w1 : World} {A : Option Addr} {xs : List α} (h : RowC d w A xs) (k : Rest w w1) : RowC d w1 A xs := fun w' hr => h w' (k.trans hr)
theorem RowC.now {α : Type} {d : Kd α} {w : World} {A : Option Addr} {xs : List α} (h : RowC d w A xs) : d.C w A xs.length xs := h w (Rest.refl w)
/-- The words and the numbers of a line. -/
structure Line (w : World) (wv nv : Value) (ws : List ByteArray) (ns : List Int) : Prop where
 ex : ∃ A c A' c', wv = .slice A ws.length c ∧ nv = .slice A' ns.length c' ∧ RowC Kd.string w A ws ∧ RowC (Kd.int .i64) w A' ns
 eq : ns = ws.map numS
theorem Line.on {w w1 : World} {wv nv : Value} {ws : List ByteArray} {ns : List Int} (h : Line w wv nv ws ns) (k : Rest w w1) : Line w1 wv nv ws ns := by
 obtain ⟨⟨A, c, A', c', e1, e2, h1, h2⟩, e⟩ := h
 exact ⟨⟨A, c, A', c', e1, e2, h1.on k, h2.on k⟩, e⟩
theorem Line.nth {w : World} {wv nv : Value} {ws : List ByteArray} {ns : List Int} (h : Line w wv nv ws ns) : ∃ A c A' c', wv = .slice A ws.length c ∧ nv = .slice A' ws.length c' ∧
  (∀ k, (hk : k < ws.length) → ∀ w', Rest w w' → ∃ ad, A = some ad ∧ w'.cell? (ad.add k) = some (.string ws[k])) ∧
  (∀ k, (hk : k < ws.length) → ∀ w', Rest w w' → ∃ ad, A' = some ad ∧ w'.cell? (ad.add k) = some (.int .i64 (numS ws[k]))) := by
 obtain ⟨⟨A, c, A', c', e1, e2, h1, h2⟩, e⟩ := h
 have hl : ns.length = ws.length := by rw [e, List.length_map]
 refine ⟨A, c, A', c', e1, by rw [e2, hl], fun k hk w' hr => ?_, fun k hk w' hr => ?_⟩
 ·obtain ⟨ad, ea, hx⟩ := Kd.at_string (h1 w' hr) (k : Int) (by omega) (by omega)
  rw [Int.toNat_natCast, show rdOf ByteArray.empty ws (k : Int) = ws[k] by unfold rdOf; rw [Int.toNat_natCast, List.getD_eq_getElem?_getD, List.getElem?_eq_getElem hk]; rfl] at hx
  exact ⟨ad, ea, hx⟩
 ·obtain ⟨ad, ea, hx⟩ := Kd.at_int (h2 w' hr) (k : Int) (by omega) (by omega)
  rw [Int.toNat_natCast, show rd ns (k : Int) = numS ws[k] by unfold rd; subst e; rw [Int.toNat_natCast, List.getD_eq_getElem?_getD, List.getElem?_map, List.getElem?_eq_getElem hk]; rfl] at hx
  exact ⟨ad, ea, hx⟩
/-- All blocks that were, but those of S, are as they were. -/
structure But (S : Nat → Prop) (w w' : World) : Prop where
 os : w'.os = w.os
 tape : w'.tape = w.tape
 output : w'.output = w.output
 size : w.heap.size ≤ w'.heap.size
 block : ∀ k, k < w.heap.size → ¬ S k → w'.heap[k]? = w.heap[k]?
section
variable {S S' : Nat → Prop} {w w1 w2 : World}
theorem But.refl (S : Nat → Prop) (w : World) : But S w w := ⟨rfl, rfl, rfl, Nat.le_refl _, fun _ _ _ => rfl⟩
theorem But.mono (h : But S w w1) (hs : ∀ k, S k → S' k) : But S' w w1 := ⟨h.os, h.tape, h.output, h.size, fun k hk hn => h.block k hk (fun hS => hn (hs k hS))⟩
theorem But.then_ (h : But S w w1) (k : But S' w1 w2) (hs : ∀ k, S' k → S k ∨ w.heap.size ≤ k) : But S w w2 :=
 ⟨k.os.trans h.os, k.tape.trans h.tape, k.output.trans h.output, Nat.le_trans h.size k.size, fun i hi hn => (k.block i (Nat.lt_of_lt_of_le hi h.size) (fun hS => (hs i hS).elim hn (fun hge => by omega))).trans (h.block i hi hn)⟩
theorem But.trans (h : But S w w1) (k : But S w1 w2) : But S w w2 := h.then_ k (fun _ hk => .inl hk)
theorem But.of_below (hb : Below w.heap.size w w1) : But S w w1 := ⟨hb.os, hb.tape, hb.output, hb.size, fun k hk _ => hb.block k hk⟩
theorem But.below (h : But S w w1) (hb : Below w1.heap.size w1 w2) : But S w w2 := h.trans (But.of_below hb)
theorem But.alloc (h : But S w w1) (o : Obj) : But S w (w1.alloc o) := h.below ((Below.refl _ _).alloc (Nat.le_refl _) _)
theorem But.drew (h : But S w w1) : But S w w1.drew := ⟨h.os, h.tape, h.output, h.size, h.block⟩
theorem But.drewN (h : But S w w1) (n : Nat) : But S w (w1.drewN n) := ⟨h.os, h.tape, h.output, h.size, h.block⟩
theorem But.grown (h : But S w w1) {row : Option Nat} (hg : w1.grownBy w2 row) (hr : ∀ k, row = some k → S k ∨ w.heap.size ≤ k) : But S w w2 :=
 h.then_ (S' := fun k => row = some k) ⟨hg.os, hg.tape, hg.output, hg.size, fun k hk hn => hg.block k hk (fun e => hn e.symm)⟩ hr
theorem But.set (h : But S w w1) {b : Nat} (i : Nat) (u : Value) (hb : S b ∨ w.heap.size ≤ b) : But S w (w1.setCell ⟨b, i, none⟩ u) :=
 h.then_ (S' := fun k => k = b) ⟨rfl, rfl, rfl, by simp [World.setCell], fun k _ hn => Below.heap_setCell w1 ⟨b, i, none⟩ u k hn⟩ (fun k hk => hk ▸ hb)
theorem But.toBelow (h : But S w w1) {B : Nat} (hB : B ≤ w.heap.size) (hs : ∀ k, S k → B ≤ k) : Below B w w1 :=
 ⟨h.os, h.tape, h.output, h.size, fun k hk => h.block k (by omega) (fun hS => by have := hs k hS; omega)⟩
theorem But.rest (h : But S w w1) (hs : ∀ k, S k → k < w.heap.size → ∃ cs T z, w.heap[k]? = some (.cells cs T z) ∧ T ∈ stTys) : Rest w w1 :=
 ⟨h.size, fun k o ho hn => (h.block k (blk_lt ho) (fun hS => by
  obtain ⟨cs, T, z, hc, hT⟩ := hs k hS (blk_lt ho)
  rw [ho] at hc
  exact hn cs T z (Option.some.inj hc) hT)).trans ho⟩
end
section
variable {B r : Nat} {h : Rv} {s : St} {p p' : Int} {bad bad' : Bool} {wv nv wv' nv' : Value} {w w1 : World}
theorem Rd.still (H : Rd B r h s p bad wv nv w) (hm : But (fun k => k = r) w w1) (hb : w1.heap[r]? = some (.cells (h.cells wv' nv' p bad') 106 (0, 0))) : Rd B r h s p bad' wv' nv' w1 :=
 ⟨hb, H.base, H.rows.imp (fun _ hr => hr.still (fun k hk h8 => hm.block k hk (fun e => h8 (e ▸ hr.cr)))), H.eq, H.port⟩
theorem Rd.lt (H : Rd B r h s p bad wv nv w) : r < w.heap.size := blk_lt H.blk
theorem Rd.rest (H : Rd B r h s p bad wv nv w) (hm : But (fun k => k = r) w w1) : Rest w w1 :=
 hm.rest (fun k hk _ => ⟨_, _, _, hk ▸ H.blk, by decide⟩)
theorem Rd.toBelow (H : Rd B r h s p bad wv nv w) (hm : But (fun k => k = r) w w1) : Below B w w1 :=
 hm.toBelow (Nat.le_trans H.base (Nat.le_of_lt H.lt)) (fun k hk => hk ▸ H.base)
end
end Go.Proofs.YtmcjccigglekpaaGreatDoor.Given
namespace Go.Proofs.YtmcjccigglekpaaGreatDoor.Given
open Go Go.RowKit Go.Proofs Go.Proofs.YtmcjccigglekpaaGreatDoorW.PrintWords Go.Proofs.YtmcjccigglekpaaGreatDoorW.PrintLast Go.Proofs.YtmcjccigglekpaaGreatDoorW.PrintMore Go.Proofs.YtmcjccigglekpaaGreatDoor.P

set_option maxRecDepth 100000 in
set_option maxHeartbeats 1000000 in
theorem rd_need_ok {B r : Nat} {h : Rv} {s : St} {p : Int} {A : Option Addr} {c : Nat} {nv : Value} {w : World} {ws : List ByteArray} (H : Rd B r h s p false (.slice A ws.length c) nv w) (k : Int) (hk : (ws.length : Int) = k) :
  Calls Tryz.prog 111 #[.pointer (some ⟨r, 0, none⟩), .int .i64 k] w fun e w' => e = .returned (.bool true) ∧ (Rd B r h s p false (.slice A ws.length c) nv w' ∧ But (fun k => k = r) w w') := by
 have hb := H.blk
 have c8 := (blk_cell hb 8).trans (show _ = some (Value.slice A ws.length c) from rfl)
 have c11 := (blk_cell hb 11).trans (show _ = some (Value.bool false) from rfl)
 have f11 := blk_frozen hb 11
 have hn : ((ws.length : Int) != k) = false := by rw [bne_eq_false_iff_eq]; exact hk
 have D1 := Lib.hid (H.setBad false)
 have D2 := Lib.hid ((But.refl (fun k => k = r) w).set 11 (.bool false) (.inl rfl))
 clear hk hb H
 go_enter Tryz.func111, Tryz.ntmps111
 go_wp2
 go_ret
 exact ⟨rfl, D1.out, D2.out⟩
set_option maxRecDepth 100000 in
set_option maxHeartbeats 1000000 in
theorem rd_need_no {B r : Nat} {h : Rv} {s : St} {p : Int} {A : Option Addr} {c : Nat} {nv : Value} {w : World} {ws : List ByteArray} (H : Rd B r h s p false (.slice A ws.length c) nv w) (k : Int) (hk : (ws.length : Int) ≠ k) :
  Calls Tryz.prog 111 #[.pointer (some ⟨r, 0, none⟩), .int .i64 k] w fun e w' => e = .returned (.bool false) ∧ (Rd B r h s p true (.slice A ws.length c) nv w' ∧ But (fun k => k = r) w w') := by
 have hb := H.blk
 have c8 := (blk_cell hb 8).trans (show _ = some (Value.slice A ws.length c) from rfl)
 have c11 := (blk_cell hb 11).trans (show _ = some (Value.bool false) from rfl)
 have f11 := blk_frozen hb 11
 have hn : ((ws.length : Int) != k) = true := by rw [bne_iff_ne]; exact hk
 have D1 := Lib.hid (H.setBad true)
 have D2 := Lib.hid ((But.refl (fun k => k = r) w).set 11 (.bool true) (.inl rfl))
 clear hk hb H
 go_enter Tryz.func111, Tryz.ntmps111
 go_wp2
 go_ret
 exact ⟨rfl, D1.out, D2.out⟩

theorem rd_rows_reads {B r : Nat} {h : Rv} {s : St} {p : Int} {bad : Bool} {wv nv : Value} {w : World} (H : Rd B r h s p bad wv nv w) :
  (∃ A c, h.v2 = .slice A s.no.length c ∧ s.no.length ≤ c) ∧ (∃ A c, h.v4 = .slice A s.po.length c ∧ s.po.length ≤ c) := by
 obtain ⟨col, hr⟩ := H.rows
 obtain ⟨A, c, e, hl, _⟩ := Kd.S_reads hr.r2
 obtain ⟨A', c', e', hl', _⟩ := Kd.S_reads hr.r4
 exact ⟨⟨A, c, e, hl⟩, A', c', e', hl'⟩

theorem add_zero_ (ad : Addr) : ad.add 0 = ad := by unfold Addr.add; cases ad with | mk b o s => cases s <;> simp
set_option maxRecDepth 100000 in
set_option maxHeartbeats 1000000 in
/-- object: the first word's place. -/
theorem rd_object_ok {B r : Nat} {h : Rv} {s : St} {p : Int} {A' : Option Addr} {c' : Nat} {wv : Value} {w : World} {ws : List ByteArray} (H : Rd B r h s p false wv (.slice A' ws.length c') w) (hl : 0 < ws.length)
  (hN : ∀ w', Rest w w' → ∃ ad, A' = some ad ∧ w'.cell? (ad.add 0) = some (.int .i64 (numS ws[0]))) (h1 : 0 ≤ numS ws[0]) (h2 : numS ws[0] < s.po.length) :
  Calls Tryz.prog 113 #[.pointer (some ⟨r, 0, none⟩)] w fun e w' => e = .returned (.tuple #[.int .i64 (numS ws[0]), .bool true]) ∧ ∃ m, w' = w.drewN m := by
 obtain ⟨ad, rfl, hx⟩ := hN w (Rest.refl w)
 rw [add_zero_] at hx
 obtain ⟨_, A4, c4, e4, hl4⟩ := rd_rows_reads H
 have hb := H.blk
 have c4' := (blk_cell hb 4).trans (show _ = some h.v4 from rfl)
 have c9 := (blk_cell hb 9).trans (show _ = some (Value.slice (some ad) ws.length c') from rfl)
 rw [e4] at c4'
 generalize numS ws[0] = n at *
 have h1' : decide (n < 0) = false := decide_eq_false (by omega)
 have h2' : decide ((s.po.length : Int) ≤ n) = false := decide_eq_false (by omega)
 clear hb H hN e4
 go_enter Tryz.func113, Tryz.ntmps113
 go_wp2
 go_quiet (fail)
 go_wp2
 go_ret2
 exact ⟨rfl, _, rfl⟩
set_option maxRecDepth 100000 in
set_option maxHeartbeats 1000000 in
theorem rd_object_no {B r : Nat} {h : Rv} {s : St} {p : Int} {A' : Option Addr} {c' : Nat} {wv : Value} {w : World} {ws : List ByteArray} (H : Rd B r h s p false wv (.slice A' ws.length c') w) (hl : 0 < ws.length)
  (hN : ∀ w', Rest w w' → ∃ ad, A' = some ad ∧ w'.cell? (ad.add 0) = some (.int .i64 (numS ws[0]))) (h12 : ¬ (0 ≤ numS ws[0] ∧ numS ws[0] < s.po.length)) :
  Calls Tryz.prog 113 #[.pointer (some ⟨r, 0, none⟩)] w fun e w' => e = .returned (.tuple #[.int .i64 0, .bool false]) ∧ (Rd B r h s p true wv (.slice (A') ws.length c') w' ∧ But (fun k => k = r) w w') := by
 obtain ⟨ad, rfl, hx⟩ := hN w (Rest.refl w)
 rw [add_zero_] at hx
 obtain ⟨_, A4, c4, e4, hl4⟩ := rd_rows_reads H
 have hb := H.blk
 have c4' := (blk_cell hb 4).trans (show _ = some h.v4 from rfl)
 have c9 := (blk_cell hb 9).trans (show _ = some (Value.slice (some ad) ws.length c') from rfl)
 have c11 := (blk_cell hb 11).trans (show _ = some (Value.bool false) from rfl)
 have f11 := blk_frozen hb 11
 rw [e4] at c4'
 generalize numS ws[0] = n at *
 have D1 := Lib.hid (fun m => ((H.below (pw_below_drewN (Below.refl _ w) m)).setBad true))
 have D2 := Lib.hid (fun m => ((But.refl (fun k => k = r) w).drewN m).set 11 (.bool true) (.inl rfl))
 clear hb H hN e4
 by_cases h1 : 0 ≤ n
 ·have h1' : decide (n < 0) = false := decide_eq_false (by omega)
  have h2' : decide ((s.po.length : Int) ≤ n) = true := decide_eq_true (by omega)
  clear h12
  go_enter Tryz.func113, Tryz.ntmps113
  go_wp2
  go_quiet (fail)
  go_wp2
  go_ret2
  exact ⟨rfl, D1.out _, D2.out _⟩
 ·have h1' : decide (n < 0) = true := decide_eq_true (by omega)
  clear h12
  go_enter Tryz.func113, Tryz.ntmps113
  go_wp2
  go_quiet (fail)
  go_wp2
  go_ret2
  exact ⟨rfl, D1.out _, D2.out _⟩
end Go.Proofs.YtmcjccigglekpaaGreatDoor.Given
namespace Go.Proofs.YtmcjccigglekpaaGreatDoor.Given
open Go Go.RowKit Go.Proofs Go.Proofs.YtmcjccigglekpaaGreatDoorW.PrintWords Go.Proofs.YtmcjccigglekpaaGreatDoorW.PrintLast Go.Proofs.YtmcjccigglekpaaGreatDoorW.PrintMore Go.Proofs.YtmcjccigglekpaaGreatDoor.P


/-- A word's two numbers. -/
def keyI (x : ByteArray) : S74 := ⟨numS (cutA x ⟨#[46]⟩), numS (cutB x ⟨#[46]⟩)⟩
theorem cutA_size (x sep : ByteArray) (n : Nat) (h : x.size ≤ n) : (cutA x sep).size ≤ n ∧ (cutB x sep).size ≤ n := by
 have hx : x.data.toList.length = x.size := by rw [Array.length_toList]; rfl
 unfold cutA cutB Lib.cut
 split
 ·refine ⟨?_, ?_⟩
  ·show (List.take _ _).toArray.size ≤ n
   rw [List.size_toArray, List.length_take]; omega
  ·show (List.drop _ _).toArray.size ≤ n
   rw [List.size_toArray, List.length_drop]; omega
 ·refine ⟨?_, ?_⟩
  ·show (x.data.toList).toArray.size ≤ n
   rw [List.size_toArray]; omega
  ·show ([] : List UInt8).toArray.size ≤ n
   simp

/-- A region whose first n operations only read. -/
theorem still_tail {P : Program} {id : Nat} {Q : Exit → Act → World → Prop} {a : Act} {w : World} {l : List Oper} (n : Nat) (hm : P.follows .mixedOrders = true) (hB : Region.lexTailB .any l.toArray n = true) (wd : World) (hwd : w.drew = wd)
  (h : wpStill P l.toArray wd (fun a' => wpList P l.toArray Q (l.drop n) a' wd) (l.take n) a) : (Code.region id l.toArray true).wp P Q a w := by
 subst hwd
 exact wp_region_still_tail n hm hB h
theorem strRow2 {w0 : World} {g : Nat} {a b : ByteArray} (h : g = w0.heap.size) : Kd.C Kd.string (w0.alloc (.cells #[.string a, .string b] 9)) (some ⟨g, 0, none⟩) [a, b].length [a, b] := by
 subst h
 refine ⟨rfl, by simp, fun _ => ⟨_, rfl, fun j p hj => ?_⟩⟩
 have hb := blk_new w0 (.cells #[.string a, .string b] 9)
 refine ⟨[.string p], rfl, rfl, fun i u hu => ?_⟩
 cases i with
 | succ i => simp at hu
 | zero =>
  obtain rfl := Option.some.inj hu
  match j, hj with
  | 0, hj => obtain rfl := Option.some.inj hj; exact (blk_cell hb 0).trans rfl
  | 1, hj => obtain rfl := Option.some.inj hj; exact (blk_cell hb 1).trans rfl
  | j + 2, hj => simp at hj
theorem blk_on {w w1 : World} {g : Nat} {o : Obj} (h : w.heap[g]? = some o) (hb : Below w.heap.size w w1) : w1.heap[g]? = some o := blk_below h hb
theorem below_back {B : Nat} {a b c : World} (h : Below B a b) (hB : B ≤ b.heap.size) (k : Below b.heap.size b c) : Below B a c := h.trans (k.mono hB)
theorem numbers2 {w0 : World} {g : Nat} {a b : ByteArray} (h : g = w0.heap.size) (ha : a.size ≤ 1000000) (hb : b.size ≤ 1000000) (hG : GL (w0.alloc (.cells #[.string a, .string b] 9))) :
  Calls Tryz.prog 47 #[.slice (some ⟨g, 0, none⟩) 2 2] (w0.alloc (.cells #[.string a, .string b] 9)) fun e w' => ∃ g', e = .returned (.slice (some ⟨g', 0, none⟩) 2 2) ∧ w'.heap[g']? = some (.cells #[.int .i64 (numS a), .int .i64 (numS b)] 2 (0, 0)) ∧ Below (w0.alloc (.cells #[.string a, .string b] 9)).heap.size (w0.alloc (.cells #[.string a, .string b] 9)) w' :=
 (numbers_calls (some ⟨g, 0, none⟩) 2 [a, b] (by intro y hy; simp at hy; rcases hy with rfl | rfl <;> omega) (by simp) _ hG (strRow2 h)).mono fun _ _ ⟨h1, h2, h3⟩ => ⟨_, h1, h2, h3⟩
set_option maxRecDepth 100000 in
set_option maxHeartbeats 1600000 in
theorem rd_keyAt {B r : Nat} {h : Rv} {s : St} {p : Int} {bad : Bool} {A : Option Addr} {c : Nat} {nv : Value} {w : World} {ws : List ByteArray} (H : Rd B r h s p bad (.slice A ws.length c) nv w) (hG : GL w) (k : Nat) (kv : Int) (hkv : kv = k) (hk : k < ws.length)
  (hx : ∃ ad, A = some ad ∧ w.cell? (ad.add k) = some (.string ws[k])) (hs : ws[k].size ≤ 1000000) :
  Calls Tryz.prog 114 #[.pointer (some ⟨r, 0, none⟩), .int .i64 kv] w fun e w' => e = .returned (.agg #[.int .i64 (keyI ws[k]).f0, .int .i64 (keyI ws[k]).f1]) ∧ (Rd B r h s p (bad || !cutC ws[k] ⟨#[46]⟩) (.slice A ws.length c) nv w' ∧ But (fun k => k = r) w w') := by
 subst hkv
 obtain ⟨ad, rfl, hx⟩ := hx
 have hcs := cutA_size ws[k] ⟨#[46]⟩ 1000000 hs
 have hb := H.blk
 have Dc := Lib.hid (fun w' (h' : GL w') => cut_calls ws[k] ⟨#[46]⟩ hs w' h')
 unfold keyI
 generalize cutA ws[k] ⟨#[46]⟩ = xa at *
 generalize cutB ws[k] ⟨#[46]⟩ = xb at *
 generalize cutC ws[k] ⟨#[46]⟩ = xc at *
 generalize ws[k] = x at *
 have HRd := Lib.hid H
 have HBr := H.base
 have hlt := blk_lt hb
 have q1 : Below w.heap.size w (w.alloc (.cells #[.int .i64 0, .int .i64 0] 74)) := (Below.refl _ _).alloc (Nat.le_refl _) _
 have hb1 := blk_on hb q1
 have hk0 := blk_new w (.cells #[.int .i64 0, .int .i64 0] 74)
 have hx1 := pw_cell_below q1 hx
 have hG1 := hG.below q1
 have c8 := (blk_cell hb1 8).trans (show _ = some (Value.slice (some ad) ws.length c) from rfl)
 have i2 : decide (0 ≤ (k : Int)) = true := decide_eq_true (by omega)
 have j2 : decide (k < ws.length) = true := decide_eq_true hk
 clear H hG hx hb
 go_enter Tryz.func114, Tryz.ntmps114
 go_wp2_with fail
 have hgs : w.heap.size < (w.alloc (.cells #[.int .i64 0, .int .i64 0] 74)).heap.size := by simp
 generalize w.alloc (.cells #[.int .i64 0, .int .i64 0] 74) = wa at *
 generalize hg : w.heap.size = g at *
 have hgr : g ≠ r := by omega
 go_wp2_with (go_at_call 88; (with_reducible refine (Dc.out _ hG1).mono ?_); clear Dc; rintro e w2 ⟨rfl, m, rfl⟩)
 have q3 : Below wa.heap.size wa ((wa.drewN m).alloc (.cells #[.string xa, .string xb] 9)) := (pw_below_drewN (Below.refl wa.heap.size wa) m).alloc (Nat.le_refl wa.heap.size) _
 have hG3 := hG1.below q3
 have Dn := Lib.hid (numbers2 (w0 := wa.drewN m) (g := wa.heap.size) (a := xa) (b := xb) rfl hcs.1 hcs.2 hG3)
 generalize (wa.drewN m).alloc (.cells #[.string xa, .string xb] 9) = w3 at *
 clear hG1 hG3 c8 hx1 i2 j2 hcs
 go_wp2_with (go_at_call 47; (with_reducible refine Dn.out.mono ?_); clear Dn; rintro e w4 ⟨g4, rfl, n4, b4⟩; have q4 : Below wa.heap.size wa w4 := q3.trans (b4.mono q3.size);have hb4 := blk_on hb1 q4; have hk4 := blk_on hk0 q4; have c11 := (blk_cell hb4 11).trans (show _ = some (Value.bool bad) from rfl); have f11 := blk_frozen hb4 11)
 all_goals
  generalize hw5 : w4.setCell ⟨r, 11, none⟩ _ = w5 at *
  obtain ⟨wd, hwd⟩ : ∃ wd, w5.drew = wd := ⟨_, rfl⟩
  have hn5 : wd.heap[g4]? = some (.cells #[.int .i64 (numS xa), .int .i64 (numS xb)] 2 (0, 0)) := by rw [← hwd, ← hw5]; exact blk_drew (blk_far n4 (blk_ne n4 hb4 (by decide)) _)
  have hk5 : wd.heap[g]? = some (.cells #[.int .i64 0, .int .i64 0] 74 (0, 0)) := by rw [← hwd, ← hw5]; exact blk_drew (blk_far hk4 (blk_ne hk4 hb4 (by decide)) _)
  have m0 := (blk_cell hn5 0).trans (show _ = some (Value.int .i64 (numS xa)) from rfl)
  have m1 := (blk_cell hn5 1).trans (show _ = some (Value.int .i64 (numS xb)) from rfl)
  have k0 := (blk_cell hk5 0).trans (show _ = some (Value.int .i64 0) from rfl)
  have k1 := (blk_cell hk5 1).trans (show _ = some (Value.int .i64 0) from rfl)
  have g0 := blk_frozen hk5 0
  have g1 := blk_frozen hk5 1
  have HW5 := Lib.hid hw5
  have HWD := Lib.hid hwd
  refine still_tail 7 (by kernel_rfl) (by kernel_rfl) wd hwd ?_
  clear hw5 hwd
  simp only [List.take_succ_cons, List.take_zero, List.drop_succ_cons, List.drop_zero]
  repeat still_step
  refine wpStill_nil ?_
  go_wp2
  have F : But (fun k => k = r) w wd := by
   rw [← HWD.out, ← HW5.out]
   exact ((((But.refl (fun k => k = r) w).below (hg ▸ q1)).below q4).set 11 _ (.inl rfl)).drew
  have hbd : wd.heap[r]? = some (.cells (h.cells (.slice (some ad) ws.length c) nv p (bad || !xc)) 106 (0, 0)) := by
   rw [← HWD.out, ← HW5.out]
   first
    | (have eb : bad = true := by assumption
       rw [show (bad || !xc) = true by rw [eb]; rfl]
       exact blk_drew (blk_put hb4 11 _ rfl))
    | (have eb : bad = false := by (first | assumption | exact eq_false_of_ne_true (by assumption))
       rw [show (bad || !xc) = !xc by rw [eb]; rfl]
       exact blk_drew (blk_put hb4 11 _ rfl))
  have F2 := (F.set (b := g) 0 (.int .i64 (numS xa)) (.inr (Nat.le_of_eq hg))).set (b := g) 1 (.int .i64 (numS xb)) (.inr (Nat.le_of_eq hg))
  have hbz := blk_far (blk_far hbd (p := ⟨g, 0, none⟩) (Ne.symm hgr) (.int .i64 (numS xa))) (p := ⟨g, 1, none⟩) (Ne.symm hgr) (.int .i64 (numS xb))
  exact bodyPost_ret (v := .agg #[.int .i64 (numS xa), .int .i64 (numS xb)]) (by simp [results, Tryz.results114, k0, k1, go_sem]) rfl ⟨rfl, HRd.out.still F2 hbz, F2⟩
end Go.Proofs.YtmcjccigglekpaaGreatDoor.Given
