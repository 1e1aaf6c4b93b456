/- Texts of this seat, joined. -/
import Derived.Test.YtmcjccigglekpaaGreatDoorA10
import Derived.Test.YtmcjccigglekpaaGreatDoorA4
import Derived.Test.YtmcjccigglekpaaGreatDoorA9
import Derived.Test.YtmcjccigglekpaaGreatDoorA3
import Derived.Test.YtmcjccigglekpaaGreatDoorA2
namespace Go.Proofs.YtmcjccigglekpaaGreatDoor.Given
open Go Go.RowKit Go.Proofs Go.Proofs.YtmcjccigglekpaaGreatDoorW.PrintWords Go.Proofs.YtmcjccigglekpaaGreatDoorW.PrintLast Go.Proofs.YtmcjccigglekpaaGreatDoorW.PrintMore Go.Proofs.YtmcjccigglekpaaGreatDoor.P

theorem newA : garrisonref09_New.f 20 3 1 = some ([thingF, thingF, thingF], [[0, 1, 2]], 0) := by kernel_rfl
theorem newP : garrisonref10_Power.f 20 64 = some true := by kernel_rfl
/-- The first state of live. -/
def newS : St := ⟨[⟨2, 0, 3, 0, 0, 0, -1, 0⟩, ⟨1, 0, 1, 0, 64, 0, -1, 0⟩, ⟨4, 0, 1, 0, 0, 0, -1, 0⟩], [[]], [[⟨1, 15, 0, 1, 0⟩, ⟨4, 15, 0, 2, 0⟩, ⟨0, 0, 0, 0, 0⟩, ⟨0, 0, 0, 0, 0⟩, ⟨0, 0, 0, 0, 0⟩, ⟨0, 0, 0, 0, 0⟩, ⟨0, 0, 0, 0, 0⟩, ⟨0, 0, 0, 0, 0⟩], [], []], [⟨⟨0, 0⟩, 0, false⟩, ⟨⟨0, 1⟩, 0, false⟩], [⟨0, 0, []⟩, ⟨0, 0, []⟩, ⟨0, 0, []⟩], [[]], [0], [⟨false, ⟨0, 0⟩, false⟩]⟩
def NewPost (w : World) (e : Ending) (w' : World) : Prop := ∃ h : Rv, e = .returned (.tuple #[.agg #[h.v0, h.v1, h.v2, h.v3, h.v4, h.v5, h.v6, h.v7], .int .i64 0]) ∧ RowsT w.heap.size h newS w' ∧ Below w.heap.size w w'
theorem rep_snoc {α : Type} (x : α) (j : Nat) : List.replicate j x ++ [x] = List.replicate (j + 1) x := List.replicate_succ'.symm
set_option maxRecDepth 100000 in
set_option maxHeartbeats 20000000 in
theorem new_calls (w : World) : Calls Tryz.prog 20 #[.int .i64 1, .int .i64 3, .int .i64 64, .int .i64 1] w (NewPost w) := by
 have DP := Lib.hid (fun w' => garrisonref10_Power.calls 20 64 true w' newP)
 have DN := Lib.hid (fun w' => garrisonref09_New.calls 20 3 1 _ _ _ w' newA)
 go_enter Tryz.func20, Tryz.ntmps20
 go_wp2_with (first
  | (go_at_call 58; refine (DP.out _).mono ?_; clear DP; rintro e w1 ⟨rfl, m1, rfl⟩)
  | (go_at_call 59; refine (DN.out _).mono ?_; clear DN; rintro e w2 ⟨v0, v1, rfl, hr0, hr1, hb2⟩; obtain ⟨g1, cap1, rfl, hBg1, hlt1, cells1, hgb1⟩ := Kd.S_form hr1 (by decide); obtain ⟨g0, cap0, rfl, hBg0, hlt0, cells0, hgb0⟩ := Kd.R_form hr0 (by decide); simp only [List.length_cons, List.length_nil, Nat.zero_add, Nat.reduceAdd] at hr0 hr1))
 obtain ⟨W3, hW3⟩ : ∃ W3, w2.alloc (.cells #[.slice (some ⟨g0, 0, none⟩) 3 cap0, .slice (some ⟨g1, 0, none⟩) 1 cap1] 25) = W3 := ⟨_, rfl⟩
 rw [hW3]
 have hsz2 : w.heap.size < w2.heap.size := by have := hb2.size; simp at this; omega
 have N3 : NA w.heap.size w.heap.size w2.heap.size w (.slice (some ⟨g0, 0, none⟩) 3 cap0) (.slice (some ⟨g1, 0, none⟩) 1 cap1) [[0, 1, 2]] W3 := by
  rw [← hW3]
  refine ⟨Kd.R_alloc (Kd.R_lower hr0 (by simp)) _, Kd.S_alloc (Kd.S_lower hr1 (by simp)) _, blk_new' _ _ rfl, ?_, ?_, ⟨Nat.le_refl _, Nat.le_of_lt hsz2⟩⟩
  ·exact blk_alloc (blk_below (blk_new' w (.cells #[.slice none 0 0, .slice none 0 0, .slice none 0 0, .slice none 0 0, .slice none 0 0, .slice none 0 0, .slice none 0 0, .slice none 0 0] 32) rfl) (show Below _ (w.alloc (.cells #[.slice none 0 0, .slice none 0 0, .slice none 0 0, .slice none 0 0, .slice none 0 0, .slice none 0 0, .slice none 0 0, .slice none 0 0] 32)) w2 from (below_drewN _ m1).trans hb2)) _
  ·exact (((Below.refl _ _).alloc (Nat.le_refl _) _).trans (((below_drewN _ m1).trans hb2).mono (by simp))).alloc (by omega) _
 have c1 := (blk_cell N3.bA 1).trans (show _ = some (Value.slice (some ⟨g1, 0, none⟩) 1 cap1) from rfl)
 have hS := N3.r1
 have hr := at_row (xs := [[0, 1, 2]]) (Kd.R_reads' (Kd.S_R hS)).2.2 0 (by decide)
 obtain ⟨ad, A9, c9, e9, hrow, hlc9, hr9⟩ := hr
 obtain rfl := Option.some.inj e9
 have hrow : W3.cell? ⟨g1, 0, none⟩ = some (.slice A9 3 c9) := hrow
 have h9 : ∀ j : Nat, j < 3 → ∃ ad, A9 = some ad ∧ W3.cell? (ad.add j) = some (.int .i64 (rd [0, 1, 2] (j : Int))) := fun j hj => by
  obtain ⟨ad, e, h⟩ := Kd.at_int hr9 (j : Int) (by omega) (by show (j : Int) < 3; omega)
  rw [Int.toNat_natCast] at h
  exact ⟨ad, e, h⟩
 obtain ⟨oki, ce, hce, _, hcc, hfr, _, hH⟩ := Kd.S_elem hS ([] : List Int) 0 (by omega) (by omega)
 have hput := Lib.hid (Kd.S_seg0 hH (by omega) (by omega) (seg := [.slice none 0 0]) (j := 0) (show 0 + 1 ≤ 1 by omega) (x' := ([] : List Int)) (okp := fun _ => False) (by
  have hz : ce.take 0 ++ [.slice none 0 0] ++ ce.drop (0 + [Value.slice none 0 0].length) = [.slice none 0 0] := by
   match ce, hce with
   | [x], _ => rfl
  rw [hz]; exact ⟨_, rfl, Kd.R_nil _ _ _ _ _⟩) (fun _ hk => hk.elim))
 have fz : W3.frozen? ⟨g1, 0, none⟩ = false := hfr 0
 have hgb3 : W3.heap[g1]? = some (.cells cells1 29 (0, 0)) := hW3 ▸ blk_alloc hgb1 _
 have hg1w : w.heap.size + 1 ≤ g1 := by simpa using hBg1
 have HN3 := Lib.hid N3
 clear N3 hS hH hcc hfr hce hr9 hr0 hr1 hlc9 e9
 go_loopw [12] (fun v wr => (v = .int .i64 0 ∧ W3 = wr) ∨ (v = .int .i64 1 ∧ NA w.heap.size w.heap.size w2.heap.size w (.slice (some ⟨g0, 0, none⟩) 3 cap0) (.slice (some ⟨g1, 0, none⟩) 1 cap1) [[]] wr)) (fun v _ => 1 - (intOf v).toNat)
 case atStart => exact .inl ⟨rfl, rfl⟩
 case round =>
  rcases hrel with ⟨rfl, rfl⟩ | ⟨rfl, hN⟩
  ·go_wp2
   go_loopw [13, 14] (fun v0 v wr => v0 = .slice none 0 0 ∧ ∃ j : Nat, j ≤ 3 ∧ v = .int .i64 j ∧ W3 = wr) (fun _ v _ => 3 - (intOf v).toNat)
   case atStart => exact ⟨rfl, 0, by decide, rfl, rfl⟩
   case round =>
    obtain ⟨rfl, j, hj, rfl, rfl⟩ := hrel
    by_cases hlt : j < 3
    ·have hd : decide ((j : Int) < 3) = true := decide_eq_true (by omega)
     have i2 : decide (0 ≤ (j : Int)) = true := decide_eq_true (by omega)
     have j2 : decide (j < 3) = true := decide_eq_true hlt
     obtain ⟨ad, e1, hv⟩ := h9 j hlt
     subst e1
     have hgt : decide ((rd [0, 1, 2] (j : Int)) > 2) = false := by
      rcases (show j = 0 ∨ j = 1 ∨ j = 2 by omega) with rfl | rfl | rfl <;> rfl
     generalize rd [0, 1, 2] (j : Int) = x at *
     go_wp2
     refine ⟨⟨rfl, j + 1, hlt, rfl, trivial⟩, ?_⟩
     show 3 - ((j : Int) + 1).toNat < 3 - ((j : Int)).toNat
     omega
    ·have hd : decide ((j : Int) < 3) = false := decide_eq_false (by omega)
     go_wp2
     have N := HN3.out
     refine ⟨.inr ⟨rfl, ⟨Kd.R_set N.r0 hgb3 (by decide) 0 _, hput.out.1, ?_, ?_, N.bl.setCell (p := ⟨g1, 0, none⟩) (show w.heap.size ≤ g1 by omega) _, N.lo⟩⟩, by decide⟩
     ·exact (Below.heap_setCell _ ⟨g1, 0, none⟩ _ _ (show w2.heap.size ≠ g1 by omega)).trans N.bA
     ·exact (Below.heap_setCell _ ⟨g1, 0, none⟩ _ _ (show w.heap.size ≠ g1 by omega)).trans N.bC
  ·go_wp2
   have HS0 := NS.start hN
   obtain ⟨W5, hW5⟩ : ∃ W5, wr.alloc (.cells #[.slice none 0 0, .slice none 0 0, .slice none 0 0, .slice none 0 0, .slice none 0 0, .slice none 0 0, .slice none 0 0, .slice none 0 0] 32) = W5 := ⟨_, rfl⟩
   rw [hW5] at HS0 ⊢
   generalize wr.heap.size = sB at *
   generalize colT W5 = col0 at HS0
   clear hN hW5 hput fz hgb3 h9 hrow c1 HN3
   generalize (Value.slice (some ⟨g0, 0, none⟩) 3 cap0) = V0 at *
   generalize (Value.slice (some ⟨g1, 0, none⟩) 1 cap1) = V1 at *
   go_loopw [16] (fun v wq => ∃ j : Nat, j ≤ 3 ∧ v = .int .i64 j ∧ ∃ col u2 u4, NS w.heap.size w.heap.size w2.heap.size sB w col ⟨V0, V1, u2, .slice none 0 0, u4, .slice none 0 0, .slice none 0 0, .slice none 0 0⟩ ⟨.slice none 0 0, .slice none 0 0, u2, .slice none 0 0, u4, .slice none 0 0, .slice none 0 0, .slice none 0 0⟩ V0 V1 ⟨[thingF, thingF, thingF], [[]], List.replicate j [], [], List.replicate j zport, [], [], []⟩ wq) (fun v _ => 3 - (intOf v).toNat)
   case atStart => exact ⟨0, by decide, rfl, col0, _, _, HS0⟩
   case round =>
    obtain ⟨j, hj, rfl, col, u2, u4, H⟩ := hrel
    by_cases hlt : j < 3
    ·have hd : decide ((j : Int) < 3) = true := decide_eq_true (by omega)
     have c2 := (blk_cell H.bS 2).trans (show _ = some u2 from rfl)
     have HH := Lib.hid H
     clear H
     go_wp2_with (first
      | ((with_reducible refine gate_dst (N := 102) rfl ?_); refine Kd.S_append (Kd.slice 87 k87) (w0 := w) w.heap.size rfl (.tmp 100) (.tmp 101) 26 56 (.slice none 0 0) 24 rfl Tryz.underlying26 info56 rfl (by decide) (by omega) u2 (List.replicate j []) [] [.slice none 0 0] (fun k => newCol col wr.heap.size 2 k = 2) (fun _ => False) rfl rfl ⟨_, rfl, Kd.R_nil _ _ _ _ _⟩ (fun _ hk => hk.elim) new_ok (Kd.S_mono HH.out.free2 (fun _ h => ⟨h, id⟩)) HH.out.bl HH.out.Bw (by rw [List.length_replicate]; omega) ?_; intro v1 w5 HR1 HB1 hg1 hat1; obtain ⟨A2, e2, hv1⟩ := Kd.S_slice HR1; rw [rep_snoc] at HR1 hv1; rw [List.length_replicate] at hv1; subst hv1; have H1 := HH.out.step2 HR1 hg1; have k2 := (blk_cell H1.bS 2).trans (show _ = some u2 from rfl); have f2 := blk_frozen H1.bS 2; have H2 := Lib.hid (H1.store2 (.slice A2 (j + 1) e2)); have c4 := (blk_cell H2.out.bS 4).trans (show _ = some u4 from rfl); clear H1 HR1 HB1 hg1 hat1)
      | ((with_reducible refine gate_dst (N := 108) rfl ?_); refine Kd.S_append k59 (w0 := w) w.heap.size rfl (.tmp 105) (.tmp 107) 28 59 (.agg #[.int .i64 0, .int .i64 0, .slice none 0 0]) 40 rfl Tryz.underlying28 info59 rfl (by decide) (by omega) u4 (List.replicate j zport) zport [.int .i64 0, .int .i64 0, .slice none 0 0] _ (fun _ => False) rfl (by first | (go_simp; done) | (go_simp; rfl)) (k59_mkM _ _ _ zport (Kd.R_nil _ _ _ _ _)) (fun _ hk => hk.elim) new_ok (Kd.S_mono H2.out.free4 (fun _ h => ⟨h, id⟩)) H2.out.bl H2.out.Bw (by rw [List.length_replicate]; omega) ?_; intro v1 w6 HR1 HB1 hg1 hat1; obtain ⟨A4, e4, hv1⟩ := Kd.S_slice HR1; rw [rep_snoc] at HR1 hv1; rw [List.length_replicate] at hv1; subst hv1; have H3 := H2.out.step4 HR1 hg1; have k4 := (blk_cell H3.bS 4).trans (show _ = some u4 from rfl); have f4 := blk_frozen H3.bS 4; have H4 := Lib.hid (H3.store4 (.slice A4 (j + 1) e4)); clear H3 HR1 HB1 hg1 hat1))
     refine ⟨⟨j + 1, hlt, rfl, _, _, _, H4.out⟩, ?_⟩
     show 3 - ((j : Int) + 1).toNat < 3 - ((j : Int)).toNat
     omega
    ·have hd : decide ((j : Int) < 3) = false := decide_eq_false (by omega)
     obtain rfl : j = 3 := by omega
     have HH := H
     obtain ⟨g, cap, hV0, -⟩ := Kd.R_form HH.rows.r0 (by decide)
     obtain ⟨g2, cap2, hu2, -⟩ := Kd.S_form HH.rows.r2 (by decide)
     clear HH
     dsimp only at hV0 hu2
     rw [List.length_replicate] at hu2
     simp only [List.length_cons, List.length_nil, Nat.zero_add, Nat.reduceAdd] at hV0
     subst hV0 hu2
     obtain ⟨Wd, rfl⟩ : ∃ Wd, Wd = wr := ⟨_, rfl⟩
     have HH := Lib.hid H
     clear H
     go_wp2
     go_loopw [17] (fun v wq => (v = .int .i64 0 ∧ Wd = wq) ∨ (v = .int .i64 1 ∧ ∃ col u3, NS w.heap.size w.heap.size w2.heap.size sB w col ⟨.slice (some ⟨g, 0, none⟩) 3 cap, V1, .slice (some ⟨g2, 0, none⟩) 3 cap2, u3, u4, .slice none 0 0, .slice none 0 0, .slice none 0 0⟩ ⟨.slice none 0 0, .slice none 0 0, .slice (some ⟨g2, 0, none⟩) 3 cap2, u3, u4, .slice none 0 0, .slice none 0 0, .slice none 0 0⟩ (.slice (some ⟨g, 0, none⟩) 3 cap) V1 { newS with th := [⟨2, 0, 3, 0, 0, 0, -1, 0⟩, ⟨1, 0, 1, 0, 64, 0, -1, 0⟩, thingF], li := [], ro := [], sw := [] } wq)) (fun v _ => 1 - (intOf v).toNat)
     case atStart => exact .inl ⟨rfl, rfl⟩
     case round =>
      rcases hrel with ⟨rfl, rfl⟩ | ⟨rfl, col2, u3, H⟩
      ·have cA := (blk_cell HH.out.bA 0).trans (show _ = some (Value.slice (some ⟨g, 0, none⟩) 3 cap) from rfl)
       obtain ⟨⟨x0, t0⟩, ⟨x1, t1⟩, ⟨x2, t2⟩, ⟨x3, t3⟩, ⟨x4, t4⟩, ⟨x5, t5⟩, ⟨x6, t6⟩, ⟨x7, t7⟩, f0, f1, f2, f3, f4, f5, f6, f7⟩ := thing_cells HH.out.rows.r0 0 (by omega)
       simp only [Nat.zero_mul, Nat.zero_add] at t0 t1 t2 t3 t4 t5 t6 t7 f0 f1 f2 f3 f4 f5 f6 f7
       go_upto_region 26 with fail
       have H1 := HH.out.putTh rfl 0 (by omega) ⟨2, 0, 3, 0, 0, 0, -1, 0⟩
       simp only [Nat.zero_mul, Nat.zero_add, Nat.one_mul, Nat.reduceAdd, Nat.reduceMul, Nat.add_zero] at H1
       clear t0 t1 t2 t3 t4 t5 t6 t7 f0 f1 f2 f3 f4 f5 f6 f7 cA
       generalize ((((((((Wd.setCell ⟨g, 0, none⟩ (.int .i64 2)).setCell ⟨g, 1, none⟩ (.int .i64 0)).setCell ⟨g, 2, none⟩ (.int .i64 3)).setCell ⟨g, 3, none⟩ (.int .i64 0)).setCell ⟨g, 4, none⟩ (.int .i64 0)).setCell ⟨g, 5, none⟩ (.int .i64 0)).setCell ⟨g, 6, none⟩ (.int .i64 (-1))).setCell ⟨g, 7, none⟩ (.int .i64 0)) = W6 at H1 ⊢
       have cA := (blk_cell H1.bA 0).trans (show _ = some (Value.slice (some ⟨g, 0, none⟩) 3 cap) from rfl)
       obtain ⟨⟨x0, t0⟩, ⟨x1, t1⟩, ⟨x2, t2⟩, ⟨x3, t3⟩, ⟨x4, t4⟩, ⟨x5, t5⟩, ⟨x6, t6⟩, ⟨x7, t7⟩, f0, f1, f2, f3, f4, f5, f6, f7⟩ := thing_cells H1.rows.r0 1 (by omega)
       simp only [Nat.zero_mul, Nat.zero_add, Nat.one_mul, Nat.reduceAdd, Nat.reduceMul, Nat.add_zero] at t0 t1 t2 t3 t4 t5 t6 t7 f0 f1 f2 f3 f4 f5 f6 f7
       go_upto_region 27 with fail
       have H2 := H1.putTh rfl 1 (by omega) ⟨1, 0, 1, 0, 64, 0, -1, 0⟩
       simp only [Nat.zero_mul, Nat.zero_add, Nat.one_mul, Nat.reduceAdd, Nat.reduceMul, Nat.add_zero] at H2
       clear t0 t1 t2 t3 t4 t5 t6 t7 f0 f1 f2 f3 f4 f5 f6 f7 cA H1
       generalize ((((((((W6.setCell ⟨g, 8, none⟩ (.int .i64 1)).setCell ⟨g, 9, none⟩ (.int .i64 0)).setCell ⟨g, 10, none⟩ (.int .i64 1)).setCell ⟨g, 11, none⟩ (.int .i64 0)).setCell ⟨g, 12, none⟩ (.int .i64 64)).setCell ⟨g, 13, none⟩ (.int .i64 0)).setCell ⟨g, 14, none⟩ (.int .i64 (-1))).setCell ⟨g, 15, none⟩ (.int .i64 0)) = W7 at H2 ⊢
       obtain ⟨wd, hwd⟩ : ∃ wd, W7.drew = wd := ⟨_, rfl⟩
       have H3 : NS _ _ _ _ _ _ _ _ _ _ _ wd := hwd ▸ H2.drew
       have cN := (blk_cell H3.bS 2).trans (show _ = some (Value.slice (some ⟨g2, 0, none⟩) 3 cap2) from rfl)
       refine wp_region_sch (fun w' => w'.cell? ⟨sB, 2, none⟩ = some (.slice (some ⟨g2, 0, none⟩) 3 cap2)) 5 [(false, 0), (false, 1), (false, 2), (true, 3), (false, 4)] (by kernel_rfl) (by kernel_rfl) (fun _ a d _ _ h => by cases d <;> exact h) wd hwd cN ?_
       clear hwd H2
       try dsimp only
       repeat (refine' sch_pure rfl rfl ?_ ?_; rotate_left; · (rintro w' hs0; go_simp <;> rfl)
               simp only [Act.put, List.setIfInBounds_toArray, List.set_cons_zero, List.set_cons_succ])
       (refine sch_alone rfl (fun K hK => ?_); refine Kd.R_make_step k87 wd.heap.size 87 (by rfl) (N := 134) rfl _ _ _ rfl 8 rfl rfl rfl (.agg #[.int .i64 0, .int .i64 0, .int .i64 0, .int .i64 0, .int .i64 0]) 40 info87 rfl (by decide) (by decide) zcap (ok := fun _ => True) (okp := fun _ => False) (k87_mkM _ _ _ zcap) (fun _ hk => hk.elim) trivial (by decide) (by decide) (w0 := wd) (Below.refl _ _) (Nat.le_refl _) ?_; intro v1 w5 HR1 HB1 hg1 hat1; refine hK.out _ _ (bcellv HB1 cN) ?_; clear hK K)
       obtain ⟨A1, e1, rfl⟩ := Kd.R_slice HR1
       rw [List.length_replicate, show Int.toNat 8 = 8 from rfl] at HR1
       try simp only [Act.put, List.setIfInBounds_toArray, List.set_cons_zero, List.set_cons_succ]
       repeat (refine' sch_pure rfl rfl ?_ ?_; rotate_left; · (rintro w' hs0; go_simp <;> rfl)
               simp only [Act.put, List.setIfInBounds_toArray, List.set_cons_zero, List.set_cons_succ])
       obtain ⟨⟨u9, k9, f9⟩, H4⟩ := H3.putNo rfl 0 (by omega) HB1 HR1
       refine sch_last rfl (fun K hK => ?_)
       go_simp
       refine hK.out _ _ ?_
       clear hK K k9 f9 cN H3 HR1 HB1 hg1 hat1
       generalize (w5.setCell ⟨g2, 0, none⟩ (.slice A1 8 e1)) = W8 at H4 ⊢
       obtain ⟨gi0, ci0, kc, ⟨⟨y0, t0⟩, ⟨y1, t1⟩, ⟨y2, t2⟩, ⟨y3, t3⟩, ⟨y4, t4⟩, f0, f1, f2, f3, f4⟩, H5⟩ := H4.slot rfl 0 (by omega) (x := [zcap, zcap, zcap, zcap, zcap, zcap, zcap, zcap]) rfl 0 (by decide) ⟨1, 15, 0, 1, 0⟩
       simp only [Nat.zero_mul, Nat.zero_add, Nat.one_mul, Nat.reduceAdd, Nat.reduceMul, Nat.add_zero, List.length_cons, List.length_nil] at kc t0 t1 t2 t3 t4 f0 f1 f2 f3 f4 H5
       have cN := (blk_cell H4.bS 2).trans (show _ = some (Value.slice (some ⟨g2, 0, none⟩) 3 cap2) from rfl)
       go_upto_region 29 with fail
       clear kc t0 t1 t2 t3 t4 f0 f1 f2 f3 f4 cN H4
       generalize (((((W8.setCell ⟨gi0, 0, none⟩ (.int .i64 1)).setCell ⟨gi0, 1, none⟩ (.int .i64 15)).setCell ⟨gi0, 2, none⟩ (.int .i64 0)).setCell ⟨gi0, 3, none⟩ (.int .i64 1)).setCell ⟨gi0, 4, none⟩ (.int .i64 0)) = W9 at H5 ⊢
       obtain ⟨gi1, ci1, kc, ⟨⟨y0, t0⟩, ⟨y1, t1⟩, ⟨y2, t2⟩, ⟨y3, t3⟩, ⟨y4, t4⟩, f0, f1, f2, f3, f4⟩, H6⟩ := H5.slot rfl 0 (by omega) (x := [⟨1, 15, 0, 1, 0⟩, zcap, zcap, zcap, zcap, zcap, zcap, zcap]) rfl 1 (by decide) ⟨4, 15, 0, 2, 0⟩
       simp only [Nat.zero_mul, Nat.zero_add, Nat.one_mul, Nat.reduceAdd, Nat.reduceMul, Nat.add_zero, List.length_cons, List.length_nil] at kc t0 t1 t2 t3 t4 f0 f1 f2 f3 f4 H6
       have cN := (blk_cell H5.bS 2).trans (show _ = some (Value.slice (some ⟨g2, 0, none⟩) 3 cap2) from rfl)
       go_upto_region 30 with fail
       clear kc t0 t1 t2 t3 t4 f0 f1 f2 f3 f4 cN H5
       generalize (((((W9.setCell ⟨gi1, 5, none⟩ (.int .i64 4)).setCell ⟨gi1, 6, none⟩ (.int .i64 15)).setCell ⟨gi1, 7, none⟩ (.int .i64 0)).setCell ⟨gi1, 8, none⟩ (.int .i64 2)).setCell ⟨gi1, 9, none⟩ (.int .i64 0)) = W10 at H6 ⊢
       have cT := (blk_cell H6.bS 3).trans (show _ = some (Value.slice none 0 0) from rfl)
       have H7 := H6.alloc (.cells #[.int .i64 0, .int .i64 0, .int .i64 0, .bool false, .int .i64 0, .int .i64 1, .int .i64 0, .bool false] 76)
       have hlit := two_branches W10 w.heap.size ⟨⟨0, 0⟩, 0, false⟩ ⟨⟨0, 1⟩, 0, false⟩
       have HH7 := Lib.hid H7
       clear H6 H7
       go_wp2_with ((with_reducible refine gate_dst (N := 164) rfl ?_); refine Kd.R_append_rows k76 (w0 := w) w.heap.size rfl (.tmp 156) (.tmp 163) 27 76 (.agg #[.int .i64 0, .int .i64 0, .int .i64 0, .bool false]) 32 rfl Tryz.underlying27 info76 rfl (by decide) (by omega) (.slice none 0 0) [] [⟨⟨0, 0⟩, 0, false⟩, ⟨⟨0, 1⟩, 0, false⟩] _ 2 2 _ (fun _ => False) rfl rfl HH7.out.free3 hlit (fun _ _ h => h) (fun _ h => h.elim) new_ok HH7.out.bl HH7.out.Bw (by decide) ?_; intro v1 w6 HR1 HB1 hg1 hat1; obtain ⟨A3, e3, rfl⟩ := Kd.R_slice HR1; have H8 := HH7.out.step3 HR1 hg1; have k3 := (blk_cell H8.bS 3).trans (show _ = some (Value.slice none 0 0) from rfl); have f3 := blk_frozen H8.bS 3; have H9 := Lib.hid (H8.store3 (.slice A3 2 e3)); clear H8 HR1 HB1 hg1 hat1)
       refine ⟨⟨_, _, H9.out⟩, by decide⟩
      ·have HH := H
       obtain ⟨g4, cap4, hV1, -⟩ := Kd.S_form HH.rows.r1 (by decide)
       clear HH
       change V1 = .slice (some ⟨g4, 0, none⟩) 1 cap4 at hV1
       subst hV1
       have cA := (blk_cell H.bA 0).trans (show _ = some (Value.slice (some ⟨g, 0, none⟩) 3 cap) from rfl)
       obtain ⟨⟨x0, t0⟩, ⟨x1, t1⟩, ⟨x2, t2⟩, ⟨x3, t3⟩, ⟨x4, t4⟩, ⟨x5, t5⟩, ⟨x6, t6⟩, ⟨x7, t7⟩, f0, f1, f2, f3, f4, f5, f6, f7⟩ := thing_cells H.rows.r0 2 (by omega)
       simp only [Nat.zero_mul, Nat.zero_add, Nat.one_mul, Nat.reduceAdd, Nat.reduceMul, Nat.add_zero, List.length_cons, List.length_nil] at t0 t1 t2 t3 t4 t5 t6 t7 f0 f1 f2 f3 f4 f5 f6 f7
       go_upto_region 32 with fail
       have H1 := H.putTh rfl 2 (by omega) ⟨4, 0, 1, 0, 0, 0, -1, 0⟩
       simp only [Nat.zero_mul, Nat.zero_add, Nat.one_mul, Nat.reduceAdd, Nat.reduceMul, Nat.add_zero, List.length_cons, List.length_nil] at H1
       clear t0 t1 t2 t3 t4 t5 t6 t7 f0 f1 f2 f3 f4 f5 f6 f7 cA H
       generalize ((((((((wr.setCell ⟨g, 16, none⟩ (.int .i64 4)).setCell ⟨g, 17, none⟩ (.int .i64 0)).setCell ⟨g, 18, none⟩ (.int .i64 1)).setCell ⟨g, 19, none⟩ (.int .i64 0)).setCell ⟨g, 20, none⟩ (.int .i64 0)).setCell ⟨g, 21, none⟩ (.int .i64 0)).setCell ⟨g, 22, none⟩ (.int .i64 (-1))).setCell ⟨g, 23, none⟩ (.int .i64 0)) = W6 at H1 ⊢
       have a0 := (blk_cell H1.bA 0).trans (show _ = some (Value.slice (some ⟨g, 0, none⟩) 3 cap) from rfl)
       have a1 := (blk_cell H1.bA 1).trans (show _ = some (Value.slice (some ⟨g4, 0, none⟩) 1 cap4) from rfl)
       have b0 := (blk_cell H1.bS 0).trans (show _ = some (Value.slice none 0 0) from rfl)
       have b1 := (blk_cell H1.bS 1).trans (show _ = some (Value.slice none 0 0) from rfl)
       have f0 := blk_frozen H1.bS 0
       have f1 := blk_frozen H1.bS 1
       go_wp2
       have H2 := (H1.store0 (.slice (some ⟨g, 0, none⟩) 3 cap)).store1 (.slice (some ⟨g4, 0, none⟩) 1 cap4)
       clear a0 a1 b0 b1 f0 f1 H1
       generalize ((W6.setCell ⟨sB, 0, none⟩ (.slice (some ⟨g, 0, none⟩) 3 cap)).setCell ⟨sB, 1, none⟩ (.slice (some ⟨g4, 0, none⟩) 1 cap4)) = We at H2 ⊢
       generalize (newCol col2 _ 0) = col3 at H2
       have HE := Lib.hid H2
       clear H2
       go_loopw [18] (fun v wq => (v = .int .i64 0 ∧ We = wq) ∨ (v = .int .i64 1 ∧ ∃ col u5 u6 u7, NS w.heap.size w.heap.size w2.heap.size sB w col ⟨.slice (some ⟨g, 0, none⟩) 3 cap, .slice (some ⟨g4, 0, none⟩) 1 cap4, .slice (some ⟨g2, 0, none⟩) 3 cap2, u3, u4, u5, u6, u7⟩ ⟨.slice (some ⟨g, 0, none⟩) 3 cap, .slice (some ⟨g4, 0, none⟩) 1 cap4, .slice (some ⟨g2, 0, none⟩) 3 cap2, u3, u4, u5, u6, u7⟩ (.slice (some ⟨g, 0, none⟩) 3 cap) (.slice (some ⟨g4, 0, none⟩) 1 cap4) newS wq)) (fun v _ => 1 - (intOf v).toNat)
       case atStart => exact .inl ⟨rfl, rfl⟩
       case round =>
        rcases hrel with ⟨rfl, rfl⟩ | ⟨rfl, col5, u5, u6, u7, H⟩
        ·have cL := (blk_cell HE.out.bS 5).trans (show _ = some (Value.slice none 0 0) from rfl)
         go_wp2_with (first
          | ((with_reducible refine gate_dst (N := 183) rfl ?_); refine Kd.S_append (Kd.slice 3 (Kd.int .i64)) (w0 := w) w.heap.size rfl (.tmp 181) (.tmp 182) 23 29 (.slice none 0 0) 24 rfl Tryz.underlying23 info29 rfl (by decide) (by omega) (.slice none 0 0) [] [] [.slice none 0 0] _ (fun _ => False) rfl rfl ⟨_, rfl, Kd.R_nil _ _ _ _ _⟩ (fun _ hk => hk.elim) new_ok (Kd.S_mono HE.out.free5 (fun _ h => ⟨h, id⟩)) HE.out.bl HE.out.Bw (by decide) ?_; intro v1 w5 HR1 HB1 hg1 hat1; obtain ⟨A5, e5, rfl⟩ := Kd.S_slice HR1; have H1 := HE.out.step5 HR1 hg1; have k5 := (blk_cell H1.bS 5).trans (show _ = some (Value.slice none 0 0) from rfl); have f5 := blk_frozen H1.bS 5; have H2 := Lib.hid (H1.store5 (.slice A5 1 e5)); have c7 := (blk_cell H2.out.bS 7).trans (show _ = some (Value.slice none 0 0) from rfl); clear H1 HR1 HB1 hg1 hat1)
          | ((with_reducible refine gate_dst (N := 189) rfl ?_); refine Kd.R_append k82 (w0 := w) w.heap.size rfl (.tmp 186) (.tmp 188) 30 82 (.agg #[.bool false, .int .i64 0, .int .i64 0, .bool false]) 32 rfl Tryz.underlying30 info82 rfl (by decide) (by omega) (.slice none 0 0) [] ⟨false, ⟨0, 0⟩, false⟩ [.bool false, .int .i64 0, .int .i64 0, .bool false] _ (fun _ => False) rfl (by first | (go_simp; done) | (go_simp; rfl)) (k82_mkM _ _ _ _) (fun _ hk => hk.elim) new_ok H2.out.free7 H2.out.bl H2.out.Bw (by decide) ?_; intro v1 w6 HR1 HB1 hg1 hat1; obtain ⟨A7, e7, rfl⟩ := Kd.R_slice HR1; have H3 := H2.out.step7 HR1 hg1; have k7 := (blk_cell H3.bS 7).trans (show _ = some (Value.slice none 0 0) from rfl); have f7 := blk_frozen H3.bS 7; have H4 := Lib.hid (H3.store7 (.slice A7 1 e7)); clear H3 HR1 HB1 hg1 hat1))
         obtain ⟨wd, hwd⟩ : ∃ wd, (w6.setCell ⟨sB, 7, none⟩ (.slice A7 1 e7)).drew = wd := ⟨_, rfl⟩
         have H5 : NS _ _ _ _ _ _ _ _ _ _ _ wd := hwd ▸ H4.out.drew
         have c6 := (blk_cell H5.bS 6).trans (show _ = some (Value.slice none 0 0) from rfl)
         refine wp_region_sch (fun w' => w'.cell? ⟨sB, 6, none⟩ = some (.slice none 0 0)) 8 [(false, 0), (false, 1), (false, 2), (false, 3), (false, 4), (true, 5), (true, 6), (false, 7)] (by kernel_rfl) (by kernel_rfl) (fun _ a d _ _ h => by cases d <;> exact h) wd hwd c6 ?_
         clear hwd H4 c7 k7 f7 k5 f5 cL
         try dsimp only
         repeat (refine' sch_pure rfl rfl ?_ ?_; rotate_left; · (rintro w' hs0; go_simp <;> rfl)
                 simp only [Act.put, List.setIfInBounds_toArray, List.set_cons_zero, List.set_cons_succ])
         (refine sch_alone rfl (fun K hK => ?_); go_simp; refine hK.out _ _ ((blk_cell (blk_alloc H5.bS _) 6).trans rfl) ?_; clear hK K)
         try simp only [Act.put, List.setIfInBounds_toArray, List.set_cons_zero, List.set_cons_succ]
         (refine sch_alone rfl (fun K hK => ?_); refine Kd.R_append_step (Kd.int .i64) (w0 := w) w.heap.size (by rfl) (.tmp 192) (.tmp 196) _ 3 _ 8 (by rfl) rfl info3 rfl (by decide) (by omega) (.slice none 0 0) [] 0 _ _ (fun _ => False) rfl rfl rfl (fun _ hk => hk.elim) new_ok H5.free6 H5.bl H5.Bw (by decide) ?_; intro v1 w7 HR1 HB1 hg1 hat1; have H6 := H5.step6 HR1 hg1; have c61 := (blk_cell H6.bS 6).trans (show _ = some (Value.slice none 0 0) from rfl); refine hK.out _ _ c61 ?_; clear hK K)
         obtain ⟨A6, e6, rfl⟩ := Kd.R_slice HR1
         have f6 := blk_frozen H6.bS 6
         have H7 := H6.store6 (.slice A6 1 e6)
         try simp only [Act.put, List.setIfInBounds_toArray, List.set_cons_zero, List.set_cons_succ]
         repeat (refine' sch_pure rfl rfl ?_ ?_; rotate_left; · (rintro w' hs0; go_simp <;> rfl)
                 simp only [Act.put, List.setIfInBounds_toArray, List.set_cons_zero, List.set_cons_succ])
         refine sch_last rfl (fun K hK => ?_)
         go_simp
         refine hK.out _ _ ?_
         clear hK K c6 H5 H6 HR1 HB1 hg1 hat1
         go_wp2
         exact ⟨⟨_, _, _, _, H7⟩, by decide⟩
        ·have HF := H
         obtain ⟨A3, e3, hu3⟩ := Kd.R_slice HF.rows.r3
         obtain ⟨A4, e4, hu4⟩ := Kd.S_slice HF.rows.r4
         obtain ⟨A5, e5, hu5⟩ := Kd.S_slice HF.rows.r5
         obtain ⟨A6, e6, hu6⟩ := Kd.R_slice HF.rows.r6
         obtain ⟨A7, e7, hu7⟩ := Kd.R_slice HF.rows.r7
         clear HF
         change u3 = .slice A3 2 e3 at hu3
         change u4 = .slice A4 3 e4 at hu4
         change u5 = .slice A5 1 e5 at hu5
         change u6 = .slice A6 1 e6 at hu6
         change u7 = .slice A7 1 e7 at hu7
         subst hu3 hu4 hu5 hu6 hu7
         have b0 := (blk_cell H.bS 0).trans (show _ = some (Value.slice (some ⟨g, 0, none⟩) 3 cap) from rfl)
         have b1 := (blk_cell H.bS 1).trans (show _ = some (Value.slice (some ⟨g4, 0, none⟩) 1 cap4) from rfl)
         have b2 := (blk_cell H.bS 2).trans (show _ = some (Value.slice (some ⟨g2, 0, none⟩) 3 cap2) from rfl)
         have b3 := (blk_cell H.bS 3).trans (show _ = some (Value.slice A3 2 e3) from rfl)
         have b4 := (blk_cell H.bS 4).trans (show _ = some (Value.slice A4 3 e4) from rfl)
         have b5 := (blk_cell H.bS 5).trans (show _ = some (Value.slice A5 1 e5) from rfl)
         have b6 := (blk_cell H.bS 6).trans (show _ = some (Value.slice A6 1 e6) from rfl)
         have b7 := (blk_cell H.bS 7).trans (show _ = some (Value.slice A7 1 e7) from rfl)
         obtain ⟨k20, k21, k22, k23, k24, k25, k26, k27, f20, f21, f22, f23, f24, f25, f26, f27⟩ := st_cells H.bC
         have HH := Lib.hid (H.result ⟨.slice (some ⟨g, 0, none⟩) 3 cap, .slice (some ⟨g4, 0, none⟩) 1 cap4, .slice (some ⟨g2, 0, none⟩) 3 cap2, .slice A3 2 e3, .slice A4 3 e4, .slice A5 1 e5, .slice A6 1 e6, .slice A7 1 e7⟩)
         clear H
         go_wp2
         obtain ⟨q1, q2, q3⟩ := HH.out
         refine bodyPost_ret (new_results (h := ⟨.slice (some ⟨g, 0, none⟩) 3 cap, .slice (some ⟨g4, 0, none⟩) 1 cap4, .slice (some ⟨g2, 0, none⟩) 3 cap2, .slice A3 2 e3, .slice A4 3 e4, .slice A5 1 e5, .slice A6 1 e6, .slice A7 1 e7⟩) rfl rfl q1) rfl ⟨_, rfl, q2, q3⟩
end Go.Proofs.YtmcjccigglekpaaGreatDoor.Given
namespace Go.Proofs.YtmcjccigglekpaaGreatDoor.Given
open Go Go.RowKit Go.Proofs Go.Proofs.YtmcjccigglekpaaGreatDoorW.PrintWords Go.Proofs.YtmcjccigglekpaaGreatDoorW.PrintLast Go.Proofs.YtmcjccigglekpaaGreatDoorW.PrintMore Go.Proofs.YtmcjccigglekpaaGreatDoor.P

def garrisonref17_New.f (a0 a1 a2 a3 : Int) : Option (List S70 × List (List Int) × List (List S87) × List S76 × List S59 × List (List Int) × List Int × List S82 × Int) := if a0 = 1 ∧ a1 = 3 ∧ a2 = 64 ∧ a3 = 1 then some (newS.th, newS.fr, newS.no, newS.tr, newS.po, newS.li, newS.ro, newS.sw, 0) else none
theorem garrisonref17_New.calls (a0 a1 a2 a3 : Int) (t0 : List S70) (t1 : List (List Int)) (t2 : List (List S87)) (t3 : List S76) (t4 : List S59) (t5 : List (List Int)) (t6 : List Int) (t7 : List S82) (t8 : Int) (w : World) (h : garrisonref17_New.f a0 a1 a2 a3 = some (t0, t1, t2, t3, t4, t5, t6, t7, t8)) :
  Calls Tryz.prog 20 #[.int .i64 a0, .int .i64 a1, .int .i64 a2, .int .i64 a3] w fun e w' => ∃ v0 v1 v2 v3 v4 v5 v6 v7, e = .returned (.tuple #[.agg #[v0, v1, v2, v3, v4, v5, v6, v7], .int .i64 t8]) ∧ Kd.R k70 70 w' w.heap.size (fun _ => True) v0 t0 ∧ Kd.S (Kd.slice 3 (Kd.int .i64)) 29 w' w.heap.size (fun _ => True) v1 t1 ∧ Kd.S (Kd.slice 87 k87) 56 w' w.heap.size (fun _ => True) v2 t2 ∧ Kd.R k76 76 w' w.heap.size (fun _ => True) v3 t3 ∧ Kd.S k59 59 w' w.heap.size (fun _ => True) v4 t4 ∧ Kd.S (Kd.slice 3 (Kd.int .i64)) 29 w' w.heap.size (fun _ => True) v5 t5 ∧ Kd.R (Kd.int .i64) 3 w' w.heap.size (fun _ => True) v6 t6 ∧ Kd.R k82 82 w' w.heap.size (fun _ => True) v7 t7 ∧ Below w.heap.size w w' := by
 unfold garrisonref17_New.f at h
 split at h
 ·rename_i hc
  obtain ⟨rfl, rfl, rfl, rfl⟩ := hc
  simp only [Option.some.injEq, Prod.mk.injEq] at h
  obtain ⟨rfl, rfl, rfl, rfl, rfl, rfl, rfl, rfl, rfl⟩ := h
  refine (new_calls w).mono ?_
  rintro e w' ⟨h, he, hr, hb⟩
  exact ⟨h.v0, h.v1, h.v2, h.v3, h.v4, h.v5, h.v6, h.v7, he, hr.r0, hr.r1, hr.r2, hr.r3, hr.r4, hr.r5, hr.r6, hr.r7, hb⟩
 ·cases h
end Go.Proofs.YtmcjccigglekpaaGreatDoor.Given
namespace Go.Proofs.YtmcjccigglekpaaGreatDoor.Given
open Go Go.RowKit Go.Proofs Go.Proofs.YtmcjccigglekpaaGreatDoorW.PrintWords Go.Proofs.YtmcjccigglekpaaGreatDoorW.PrintLast Go.Proofs.YtmcjccigglekpaaGreatDoorW.PrintMore Go.Proofs.YtmcjccigglekpaaGreatDoor.P

def garrisonref17_Same.f (l0_0 : List S70) (l0_1 : List (List Int)) (l0_2 : List (List S87)) (l0_3 : List S76) (l0_4 : List S59) (l0_5 : List (List Int)) (l0_6 : List Int) (l0_7 : List S82) (l1_0 : List S70) (l1_1 : List (List Int)) (l1_2 : List (List S87)) (l1_3 : List S76) (l1_4 : List S59) (l1_5 : List (List Int)) (l1_6 : List Int) (l1_7 : List S82) : Option Bool := some (decide ((⟨l0_0, l0_1, l0_2, l0_3, l0_4, l0_5, l0_6, l0_7⟩ : St) = ⟨l1_0, l1_1, l1_2, l1_3, l1_4, l1_5, l1_6, l1_7⟩))
theorem garrisonref17_Same.calls (A0_0 : Option Addr) (c0_0 : Nat) (l0_0 : List S70) (A0_1 : Option Addr) (c0_1 : Nat) (l0_1 : List (List Int)) (A0_2 : Option Addr) (c0_2 : Nat) (l0_2 : List (List S87)) (A0_3 : Option Addr) (c0_3 : Nat) (l0_3 : List S76) (A0_4 : Option Addr) (c0_4 : Nat) (l0_4 : List S59) (A0_5 : Option Addr) (c0_5 : Nat) (l0_5 : List (List Int)) (A0_6 : Option Addr) (c0_6 : Nat) (l0_6 : List Int) (A0_7 : Option Addr) (c0_7 : Nat) (l0_7 : List S82) (A1_0 : Option Addr) (c1_0 : Nat) (l1_0 : List S70) (A1_1 : Option Addr) (c1_1 : Nat) (l1_1 : List (List Int)) (A1_2 : Option Addr) (c1_2 : Nat) (l1_2 : List (List S87)) (A1_3 : Option Addr) (c1_3 : Nat) (l1_3 : List S76) (A1_4 : Option Addr) (c1_4 : Nat) (l1_4 : List S59) (A1_5 : Option Addr) (c1_5 : Nat) (l1_5 : List (List Int)) (A1_6 : Option Addr) (c1_6 : Nat) (l1_6 : List Int) (A1_7 : Option Addr) (c1_7 : Nat) (l1_7 : List S82) (r : Bool) (w : World) (hr0_0 : Kd.C k70 w A0_0 l0_0.length l0_0) (hc0_0 : l0_0.length ≤ c0_0) (hr0_1 : Kd.C (Kd.slice 3 (Kd.int .i64)) w A0_1 l0_1.length l0_1) (hc0_1 : l0_1.length ≤ c0_1) (hr0_2 : Kd.C (Kd.slice 87 k87) w A0_2 l0_2.length l0_2) (hc0_2 : l0_2.length ≤ c0_2) (hr0_3 : Kd.C k76 w A0_3 l0_3.length l0_3) (hc0_3 : l0_3.length ≤ c0_3) (hr0_4 : Kd.C k59 w A0_4 l0_4.length l0_4) (hc0_4 : l0_4.length ≤ c0_4) (hr0_5 : Kd.C (Kd.slice 3 (Kd.int .i64)) w A0_5 l0_5.length l0_5) (hc0_5 : l0_5.length ≤ c0_5) (hr0_6 : Kd.C (Kd.int .i64) w A0_6 l0_6.length l0_6) (hc0_6 : l0_6.length ≤ c0_6) (hr0_7 : Kd.C k82 w A0_7 l0_7.length l0_7) (hc0_7 : l0_7.length ≤ c0_7) (hr1_0 : Kd.C k70 w A1_0 l1_0.length l1_0) (hc1_0 : l1_0.length ≤ c1_0) (hr1_1 : Kd.C (Kd.slice 3 (Kd.int .i64)) w A1_1 l1_1.length l1_1) (hc1_1 : l1_1.length ≤ c1_1) (hr1_2 : Kd.C (Kd.slice 87 k87) w A1_2 l1_2.length l1_2) (hc1_2 : l1_2.length ≤ c1_2) (hr1_3 : Kd.C k76 w A1_3 l1_3.length l1_3) (hc1_3 : l1_3.length ≤ c1_3) (hr1_4 : Kd.C k59 w A1_4 l1_4.length l1_4) (hc1_4 : l1_4.length ≤ c1_4) (hr1_5 : Kd.C (Kd.slice 3 (Kd.int .i64)) w A1_5 l1_5.length l1_5) (hc1_5 : l1_5.length ≤ c1_5) (hr1_6 : Kd.C (Kd.int .i64) w A1_6 l1_6.length l1_6) (hc1_6 : l1_6.length ≤ c1_6) (hr1_7 : Kd.C k82 w A1_7 l1_7.length l1_7) (hc1_7 : l1_7.length ≤ c1_7) (h : garrisonref17_Same.f l0_0 l0_1 l0_2 l0_3 l0_4 l0_5 l0_6 l0_7 l1_0 l1_1 l1_2 l1_3 l1_4 l1_5 l1_6 l1_7 = some r) :
  Calls Tryz.prog 19 #[.agg #[.slice A0_0 l0_0.length c0_0, .slice A0_1 l0_1.length c0_1, .slice A0_2 l0_2.length c0_2, .slice A0_3 l0_3.length c0_3, .slice A0_4 l0_4.length c0_4, .slice A0_5 l0_5.length c0_5, .slice A0_6 l0_6.length c0_6, .slice A0_7 l0_7.length c0_7], .agg #[.slice A1_0 l1_0.length c1_0, .slice A1_1 l1_1.length c1_1, .slice A1_2 l1_2.length c1_2, .slice A1_3 l1_3.length c1_3, .slice A1_4 l1_4.length c1_4, .slice A1_5 l1_5.length c1_5, .slice A1_6 l1_6.length c1_6, .slice A1_7 l1_7.length c1_7]] w fun e w' => e = .returned (.bool r) ∧ Below w.heap.size w w' := by
 obtain rfl := Option.some.inj h
 exact stateSame_calls ⟨A0_0, A0_1, A0_2, A0_3, A0_4, A0_5, A0_6, A0_7, c0_0, c0_1, c0_2, c0_3, c0_4, c0_5, c0_6, c0_7⟩ ⟨A1_0, A1_1, A1_2, A1_3, A1_4, A1_5, A1_6, A1_7, c1_0, c1_1, c1_2, c1_3, c1_4, c1_5, c1_6, c1_7⟩ ⟨l0_0, l0_1, l0_2, l0_3, l0_4, l0_5, l0_6, l0_7⟩ ⟨l1_0, l1_1, l1_2, l1_3, l1_4, l1_5, l1_6, l1_7⟩ w ⟨hr0_0, hr0_1, hr0_2, hr0_3, hr0_4, hr0_5, hr0_6, hr0_7, hc0_0, hc0_1, hc0_2, hc0_3, hc0_4, hc0_5, hc0_6, hc0_7⟩ ⟨hr1_0, hr1_1, hr1_2, hr1_3, hr1_4, hr1_5, hr1_6, hr1_7, hc1_0, hc1_1, hc1_2, hc1_3, hc1_4, hc1_5, hc1_6, hc1_7⟩
end Go.Proofs.YtmcjccigglekpaaGreatDoor.Given
namespace Go.Proofs.YtmcjccigglekpaaGreatDoor.Given
open Go Go.RowKit Go.Proofs Go.Proofs.YtmcjccigglekpaaGreatDoorW.PrintWords Go.Proofs.YtmcjccigglekpaaGreatDoorW.PrintLast Go.Proofs.YtmcjccigglekpaaGreatDoorW.PrintMore Go.Proofs.YtmcjccigglekpaaGreatDoor.P

theorem lv_state : stateB newS = true := by decide +kernel
theorem lv_wf : newS.wf := (wfB_iff _).1 (by decide +kernel)
theorem lv_parse : parseI (putT newS) = (newS, 0) := by decide +kernel
theorem lv_head : (parseI ⟨#[103, 97, 114, 114, 105, 115, 111, 110, 32, 49, 10]⟩).2 = 270 := by decide +kernel
theorem lv_size : 40 < (putT newS).size := by decide +kernel
theorem lv_start : (putT newS).extract 0 21 = ⟨#[103, 97, 114, 114, 105, 115, 111, 110, 32, 49, 10, 115, 105, 122, 101, 32, 51, 32, 49, 10, 116]⟩ := by
 have h : ((putT newS).extract 0 21).data.toList = [103, 97, 114, 114, 105, 115, 111, 110, 32, 49, 10, 115, 105, 122, 101, 32, 51, 32, 49, 10, 116] := by decide +kernel
 generalize (putT newS).extract 0 21 = x at *
 obtain ⟨x⟩ := x
 congr 1
 exact Array.toList_inj.1 h
/-- A state with one root alone. -/
def rootS : St := ⟨[], [], [], [], [], [], [1], []⟩
theorem lv_root : stateB rootS = false := by decide +kernel
end Go.Proofs.YtmcjccigglekpaaGreatDoor.Given
namespace Go.Proofs.YtmcjccigglekpaaGreatDoor.Given
open Go Go.RowKit Go.Proofs Go.Proofs.YtmcjccigglekpaaGreatDoorW.PrintWords Go.Proofs.YtmcjccigglekpaaGreatDoorW.PrintLast Go.Proofs.YtmcjccigglekpaaGreatDoorW.PrintMore Go.Proofs.YtmcjccigglekpaaGreatDoor.P

def image_Check.f (l0_0 : List S70) (l0_1 : List (List Int)) (l0_2 : List (List S87)) (l0_3 : List S76) (l0_4 : List S59) (l0_5 : List (List Int)) (l0_6 : List Int) (l0_7 : List S82) : Option Int := some (if stateB ⟨l0_0, l0_1, l0_2, l0_3, l0_4, l0_5, l0_6, l0_7⟩ = true then 0 else 2)
theorem image_Check.calls (A0_0 : Option Addr) (c0_0 : Nat) (l0_0 : List S70) (A0_1 : Option Addr) (c0_1 : Nat) (l0_1 : List (List Int)) (A0_2 : Option Addr) (c0_2 : Nat) (l0_2 : List (List S87)) (A0_3 : Option Addr) (c0_3 : Nat) (l0_3 : List S76) (A0_4 : Option Addr) (c0_4 : Nat) (l0_4 : List S59) (A0_5 : Option Addr) (c0_5 : Nat) (l0_5 : List (List Int)) (A0_6 : Option Addr) (c0_6 : Nat) (l0_6 : List Int) (A0_7 : Option Addr) (c0_7 : Nat) (l0_7 : List S82) (r : Int) (w : World) (hr0_0 : Kd.C k70 w A0_0 l0_0.length l0_0) (hc0_0 : l0_0.length ≤ c0_0) (hr0_1 : Kd.C (Kd.slice 3 (Kd.int .i64)) w A0_1 l0_1.length l0_1) (hc0_1 : l0_1.length ≤ c0_1) (hr0_2 : Kd.C (Kd.slice 87 k87) w A0_2 l0_2.length l0_2) (hc0_2 : l0_2.length ≤ c0_2) (hr0_3 : Kd.C k76 w A0_3 l0_3.length l0_3) (hc0_3 : l0_3.length ≤ c0_3) (hr0_4 : Kd.C k59 w A0_4 l0_4.length l0_4) (hc0_4 : l0_4.length ≤ c0_4) (hr0_5 : Kd.C (Kd.slice 3 (Kd.int .i64)) w A0_5 l0_5.length l0_5) (hc0_5 : l0_5.length ≤ c0_5) (hr0_6 : Kd.C (Kd.int .i64) w A0_6 l0_6.length l0_6) (hc0_6 : l0_6.length ≤ c0_6) (hr0_7 : Kd.C k82 w A0_7 l0_7.length l0_7) (hc0_7 : l0_7.length ≤ c0_7) (h : image_Check.f l0_0 l0_1 l0_2 l0_3 l0_4 l0_5 l0_6 l0_7 = some r) :
  Calls Tryz.prog 13 #[.agg #[.slice A0_0 l0_0.length c0_0, .slice A0_1 l0_1.length c0_1, .slice A0_2 l0_2.length c0_2, .slice A0_3 l0_3.length c0_3, .slice A0_4 l0_4.length c0_4, .slice A0_5 l0_5.length c0_5, .slice A0_6 l0_6.length c0_6, .slice A0_7 l0_7.length c0_7]] w fun e w' => e = .returned (.int .i64 r) ∧ Below w.heap.size w w' := by
 obtain rfl := Option.some.inj h
 exact image_Check_calls ⟨A0_0, A0_1, A0_2, A0_3, A0_4, A0_5, A0_6, A0_7, c0_0, c0_1, c0_2, c0_3, c0_4, c0_5, c0_6, c0_7⟩ ⟨l0_0, l0_1, l0_2, l0_3, l0_4, l0_5, l0_6, l0_7⟩ w ⟨hr0_0, hr0_1, hr0_2, hr0_3, hr0_4, hr0_5, hr0_6, hr0_7, hc0_0, hc0_1, hc0_2, hc0_3, hc0_4, hc0_5, hc0_6, hc0_7⟩
end Go.Proofs.YtmcjccigglekpaaGreatDoor.Given
namespace Go.Proofs.YtmcjccigglekpaaGreatDoor.Given
end Go.Proofs.YtmcjccigglekpaaGreatDoor.Given
namespace Go.Proofs.YtmcjccigglekpaaGreatDoor.P
open Go.Proofs.YtmcjccigglekpaaGreatDoor.Given
open Go.RowKit Go.Proofs.YtmcjccigglekpaaGreatDoorW.PrintWords Go.Proofs.YtmcjccigglekpaaGreatDoorW.PrintLast Go.Proofs.YtmcjccigglekpaaGreatDoorW.PrintMore
attribute [local go_sem] max2_int min2_int max_two min_two max_three min_three max_four min_four   -- for this text's walks alone
set_option linter.unusedVariables false
set_option linter.unusedSimpArgs false

/-! ### garrisonlaw27_num: function 12 -/
def garrisonlaw27_num.f (a0 : Int) : Option (Int) := some a0
set_option maxHeartbeats 8000000 in
set_option maxRecDepth 100000 in
theorem garrisonlaw27_num.calls (a0 : Int) (r : Int) (w : World) (h : garrisonlaw27_num.f a0 = some r) :
  Calls Tryz.prog 12 #[.int .i64 a0] w fun e w' => e = .returned (.int .i64 r) ∧ Drawn0 w w' := by
 have H : (some a0) = some r := h
 clear h
 obtain rfl := Option.some.inj H
 go_enter Tryz.func12, Tryz.ntmps12
 go_wp2
 go_ret
 exact ⟨by first | rfl | (simp; done) | (simp [*]; done), by repeat (first | exact Drawn0.refl _ | apply Drawn0.step)⟩

end Go.Proofs.YtmcjccigglekpaaGreatDoor.P
namespace Go.Proofs.YtmcjccigglekpaaGreatDoor.Given
open Go Go.RowKit Go.Proofs Go.Proofs.YtmcjccigglekpaaGreatDoorW.PrintWords Go.Proofs.YtmcjccigglekpaaGreatDoorW.PrintLast Go.Proofs.YtmcjccigglekpaaGreatDoorW.PrintMore Go.Proofs.YtmcjccigglekpaaGreatDoor.P

theorem root_at (W : World) : Sv.At ⟨none, none, none, none, none, none, some ⟨W.heap.size, 0, none⟩, none, 0, 0, 0, 0, 0, 0, 1, 0⟩ rootS (W.alloc (.cells #[.int .i64 1] 3)) :=
 ⟨Kd.C_nil _ _, Kd.C_nil _ _, Kd.C_nil _ _, Kd.C_nil _ _, Kd.C_nil _ _, Kd.C_nil _ _, intRow (l := [1]) (T := 3) (by decide) (blk_new W _), Kd.C_nil _ _, Nat.le_refl _, Nat.le_refl _, Nat.le_refl _, Nat.le_refl _, Nat.le_refl _, Nat.le_refl _, Nat.le_refl _, Nat.le_refl _⟩
def garrisonlaw27_live.f : Option Bool := some true
set_option maxRecDepth 100000 in
set_option maxHeartbeats 8000000 in
theorem live_calls (w : World) (hG : GL w) : Calls Tryz.prog 9 #[] w fun e w' => e = .returned (.bool true) ∧ Below w.heap.size w w' := by
 have D1 := Lib.hid (new_calls w)
 have HG := Lib.hid hG
 have DN := Lib.hid (fun (n : Int) (w' : World) => garrisonlaw27_num.calls n n w' rfl)
 have DP := Lib.hid (fun (v : Sv) (w' : World) (h : v.At newS w') (hg : GL w') => image_Put_calls v newS w' h lv_wf hg)
 unfold PutPost at DP
 rw [if_pos lv_state, if_pos lv_state] at DP
 have DA := Lib.hid (fun (w' : World) (hg : GL w') => parse_calls (putT newS) w' (GLB.of hg))
 have DB := Lib.hid (fun (w' : World) (hg : GL w') => parse_calls ⟨#[103, 97, 114, 114, 105, 115, 111, 110, 32, 49, 10]⟩ w' (GLB.of hg))
 unfold ParsePost at DA DB
 rw [lv_parse] at DA
 rw [lv_head] at DB
 have DS := Lib.hid (fun (v v' : Sv) (w' : World) (h : v.At newS w') (h' : v'.At newS w') => stateSame_calls v v' newS newS w' h h')
 rw [decide_eq_true rfl] at DS
 have DC := Lib.hid (fun (v : Sv) (w' : World) (h : v.At newS w') => image_Check_calls v newS w' h)
 have DE := Lib.hid (fun (v : Sv) (w' : World) (h : v.At rootS w') => image_Check_calls v rootS w' h)
 rw [lv_state, if_pos rfl] at DC
 rw [lv_root, if_neg (by decide)] at DE
 have hsz := lv_size
 have hst := lv_start
 have hpos : ((putT newS).size : Int) > 40 := by omega
 have hd : decide (((putT newS).size : Int) > 40) = true := decide_eq_true hpos
 generalize putT newS = X at *
 clear hG
 go_enter Tryz.func9, Tryz.ntmps9
 go_wp2_with (first
  | (go_at_call 20; refine D1.out.mono ?_; clear D1; rintro e w1 ⟨h1, rfl, hr1, hb1⟩; obtain ⟨v, hv, ha⟩ := hr1.sv; obtain ⟨A0, A1, A2, A3, A4, A5, A6, A7, c0, c1, c2, c3, c4, c5, c6, c7⟩ := v; subst hv; have hB1 := blk_new w1 (.cells #[.slice A0 newS.th.length c0, .slice A1 newS.fr.length c1, .slice A2 newS.no.length c2, .slice A3 newS.tr.length c3, .slice A4 newS.po.length c4, .slice A5 newS.li.length c5, .slice A6 newS.ro.length c6, .slice A7 newS.sw.length c7] 32); have GB1 : Below w.heap.size w (w1.alloc (.cells #[.slice A0 newS.th.length c0, .slice A1 newS.fr.length c1, .slice A2 newS.no.length c2, .slice A3 newS.tr.length c3, .slice A4 newS.po.length c4, .slice A5 newS.li.length c5, .slice A6 newS.ro.length c6, .slice A7 newS.sw.length c7] 32)) := hb1.alloc hb1.size _; have HA := ha.below ((Below.refl w1.heap.size w1).alloc (Nat.le_refl _) (.cells #[.slice A0 newS.th.length c0, .slice A1 newS.fr.length c1, .slice A2 newS.no.length c2, .slice A3 newS.tr.length c3, .slice A4 newS.po.length c4, .slice A5 newS.li.length c5, .slice A6 newS.ro.length c6, .slice A7 newS.sw.length c7] 32)); have q0 := (blk_cell hB1 0).trans (show _ = some (Value.slice A0 newS.th.length c0) from rfl); have q1 := (blk_cell hB1 1).trans (show _ = some (Value.slice A1 newS.fr.length c1) from rfl); have q2 := (blk_cell hB1 2).trans (show _ = some (Value.slice A2 newS.no.length c2) from rfl); have q3 := (blk_cell hB1 3).trans (show _ = some (Value.slice A3 newS.tr.length c3) from rfl); have q4 := (blk_cell hB1 4).trans (show _ = some (Value.slice A4 newS.po.length c4) from rfl); have q5 := (blk_cell hB1 5).trans (show _ = some (Value.slice A5 newS.li.length c5) from rfl); have q6 := (blk_cell hB1 6).trans (show _ = some (Value.slice A6 newS.ro.length c6) from rfl); have q7 := (blk_cell hB1 7).trans (show _ = some (Value.slice A7 newS.sw.length c7) from rfl))
  | (go_at_call 10; refine (DP.out ⟨A0, A1, A2, A3, A4, A5, A6, A7, c0, c1, c2, c3, c4, c5, c6, c7⟩ _ HA (HG.out.below GB1)).mono ?_; clear DP; rintro e w2 ⟨rfl, hb2⟩; have GB2 := GB1.trans (hb2.mono GB1.size); have HA2 := HA.below hb2)
  | (go_at_call 15; (with_reducible refine (DA.out _ (HG.out.below GB2)).mono ?_); clear DA; rintro e w3 ⟨h3, rfl, hr3, hb3⟩; obtain ⟨v3, hv3, ha3⟩ := hr3.sv; obtain ⟨B0, B1, B2, B3, B4, B5, B6, B7, d0, d1, d2, d3, d4, d5, d6, d7⟩ := v3; subst hv3; have hB3 := blk_new w3 (.cells #[.slice B0 newS.th.length d0, .slice B1 newS.fr.length d1, .slice B2 newS.no.length d2, .slice B3 newS.tr.length d3, .slice B4 newS.po.length d4, .slice B5 newS.li.length d5, .slice B6 newS.ro.length d6, .slice B7 newS.sw.length d7] 32); have GB3 := (GB2.trans (hb3.mono GB2.size)).alloc (Nat.le_trans GB2.size hb3.size) (.cells #[.slice B0 newS.th.length d0, .slice B1 newS.fr.length d1, .slice B2 newS.no.length d2, .slice B3 newS.tr.length d3, .slice B4 newS.po.length d4, .slice B5 newS.li.length d5, .slice B6 newS.ro.length d6, .slice B7 newS.sw.length d7] 32); have HA3 := (HA2.below hb3).below ((Below.refl w3.heap.size w3).alloc (Nat.le_refl _) (.cells #[.slice B0 newS.th.length d0, .slice B1 newS.fr.length d1, .slice B2 newS.no.length d2, .slice B3 newS.tr.length d3, .slice B4 newS.po.length d4, .slice B5 newS.li.length d5, .slice B6 newS.ro.length d6, .slice B7 newS.sw.length d7] 32)); have HB3 := ha3.below ((Below.refl w3.heap.size w3).alloc (Nat.le_refl _) (.cells #[.slice B0 newS.th.length d0, .slice B1 newS.fr.length d1, .slice B2 newS.no.length d2, .slice B3 newS.tr.length d3, .slice B4 newS.po.length d4, .slice B5 newS.li.length d5, .slice B6 newS.ro.length d6, .slice B7 newS.sw.length d7] 32)))
  | (go_at_call 15; (with_reducible refine (DB.out _ (HG.out.below GB3)).mono ?_); clear DB; rintro e w4 ⟨h4, rfl, hr4, hb4⟩; obtain ⟨v4, hv4, ha4⟩ := hr4.sv; subst hv4; have hc := hb4.alloc hb4.size (.cells #[.slice v4.A0 (parseI ⟨#[103, 97, 114, 114, 105, 115, 111, 110, 32, 49, 10]⟩).1.th.length v4.c0, .slice v4.A1 (parseI ⟨#[103, 97, 114, 114, 105, 115, 111, 110, 32, 49, 10]⟩).1.fr.length v4.c1, .slice v4.A2 (parseI ⟨#[103, 97, 114, 114, 105, 115, 111, 110, 32, 49, 10]⟩).1.no.length v4.c2, .slice v4.A3 (parseI ⟨#[103, 97, 114, 114, 105, 115, 111, 110, 32, 49, 10]⟩).1.tr.length v4.c3, .slice v4.A4 (parseI ⟨#[103, 97, 114, 114, 105, 115, 111, 110, 32, 49, 10]⟩).1.po.length v4.c4, .slice v4.A5 (parseI ⟨#[103, 97, 114, 114, 105, 115, 111, 110, 32, 49, 10]⟩).1.li.length v4.c5, .slice v4.A6 (parseI ⟨#[103, 97, 114, 114, 105, 115, 111, 110, 32, 49, 10]⟩).1.ro.length v4.c6, .slice v4.A7 (parseI ⟨#[103, 97, 114, 114, 105, 115, 111, 110, 32, 49, 10]⟩).1.sw.length v4.c7] 32); have K1 := blk_below (blk_below (blk_below (blk_alloc (blk_below (blk_below hB1 hb2) hb3) (.cells #[.slice B0 newS.th.length d0, .slice B1 newS.fr.length d1, .slice B2 newS.no.length d2, .slice B3 newS.tr.length d3, .slice B4 newS.po.length d4, .slice B5 newS.li.length d5, .slice B6 newS.ro.length d6, .slice B7 newS.sw.length d7] 32)) (Below.refl _ _)) hc) (Below.refl _ _); have K3 := blk_below hB3 hc; clear q0 q1 q2 q3 q4 q5 q6 q7; have q0 := (blk_cell K1 0).trans (show _ = some (Value.slice A0 newS.th.length c0) from rfl); have q1 := (blk_cell K1 1).trans (show _ = some (Value.slice A1 newS.fr.length c1) from rfl); have q2 := (blk_cell K1 2).trans (show _ = some (Value.slice A2 newS.no.length c2) from rfl); have q3 := (blk_cell K1 3).trans (show _ = some (Value.slice A3 newS.tr.length c3) from rfl); have q4 := (blk_cell K1 4).trans (show _ = some (Value.slice A4 newS.po.length c4) from rfl); have q5 := (blk_cell K1 5).trans (show _ = some (Value.slice A5 newS.li.length c5) from rfl); have q6 := (blk_cell K1 6).trans (show _ = some (Value.slice A6 newS.ro.length c6) from rfl); have q7 := (blk_cell K1 7).trans (show _ = some (Value.slice A7 newS.sw.length c7) from rfl); have p0 := (blk_cell K3 0).trans (show _ = some (Value.slice B0 newS.th.length d0) from rfl); have p1 := (blk_cell K3 1).trans (show _ = some (Value.slice B1 newS.fr.length d1) from rfl); have p2 := (blk_cell K3 2).trans (show _ = some (Value.slice B2 newS.no.length d2) from rfl); have p3 := (blk_cell K3 3).trans (show _ = some (Value.slice B3 newS.tr.length d3) from rfl); have p4 := (blk_cell K3 4).trans (show _ = some (Value.slice B4 newS.po.length d4) from rfl); have p5 := (blk_cell K3 5).trans (show _ = some (Value.slice B5 newS.li.length d5) from rfl); have p6 := (blk_cell K3 6).trans (show _ = some (Value.slice B6 newS.ro.length d6) from rfl); have p7 := (blk_cell K3 7).trans (show _ = some (Value.slice B7 newS.sw.length d7) from rfl); have HA := HA3.below hc; have HB := HB3.below hc; have GB := GB3.trans (hc.mono GB3.size); clear hc ha4 hr4 hb4 K1 K3 HA2 HA3 HB3 GB3 GB2 hB1 hB3 ha3 hr3)
  | (go_at_call 12; refine (DN.out _ _).mono ?_; rintro e w5 ⟨rfl, hd5⟩; have hc := hd5.below; clear hd5; replace q0 := bcellv hc q0; replace p0 := bcellv hc p0; replace q1 := bcellv hc q1; replace p1 := bcellv hc p1; replace q2 := bcellv hc q2; replace p2 := bcellv hc p2; replace q3 := bcellv hc q3; replace p3 := bcellv hc p3; replace q4 := bcellv hc q4; replace p4 := bcellv hc p4; replace q5 := bcellv hc q5; replace p5 := bcellv hc p5; replace q6 := bcellv hc q6; replace p6 := bcellv hc p6; replace q7 := bcellv hc q7; replace p7 := bcellv hc p7; replace HA := HA.below hc; replace HB := HB.below hc; replace GB := GB.trans (hc.mono GB.size); clear hc)
  | (go_at_call 19; refine (DS.out ⟨A0, A1, A2, A3, A4, A5, A6, A7, c0, c1, c2, c3, c4, c5, c6, c7⟩ ⟨B0, B1, B2, B3, B4, B5, B6, B7, d0, d1, d2, d3, d4, d5, d6, d7⟩ _ HA HB).mono ?_; clear DS; rintro e w5 ⟨rfl, hc⟩; replace q0 := bcellv hc q0; replace p0 := bcellv hc p0; replace q1 := bcellv hc q1; replace p1 := bcellv hc p1; replace q2 := bcellv hc q2; replace p2 := bcellv hc p2; replace q3 := bcellv hc q3; replace p3 := bcellv hc p3; replace q4 := bcellv hc q4; replace p4 := bcellv hc p4; replace q5 := bcellv hc q5; replace p5 := bcellv hc p5; replace q6 := bcellv hc q6; replace p6 := bcellv hc p6; replace q7 := bcellv hc q7; replace p7 := bcellv hc p7; replace HA := HA.below hc; replace HB := HB.below hc; replace GB := GB.trans (hc.mono GB.size); clear hc)
  | (go_at_call 13; (with_reducible refine (DC.out ⟨A0, A1, A2, A3, A4, A5, A6, A7, c0, c1, c2, c3, c4, c5, c6, c7⟩ _ HA).mono ?_); clear DC; rintro e w5 ⟨rfl, hc⟩; replace q0 := bcellv hc q0; replace p0 := bcellv hc p0; replace q1 := bcellv hc q1; replace p1 := bcellv hc p1; replace q2 := bcellv hc q2; replace p2 := bcellv hc p2; replace q3 := bcellv hc q3; replace p3 := bcellv hc p3; replace q4 := bcellv hc q4; replace p4 := bcellv hc p4; replace q5 := bcellv hc q5; replace p5 := bcellv hc p5; replace q6 := bcellv hc q6; replace p6 := bcellv hc p6; replace q7 := bcellv hc q7; replace p7 := bcellv hc p7; replace HA := HA.below hc; replace HB := HB.below hc; replace GB := GB.trans (hc.mono GB.size); clear hc)
  | (go_at_call 13; refine (DE.out _ _ (root_at _)).mono ?_; clear DE; rintro e w5 ⟨rfl, hc2⟩; have hc := ((Below.refl _ _).alloc (Nat.le_refl _) _).trans (hc2.mono (by simp)); replace q0 := bcellv hc q0; replace p0 := bcellv hc p0; replace q1 := bcellv hc q1; replace p1 := bcellv hc p1; replace q2 := bcellv hc q2; replace p2 := bcellv hc p2; replace q3 := bcellv hc q3; replace p3 := bcellv hc p3; replace q4 := bcellv hc q4; replace p4 := bcellv hc p4; replace q5 := bcellv hc q5; replace p5 := bcellv hc p5; replace q6 := bcellv hc q6; replace p6 := bcellv hc p6; replace q7 := bcellv hc q7; replace p7 := bcellv hc p7; replace HA := HA.below hc; replace HB := HB.below hc; replace GB := GB.trans (hc.mono GB.size); clear hc))
 go_ret
 exact ⟨rfl, GB⟩
theorem garrisonlaw27_live.calls (r : Bool) (w : World) (hG : GL w) (h : garrisonlaw27_live.f = some r) : Calls Tryz.prog 9 #[] w fun e w' => e = .returned (.bool r) ∧ Below w.heap.size w w' := by
 obtain rfl := Option.some.inj h
 exact live_calls w hG
end Go.Proofs.YtmcjccigglekpaaGreatDoor.Given
