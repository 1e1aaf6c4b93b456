/- Texts of this seat, joined. -/
import Derived.Test.YtmcjccigglekpaaGreatDoorL9
import Derived.Test.YtmcjccigglekpaaGreatDoorL8
import Derived.Test.YtmcjccigglekpaaGreatDoorL6
import Derived.Test.YtmcjccigglekpaaGreatDoorL2
namespace Go.Proofs.YtmcjccigglekpaaGreatDoor.Given
open Go Go.RowKit Go.Proofs Go.Proofs.YtmcjccigglekpaaGreatDoorW.PrintWords Go.Proofs.YtmcjccigglekpaaGreatDoorW.PrintLast Go.Proofs.YtmcjccigglekpaaGreatDoorW.PrintMore Go.Proofs.YtmcjccigglekpaaGreatDoor.P

theorem rdElThing (xs : List S70) (k : Nat) (hk : k < xs.length) : rd_T70 xs (k : Int) = xs[k] := by
 unfold rd_T70
 rw [Int.toNat_natCast, List.getD_eq_getElem?_getD, List.getElem?_eq_getElem hk]
 rfl
set_option maxRecDepth 100000 in
set_option maxHeartbeats 4000000 in
theorem arenaSame_calls (A0 A1 B0 B1 : Option Addr) (c0 c1 d0 d1 : Nat) (a b : List S70) (f g : List (List Int)) (w : World) (hr0 : Kd.C k70 w A0 a.length a) (hr1 : Kd.C (Kd.slice 3 (Kd.int .i64)) w A1 f.length f) (hs0 : Kd.C k70 w B0 b.length b) (hs1 : Kd.C (Kd.slice 3 (Kd.int .i64)) w B1 g.length g) :
  Calls Tryz.prog 54 #[.agg #[.slice A0 a.length c0, .slice A1 f.length c1], .agg #[.slice B0 b.length d0, .slice B1 g.length d1]] w (SPost (decide (a = b ∧ f = g)) w) := by
 have hbx : ((w.alloc (.cells #[.slice A0 a.length c0, .slice A1 f.length c1] 25)).alloc (.cells #[.slice B0 b.length d0, .slice B1 g.length d1] 25)).heap[w.heap.size]? = some (.cells #[.slice A0 a.length c0, .slice A1 f.length c1] 25 (0, 0)) := blk_alloc (blk_new w _) _
 have hby : ((w.alloc (.cells #[.slice A0 a.length c0, .slice A1 f.length c1] 25)).alloc (.cells #[.slice B0 b.length d0, .slice B1 g.length d1] 25)).heap[w.heap.size + 1]? = some (.cells #[.slice B0 b.length d0, .slice B1 g.length d1] 25 (0, 0)) := blk_at (by simp)
 have hbw : Below w.heap.size w ((w.alloc (.cells #[.slice A0 a.length c0, .slice A1 f.length c1] 25)).alloc (.cells #[.slice B0 b.length d0, .slice B1 g.length d1] 25)) := ((Below.refl _ _).alloc (Nat.le_refl _) _).alloc (by simp) _
 have p0 := (blk_cell hbx 0).trans (show _ = some (.slice A0 a.length c0 : Value) from rfl)
 have p1 := (blk_cell hbx 1).trans (show _ = some (.slice A1 f.length c1 : Value) from rfl)
 have q0 := (blk_cell hby 0).trans (show _ = some (.slice B0 b.length d0 : Value) from rfl)
 have q1 := (blk_cell hby 1).trans (show _ = some (.slice B1 g.length d1 : Value) from rfl)
 clear hbx hby
 by_cases hl : a.length = b.length
 ·by_cases hl2 : f.length = g.length
  ·have i1 : ((a.length : Int) != (b.length : Int)) = false := by simp [hl]
   have i3 : ((f.length : Int) != (g.length : Int)) = false := by simp [hl2]
   have hbnd : a.length ≤ 9223372036854775807 := hr0.2.1
   have HN := Lib.hid hbnd
   have hbnd2 : f.length ≤ 9223372036854775807 := hr1.2.1
   have HNf := Lib.hid hbnd2
   have HL := Lib.hid hl
   have HLf := Lib.hid hl2
   clear hl hl2 hbnd hbnd2
   have HR0 := Lib.hid (Kd.C_below hr0 hbw)
   have HR1 := Lib.hid (Kd.C_below hr1 hbw)
   have HS0 := Lib.hid (Kd.C_below hs0 hbw)
   have HS1 := Lib.hid (Kd.C_below hs1 hbw)
   have HW := Lib.hid hbw
   clear hr0 hr1 hs0 hs1 hbw
   go_enter Tryz.func54, Tryz.ntmps54
   go_wp2
   generalize ((w.alloc (.cells #[.slice A0 a.length c0, .slice A1 f.length c1] 25)).alloc (.cells #[.slice B0 b.length d0, .slice B1 g.length d1] 25)) = W0 at *
   clear i1 i3
   go_loopw [5] (fun v wr => ∃ k : Nat, k ≤ a.length ∧ v = .int .i64 k ∧ Hid (a.take k = b.take k) ∧ Below W0.heap.size W0 wr) (fun v _ => a.length - (intOf v).toNat)
   case atStart => exact ⟨0, Nat.zero_le _, rfl, Lib.hid rfl, Below.refl _ _⟩
   case round =>
    obtain ⟨k, hk, rfl, he, hB⟩ := hrel
    have zp0 := bcellv hB p0
    have zq0 := bcellv hB q0
    have zp1 := bcellv hB p1
    have zq1 := bcellv hB q1
    by_cases hlt : k < a.length
    ·have hlt' : k < b.length := HL.out ▸ hlt
     have hd : decide ((k : Int) < (a.length : Int)) = true := decide_eq_true (by omega)
     have i2 : decide (0 ≤ (k : Int)) = true := decide_eq_true (by omega)
     have j2 : decide (k < a.length) = true := decide_eq_true hlt
     have j3 : decide (k < b.length) = true := decide_eq_true hlt'
     obtain ⟨ad, e1, hv0, hv1, hv2, hv3, hv4, hv5, hv6, hv7⟩ := at_T70 (Kd.C_below HR0.out hB) (k : Int) (by omega) (by omega)
     obtain ⟨bd, e2, hu0, hu1, hu2, hu3, hu4, hu5, hu6, hu7⟩ := at_T70 (Kd.C_below HS0.out hB) (k : Int) (by omega) (by omega)
     subst e1 e2
     rw [rdElThing _ k hlt, Int.toNat_natCast] at hv0 hv1 hv2 hv3 hv4 hv5 hv6 hv7
     rw [rdElThing _ k hlt', Int.toNat_natCast] at hu0 hu1 hu2 hu3 hu4 hu5 hu6 hu7
     by_cases hx : a[k] = b[k]
     ·have hmore := Lib.hid (take_more he.out hlt hlt' hx)
      rw [← hx] at hu0 hu1 hu2 hu3 hu4 hu5 hu6 hu7
      clear hx he
      generalize a[k] = x at *
      go_wp2
      obtain ⟨wd, hwd⟩ : ∃ wd, wr.drew = wd := ⟨_, rfl⟩
      have cw : ∀ {a v}, wr.cell? a = some v → wd.cell? a = some v := fun h => by rw [← hwd]; exact h
      have HBD : Below wr.heap.size wr wd := hwd ▸ below_drew (Below.refl _ _)
      replace hv0 := cw hv0
      replace hv1 := cw hv1
      replace hv2 := cw hv2
      replace hv3 := cw hv3
      replace hv4 := cw hv4
      replace hv5 := cw hv5
      replace hv6 := cw hv6
      replace hv7 := cw hv7
      replace hu0 := cw hu0
      replace hu1 := cw hu1
      replace hu2 := cw hu2
      replace hu3 := cw hu3
      replace hu4 := cw hu4
      replace hu5 := cw hu5
      replace hu6 := cw hu6
      replace hu7 := cw hu7
      replace zp0 := cw zp0
      replace zq0 := cw zq0
      replace zp1 := cw zp1
      replace zq1 := cw zq1
      refine wp_region_sch (fun w' => w' = wd) 10 [(false, 0), (false, 1), (false, 2), (false, 3), (false, 4), (false, 5), (false, 6), (false, 7), (false, 8), (false, 9)] (by kernel_rfl) (by kernel_rfl) (fun _ a d _ _ h => by cases d <;> exact h) wd hwd rfl ?_
      clear hwd
      try dsimp only
      repeat (refine' sch_pure rfl rfl ?_ ?_; rotate_left; · (rintro w' rfl; go_simp <;> rfl)
              simp only [Act.put, List.setIfInBounds_toArray, List.set_cons_zero, List.set_cons_succ])
      refine sch_last rfl (fun K hK => ?_)
      go_simp
      refine hK.out _ _ ?_
      clear hK K
      go_wp2
      have hw1 : wrap64 ((k : Int) + 1) = ((k + 1 : Nat) : Int) := by have := HN.out; unfold wrap64; omega
      refine ⟨⟨k + 1, hlt, by rw [hw1], hmore, hB.trans (HBD.mono hB.size)⟩, ?_⟩
      rw [hw1]
      show a.length - (((k + 1 : Nat) : Int)).toNat < a.length - ((k : Int)).toNat
      omega
     ·have hno := not_at hlt hlt' hx
      clear he
      generalize a[k] = x at *
      generalize b[k] = y at *
      have HX := Lib.hid hx
      clear hx
      go_wp2
      obtain ⟨wd, hwd⟩ : ∃ wd, wr.drew = wd := ⟨_, rfl⟩
      have cw : ∀ {a v}, wr.cell? a = some v → wd.cell? a = some v := fun h => by rw [← hwd]; exact h
      have HBD : Below wr.heap.size wr wd := hwd ▸ below_drew (Below.refl _ _)
      replace hv0 := cw hv0
      replace hv1 := cw hv1
      replace hv2 := cw hv2
      replace hv3 := cw hv3
      replace hv4 := cw hv4
      replace hv5 := cw hv5
      replace hv6 := cw hv6
      replace hv7 := cw hv7
      replace hu0 := cw hu0
      replace hu1 := cw hu1
      replace hu2 := cw hu2
      replace hu3 := cw hu3
      replace hu4 := cw hu4
      replace hu5 := cw hu5
      replace hu6 := cw hu6
      replace hu7 := cw hu7
      replace zp0 := cw zp0
      replace zq0 := cw zq0
      replace zp1 := cw zp1
      replace zq1 := cw zq1
      refine wp_region_sch (fun w' => w' = wd) 10 [(false, 0), (false, 1), (false, 2), (false, 3), (false, 4), (false, 5), (false, 6), (false, 7), (false, 8), (false, 9)] (by kernel_rfl) (by kernel_rfl) (fun _ a d _ _ h => by cases d <;> exact h) wd hwd rfl ?_
      clear hwd
      try dsimp only
      repeat (refine' sch_pure rfl rfl ?_ ?_; rotate_left; · (rintro w' rfl; go_simp <;> rfl)
              simp only [Act.put, List.setIfInBounds_toArray, List.set_cons_zero, List.set_cons_succ])
      refine sch_last rfl (fun K hK => ?_)
      go_simp
      rw [ifneThing HX.out]
      refine hK.out _ _ ?_
      clear hK K
      go_wp2
      go_ret
      exact ⟨by rw [decide_eq_false (fun e => hno e.1)]; rfl, HW.out.trans ((hB.trans (HBD.mono hB.size)).mono HW.out.size)⟩
    ·have hd : decide ((k : Int) < (a.length : Int)) = false := decide_eq_false (by omega)
     have hyes := Lib.hid (take_done he.out (by omega) HL.out)
     clear he
     have HW9 := Lib.hid (HW.out.trans (hB.mono HW.out.size))
     clear HN HL HW hd
     have HN := HNf
     have HL := HLf
     have HW := HW9
     have HRf := Lib.hid (Kd.C_below HR1.out hB)
     have HSf := Lib.hid (Kd.C_below HS1.out hB)
     clear HNf HLf HW9 HR1 HS1 HR0 HS0 hk hB p0 p1 q0 q1
     go_wp2
     generalize wr = W9 at *
     go_loopw [6] (fun v wr => ∃ k : Nat, k ≤ f.length ∧ v = .int .i64 k ∧ Hid (f.take k = g.take k) ∧ Below W9.heap.size W9 wr) (fun v _ => f.length - (intOf v).toNat)
     case atStart => exact ⟨0, Nat.zero_le _, rfl, Lib.hid rfl, Below.refl _ _⟩
     case round =>
      obtain ⟨k, hk, rfl, he, hB⟩ := hrel
      have zzp1 := bcellv hB zp1
      have zzq1 := bcellv hB zq1
      by_cases hlt : k < f.length
      ·have hlt' : k < g.length := HL.out ▸ hlt
       have hd : decide ((k : Int) < (f.length : Int)) = true := decide_eq_true (by omega)
       have i2 : decide (0 ≤ (k : Int)) = true := decide_eq_true (by omega)
       have j2 : decide (k < f.length) = true := decide_eq_true hlt
       have j3 : decide (k < g.length) = true := decide_eq_true hlt'
       obtain ⟨ad, B0, d0, e1, hv, -, hw0⟩ := at_row (Kd.C_below HRf.out hB) k hlt
       obtain ⟨bd, B1, d1, e2, hu, -, hw1⟩ := at_row (Kd.C_below HSf.out hB) k hlt'
       subst e1 e2
       by_cases hx : f[k] = g[k]
       ·have hmore := Lib.hid (take_more he.out hlt hlt' hx)
        have DI := Lib.hid (fun (w' : World) (hb : Below wr.heap.size wr w') => ints_calls B0 B1 d0 d1 _ _ w' (Kd.C_below hw0 hb) (Kd.C_below hw1 hb))
        rw [decide_eq_true hx] at DI
        clear hx he hw0 hw1
        generalize f[k] = x at *
        generalize g[k] = y at *
        go_wp2
        obtain ⟨wd, hwd⟩ : ∃ wd, wr.drew = wd := ⟨_, rfl⟩
        have cw : ∀ {a v}, wr.cell? a = some v → wd.cell? a = some v := fun h => by rw [← hwd]; exact h
        have HBD : Below wr.heap.size wr wd := hwd ▸ below_drew (Below.refl _ _)
        replace hv := cw hv
        replace hu := cw hu
        replace zzp1 := cw zzp1
        replace zzq1 := cw zzq1
        refine wp_region_sch (fun w' => Below wd.heap.size wd w') 11 [(false, 0), (false, 1), (false, 2), (false, 3), (false, 4), (false, 5), (false, 6), (false, 7), (false, 8), (false, 9), (true, 10)] (by kernel_rfl) (by kernel_rfl) (fun _ a d _ _ h => by cases d <;> exact h) wd hwd (Below.refl _ _) ?_
        clear hwd
        try dsimp only
        repeat (refine' sch_pure rfl rfl ?_ ?_; rotate_left; · (rintro w' hs; have z0 := bcellv hs hv; have z1 := bcellv hs hu; have z2 := bcellv hs zzp1; have z3 := bcellv hs zzq1; go_simp <;> rfl)
                simp only [Act.put, List.setIfInBounds_toArray, List.set_cons_zero, List.set_cons_succ])
        refine sch_alone rfl (fun K hK => ?_)
        go_simp
        refine (DI.out wd HBD).mono ?_
        rintro e w3 ⟨rfl, hb3⟩
        refine hK.out _ _ hb3 ?_
        clear hK K
        try simp only [Act.put, List.setIfInBounds_toArray, List.set_cons_zero, List.set_cons_succ]
        refine sch_last rfl (fun K hK => ?_)
        go_simp
        refine hK.out _ _ ?_
        clear hK K
        go_wp2
        have hw9 := ((hB.trans (HBD.mono hB.size)).trans (hb3.mono (Nat.le_trans hB.size HBD.size)))
        have hw1 : wrap64 ((k : Int) + 1) = ((k + 1 : Nat) : Int) := by have := HN.out; unfold wrap64; omega
        refine ⟨⟨k + 1, hlt, by rw [hw1], hmore, hw9⟩, ?_⟩
        rw [hw1]
        show f.length - (((k + 1 : Nat) : Int)).toNat < f.length - ((k : Int)).toNat
        omega
       ·have hno := not_at hlt hlt' hx
        have DI := Lib.hid (fun (w' : World) (hb : Below wr.heap.size wr w') => ints_calls B0 B1 d0 d1 _ _ w' (Kd.C_below hw0 hb) (Kd.C_below hw1 hb))
        rw [decide_eq_false hx] at DI
        clear hx he hw0 hw1
        generalize f[k] = x at *
        generalize g[k] = y at *
        go_wp2
        obtain ⟨wd, hwd⟩ : ∃ wd, wr.drew = wd := ⟨_, rfl⟩
        have cw : ∀ {a v}, wr.cell? a = some v → wd.cell? a = some v := fun h => by rw [← hwd]; exact h
        have HBD : Below wr.heap.size wr wd := hwd ▸ below_drew (Below.refl _ _)
        replace hv := cw hv
        replace hu := cw hu
        replace zzp1 := cw zzp1
        replace zzq1 := cw zzq1
        refine wp_region_sch (fun w' => Below wd.heap.size wd w') 11 [(false, 0), (false, 1), (false, 2), (false, 3), (false, 4), (false, 5), (false, 6), (false, 7), (false, 8), (false, 9), (true, 10)] (by kernel_rfl) (by kernel_rfl) (fun _ a d _ _ h => by cases d <;> exact h) wd hwd (Below.refl _ _) ?_
        clear hwd
        try dsimp only
        repeat (refine' sch_pure rfl rfl ?_ ?_; rotate_left; · (rintro w' hs; have z0 := bcellv hs hv; have z1 := bcellv hs hu; have z2 := bcellv hs zzp1; have z3 := bcellv hs zzq1; go_simp <;> rfl)
                simp only [Act.put, List.setIfInBounds_toArray, List.set_cons_zero, List.set_cons_succ])
        refine sch_alone rfl (fun K hK => ?_)
        go_simp
        refine (DI.out wd HBD).mono ?_
        rintro e w3 ⟨rfl, hb3⟩
        refine hK.out _ _ hb3 ?_
        clear hK K
        try simp only [Act.put, List.setIfInBounds_toArray, List.set_cons_zero, List.set_cons_succ]
        refine sch_last rfl (fun K hK => ?_)
        go_simp
        refine hK.out _ _ ?_
        clear hK K
        go_wp2
        go_ret
        exact ⟨by rw [decide_eq_false (fun e => hno e.2)]; rfl, HW.out.trans (((hB.trans (HBD.mono hB.size)).trans (hb3.mono (Nat.le_trans hB.size HBD.size))).mono HW.out.size)⟩
      ·have hd : decide ((k : Int) < (f.length : Int)) = false := decide_eq_false (by omega)
       have hyes2 := Lib.hid (take_done he.out (by omega) HL.out)
       clear he
       go_wp2
       go_ret
       exact ⟨by rw [decide_eq_true ⟨hyes.out, hyes2.out⟩]; rfl, HW.out.trans (hB.mono HW.out.size)⟩
  ·have i1 : ((a.length : Int) != (b.length : Int)) = false := by simp [hl]
   have i3 : ((f.length : Int) != (g.length : Int)) = true := by simp; omega
   clear hl
   have hno : ¬ (a = b ∧ f = g) := fun e => hl2 (by rw [e.2])
   clear hr0 hr1 hs0 hs1
   go_enter Tryz.func54, Tryz.ntmps54
   go_wp2
   go_ret
   exact ⟨by rw [decide_eq_false hno]; rfl, hbw⟩
 ·have i1 : ((a.length : Int) != (b.length : Int)) = true := by simp; omega
  have hno : ¬ (a = b ∧ f = g) := fun e => hl (by rw [e.1])
  clear hr0 hr1 hs0 hs1
  go_enter Tryz.func54, Tryz.ntmps54
  go_wp2
  go_ret
  exact ⟨by rw [decide_eq_false hno]; rfl, hbw⟩
end Go.Proofs.YtmcjccigglekpaaGreatDoor.Given
namespace Go.Proofs.YtmcjccigglekpaaGreatDoor.Given
open Go Go.RowKit Go.Proofs Go.Proofs.YtmcjccigglekpaaGreatDoorW.PrintWords Go.Proofs.YtmcjccigglekpaaGreatDoorW.PrintLast Go.Proofs.YtmcjccigglekpaaGreatDoorW.PrintMore Go.Proofs.YtmcjccigglekpaaGreatDoor.P

theorem rdElCap (xs : List S87) (k : Nat) (hk : k < xs.length) : rd_T87 xs (k : Int) = xs[k] := by
 unfold rd_T87
 rw [Int.toNat_natCast, List.getD_eq_getElem?_getD, List.getElem?_eq_getElem hk]
 rfl
theorem rdElSweep (xs : List S82) (k : Nat) (hk : k < xs.length) : rd_T82 xs (k : Int) = xs[k] := by
 unfold rd_T82
 rw [Int.toNat_natCast, List.getD_eq_getElem?_getD, List.getElem?_eq_getElem hk]
 rfl
set_option maxRecDepth 100000 in
set_option maxHeartbeats 16000000 in
theorem stateSame_calls (h h' : Sv) (s s' : St) (w : World) (H : h.At s w) (H' : h'.At s' w) : Calls Tryz.prog 19 #[.agg (h.cells s), .agg (h'.cells s')] w (SPost (decide (s = s')) w) := by
 obtain ⟨A0, A1, A2, A3, A4, A5, A6, A7, c0, c1, c2, c3, c4, c5, c6, c7⟩ := h
 obtain ⟨B0, B1, B2, B3, B4, B5, B6, B7, d0, d1, d2, d3, d4, d5, d6, d7⟩ := h'
 obtain ⟨th, fr, no, tr, po, li, ro, sw⟩ := s
 obtain ⟨th', fr', no', tr', po', li', ro', sw'⟩ := s'
 have DA := Lib.hid (fun w' (hb : Below w.heap.size w w') => arenaSame_calls A0 A1 B0 B1 c0 c1 d0 d1 th th' fr fr' w' (Kd.C_below H.r0 hb) (Kd.C_below H.r1 hb) (Kd.C_below H'.r0 hb) (Kd.C_below H'.r1 hb))
 have DT := Lib.hid (fun w' (hb : Below w.heap.size w w') => treeSame_calls A3 B3 c3 d3 tr tr' w' (Kd.C_below H.r3 hb) (Kd.C_below H'.r3 hb))
 have DI := Lib.hid (fun w' (hb : Below w.heap.size w w') => ints_calls A6 B6 c6 d6 ro ro' w' (Kd.C_below H.r6 hb) (Kd.C_below H'.r6 hb))
 have HR2 := Lib.hid (fun w' (hb : Below w.heap.size w w') => (⟨Kd.C_below H.r2 hb, Kd.C_below H'.r2 hb⟩ : Kd.C _ w' A2 no.length no ∧ Kd.C _ w' B2 no'.length no'))
 have HR4 := Lib.hid (fun w' (hb : Below w.heap.size w w') => (⟨Kd.C_below H.r4 hb, Kd.C_below H'.r4 hb⟩ : Kd.C _ w' A4 po.length po ∧ Kd.C _ w' B4 po'.length po'))
 have HR5 := Lib.hid (fun w' (hb : Below w.heap.size w w') => (⟨Kd.C_below H.r5 hb, Kd.C_below H'.r5 hb⟩ : Kd.C _ w' A5 li.length li ∧ Kd.C _ w' B5 li'.length li'))
 have HR7 := Lib.hid (fun w' (hb : Below w.heap.size w w') => (⟨Kd.C_below H.r7 hb, Kd.C_below H'.r7 hb⟩ : Kd.C _ w' A7 sw.length sw ∧ Kd.C _ w' B7 sw'.length sw'))
 have b2 : no.length ≤ 9223372036854775807 := H.r2.2.1
 have b4 : po.length ≤ 9223372036854775807 := H.r4.2.1
 have b5 : li.length ≤ 9223372036854775807 := H.r5.2.1
 have b7 : sw.length ≤ 9223372036854775807 := H.r7.2.1
 have N2 := Lib.hid b2
 have N4 := Lib.hid b4
 have N5 := Lib.hid b5
 have N7 := Lib.hid b7
 clear H H' b2 b4 b5 b7
 dsimp only [Sv.cells]
 have hbx : ((w.alloc (.cells #[.slice A0 th.length c0, .slice A1 fr.length c1, .slice A2 no.length c2, .slice A3 tr.length c3, .slice A4 po.length c4, .slice A5 li.length c5, .slice A6 ro.length c6, .slice A7 sw.length c7] 32)).alloc (.cells #[.slice B0 th'.length d0, .slice B1 fr'.length d1, .slice B2 no'.length d2, .slice B3 tr'.length d3, .slice B4 po'.length d4, .slice B5 li'.length d5, .slice B6 ro'.length d6, .slice B7 sw'.length d7] 32)).heap[w.heap.size]? = some (.cells #[.slice A0 th.length c0, .slice A1 fr.length c1, .slice A2 no.length c2, .slice A3 tr.length c3, .slice A4 po.length c4, .slice A5 li.length c5, .slice A6 ro.length c6, .slice A7 sw.length c7] 32 (0, 0)) := blk_alloc (blk_new w _) _
 have hby : ((w.alloc (.cells #[.slice A0 th.length c0, .slice A1 fr.length c1, .slice A2 no.length c2, .slice A3 tr.length c3, .slice A4 po.length c4, .slice A5 li.length c5, .slice A6 ro.length c6, .slice A7 sw.length c7] 32)).alloc (.cells #[.slice B0 th'.length d0, .slice B1 fr'.length d1, .slice B2 no'.length d2, .slice B3 tr'.length d3, .slice B4 po'.length d4, .slice B5 li'.length d5, .slice B6 ro'.length d6, .slice B7 sw'.length d7] 32)).heap[w.heap.size + 1]? = some (.cells #[.slice B0 th'.length d0, .slice B1 fr'.length d1, .slice B2 no'.length d2, .slice B3 tr'.length d3, .slice B4 po'.length d4, .slice B5 li'.length d5, .slice B6 ro'.length d6, .slice B7 sw'.length d7] 32 (0, 0)) := blk_at (by simp)
 have hbw : Below w.heap.size w ((w.alloc (.cells #[.slice A0 th.length c0, .slice A1 fr.length c1, .slice A2 no.length c2, .slice A3 tr.length c3, .slice A4 po.length c4, .slice A5 li.length c5, .slice A6 ro.length c6, .slice A7 sw.length c7] 32)).alloc (.cells #[.slice B0 th'.length d0, .slice B1 fr'.length d1, .slice B2 no'.length d2, .slice B3 tr'.length d3, .slice B4 po'.length d4, .slice B5 li'.length d5, .slice B6 ro'.length d6, .slice B7 sw'.length d7] 32)) := ((Below.refl _ _).alloc (Nat.le_refl _) _).alloc (by simp) _
 have p0 := (blk_cell hbx 0).trans (show _ = some (.slice A0 th.length c0 : Value) from rfl)
 have p1 := (blk_cell hbx 1).trans (show _ = some (.slice A1 fr.length c1 : Value) from rfl)
 have p2 := (blk_cell hbx 2).trans (show _ = some (.slice A2 no.length c2 : Value) from rfl)
 have p3 := (blk_cell hbx 3).trans (show _ = some (.slice A3 tr.length c3 : Value) from rfl)
 have p4 := (blk_cell hbx 4).trans (show _ = some (.slice A4 po.length c4 : Value) from rfl)
 have p5 := (blk_cell hbx 5).trans (show _ = some (.slice A5 li.length c5 : Value) from rfl)
 have p6 := (blk_cell hbx 6).trans (show _ = some (.slice A6 ro.length c6 : Value) from rfl)
 have p7 := (blk_cell hbx 7).trans (show _ = some (.slice A7 sw.length c7 : Value) from rfl)
 have q0 := (blk_cell hby 0).trans (show _ = some (.slice B0 th'.length d0 : Value) from rfl)
 have q1 := (blk_cell hby 1).trans (show _ = some (.slice B1 fr'.length d1 : Value) from rfl)
 have q2 := (blk_cell hby 2).trans (show _ = some (.slice B2 no'.length d2 : Value) from rfl)
 have q3 := (blk_cell hby 3).trans (show _ = some (.slice B3 tr'.length d3 : Value) from rfl)
 have q4 := (blk_cell hby 4).trans (show _ = some (.slice B4 po'.length d4 : Value) from rfl)
 have q5 := (blk_cell hby 5).trans (show _ = some (.slice B5 li'.length d5 : Value) from rfl)
 have q6 := (blk_cell hby 6).trans (show _ = some (.slice B6 ro'.length d6 : Value) from rfl)
 have q7 := (blk_cell hby 7).trans (show _ = some (.slice B7 sw'.length d7 : Value) from rfl)
 clear hbx hby
 by_cases e0 : th = th' ∧ fr = fr'
 ·rw [decide_eq_true e0] at DA
  by_cases e1 : tr = tr'
  ·rw [decide_eq_true e1] at DT
   by_cases e2 : ro = ro'
   ·rw [decide_eq_true e2] at DI
    by_cases l2 : no.length = no'.length
    ·have i2 : ((no.length : Int) != (no'.length : Int)) = false := by simp [l2]
     by_cases l4 : po.length = po'.length
     ·have i4 : ((po.length : Int) != (po'.length : Int)) = false := by simp [l4]
      by_cases l5 : li.length = li'.length
      ·have i5 : ((li.length : Int) != (li'.length : Int)) = false := by simp [l5]
       by_cases l7 : sw.length = sw'.length
       ·have i7 : ((sw.length : Int) != (sw'.length : Int)) = false := by simp [l7]
        have E0 := Lib.hid e0
        have E1 := Lib.hid e1
        have E2 := Lib.hid e2
        have L2 := Lib.hid l2
        have L4 := Lib.hid l4
        have L5 := Lib.hid l5
        have L7 := Lib.hid l7
        clear e0 e1 e2 l2 l4 l5 l7
        go_enter Tryz.func19, Tryz.ntmps19
        go_wp2_with (first | (go_at_call 54; refine (DA.out _ hbw).mono ?_; rintro e w1 ⟨rfl, hb1⟩; have bw1 := hbw.trans (hb1.mono hbw.size); have r0 := bcellv hb1 p0; have s0 := bcellv hb1 q0; have r1 := bcellv hb1 p1; have s1 := bcellv hb1 q1; have r2 := bcellv hb1 p2; have s2 := bcellv hb1 q2; have r3 := bcellv hb1 p3; have s3 := bcellv hb1 q3; have r4 := bcellv hb1 p4; have s4 := bcellv hb1 q4; have r5 := bcellv hb1 p5; have s5 := bcellv hb1 q5; have r6 := bcellv hb1 p6; have s6 := bcellv hb1 q6; have r7 := bcellv hb1 p7; have s7 := bcellv hb1 q7) | (go_at_call 55; refine (DT.out _ bw1).mono ?_; rintro e w2 ⟨rfl, hb2⟩; have bw2 := bw1.trans (hb2.mono bw1.size); have t0 := bcellv hb2 r0; have u0 := bcellv hb2 s0; have t1 := bcellv hb2 r1; have u1 := bcellv hb2 s1; have t2 := bcellv hb2 r2; have u2 := bcellv hb2 s2; have t3 := bcellv hb2 r3; have u3 := bcellv hb2 s3; have t4 := bcellv hb2 r4; have u4 := bcellv hb2 s4; have t5 := bcellv hb2 r5; have u5 := bcellv hb2 s5; have t6 := bcellv hb2 r6; have u6 := bcellv hb2 s6; have t7 := bcellv hb2 r7; have u7 := bcellv hb2 s7) | (go_at_call 56; refine (DI.out _ bw2).mono ?_; rintro e w3 ⟨rfl, hb3⟩; have bw3 := bw2.trans (hb3.mono bw2.size); have x0 := bcellv hb3 t0; have y0 := bcellv hb3 u0; have x1 := bcellv hb3 t1; have y1 := bcellv hb3 u1; have x2 := bcellv hb3 t2; have y2 := bcellv hb3 u2; have x3 := bcellv hb3 t3; have y3 := bcellv hb3 u3; have x4 := bcellv hb3 t4; have y4 := bcellv hb3 u4; have x5 := bcellv hb3 t5; have y5 := bcellv hb3 u5; have x6 := bcellv hb3 t6; have y6 := bcellv hb3 u6; have x7 := bcellv hb3 t7; have y7 := bcellv hb3 u7))
        clear i2 i4 i5 i7 DA DT DI hb1 hb2 hb3 bw1 bw2 hbw p0 q0 r0 s0 t0 u0 p1 q1 r1 s1 t1 u1 p2 q2 r2 s2 t2 u2 p3 q3 r3 s3 t3 u3 p4 q4 r4 s4 t4 u4 p5 q5 r5 s5 t5 u5 p6 q6 r6 s6 t6 u6 p7 q7 r7 s7 t7 u7 x0 y0 x1 y1 x3 y3 x6 y6
        have HN := N2
        have HL := L2
        have HW := Lib.hid bw3
        have HRA := Lib.hid (HR2.out _ HW.out).1
        have HRB := Lib.hid (HR2.out _ HW.out).2
        clear bw3
        go_loopw [5] (fun v wr => ∃ k : Nat, k ≤ no.length ∧ v = .int .i64 k ∧ Hid (no.take k = no'.take k) ∧ Below w3.heap.size w3 wr) (fun v _ => no.length - (intOf v).toNat)
        case atStart => exact ⟨0, Nat.zero_le _, rfl, Lib.hid rfl, Below.refl _ _⟩
        case round =>
         obtain ⟨k, hk, rfl, he, hB⟩ := hrel
         have zx2 := bcellv hB x2
         have zy2 := bcellv hB y2
         have zx4 := bcellv hB x4
         have zy4 := bcellv hB y4
         have zx5 := bcellv hB x5
         have zy5 := bcellv hB y5
         have zx7 := bcellv hB x7
         have zy7 := bcellv hB y7
         by_cases hlt : k < no.length
         ·have hlt' : k < no'.length := HL.out ▸ hlt
          have hd : decide ((k : Int) < (no.length : Int)) = true := decide_eq_true (by omega)
          have i2 : decide (0 ≤ (k : Int)) = true := decide_eq_true (by omega)
          have j2 : decide (k < no.length) = true := decide_eq_true hlt
          have j3 : decide (k < no'.length) = true := decide_eq_true hlt'
          obtain ⟨ad, C0, g0, e1, hv, -, hw0⟩ := at_row (Kd.C_below HRA.out hB) k hlt
          obtain ⟨bd, C1, g1, e2, hu, -, hw1⟩ := at_row (Kd.C_below HRB.out hB) k hlt'
          subst e1 e2
          have hmore0 := Lib.hid (fun hx : no[k] = no'[k] => take_more he.out hlt hlt' hx)
          have hnot0 := Lib.hid (fun hx : ¬ no[k] = no'[k] => not_at hlt hlt' hx)
          clear he
          generalize no[k] = x at *
          generalize no'[k] = y at *
          by_cases hln : x.length = y.length
          ·have i5 : ((x.length : Int) != (y.length : Int)) = false := by simp [hln]
           have HLX := Lib.hid hln
           have hbx : x.length ≤ 9223372036854775807 := hw0.2.1
           have HNX := Lib.hid hbx
           clear hln hbx
           go_wp2
           obtain ⟨wd, hwd⟩ : ∃ wd, wr.drew = wd := ⟨_, rfl⟩
           have cw : ∀ {a v}, wr.cell? a = some v → wd.cell? a = some v := fun h => by rw [← hwd]; exact h
           have HBD : Below wr.heap.size wr wd := hwd ▸ below_drew (Below.refl _ _)
           replace hv := cw hv
           replace hu := cw hu
           replace zx2 := cw zx2
           replace zy2 := cw zy2
           replace zx4 := cw zx4
           replace zy4 := cw zy4
           replace zx5 := cw zx5
           replace zy5 := cw zy5
           replace zx7 := cw zx7
           replace zy7 := cw zy7
           refine wp_region_sch (fun w' => w' = wd) 12 [(false, 0), (false, 1), (false, 2), (false, 3), (false, 4), (false, 5), (false, 6), (false, 7), (false, 8), (false, 9), (false, 10), (false, 11)] (by kernel_rfl) (by kernel_rfl) (fun _ a d _ _ h => by cases d <;> exact h) wd hwd rfl ?_
           clear hwd
           try dsimp only
           repeat (refine' sch_pure rfl rfl ?_ ?_; rotate_left; · (rintro w' rfl; go_simp <;> rfl)
                   simp only [Act.put, List.setIfInBounds_toArray, List.set_cons_zero, List.set_cons_succ])
           refine sch_last rfl (fun K hK => ?_)
           go_simp
           refine hK.out _ _ ?_
           clear hK K
           go_wp2
           clear i5
           have hX0 := Lib.hid (Kd.C_below hw0 HBD)
           have hX1 := Lib.hid (Kd.C_below hw1 HBD)
           have HBW := Lib.hid (hB.trans (HBD.mono hB.size))
           clear hw0 hw1 cw HBD hB
           go_loopw [6] (fun v wq => ∃ j : Nat, j ≤ x.length ∧ v = .int .i64 j ∧ Hid (x.take j = y.take j) ∧ Below wd.heap.size wd wq) (fun v _ => x.length - (intOf v).toNat)
           case atStart => exact ⟨0, Nat.zero_le _, rfl, Lib.hid rfl, Below.refl _ _⟩
           case round =>
            obtain ⟨j, hj, rfl, he2, hB2⟩ := hrel
            replace hv := bcellv hB2 hv
            replace hu := bcellv hB2 hu
            replace zx2 := bcellv hB2 zx2
            replace zy2 := bcellv hB2 zy2
            replace zx4 := bcellv hB2 zx4
            replace zy4 := bcellv hB2 zy4
            replace zx5 := bcellv hB2 zx5
            replace zy5 := bcellv hB2 zy5
            replace zx7 := bcellv hB2 zx7
            replace zy7 := bcellv hB2 zy7
            by_cases hjt : j < x.length
            ·have hjt' : j < y.length := HLX.out ▸ hjt
             have hd2 : decide ((j : Int) < (x.length : Int)) = true := decide_eq_true (by omega)
             have i6 : decide (0 ≤ (j : Int)) = true := decide_eq_true (by omega)
             have j6 : decide (j < x.length) = true := decide_eq_true hjt
             have j7 : decide (j < y.length) = true := decide_eq_true hjt'
             obtain ⟨ad2, e3, gv0, gv1, gv2, gv3, gv4⟩ := at_T87 (Kd.C_below hX0.out hB2) (j : Int) (by omega) (by omega)
             obtain ⟨bd2, e4, gu0, gu1, gu2, gu3, gu4⟩ := at_T87 (Kd.C_below hX1.out hB2) (j : Int) (by omega) (by omega)
             subst e3 e4
             rw [rdElCap _ j hjt, Int.toNat_natCast] at gv0 gv1 gv2 gv3 gv4
             rw [rdElCap _ j hjt', Int.toNat_natCast] at gu0 gu1 gu2 gu3 gu4
             by_cases hx : x[j] = y[j]
             ·have hmore := Lib.hid (take_more he2.out hjt hjt' hx)
              rw [← hx] at gu0 gu1 gu2 gu3 gu4
              clear hx he2
              generalize x[j] = u at *
              go_wp2
              obtain ⟨wd, hwd⟩ : ∃ wd, wr.drew = wd := ⟨_, rfl⟩
              have cw : ∀ {a v}, wr.cell? a = some v → wd.cell? a = some v := fun h => by rw [← hwd]; exact h
              have HBD : Below wr.heap.size wr wd := hwd ▸ below_drew (Below.refl _ _)
              replace hv := cw hv
              replace hu := cw hu
              replace zx2 := cw zx2
              replace zy2 := cw zy2
              replace zx4 := cw zx4
              replace zy4 := cw zy4
              replace zx5 := cw zx5
              replace zy5 := cw zy5
              replace zx7 := cw zx7
              replace zy7 := cw zy7
              replace gv0 := cw gv0
              replace gv1 := cw gv1
              replace gv2 := cw gv2
              replace gv3 := cw gv3
              replace gv4 := cw gv4
              replace gu0 := cw gu0
              replace gu1 := cw gu1
              replace gu2 := cw gu2
              replace gu3 := cw gu3
              replace gu4 := cw gu4
              refine wp_region_sch (fun w' => w' = wd) 16 [(false, 0), (false, 1), (false, 2), (false, 3), (false, 4), (false, 5), (false, 6), (false, 7), (false, 8), (false, 9), (false, 10), (false, 11), (false, 12), (false, 13), (false, 14), (false, 15)] (by kernel_rfl) (by kernel_rfl) (fun _ a d _ _ h => by cases d <;> exact h) wd hwd rfl ?_
              clear hwd
              try dsimp only
              repeat (refine' sch_pure rfl rfl ?_ ?_; rotate_left; · (rintro w' rfl; go_simp <;> rfl)
                      simp only [Act.put, List.setIfInBounds_toArray, List.set_cons_zero, List.set_cons_succ])
              refine sch_last rfl (fun K hK => ?_)
              go_simp
              refine hK.out _ _ ?_
              clear hK K
              go_wp2
              have hw1 : wrap64 ((j : Int) + 1) = ((j + 1 : Nat) : Int) := by have := HNX.out; unfold wrap64; omega
              refine ⟨⟨j + 1, hjt, by rw [hw1], hmore, hB2.trans (HBD.mono hB2.size)⟩, ?_⟩
              rw [hw1]
              show x.length - (((j + 1 : Nat) : Int)).toNat < x.length - ((j : Int)).toNat
              omega
             ·have hno := hnot0.out (not_at hjt hjt' hx)
              clear he2
              generalize x[j] = u at *
              generalize y[j] = v at *
              have HX := Lib.hid hx
              clear hx
              go_wp2
              obtain ⟨wd, hwd⟩ : ∃ wd, wr.drew = wd := ⟨_, rfl⟩
              have cw : ∀ {a v}, wr.cell? a = some v → wd.cell? a = some v := fun h => by rw [← hwd]; exact h
              have HBD : Below wr.heap.size wr wd := hwd ▸ below_drew (Below.refl _ _)
              replace hv := cw hv
              replace hu := cw hu
              replace zx2 := cw zx2
              replace zy2 := cw zy2
              replace zx4 := cw zx4
              replace zy4 := cw zy4
              replace zx5 := cw zx5
              replace zy5 := cw zy5
              replace zx7 := cw zx7
              replace zy7 := cw zy7
              replace gv0 := cw gv0
              replace gv1 := cw gv1
              replace gv2 := cw gv2
              replace gv3 := cw gv3
              replace gv4 := cw gv4
              replace gu0 := cw gu0
              replace gu1 := cw gu1
              replace gu2 := cw gu2
              replace gu3 := cw gu3
              replace gu4 := cw gu4
              refine wp_region_sch (fun w' => w' = wd) 16 [(false, 0), (false, 1), (false, 2), (false, 3), (false, 4), (false, 5), (false, 6), (false, 7), (false, 8), (false, 9), (false, 10), (false, 11), (false, 12), (false, 13), (false, 14), (false, 15)] (by kernel_rfl) (by kernel_rfl) (fun _ a d _ _ h => by cases d <;> exact h) wd hwd rfl ?_
              clear hwd
              try dsimp only
              repeat (refine' sch_pure rfl rfl ?_ ?_; rotate_left; · (rintro w' rfl; go_simp <;> rfl)
                      simp only [Act.put, List.setIfInBounds_toArray, List.set_cons_zero, List.set_cons_succ])
              refine sch_last rfl (fun K hK => ?_)
              go_simp
              rw [ifneCap HX.out]
              refine hK.out _ _ ?_
              clear hK K
              go_wp2
              go_ret
              exact ⟨by rw [decide_eq_false (fun e => hno (by injection e with k0 k1 k2 k3 k4 k5 k6 k7))]; rfl, HW.out.trans ((HBW.out.trans ((hB2.trans (HBD.mono hB2.size)).mono HBW.out.size)).mono HW.out.size)⟩
            ·have hd2 : decide ((j : Int) < (x.length : Int)) = false := decide_eq_false (by omega)
             have hmore := Lib.hid (hmore0.out (take_done he2.out (by omega) HLX.out))
             have hw9 := HBW.out.trans (hB2.mono HBW.out.size)
             clear he2
             go_wp2
             have hw1 : wrap64 ((k : Int) + 1) = ((k + 1 : Nat) : Int) := by have := HN.out; unfold wrap64; omega
             refine ⟨⟨k + 1, hlt, by rw [hw1], hmore, hw9⟩, ?_⟩
             rw [hw1]
             show no.length - (((k + 1 : Nat) : Int)).toNat < no.length - ((k : Int)).toNat
             omega
          ·have hno := hnot0.out (fun e => hln (by rw [e]))
           have i5 : ((x.length : Int) != (y.length : Int)) = true := by simp; omega
           clear hw0 hw1
           have HLN := Lib.hid hln
           go_wp2
           obtain ⟨wd, hwd⟩ : ∃ wd, wr.drew = wd := ⟨_, rfl⟩
           have cw : ∀ {a v}, wr.cell? a = some v → wd.cell? a = some v := fun h => by rw [← hwd]; exact h
           have HBD : Below wr.heap.size wr wd := hwd ▸ below_drew (Below.refl _ _)
           replace hv := cw hv
           replace hu := cw hu
           replace zx2 := cw zx2
           replace zy2 := cw zy2
           replace zx4 := cw zx4
           replace zy4 := cw zy4
           replace zx5 := cw zx5
           replace zy5 := cw zy5
           replace zx7 := cw zx7
           replace zy7 := cw zy7
           refine wp_region_sch (fun w' => w' = wd) 12 [(false, 0), (false, 1), (false, 2), (false, 3), (false, 4), (false, 5), (false, 6), (false, 7), (false, 8), (false, 9), (false, 10), (false, 11)] (by kernel_rfl) (by kernel_rfl) (fun _ a d _ _ h => by cases d <;> exact h) wd hwd rfl ?_
           clear hwd
           try dsimp only
           repeat (refine' sch_pure rfl rfl ?_ ?_; rotate_left; · (rintro w' rfl; go_simp <;> rfl)
                   simp only [Act.put, List.setIfInBounds_toArray, List.set_cons_zero, List.set_cons_succ])
           refine sch_last rfl (fun K hK => ?_)
           go_simp
           refine hK.out _ _ ?_
           clear hK K
           go_wp2
           go_ret
           exact ⟨by rw [decide_eq_false (fun e => hno (by injection e with k0 k1 k2 k3 k4 k5 k6 k7))]; rfl, HW.out.trans ((hB.trans (HBD.mono hB.size)).mono HW.out.size)⟩
         ·have hd : decide ((k : Int) < (no.length : Int)) = false := decide_eq_false (by omega)
          have y2 := Lib.hid (take_done he.out (by omega) HL.out)
          clear he
          clear HRA HRB
          have HW8 := Lib.hid (HW.out.trans (hB.mono HW.out.size))
          clear HN HL HW hd
          have HN := N4
          have HL := L4
          have HW := HW8
          have HRA := Lib.hid (HR4.out _ HW.out).1
          have HRB := Lib.hid (HR4.out _ HW.out).2
          clear HW8 hB hk
          go_wp2
          generalize wr = W6 at *
          go_loopw [7] (fun v wr => ∃ k : Nat, k ≤ po.length ∧ v = .int .i64 k ∧ Hid (po.take k = po'.take k) ∧ Below W6.heap.size W6 wr) (fun v _ => po.length - (intOf v).toNat)
          case atStart => exact ⟨0, Nat.zero_le _, rfl, Lib.hid rfl, Below.refl _ _⟩
          case round =>
           obtain ⟨k, hk, rfl, he, hB⟩ := hrel
           have zzx4 := bcellv hB zx4
           have zzy4 := bcellv hB zy4
           have zzx5 := bcellv hB zx5
           have zzy5 := bcellv hB zy5
           have zzx7 := bcellv hB zx7
           have zzy7 := bcellv hB zy7
           by_cases hlt : k < po.length
           ·have hlt' : k < po'.length := HL.out ▸ hlt
            have hd : decide ((k : Int) < (po.length : Int)) = true := decide_eq_true (by omega)
            have i2 : decide (0 ≤ (k : Int)) = true := decide_eq_true (by omega)
            have j2 : decide (k < po.length) = true := decide_eq_true hlt
            have j3 : decide (k < po'.length) = true := decide_eq_true hlt'
            obtain ⟨ad, C0, g0, e1, hv0, hv1, hv2, -, hx0⟩ := at_T59 (Kd.C_below HRA.out hB) (k : Int) (by omega) (by omega)
            obtain ⟨bd, C1, g1, e2, hu0, hu1, hu2, -, hx1⟩ := at_T59 (Kd.C_below HRB.out hB) (k : Int) (by omega) (by omega)
            subst e1 e2
            rw [rdPort _ k hlt] at hv0 hv1 hv2 hx0
            rw [rdPort _ k hlt'] at hu0 hu1 hu2 hx1
            rw [Int.toNat_natCast] at hv0 hv1 hv2 hu0 hu1 hu2
            by_cases hx : po[k] = po'[k]
            ·have hmore := Lib.hid (take_more he.out hlt hlt' hx)
             have DI := Lib.hid (fun (w' : World) (hb : Below wr.heap.size wr w') => portSame_calls' C0 C1 g0 g1 po[k].f0 po[k].f1 po'[k].f0 po'[k].f1 _ _ w' (Kd.C_below hx0 hb) (Kd.C_below hx1 hb))
             rw [decide_eq_true (show (⟨po[k].f0, po[k].f1, po[k].f2⟩ : S59) = ⟨po'[k].f0, po'[k].f1, po'[k].f2⟩ from hx)] at DI
             clear hx he hx0 hx1
             generalize po[k] = x at *
             generalize po'[k] = y at *
             go_wp2
             obtain ⟨wd, hwd⟩ : ∃ wd, wr.drew = wd := ⟨_, rfl⟩
             have cw : ∀ {a v}, wr.cell? a = some v → wd.cell? a = some v := fun h => by rw [← hwd]; exact h
             have HBD : Below wr.heap.size wr wd := hwd ▸ below_drew (Below.refl _ _)
             replace hv0 := cw hv0
             replace hv1 := cw hv1
             replace hv2 := cw hv2
             replace hu0 := cw hu0
             replace hu1 := cw hu1
             replace hu2 := cw hu2
             replace zzx4 := cw zzx4
             replace zzy4 := cw zzy4
             replace zzx5 := cw zzx5
             replace zzy5 := cw zzy5
             replace zzx7 := cw zzx7
             replace zzy7 := cw zzy7
             refine wp_region_sch (fun w' => Below wd.heap.size wd w') 11 [(false, 0), (false, 1), (false, 2), (false, 3), (false, 4), (false, 5), (false, 6), (false, 7), (false, 8), (false, 9), (true, 10)] (by kernel_rfl) (by kernel_rfl) (fun _ a d _ _ h => by cases d <;> exact h) wd hwd (Below.refl _ _) ?_
             clear hwd
             try dsimp only
             repeat (refine' sch_pure rfl rfl ?_ ?_; rotate_left; · (rintro w' hs; have z0 := bcellv hs hv0; have z1 := bcellv hs hv1; have z2 := bcellv hs hv2; have z3 := bcellv hs hu0; have z4 := bcellv hs hu1; have z5 := bcellv hs hu2; have z6 := bcellv hs zzx4; have z7 := bcellv hs zzy4; have z8 := bcellv hs zzx5; have z9 := bcellv hs zzy5; have z10 := bcellv hs zzx7; have z11 := bcellv hs zzy7; go_simp <;> rfl)
                     simp only [Act.put, List.setIfInBounds_toArray, List.set_cons_zero, List.set_cons_succ])
             refine sch_alone rfl (fun K hK => ?_)
             go_simp
             refine (DI.out wd HBD).mono ?_
             rintro e w3 ⟨rfl, hb3⟩
             refine hK.out _ _ hb3 ?_
             clear hK K
             try simp only [Act.put, List.setIfInBounds_toArray, List.set_cons_zero, List.set_cons_succ]
             refine sch_last rfl (fun K hK => ?_)
             go_simp
             refine hK.out _ _ ?_
             clear hK K
             go_wp2
             have hw9 := ((hB.trans (HBD.mono hB.size)).trans (hb3.mono (Nat.le_trans hB.size HBD.size)))
             have hw1 : wrap64 ((k : Int) + 1) = ((k + 1 : Nat) : Int) := by have := HN.out; unfold wrap64; omega
             refine ⟨⟨k + 1, hlt, by rw [hw1], hmore, hw9⟩, ?_⟩
             rw [hw1]
             show po.length - (((k + 1 : Nat) : Int)).toNat < po.length - ((k : Int)).toNat
             omega
            ·have hno := not_at hlt hlt' hx
             have DI := Lib.hid (fun (w' : World) (hb : Below wr.heap.size wr w') => portSame_calls' C0 C1 g0 g1 po[k].f0 po[k].f1 po'[k].f0 po'[k].f1 _ _ w' (Kd.C_below hx0 hb) (Kd.C_below hx1 hb))
             rw [decide_eq_false (show ¬ (⟨po[k].f0, po[k].f1, po[k].f2⟩ : S59) = ⟨po'[k].f0, po'[k].f1, po'[k].f2⟩ from hx)] at DI
             clear hx he hx0 hx1
             generalize po[k] = x at *
             generalize po'[k] = y at *
             go_wp2
             obtain ⟨wd, hwd⟩ : ∃ wd, wr.drew = wd := ⟨_, rfl⟩
             have cw : ∀ {a v}, wr.cell? a = some v → wd.cell? a = some v := fun h => by rw [← hwd]; exact h
             have HBD : Below wr.heap.size wr wd := hwd ▸ below_drew (Below.refl _ _)
             replace hv0 := cw hv0
             replace hv1 := cw hv1
             replace hv2 := cw hv2
             replace hu0 := cw hu0
             replace hu1 := cw hu1
             replace hu2 := cw hu2
             replace zzx4 := cw zzx4
             replace zzy4 := cw zzy4
             replace zzx5 := cw zzx5
             replace zzy5 := cw zzy5
             replace zzx7 := cw zzx7
             replace zzy7 := cw zzy7
             refine wp_region_sch (fun w' => Below wd.heap.size wd w') 11 [(false, 0), (false, 1), (false, 2), (false, 3), (false, 4), (false, 5), (false, 6), (false, 7), (false, 8), (false, 9), (true, 10)] (by kernel_rfl) (by kernel_rfl) (fun _ a d _ _ h => by cases d <;> exact h) wd hwd (Below.refl _ _) ?_
             clear hwd
             try dsimp only
             repeat (refine' sch_pure rfl rfl ?_ ?_; rotate_left; · (rintro w' hs; have z0 := bcellv hs hv0; have z1 := bcellv hs hv1; have z2 := bcellv hs hv2; have z3 := bcellv hs hu0; have z4 := bcellv hs hu1; have z5 := bcellv hs hu2; have z6 := bcellv hs zzx4; have z7 := bcellv hs zzy4; have z8 := bcellv hs zzx5; have z9 := bcellv hs zzy5; have z10 := bcellv hs zzx7; have z11 := bcellv hs zzy7; go_simp <;> rfl)
                     simp only [Act.put, List.setIfInBounds_toArray, List.set_cons_zero, List.set_cons_succ])
             refine sch_alone rfl (fun K hK => ?_)
             go_simp
             refine (DI.out wd HBD).mono ?_
             rintro e w3 ⟨rfl, hb3⟩
             refine hK.out _ _ hb3 ?_
             clear hK K
             try simp only [Act.put, List.setIfInBounds_toArray, List.set_cons_zero, List.set_cons_succ]
             refine sch_last rfl (fun K hK => ?_)
             go_simp
             refine hK.out _ _ ?_
             clear hK K
             go_wp2
             go_ret
             exact ⟨by rw [decide_eq_false (fun e => hno (by injection e with k0 k1 k2 k3 k4 k5 k6 k7))]; rfl, HW.out.trans (((hB.trans (HBD.mono hB.size)).trans (hb3.mono (Nat.le_trans hB.size HBD.size))).mono HW.out.size)⟩
           ·have hd : decide ((k : Int) < (po.length : Int)) = false := decide_eq_false (by omega)
            have y4 := Lib.hid (take_done he.out (by omega) HL.out)
            clear he
            clear HRA HRB
            have HW8 := Lib.hid (HW.out.trans (hB.mono HW.out.size))
            clear HN HL HW hd
            have HN := N5
            have HL := L5
            have HW := HW8
            have HRA := Lib.hid (HR5.out _ HW.out).1
            have HRB := Lib.hid (HR5.out _ HW.out).2
            clear HW8 hB hk
            go_wp2
            generalize wr = W7 at *
            go_loopw [8] (fun v wr => ∃ k : Nat, k ≤ li.length ∧ v = .int .i64 k ∧ Hid (li.take k = li'.take k) ∧ Below W7.heap.size W7 wr) (fun v _ => li.length - (intOf v).toNat)
            case atStart => exact ⟨0, Nat.zero_le _, rfl, Lib.hid rfl, Below.refl _ _⟩
            case round =>
             obtain ⟨k, hk, rfl, he, hB⟩ := hrel
             have zzzx5 := bcellv hB zzx5
             have zzzy5 := bcellv hB zzy5
             have zzzx7 := bcellv hB zzx7
             have zzzy7 := bcellv hB zzy7
             by_cases hlt : k < li.length
             ·have hlt' : k < li'.length := HL.out ▸ hlt
              have hd : decide ((k : Int) < (li.length : Int)) = true := decide_eq_true (by omega)
              have i2 : decide (0 ≤ (k : Int)) = true := decide_eq_true (by omega)
              have j2 : decide (k < li.length) = true := decide_eq_true hlt
              have j3 : decide (k < li'.length) = true := decide_eq_true hlt'
              obtain ⟨ad, B0, d0, e1, hv, -, hw0⟩ := at_row (Kd.C_below HRA.out hB) k hlt
              obtain ⟨bd, B1, d1, e2, hu, -, hw1⟩ := at_row (Kd.C_below HRB.out hB) k hlt'
              subst e1 e2
              by_cases hx : li[k] = li'[k]
              ·have hmore := Lib.hid (take_more he.out hlt hlt' hx)
               have DI := Lib.hid (fun (w' : World) (hb : Below wr.heap.size wr w') => ints_calls B0 B1 d0 d1 _ _ w' (Kd.C_below hw0 hb) (Kd.C_below hw1 hb))
               rw [decide_eq_true hx] at DI
               clear hx he hw0 hw1
               generalize li[k] = x at *
               generalize li'[k] = y at *
               go_wp2
               obtain ⟨wd, hwd⟩ : ∃ wd, wr.drew = wd := ⟨_, rfl⟩
               have cw : ∀ {a v}, wr.cell? a = some v → wd.cell? a = some v := fun h => by rw [← hwd]; exact h
               have HBD : Below wr.heap.size wr wd := hwd ▸ below_drew (Below.refl _ _)
               replace hv := cw hv
               replace hu := cw hu
               replace zzzx5 := cw zzzx5
               replace zzzy5 := cw zzzy5
               replace zzzx7 := cw zzzx7
               replace zzzy7 := cw zzzy7
               refine wp_region_sch (fun w' => Below wd.heap.size wd w') 11 [(false, 0), (false, 1), (false, 2), (false, 3), (false, 4), (false, 5), (false, 6), (false, 7), (false, 8), (false, 9), (true, 10)] (by kernel_rfl) (by kernel_rfl) (fun _ a d _ _ h => by cases d <;> exact h) wd hwd (Below.refl _ _) ?_
               clear hwd
               try dsimp only
               repeat (refine' sch_pure rfl rfl ?_ ?_; rotate_left; · (rintro w' hs; have z0 := bcellv hs hv; have z1 := bcellv hs hu; have z2 := bcellv hs zzzx5; have z3 := bcellv hs zzzy5; have z4 := bcellv hs zzzx7; have z5 := bcellv hs zzzy7; go_simp <;> rfl)
                       simp only [Act.put, List.setIfInBounds_toArray, List.set_cons_zero, List.set_cons_succ])
               refine sch_alone rfl (fun K hK => ?_)
               go_simp
               refine (DI.out wd HBD).mono ?_
               rintro e w3 ⟨rfl, hb3⟩
               refine hK.out _ _ hb3 ?_
               clear hK K
               try simp only [Act.put, List.setIfInBounds_toArray, List.set_cons_zero, List.set_cons_succ]
               refine sch_last rfl (fun K hK => ?_)
               go_simp
               refine hK.out _ _ ?_
               clear hK K
               go_wp2
               have hw9 := ((hB.trans (HBD.mono hB.size)).trans (hb3.mono (Nat.le_trans hB.size HBD.size)))
               have hw1 : wrap64 ((k : Int) + 1) = ((k + 1 : Nat) : Int) := by have := HN.out; unfold wrap64; omega
               refine ⟨⟨k + 1, hlt, by rw [hw1], hmore, hw9⟩, ?_⟩
               rw [hw1]
               show li.length - (((k + 1 : Nat) : Int)).toNat < li.length - ((k : Int)).toNat
               omega
              ·have hno := not_at hlt hlt' hx
               have DI := Lib.hid (fun (w' : World) (hb : Below wr.heap.size wr w') => ints_calls B0 B1 d0 d1 _ _ w' (Kd.C_below hw0 hb) (Kd.C_below hw1 hb))
               rw [decide_eq_false hx] at DI
               clear hx he hw0 hw1
               generalize li[k] = x at *
               generalize li'[k] = y at *
               go_wp2
               obtain ⟨wd, hwd⟩ : ∃ wd, wr.drew = wd := ⟨_, rfl⟩
               have cw : ∀ {a v}, wr.cell? a = some v → wd.cell? a = some v := fun h => by rw [← hwd]; exact h
               have HBD : Below wr.heap.size wr wd := hwd ▸ below_drew (Below.refl _ _)
               replace hv := cw hv
               replace hu := cw hu
               replace zzzx5 := cw zzzx5
               replace zzzy5 := cw zzzy5
               replace zzzx7 := cw zzzx7
               replace zzzy7 := cw zzzy7
               refine wp_region_sch (fun w' => Below wd.heap.size wd w') 11 [(false, 0), (false, 1), (false, 2), (false, 3), (false, 4), (false, 5), (false, 6), (false, 7), (false, 8), (false, 9), (true, 10)] (by kernel_rfl) (by kernel_rfl) (fun _ a d _ _ h => by cases d <;> exact h) wd hwd (Below.refl _ _) ?_
               clear hwd
               try dsimp only
               repeat (refine' sch_pure rfl rfl ?_ ?_; rotate_left; · (rintro w' hs; have z0 := bcellv hs hv; have z1 := bcellv hs hu; have z2 := bcellv hs zzzx5; have z3 := bcellv hs zzzy5; have z4 := bcellv hs zzzx7; have z5 := bcellv hs zzzy7; go_simp <;> rfl)
                       simp only [Act.put, List.setIfInBounds_toArray, List.set_cons_zero, List.set_cons_succ])
               refine sch_alone rfl (fun K hK => ?_)
               go_simp
               refine (DI.out wd HBD).mono ?_
               rintro e w3 ⟨rfl, hb3⟩
               refine hK.out _ _ hb3 ?_
               clear hK K
               try simp only [Act.put, List.setIfInBounds_toArray, List.set_cons_zero, List.set_cons_succ]
               refine sch_last rfl (fun K hK => ?_)
               go_simp
               refine hK.out _ _ ?_
               clear hK K
               go_wp2
               go_ret
               exact ⟨by rw [decide_eq_false (fun e => hno (by injection e with k0 k1 k2 k3 k4 k5 k6 k7))]; rfl, HW.out.trans (((hB.trans (HBD.mono hB.size)).trans (hb3.mono (Nat.le_trans hB.size HBD.size))).mono HW.out.size)⟩
             ·have hd : decide ((k : Int) < (li.length : Int)) = false := decide_eq_false (by omega)
              have y5 := Lib.hid (take_done he.out (by omega) HL.out)
              clear he
              clear HRA HRB
              have HW8 := Lib.hid (HW.out.trans (hB.mono HW.out.size))
              clear HN HL HW hd
              have HN := N7
              have HL := L7
              have HW := HW8
              have HRA := Lib.hid (HR7.out _ HW.out).1
              have HRB := Lib.hid (HR7.out _ HW.out).2
              clear HW8 hB hk
              go_wp2
              generalize wr = W8 at *
              go_loopw [9] (fun v wr => ∃ k : Nat, k ≤ sw.length ∧ v = .int .i64 k ∧ Hid (sw.take k = sw'.take k) ∧ Below W8.heap.size W8 wr) (fun v _ => sw.length - (intOf v).toNat)
              case atStart => exact ⟨0, Nat.zero_le _, rfl, Lib.hid rfl, Below.refl _ _⟩
              case round =>
               obtain ⟨k, hk, rfl, he, hB⟩ := hrel
               have zzzzx7 := bcellv hB zzzx7
               have zzzzy7 := bcellv hB zzzy7
               by_cases hlt : k < sw.length
               ·have hlt' : k < sw'.length := HL.out ▸ hlt
                have hd : decide ((k : Int) < (sw.length : Int)) = true := decide_eq_true (by omega)
                have i2 : decide (0 ≤ (k : Int)) = true := decide_eq_true (by omega)
                have j2 : decide (k < sw.length) = true := decide_eq_true hlt
                have j3 : decide (k < sw'.length) = true := decide_eq_true hlt'
                obtain ⟨ad, e1, hv0, hv1, hv2, hv3⟩ := at_T82 (Kd.C_below HRA.out hB) (k : Int) (by omega) (by omega)
                obtain ⟨bd, e2, hu0, hu1, hu2, hu3⟩ := at_T82 (Kd.C_below HRB.out hB) (k : Int) (by omega) (by omega)
                subst e1 e2
                rw [rdElSweep _ k hlt, Int.toNat_natCast] at hv0 hv1 hv2 hv3
                rw [rdElSweep _ k hlt', Int.toNat_natCast] at hu0 hu1 hu2 hu3
                by_cases hx : sw[k] = sw'[k]
                ·have hmore := Lib.hid (take_more he.out hlt hlt' hx)
                 rw [← hx] at hu0 hu1 hu2 hu3
                 clear hx he
                 generalize sw[k] = x at *
                 go_wp2
                 obtain ⟨wd, hwd⟩ : ∃ wd, wr.drew = wd := ⟨_, rfl⟩
                 have cw : ∀ {a v}, wr.cell? a = some v → wd.cell? a = some v := fun h => by rw [← hwd]; exact h
                 have HBD : Below wr.heap.size wr wd := hwd ▸ below_drew (Below.refl _ _)
                 replace hv0 := cw hv0
                 replace hv1 := cw hv1
                 replace hv2 := cw hv2
                 replace hv3 := cw hv3
                 replace hu0 := cw hu0
                 replace hu1 := cw hu1
                 replace hu2 := cw hu2
                 replace hu3 := cw hu3
                 replace zzzzx7 := cw zzzzx7
                 replace zzzzy7 := cw zzzzy7
                 refine wp_region_sch (fun w' => w' = wd) 10 [(false, 0), (false, 1), (false, 2), (false, 3), (false, 4), (false, 5), (false, 6), (false, 7), (false, 8), (false, 9)] (by kernel_rfl) (by kernel_rfl) (fun _ a d _ _ h => by cases d <;> exact h) wd hwd rfl ?_
                 clear hwd
                 try dsimp only
                 repeat (refine' sch_pure rfl rfl ?_ ?_; rotate_left; · (rintro w' rfl; go_simp <;> rfl)
                         simp only [Act.put, List.setIfInBounds_toArray, List.set_cons_zero, List.set_cons_succ])
                 refine sch_last rfl (fun K hK => ?_)
                 go_simp
                 refine hK.out _ _ ?_
                 clear hK K
                 go_wp2
                 have hw1 : wrap64 ((k : Int) + 1) = ((k + 1 : Nat) : Int) := by have := HN.out; unfold wrap64; omega
                 refine ⟨⟨k + 1, hlt, by rw [hw1], hmore, hB.trans (HBD.mono hB.size)⟩, ?_⟩
                 rw [hw1]
                 show sw.length - (((k + 1 : Nat) : Int)).toNat < sw.length - ((k : Int)).toNat
                 omega
                ·have hno := not_at hlt hlt' hx
                 clear he
                 generalize sw[k] = x at *
                 generalize sw'[k] = y at *
                 have HX := Lib.hid hx
                 clear hx
                 go_wp2
                 obtain ⟨wd, hwd⟩ : ∃ wd, wr.drew = wd := ⟨_, rfl⟩
                 have cw : ∀ {a v}, wr.cell? a = some v → wd.cell? a = some v := fun h => by rw [← hwd]; exact h
                 have HBD : Below wr.heap.size wr wd := hwd ▸ below_drew (Below.refl _ _)
                 replace hv0 := cw hv0
                 replace hv1 := cw hv1
                 replace hv2 := cw hv2
                 replace hv3 := cw hv3
                 replace hu0 := cw hu0
                 replace hu1 := cw hu1
                 replace hu2 := cw hu2
                 replace hu3 := cw hu3
                 replace zzzzx7 := cw zzzzx7
                 replace zzzzy7 := cw zzzzy7
                 refine wp_region_sch (fun w' => w' = wd) 10 [(false, 0), (false, 1), (false, 2), (false, 3), (false, 4), (false, 5), (false, 6), (false, 7), (false, 8), (false, 9)] (by kernel_rfl) (by kernel_rfl) (fun _ a d _ _ h => by cases d <;> exact h) wd hwd rfl ?_
                 clear hwd
                 try dsimp only
                 repeat (refine' sch_pure rfl rfl ?_ ?_; rotate_left; · (rintro w' rfl; go_simp <;> rfl)
                         simp only [Act.put, List.setIfInBounds_toArray, List.set_cons_zero, List.set_cons_succ])
                 refine sch_last rfl (fun K hK => ?_)
                 go_simp
                 rw [ifneSweep HX.out]
                 refine hK.out _ _ ?_
                 clear hK K
                 go_wp2
                 go_ret
                 exact ⟨by rw [decide_eq_false (fun e => hno (by injection e with k0 k1 k2 k3 k4 k5 k6 k7))]; rfl, HW.out.trans ((hB.trans (HBD.mono hB.size)).mono HW.out.size)⟩
               ·have hd : decide ((k : Int) < (sw.length : Int)) = false := decide_eq_false (by omega)
                have hyes := Lib.hid (take_done he.out (by omega) HL.out)
                clear he
                go_wp2
                go_ret
                exact ⟨by rw [decide_eq_true (by rw [E0.out.1, E0.out.2, E1.out, E2.out, y2.out, y4.out, y5.out, hyes.out])]; rfl, HW.out.trans (hB.mono HW.out.size)⟩
       ·have Xe0 := Lib.hid e0
        have Xe1 := Lib.hid e1
        have Xe2 := Lib.hid e2
        have Xl2 := Lib.hid l2
        have Xl4 := Lib.hid l4
        have Xl5 := Lib.hid l5
        clear e0 e1 e2 l2 l4 l5
        have i7 : ((sw.length : Int) != (sw'.length : Int)) = true := bne_iff_ne.mpr (by omega)
        have hno : ¬ ((⟨th, fr, no, tr, po, li, ro, sw⟩ : St) = ⟨th', fr', no', tr', po', li', ro', sw'⟩) := fun e => l7 (by injection e with k0 k1 k2 k3 k4 k5 k6 k7; rw [k7])
        go_enter Tryz.func19, Tryz.ntmps19
        go_wp2_with (first | (go_at_call 54; refine (DA.out _ hbw).mono ?_; rintro e w1 ⟨rfl, hb1⟩; have bw1 := hbw.trans (hb1.mono hbw.size); have r0 := bcellv hb1 p0; have s0 := bcellv hb1 q0; have r1 := bcellv hb1 p1; have s1 := bcellv hb1 q1; have r2 := bcellv hb1 p2; have s2 := bcellv hb1 q2; have r3 := bcellv hb1 p3; have s3 := bcellv hb1 q3; have r4 := bcellv hb1 p4; have s4 := bcellv hb1 q4; have r5 := bcellv hb1 p5; have s5 := bcellv hb1 q5; have r6 := bcellv hb1 p6; have s6 := bcellv hb1 q6; have r7 := bcellv hb1 p7; have s7 := bcellv hb1 q7) | (go_at_call 55; refine (DT.out _ bw1).mono ?_; rintro e w2 ⟨rfl, hb2⟩; have bw2 := bw1.trans (hb2.mono bw1.size); have t0 := bcellv hb2 r0; have u0 := bcellv hb2 s0; have t1 := bcellv hb2 r1; have u1 := bcellv hb2 s1; have t2 := bcellv hb2 r2; have u2 := bcellv hb2 s2; have t3 := bcellv hb2 r3; have u3 := bcellv hb2 s3; have t4 := bcellv hb2 r4; have u4 := bcellv hb2 s4; have t5 := bcellv hb2 r5; have u5 := bcellv hb2 s5; have t6 := bcellv hb2 r6; have u6 := bcellv hb2 s6; have t7 := bcellv hb2 r7; have u7 := bcellv hb2 s7) | (go_at_call 56; refine (DI.out _ bw2).mono ?_; rintro e w3 ⟨rfl, hb3⟩; have bw3 := bw2.trans (hb3.mono bw2.size); have x0 := bcellv hb3 t0; have y0 := bcellv hb3 u0; have x1 := bcellv hb3 t1; have y1 := bcellv hb3 u1; have x2 := bcellv hb3 t2; have y2 := bcellv hb3 u2; have x3 := bcellv hb3 t3; have y3 := bcellv hb3 u3; have x4 := bcellv hb3 t4; have y4 := bcellv hb3 u4; have x5 := bcellv hb3 t5; have y5 := bcellv hb3 u5; have x6 := bcellv hb3 t6; have y6 := bcellv hb3 u6; have x7 := bcellv hb3 t7; have y7 := bcellv hb3 u7))
        go_ret
        exact ⟨by rw [decide_eq_false hno]; rfl, bw3⟩
      ·have Xe0 := Lib.hid e0
       have Xe1 := Lib.hid e1
       have Xe2 := Lib.hid e2
       have Xl2 := Lib.hid l2
       have Xl4 := Lib.hid l4
       clear e0 e1 e2 l2 l4
       have i5 : ((li.length : Int) != (li'.length : Int)) = true := bne_iff_ne.mpr (by omega)
       have hno : ¬ ((⟨th, fr, no, tr, po, li, ro, sw⟩ : St) = ⟨th', fr', no', tr', po', li', ro', sw'⟩) := fun e => l5 (by injection e with k0 k1 k2 k3 k4 k5 k6 k7; rw [k5])
       go_enter Tryz.func19, Tryz.ntmps19
       go_wp2_with (first | (go_at_call 54; refine (DA.out _ hbw).mono ?_; rintro e w1 ⟨rfl, hb1⟩; have bw1 := hbw.trans (hb1.mono hbw.size); have r0 := bcellv hb1 p0; have s0 := bcellv hb1 q0; have r1 := bcellv hb1 p1; have s1 := bcellv hb1 q1; have r2 := bcellv hb1 p2; have s2 := bcellv hb1 q2; have r3 := bcellv hb1 p3; have s3 := bcellv hb1 q3; have r4 := bcellv hb1 p4; have s4 := bcellv hb1 q4; have r5 := bcellv hb1 p5; have s5 := bcellv hb1 q5; have r6 := bcellv hb1 p6; have s6 := bcellv hb1 q6; have r7 := bcellv hb1 p7; have s7 := bcellv hb1 q7) | (go_at_call 55; refine (DT.out _ bw1).mono ?_; rintro e w2 ⟨rfl, hb2⟩; have bw2 := bw1.trans (hb2.mono bw1.size); have t0 := bcellv hb2 r0; have u0 := bcellv hb2 s0; have t1 := bcellv hb2 r1; have u1 := bcellv hb2 s1; have t2 := bcellv hb2 r2; have u2 := bcellv hb2 s2; have t3 := bcellv hb2 r3; have u3 := bcellv hb2 s3; have t4 := bcellv hb2 r4; have u4 := bcellv hb2 s4; have t5 := bcellv hb2 r5; have u5 := bcellv hb2 s5; have t6 := bcellv hb2 r6; have u6 := bcellv hb2 s6; have t7 := bcellv hb2 r7; have u7 := bcellv hb2 s7) | (go_at_call 56; refine (DI.out _ bw2).mono ?_; rintro e w3 ⟨rfl, hb3⟩; have bw3 := bw2.trans (hb3.mono bw2.size); have x0 := bcellv hb3 t0; have y0 := bcellv hb3 u0; have x1 := bcellv hb3 t1; have y1 := bcellv hb3 u1; have x2 := bcellv hb3 t2; have y2 := bcellv hb3 u2; have x3 := bcellv hb3 t3; have y3 := bcellv hb3 u3; have x4 := bcellv hb3 t4; have y4 := bcellv hb3 u4; have x5 := bcellv hb3 t5; have y5 := bcellv hb3 u5; have x6 := bcellv hb3 t6; have y6 := bcellv hb3 u6; have x7 := bcellv hb3 t7; have y7 := bcellv hb3 u7))
       go_ret
       exact ⟨by rw [decide_eq_false hno]; rfl, bw3⟩
     ·have Xe0 := Lib.hid e0
      have Xe1 := Lib.hid e1
      have Xe2 := Lib.hid e2
      have Xl2 := Lib.hid l2
      clear e0 e1 e2 l2
      have i4 : ((po.length : Int) != (po'.length : Int)) = true := bne_iff_ne.mpr (by omega)
      have hno : ¬ ((⟨th, fr, no, tr, po, li, ro, sw⟩ : St) = ⟨th', fr', no', tr', po', li', ro', sw'⟩) := fun e => l4 (by injection e with k0 k1 k2 k3 k4 k5 k6 k7; rw [k4])
      go_enter Tryz.func19, Tryz.ntmps19
      go_wp2_with (first | (go_at_call 54; refine (DA.out _ hbw).mono ?_; rintro e w1 ⟨rfl, hb1⟩; have bw1 := hbw.trans (hb1.mono hbw.size); have r0 := bcellv hb1 p0; have s0 := bcellv hb1 q0; have r1 := bcellv hb1 p1; have s1 := bcellv hb1 q1; have r2 := bcellv hb1 p2; have s2 := bcellv hb1 q2; have r3 := bcellv hb1 p3; have s3 := bcellv hb1 q3; have r4 := bcellv hb1 p4; have s4 := bcellv hb1 q4; have r5 := bcellv hb1 p5; have s5 := bcellv hb1 q5; have r6 := bcellv hb1 p6; have s6 := bcellv hb1 q6; have r7 := bcellv hb1 p7; have s7 := bcellv hb1 q7) | (go_at_call 55; refine (DT.out _ bw1).mono ?_; rintro e w2 ⟨rfl, hb2⟩; have bw2 := bw1.trans (hb2.mono bw1.size); have t0 := bcellv hb2 r0; have u0 := bcellv hb2 s0; have t1 := bcellv hb2 r1; have u1 := bcellv hb2 s1; have t2 := bcellv hb2 r2; have u2 := bcellv hb2 s2; have t3 := bcellv hb2 r3; have u3 := bcellv hb2 s3; have t4 := bcellv hb2 r4; have u4 := bcellv hb2 s4; have t5 := bcellv hb2 r5; have u5 := bcellv hb2 s5; have t6 := bcellv hb2 r6; have u6 := bcellv hb2 s6; have t7 := bcellv hb2 r7; have u7 := bcellv hb2 s7) | (go_at_call 56; refine (DI.out _ bw2).mono ?_; rintro e w3 ⟨rfl, hb3⟩; have bw3 := bw2.trans (hb3.mono bw2.size); have x0 := bcellv hb3 t0; have y0 := bcellv hb3 u0; have x1 := bcellv hb3 t1; have y1 := bcellv hb3 u1; have x2 := bcellv hb3 t2; have y2 := bcellv hb3 u2; have x3 := bcellv hb3 t3; have y3 := bcellv hb3 u3; have x4 := bcellv hb3 t4; have y4 := bcellv hb3 u4; have x5 := bcellv hb3 t5; have y5 := bcellv hb3 u5; have x6 := bcellv hb3 t6; have y6 := bcellv hb3 u6; have x7 := bcellv hb3 t7; have y7 := bcellv hb3 u7))
      go_ret
      exact ⟨by rw [decide_eq_false hno]; rfl, bw3⟩
    ·have Xe0 := Lib.hid e0
     have Xe1 := Lib.hid e1
     have Xe2 := Lib.hid e2
     clear e0 e1 e2
     have i2 : ((no.length : Int) != (no'.length : Int)) = true := bne_iff_ne.mpr (by omega)
     have hno : ¬ ((⟨th, fr, no, tr, po, li, ro, sw⟩ : St) = ⟨th', fr', no', tr', po', li', ro', sw'⟩) := fun e => l2 (by injection e with k0 k1 k2 k3 k4 k5 k6 k7; rw [k2])
     go_enter Tryz.func19, Tryz.ntmps19
     go_wp2_with (first | (go_at_call 54; refine (DA.out _ hbw).mono ?_; rintro e w1 ⟨rfl, hb1⟩; have bw1 := hbw.trans (hb1.mono hbw.size); have r0 := bcellv hb1 p0; have s0 := bcellv hb1 q0; have r1 := bcellv hb1 p1; have s1 := bcellv hb1 q1; have r2 := bcellv hb1 p2; have s2 := bcellv hb1 q2; have r3 := bcellv hb1 p3; have s3 := bcellv hb1 q3; have r4 := bcellv hb1 p4; have s4 := bcellv hb1 q4; have r5 := bcellv hb1 p5; have s5 := bcellv hb1 q5; have r6 := bcellv hb1 p6; have s6 := bcellv hb1 q6; have r7 := bcellv hb1 p7; have s7 := bcellv hb1 q7) | (go_at_call 55; refine (DT.out _ bw1).mono ?_; rintro e w2 ⟨rfl, hb2⟩; have bw2 := bw1.trans (hb2.mono bw1.size); have t0 := bcellv hb2 r0; have u0 := bcellv hb2 s0; have t1 := bcellv hb2 r1; have u1 := bcellv hb2 s1; have t2 := bcellv hb2 r2; have u2 := bcellv hb2 s2; have t3 := bcellv hb2 r3; have u3 := bcellv hb2 s3; have t4 := bcellv hb2 r4; have u4 := bcellv hb2 s4; have t5 := bcellv hb2 r5; have u5 := bcellv hb2 s5; have t6 := bcellv hb2 r6; have u6 := bcellv hb2 s6; have t7 := bcellv hb2 r7; have u7 := bcellv hb2 s7) | (go_at_call 56; refine (DI.out _ bw2).mono ?_; rintro e w3 ⟨rfl, hb3⟩; have bw3 := bw2.trans (hb3.mono bw2.size); have x0 := bcellv hb3 t0; have y0 := bcellv hb3 u0; have x1 := bcellv hb3 t1; have y1 := bcellv hb3 u1; have x2 := bcellv hb3 t2; have y2 := bcellv hb3 u2; have x3 := bcellv hb3 t3; have y3 := bcellv hb3 u3; have x4 := bcellv hb3 t4; have y4 := bcellv hb3 u4; have x5 := bcellv hb3 t5; have y5 := bcellv hb3 u5; have x6 := bcellv hb3 t6; have y6 := bcellv hb3 u6; have x7 := bcellv hb3 t7; have y7 := bcellv hb3 u7))
     go_ret
     exact ⟨by rw [decide_eq_false hno]; rfl, bw3⟩
   ·rw [decide_eq_false e2] at DI
    have Xe0 := Lib.hid e0
    have Xe1 := Lib.hid e1
    clear e0 e1
    have hno : ¬ ((⟨th, fr, no, tr, po, li, ro, sw⟩ : St) = ⟨th', fr', no', tr', po', li', ro', sw'⟩) := fun e => e2 (by injection e with k0 k1 k2 k3 k4 k5 k6 k7; first | done | exact k6)
    go_enter Tryz.func19, Tryz.ntmps19
    go_wp2_with (first | (go_at_call 54; refine (DA.out _ hbw).mono ?_; rintro e w1 ⟨rfl, hb1⟩; have bw1 := hbw.trans (hb1.mono hbw.size); have r0 := bcellv hb1 p0; have s0 := bcellv hb1 q0; have r1 := bcellv hb1 p1; have s1 := bcellv hb1 q1; have r2 := bcellv hb1 p2; have s2 := bcellv hb1 q2; have r3 := bcellv hb1 p3; have s3 := bcellv hb1 q3; have r4 := bcellv hb1 p4; have s4 := bcellv hb1 q4; have r5 := bcellv hb1 p5; have s5 := bcellv hb1 q5; have r6 := bcellv hb1 p6; have s6 := bcellv hb1 q6; have r7 := bcellv hb1 p7; have s7 := bcellv hb1 q7) | (go_at_call 55; refine (DT.out _ bw1).mono ?_; rintro e w2 ⟨rfl, hb2⟩; have bw2 := bw1.trans (hb2.mono bw1.size); have t0 := bcellv hb2 r0; have u0 := bcellv hb2 s0; have t1 := bcellv hb2 r1; have u1 := bcellv hb2 s1; have t2 := bcellv hb2 r2; have u2 := bcellv hb2 s2; have t3 := bcellv hb2 r3; have u3 := bcellv hb2 s3; have t4 := bcellv hb2 r4; have u4 := bcellv hb2 s4; have t5 := bcellv hb2 r5; have u5 := bcellv hb2 s5; have t6 := bcellv hb2 r6; have u6 := bcellv hb2 s6; have t7 := bcellv hb2 r7; have u7 := bcellv hb2 s7) | (go_at_call 56; refine (DI.out _ bw2).mono ?_; rintro e w3 ⟨rfl, hb3⟩; have bw3 := bw2.trans (hb3.mono bw2.size); have x0 := bcellv hb3 t0; have y0 := bcellv hb3 u0; have x1 := bcellv hb3 t1; have y1 := bcellv hb3 u1; have x2 := bcellv hb3 t2; have y2 := bcellv hb3 u2; have x3 := bcellv hb3 t3; have y3 := bcellv hb3 u3; have x4 := bcellv hb3 t4; have y4 := bcellv hb3 u4; have x5 := bcellv hb3 t5; have y5 := bcellv hb3 u5; have x6 := bcellv hb3 t6; have y6 := bcellv hb3 u6; have x7 := bcellv hb3 t7; have y7 := bcellv hb3 u7))
    go_ret
    exact ⟨by rw [decide_eq_false hno]; rfl, bw3⟩
  ·rw [decide_eq_false e1] at DT
   have Xe0 := Lib.hid e0
   clear e0
   have hno : ¬ ((⟨th, fr, no, tr, po, li, ro, sw⟩ : St) = ⟨th', fr', no', tr', po', li', ro', sw'⟩) := fun e => e1 (by injection e with k0 k1 k2 k3 k4 k5 k6 k7; first | done | exact k3)
   go_enter Tryz.func19, Tryz.ntmps19
   go_wp2_with (first | (go_at_call 54; refine (DA.out _ hbw).mono ?_; rintro e w1 ⟨rfl, hb1⟩; have bw1 := hbw.trans (hb1.mono hbw.size); have r0 := bcellv hb1 p0; have s0 := bcellv hb1 q0; have r1 := bcellv hb1 p1; have s1 := bcellv hb1 q1; have r2 := bcellv hb1 p2; have s2 := bcellv hb1 q2; have r3 := bcellv hb1 p3; have s3 := bcellv hb1 q3; have r4 := bcellv hb1 p4; have s4 := bcellv hb1 q4; have r5 := bcellv hb1 p5; have s5 := bcellv hb1 q5; have r6 := bcellv hb1 p6; have s6 := bcellv hb1 q6; have r7 := bcellv hb1 p7; have s7 := bcellv hb1 q7) | (go_at_call 55; refine (DT.out _ bw1).mono ?_; rintro e w2 ⟨rfl, hb2⟩; have bw2 := bw1.trans (hb2.mono bw1.size); have t0 := bcellv hb2 r0; have u0 := bcellv hb2 s0; have t1 := bcellv hb2 r1; have u1 := bcellv hb2 s1; have t2 := bcellv hb2 r2; have u2 := bcellv hb2 s2; have t3 := bcellv hb2 r3; have u3 := bcellv hb2 s3; have t4 := bcellv hb2 r4; have u4 := bcellv hb2 s4; have t5 := bcellv hb2 r5; have u5 := bcellv hb2 s5; have t6 := bcellv hb2 r6; have u6 := bcellv hb2 s6; have t7 := bcellv hb2 r7; have u7 := bcellv hb2 s7))
   go_ret
   exact ⟨by rw [decide_eq_false hno]; rfl, bw2⟩
 ·rw [decide_eq_false e0] at DA
  have hno : ¬ ((⟨th, fr, no, tr, po, li, ro, sw⟩ : St) = ⟨th', fr', no', tr', po', li', ro', sw'⟩) := fun e => e0 (by injection e with k0 k1 k2 k3 k4 k5 k6 k7; first | done | exact ⟨k0, k1⟩)
  go_enter Tryz.func19, Tryz.ntmps19
  go_wp2_with (first | (go_at_call 54; refine (DA.out _ hbw).mono ?_; rintro e w1 ⟨rfl, hb1⟩; have bw1 := hbw.trans (hb1.mono hbw.size); have r0 := bcellv hb1 p0; have s0 := bcellv hb1 q0; have r1 := bcellv hb1 p1; have s1 := bcellv hb1 q1; have r2 := bcellv hb1 p2; have s2 := bcellv hb1 q2; have r3 := bcellv hb1 p3; have s3 := bcellv hb1 q3; have r4 := bcellv hb1 p4; have s4 := bcellv hb1 q4; have r5 := bcellv hb1 p5; have s5 := bcellv hb1 q5; have r6 := bcellv hb1 p6; have s6 := bcellv hb1 q6; have r7 := bcellv hb1 p7; have s7 := bcellv hb1 q7))
  go_ret
  exact ⟨by rw [decide_eq_false hno]; rfl, bw1⟩
end Go.Proofs.YtmcjccigglekpaaGreatDoor.Given
namespace Go.Proofs.YtmcjccigglekpaaGreatDoor.Given
open Go Go.RowKit Go.Proofs Go.Proofs.YtmcjccigglekpaaGreatDoorW.PrintWords Go.Proofs.YtmcjccigglekpaaGreatDoorW.PrintLast Go.Proofs.YtmcjccigglekpaaGreatDoorW.PrintMore Go.Proofs.YtmcjccigglekpaaGreatDoor.P

def garrisonref17_Same.f (l0_0 : List S70) (l0_1 : List (List Int)) (l0_2 : List (List S87)) (l0_3 : List S76) (l0_4 : List S59) (l0_5 : List (List Int)) (l0_6 : List Int) (l0_7 : List S82) (l1_0 : List S70) (l1_1 : List (List Int)) (l1_2 : List (List S87)) (l1_3 : List S76) (l1_4 : List S59) (l1_5 : List (List Int)) (l1_6 : List Int) (l1_7 : List S82) : Option Bool := some (decide ((⟨l0_0, l0_1, l0_2, l0_3, l0_4, l0_5, l0_6, l0_7⟩ : St) = ⟨l1_0, l1_1, l1_2, l1_3, l1_4, l1_5, l1_6, l1_7⟩))
theorem garrisonref17_Same.calls (A0_0 : Option Addr) (c0_0 : Nat) (l0_0 : List S70) (A0_1 : Option Addr) (c0_1 : Nat) (l0_1 : List (List Int)) (A0_2 : Option Addr) (c0_2 : Nat) (l0_2 : List (List S87)) (A0_3 : Option Addr) (c0_3 : Nat) (l0_3 : List S76) (A0_4 : Option Addr) (c0_4 : Nat) (l0_4 : List S59) (A0_5 : Option Addr) (c0_5 : Nat) (l0_5 : List (List Int)) (A0_6 : Option Addr) (c0_6 : Nat) (l0_6 : List Int) (A0_7 : Option Addr) (c0_7 : Nat) (l0_7 : List S82) (A1_0 : Option Addr) (c1_0 : Nat) (l1_0 : List S70) (A1_1 : Option Addr) (c1_1 : Nat) (l1_1 : List (List Int)) (A1_2 : Option Addr) (c1_2 : Nat) (l1_2 : List (List S87)) (A1_3 : Option Addr) (c1_3 : Nat) (l1_3 : List S76) (A1_4 : Option Addr) (c1_4 : Nat) (l1_4 : List S59) (A1_5 : Option Addr) (c1_5 : Nat) (l1_5 : List (List Int)) (A1_6 : Option Addr) (c1_6 : Nat) (l1_6 : List Int) (A1_7 : Option Addr) (c1_7 : Nat) (l1_7 : List S82) (r : Bool) (w : World) (hr0_0 : Kd.C k70 w A0_0 l0_0.length l0_0) (hc0_0 : l0_0.length ≤ c0_0) (hr0_1 : Kd.C (Kd.slice 3 (Kd.int .i64)) w A0_1 l0_1.length l0_1) (hc0_1 : l0_1.length ≤ c0_1) (hr0_2 : Kd.C (Kd.slice 87 k87) w A0_2 l0_2.length l0_2) (hc0_2 : l0_2.length ≤ c0_2) (hr0_3 : Kd.C k76 w A0_3 l0_3.length l0_3) (hc0_3 : l0_3.length ≤ c0_3) (hr0_4 : Kd.C k59 w A0_4 l0_4.length l0_4) (hc0_4 : l0_4.length ≤ c0_4) (hr0_5 : Kd.C (Kd.slice 3 (Kd.int .i64)) w A0_5 l0_5.length l0_5) (hc0_5 : l0_5.length ≤ c0_5) (hr0_6 : Kd.C (Kd.int .i64) w A0_6 l0_6.length l0_6) (hc0_6 : l0_6.length ≤ c0_6) (hr0_7 : Kd.C k82 w A0_7 l0_7.length l0_7) (hc0_7 : l0_7.length ≤ c0_7) (hr1_0 : Kd.C k70 w A1_0 l1_0.length l1_0) (hc1_0 : l1_0.length ≤ c1_0) (hr1_1 : Kd.C (Kd.slice 3 (Kd.int .i64)) w A1_1 l1_1.length l1_1) (hc1_1 : l1_1.length ≤ c1_1) (hr1_2 : Kd.C (Kd.slice 87 k87) w A1_2 l1_2.length l1_2) (hc1_2 : l1_2.length ≤ c1_2) (hr1_3 : Kd.C k76 w A1_3 l1_3.length l1_3) (hc1_3 : l1_3.length ≤ c1_3) (hr1_4 : Kd.C k59 w A1_4 l1_4.length l1_4) (hc1_4 : l1_4.length ≤ c1_4) (hr1_5 : Kd.C (Kd.slice 3 (Kd.int .i64)) w A1_5 l1_5.length l1_5) (hc1_5 : l1_5.length ≤ c1_5) (hr1_6 : Kd.C (Kd.int .i64) w A1_6 l1_6.length l1_6) (hc1_6 : l1_6.length ≤ c1_6) (hr1_7 : Kd.C k82 w A1_7 l1_7.length l1_7) (hc1_7 : l1_7.length ≤ c1_7) (h : garrisonref17_Same.f l0_0 l0_1 l0_2 l0_3 l0_4 l0_5 l0_6 l0_7 l1_0 l1_1 l1_2 l1_3 l1_4 l1_5 l1_6 l1_7 = some r) :
  Calls Tryz.prog 19 #[.agg #[.slice A0_0 l0_0.length c0_0, .slice A0_1 l0_1.length c0_1, .slice A0_2 l0_2.length c0_2, .slice A0_3 l0_3.length c0_3, .slice A0_4 l0_4.length c0_4, .slice A0_5 l0_5.length c0_5, .slice A0_6 l0_6.length c0_6, .slice A0_7 l0_7.length c0_7], .agg #[.slice A1_0 l1_0.length c1_0, .slice A1_1 l1_1.length c1_1, .slice A1_2 l1_2.length c1_2, .slice A1_3 l1_3.length c1_3, .slice A1_4 l1_4.length c1_4, .slice A1_5 l1_5.length c1_5, .slice A1_6 l1_6.length c1_6, .slice A1_7 l1_7.length c1_7]] w fun e w' => e = .returned (.bool r) ∧ Below w.heap.size w w' := by
 obtain rfl := Option.some.inj h
 exact stateSame_calls ⟨A0_0, A0_1, A0_2, A0_3, A0_4, A0_5, A0_6, A0_7, c0_0, c0_1, c0_2, c0_3, c0_4, c0_5, c0_6, c0_7⟩ ⟨A1_0, A1_1, A1_2, A1_3, A1_4, A1_5, A1_6, A1_7, c1_0, c1_1, c1_2, c1_3, c1_4, c1_5, c1_6, c1_7⟩ ⟨l0_0, l0_1, l0_2, l0_3, l0_4, l0_5, l0_6, l0_7⟩ ⟨l1_0, l1_1, l1_2, l1_3, l1_4, l1_5, l1_6, l1_7⟩ w ⟨hr0_0, hr0_1, hr0_2, hr0_3, hr0_4, hr0_5, hr0_6, hr0_7, hc0_0, hc0_1, hc0_2, hc0_3, hc0_4, hc0_5, hc0_6, hc0_7⟩ ⟨hr1_0, hr1_1, hr1_2, hr1_3, hr1_4, hr1_5, hr1_6, hr1_7, hc1_0, hc1_1, hc1_2, hc1_3, hc1_4, hc1_5, hc1_6, hc1_7⟩
end Go.Proofs.YtmcjccigglekpaaGreatDoor.Given
namespace Go.Proofs.YtmcjccigglekpaaGreatDoor.Given
open Go Go.RowKit Go.Proofs Go.Proofs.YtmcjccigglekpaaGreatDoorW.PrintWords Go.Proofs.YtmcjccigglekpaaGreatDoorW.PrintLast Go.Proofs.YtmcjccigglekpaaGreatDoorW.PrintMore Go.Proofs.YtmcjccigglekpaaGreatDoor.P

theorem lv_state : stateB newS = true := by decide +kernel
theorem lv_wf : newS.wf := (wfB_iff _).1 (by decide +kernel)
theorem lv_parse : parseI (putT newS) = (newS, 0) := by decide +kernel
theorem lv_head : (parseI ⟨#[103, 97, 114, 114, 105, 115, 111, 110, 32, 49, 10]⟩).2 = 270 := by decide +kernel
theorem lv_size : 40 < (putT newS).size := by decide +kernel
theorem lv_start : (putT newS).extract 0 21 = ⟨#[103, 97, 114, 114, 105, 115, 111, 110, 32, 49, 10, 115, 105, 122, 101, 32, 51, 32, 49, 10, 116]⟩ := by
 have h : ((putT newS).extract 0 21).data.toList = [103, 97, 114, 114, 105, 115, 111, 110, 32, 49, 10, 115, 105, 122, 101, 32, 51, 32, 49, 10, 116] := by decide +kernel
 generalize (putT newS).extract 0 21 = x at *
 obtain ⟨x⟩ := x
 congr 1
 exact Array.toList_inj.1 h
/-- A state with one root alone. -/
def rootS : St := ⟨[], [], [], [], [], [], [1], []⟩
theorem lv_root : stateB rootS = false := by decide +kernel
end Go.Proofs.YtmcjccigglekpaaGreatDoor.Given
namespace Go.Proofs.YtmcjccigglekpaaGreatDoor.Given
open Go Go.RowKit Go.Proofs Go.Proofs.YtmcjccigglekpaaGreatDoorW.PrintWords Go.Proofs.YtmcjccigglekpaaGreatDoorW.PrintLast Go.Proofs.YtmcjccigglekpaaGreatDoorW.PrintMore Go.Proofs.YtmcjccigglekpaaGreatDoor.P

def image_Check.f (l0_0 : List S70) (l0_1 : List (List Int)) (l0_2 : List (List S87)) (l0_3 : List S76) (l0_4 : List S59) (l0_5 : List (List Int)) (l0_6 : List Int) (l0_7 : List S82) : Option Int := some (if stateB ⟨l0_0, l0_1, l0_2, l0_3, l0_4, l0_5, l0_6, l0_7⟩ = true then 0 else 2)
theorem image_Check.calls (A0_0 : Option Addr) (c0_0 : Nat) (l0_0 : List S70) (A0_1 : Option Addr) (c0_1 : Nat) (l0_1 : List (List Int)) (A0_2 : Option Addr) (c0_2 : Nat) (l0_2 : List (List S87)) (A0_3 : Option Addr) (c0_3 : Nat) (l0_3 : List S76) (A0_4 : Option Addr) (c0_4 : Nat) (l0_4 : List S59) (A0_5 : Option Addr) (c0_5 : Nat) (l0_5 : List (List Int)) (A0_6 : Option Addr) (c0_6 : Nat) (l0_6 : List Int) (A0_7 : Option Addr) (c0_7 : Nat) (l0_7 : List S82) (r : Int) (w : World) (hr0_0 : Kd.C k70 w A0_0 l0_0.length l0_0) (hc0_0 : l0_0.length ≤ c0_0) (hr0_1 : Kd.C (Kd.slice 3 (Kd.int .i64)) w A0_1 l0_1.length l0_1) (hc0_1 : l0_1.length ≤ c0_1) (hr0_2 : Kd.C (Kd.slice 87 k87) w A0_2 l0_2.length l0_2) (hc0_2 : l0_2.length ≤ c0_2) (hr0_3 : Kd.C k76 w A0_3 l0_3.length l0_3) (hc0_3 : l0_3.length ≤ c0_3) (hr0_4 : Kd.C k59 w A0_4 l0_4.length l0_4) (hc0_4 : l0_4.length ≤ c0_4) (hr0_5 : Kd.C (Kd.slice 3 (Kd.int .i64)) w A0_5 l0_5.length l0_5) (hc0_5 : l0_5.length ≤ c0_5) (hr0_6 : Kd.C (Kd.int .i64) w A0_6 l0_6.length l0_6) (hc0_6 : l0_6.length ≤ c0_6) (hr0_7 : Kd.C k82 w A0_7 l0_7.length l0_7) (hc0_7 : l0_7.length ≤ c0_7) (h : image_Check.f l0_0 l0_1 l0_2 l0_3 l0_4 l0_5 l0_6 l0_7 = some r) :
  Calls Tryz.prog 13 #[.agg #[.slice A0_0 l0_0.length c0_0, .slice A0_1 l0_1.length c0_1, .slice A0_2 l0_2.length c0_2, .slice A0_3 l0_3.length c0_3, .slice A0_4 l0_4.length c0_4, .slice A0_5 l0_5.length c0_5, .slice A0_6 l0_6.length c0_6, .slice A0_7 l0_7.length c0_7]] w fun e w' => e = .returned (.int .i64 r) ∧ Below w.heap.size w w' := by
 obtain rfl := Option.some.inj h
 exact image_Check_calls ⟨A0_0, A0_1, A0_2, A0_3, A0_4, A0_5, A0_6, A0_7, c0_0, c0_1, c0_2, c0_3, c0_4, c0_5, c0_6, c0_7⟩ ⟨l0_0, l0_1, l0_2, l0_3, l0_4, l0_5, l0_6, l0_7⟩ w ⟨hr0_0, hr0_1, hr0_2, hr0_3, hr0_4, hr0_5, hr0_6, hr0_7, hc0_0, hc0_1, hc0_2, hc0_3, hc0_4, hc0_5, hc0_6, hc0_7⟩
end Go.Proofs.YtmcjccigglekpaaGreatDoor.Given
namespace Go.Proofs.YtmcjccigglekpaaGreatDoor.Given
open Go Go.RowKit Go.Proofs Go.Proofs.YtmcjccigglekpaaGreatDoorW.PrintWords Go.Proofs.YtmcjccigglekpaaGreatDoorW.PrintLast Go.Proofs.YtmcjccigglekpaaGreatDoorW.PrintMore Go.Proofs.YtmcjccigglekpaaGreatDoor.P

theorem root_at (W : World) : Sv.At ⟨none, none, none, none, none, none, some ⟨W.heap.size, 0, none⟩, none, 0, 0, 0, 0, 0, 0, 1, 0⟩ rootS (W.alloc (.cells #[.int .i64 1] 3)) :=
 ⟨Kd.C_nil _ _, Kd.C_nil _ _, Kd.C_nil _ _, Kd.C_nil _ _, Kd.C_nil _ _, Kd.C_nil _ _, intRow (l := [1]) (T := 3) (by decide) (blk_new W _), Kd.C_nil _ _, Nat.le_refl _, Nat.le_refl _, Nat.le_refl _, Nat.le_refl _, Nat.le_refl _, Nat.le_refl _, Nat.le_refl _, Nat.le_refl _⟩
def garrisonlaw27_live.f : Option Bool := some true
set_option maxRecDepth 100000 in
set_option maxHeartbeats 8000000 in
theorem live_calls (w : World) (hG : GL w) : Calls Tryz.prog 9 #[] w fun e w' => e = .returned (.bool true) ∧ Below w.heap.size w w' := by
 have D1 := Lib.hid (new_calls w)
 have HG := Lib.hid hG
 have DN := Lib.hid (fun (n : Int) (w' : World) => garrisonlaw27_num.calls n n w' rfl)
 have DP := Lib.hid (fun (v : Sv) (w' : World) (h : v.At newS w') (hg : GL w') => image_Put_calls v newS w' h lv_wf hg)
 unfold PutPost at DP
 rw [if_pos lv_state, if_pos lv_state] at DP
 have DA := Lib.hid (fun (w' : World) (hg : GL w') => parse_calls (putT newS) w' (GLB.of hg))
 have DB := Lib.hid (fun (w' : World) (hg : GL w') => parse_calls ⟨#[103, 97, 114, 114, 105, 115, 111, 110, 32, 49, 10]⟩ w' (GLB.of hg))
 unfold ParsePost at DA DB
 rw [lv_parse] at DA
 rw [lv_head] at DB
 have DS := Lib.hid (fun (v v' : Sv) (w' : World) (h : v.At newS w') (h' : v'.At newS w') => stateSame_calls v v' newS newS w' h h')
 rw [decide_eq_true rfl] at DS
 have DC := Lib.hid (fun (v : Sv) (w' : World) (h : v.At newS w') => image_Check_calls v newS w' h)
 have DE := Lib.hid (fun (v : Sv) (w' : World) (h : v.At rootS w') => image_Check_calls v rootS w' h)
 rw [lv_state, if_pos rfl] at DC
 rw [lv_root, if_neg (by decide)] at DE
 have hsz := lv_size
 have hst := lv_start
 have hpos : ((putT newS).size : Int) > 40 := by omega
 have hd : decide (((putT newS).size : Int) > 40) = true := decide_eq_true hpos
 generalize putT newS = X at *
 clear hG
 go_enter Tryz.func9, Tryz.ntmps9
 go_wp2_with (first
  | (go_at_call 20; refine D1.out.mono ?_; clear D1; rintro e w1 ⟨h1, rfl, hr1, hb1⟩; obtain ⟨v, hv, ha⟩ := hr1.sv; obtain ⟨A0, A1, A2, A3, A4, A5, A6, A7, c0, c1, c2, c3, c4, c5, c6, c7⟩ := v; subst hv; have hB1 := blk_new w1 (.cells #[.slice A0 newS.th.length c0, .slice A1 newS.fr.length c1, .slice A2 newS.no.length c2, .slice A3 newS.tr.length c3, .slice A4 newS.po.length c4, .slice A5 newS.li.length c5, .slice A6 newS.ro.length c6, .slice A7 newS.sw.length c7] 32); have GB1 : Below w.heap.size w (w1.alloc (.cells #[.slice A0 newS.th.length c0, .slice A1 newS.fr.length c1, .slice A2 newS.no.length c2, .slice A3 newS.tr.length c3, .slice A4 newS.po.length c4, .slice A5 newS.li.length c5, .slice A6 newS.ro.length c6, .slice A7 newS.sw.length c7] 32)) := hb1.alloc hb1.size _; have HA := ha.below ((Below.refl w1.heap.size w1).alloc (Nat.le_refl _) (.cells #[.slice A0 newS.th.length c0, .slice A1 newS.fr.length c1, .slice A2 newS.no.length c2, .slice A3 newS.tr.length c3, .slice A4 newS.po.length c4, .slice A5 newS.li.length c5, .slice A6 newS.ro.length c6, .slice A7 newS.sw.length c7] 32)); have q0 := (blk_cell hB1 0).trans (show _ = some (Value.slice A0 newS.th.length c0) from rfl); have q1 := (blk_cell hB1 1).trans (show _ = some (Value.slice A1 newS.fr.length c1) from rfl); have q2 := (blk_cell hB1 2).trans (show _ = some (Value.slice A2 newS.no.length c2) from rfl); have q3 := (blk_cell hB1 3).trans (show _ = some (Value.slice A3 newS.tr.length c3) from rfl); have q4 := (blk_cell hB1 4).trans (show _ = some (Value.slice A4 newS.po.length c4) from rfl); have q5 := (blk_cell hB1 5).trans (show _ = some (Value.slice A5 newS.li.length c5) from rfl); have q6 := (blk_cell hB1 6).trans (show _ = some (Value.slice A6 newS.ro.length c6) from rfl); have q7 := (blk_cell hB1 7).trans (show _ = some (Value.slice A7 newS.sw.length c7) from rfl))
  | (go_at_call 10; refine (DP.out ⟨A0, A1, A2, A3, A4, A5, A6, A7, c0, c1, c2, c3, c4, c5, c6, c7⟩ _ HA (HG.out.below GB1)).mono ?_; clear DP; rintro e w2 ⟨rfl, hb2⟩; have GB2 := GB1.trans (hb2.mono GB1.size); have HA2 := HA.below hb2)
  | (go_at_call 15; (with_reducible refine (DA.out _ (HG.out.below GB2)).mono ?_); clear DA; rintro e w3 ⟨h3, rfl, hr3, hb3⟩; obtain ⟨v3, hv3, ha3⟩ := hr3.sv; obtain ⟨B0, B1, B2, B3, B4, B5, B6, B7, d0, d1, d2, d3, d4, d5, d6, d7⟩ := v3; subst hv3; have hB3 := blk_new w3 (.cells #[.slice B0 newS.th.length d0, .slice B1 newS.fr.length d1, .slice B2 newS.no.length d2, .slice B3 newS.tr.length d3, .slice B4 newS.po.length d4, .slice B5 newS.li.length d5, .slice B6 newS.ro.length d6, .slice B7 newS.sw.length d7] 32); have GB3 := (GB2.trans (hb3.mono GB2.size)).alloc (Nat.le_trans GB2.size hb3.size) (.cells #[.slice B0 newS.th.length d0, .slice B1 newS.fr.length d1, .slice B2 newS.no.length d2, .slice B3 newS.tr.length d3, .slice B4 newS.po.length d4, .slice B5 newS.li.length d5, .slice B6 newS.ro.length d6, .slice B7 newS.sw.length d7] 32); have HA3 := (HA2.below hb3).below ((Below.refl w3.heap.size w3).alloc (Nat.le_refl _) (.cells #[.slice B0 newS.th.length d0, .slice B1 newS.fr.length d1, .slice B2 newS.no.length d2, .slice B3 newS.tr.length d3, .slice B4 newS.po.length d4, .slice B5 newS.li.length d5, .slice B6 newS.ro.length d6, .slice B7 newS.sw.length d7] 32)); have HB3 := ha3.below ((Below.refl w3.heap.size w3).alloc (Nat.le_refl _) (.cells #[.slice B0 newS.th.length d0, .slice B1 newS.fr.length d1, .slice B2 newS.no.length d2, .slice B3 newS.tr.length d3, .slice B4 newS.po.length d4, .slice B5 newS.li.length d5, .slice B6 newS.ro.length d6, .slice B7 newS.sw.length d7] 32)))
  | (go_at_call 15; (with_reducible refine (DB.out _ (HG.out.below GB3)).mono ?_); clear DB; rintro e w4 ⟨h4, rfl, hr4, hb4⟩; obtain ⟨v4, hv4, ha4⟩ := hr4.sv; subst hv4; have hc := hb4.alloc hb4.size (.cells #[.slice v4.A0 (parseI ⟨#[103, 97, 114, 114, 105, 115, 111, 110, 32, 49, 10]⟩).1.th.length v4.c0, .slice v4.A1 (parseI ⟨#[103, 97, 114, 114, 105, 115, 111, 110, 32, 49, 10]⟩).1.fr.length v4.c1, .slice v4.A2 (parseI ⟨#[103, 97, 114, 114, 105, 115, 111, 110, 32, 49, 10]⟩).1.no.length v4.c2, .slice v4.A3 (parseI ⟨#[103, 97, 114, 114, 105, 115, 111, 110, 32, 49, 10]⟩).1.tr.length v4.c3, .slice v4.A4 (parseI ⟨#[103, 97, 114, 114, 105, 115, 111, 110, 32, 49, 10]⟩).1.po.length v4.c4, .slice v4.A5 (parseI ⟨#[103, 97, 114, 114, 105, 115, 111, 110, 32, 49, 10]⟩).1.li.length v4.c5, .slice v4.A6 (parseI ⟨#[103, 97, 114, 114, 105, 115, 111, 110, 32, 49, 10]⟩).1.ro.length v4.c6, .slice v4.A7 (parseI ⟨#[103, 97, 114, 114, 105, 115, 111, 110, 32, 49, 10]⟩).1.sw.length v4.c7] 32); have K1 := blk_below (blk_below (blk_below (blk_alloc (blk_below (blk_below hB1 hb2) hb3) (.cells #[.slice B0 newS.th.length d0, .slice B1 newS.fr.length d1, .slice B2 newS.no.length d2, .slice B3 newS.tr.length d3, .slice B4 newS.po.length d4, .slice B5 newS.li.length d5, .slice B6 newS.ro.length d6, .slice B7 newS.sw.length d7] 32)) (Below.refl _ _)) hc) (Below.refl _ _); have K3 := blk_below hB3 hc; clear q0 q1 q2 q3 q4 q5 q6 q7; have q0 := (blk_cell K1 0).trans (show _ = some (Value.slice A0 newS.th.length c0) from rfl); have q1 := (blk_cell K1 1).trans (show _ = some (Value.slice A1 newS.fr.length c1) from rfl); have q2 := (blk_cell K1 2).trans (show _ = some (Value.slice A2 newS.no.length c2) from rfl); have q3 := (blk_cell K1 3).trans (show _ = some (Value.slice A3 newS.tr.length c3) from rfl); have q4 := (blk_cell K1 4).trans (show _ = some (Value.slice A4 newS.po.length c4) from rfl); have q5 := (blk_cell K1 5).trans (show _ = some (Value.slice A5 newS.li.length c5) from rfl); have q6 := (blk_cell K1 6).trans (show _ = some (Value.slice A6 newS.ro.length c6) from rfl); have q7 := (blk_cell K1 7).trans (show _ = some (Value.slice A7 newS.sw.length c7) from rfl); have p0 := (blk_cell K3 0).trans (show _ = some (Value.slice B0 newS.th.length d0) from rfl); have p1 := (blk_cell K3 1).trans (show _ = some (Value.slice B1 newS.fr.length d1) from rfl); have p2 := (blk_cell K3 2).trans (show _ = some (Value.slice B2 newS.no.length d2) from rfl); have p3 := (blk_cell K3 3).trans (show _ = some (Value.slice B3 newS.tr.length d3) from rfl); have p4 := (blk_cell K3 4).trans (show _ = some (Value.slice B4 newS.po.length d4) from rfl); have p5 := (blk_cell K3 5).trans (show _ = some (Value.slice B5 newS.li.length d5) from rfl); have p6 := (blk_cell K3 6).trans (show _ = some (Value.slice B6 newS.ro.length d6) from rfl); have p7 := (blk_cell K3 7).trans (show _ = some (Value.slice B7 newS.sw.length d7) from rfl); have HA := HA3.below hc; have HB := HB3.below hc; have GB := GB3.trans (hc.mono GB3.size); clear hc ha4 hr4 hb4 K1 K3 HA2 HA3 HB3 GB3 GB2 hB1 hB3 ha3 hr3)
  | (go_at_call 12; refine (DN.out _ _).mono ?_; rintro e w5 ⟨rfl, hd5⟩; have hc := hd5.below; clear hd5; replace q0 := bcellv hc q0; replace p0 := bcellv hc p0; replace q1 := bcellv hc q1; replace p1 := bcellv hc p1; replace q2 := bcellv hc q2; replace p2 := bcellv hc p2; replace q3 := bcellv hc q3; replace p3 := bcellv hc p3; replace q4 := bcellv hc q4; replace p4 := bcellv hc p4; replace q5 := bcellv hc q5; replace p5 := bcellv hc p5; replace q6 := bcellv hc q6; replace p6 := bcellv hc p6; replace q7 := bcellv hc q7; replace p7 := bcellv hc p7; replace HA := HA.below hc; replace HB := HB.below hc; replace GB := GB.trans (hc.mono GB.size); clear hc)
  | (go_at_call 19; refine (DS.out ⟨A0, A1, A2, A3, A4, A5, A6, A7, c0, c1, c2, c3, c4, c5, c6, c7⟩ ⟨B0, B1, B2, B3, B4, B5, B6, B7, d0, d1, d2, d3, d4, d5, d6, d7⟩ _ HA HB).mono ?_; clear DS; rintro e w5 ⟨rfl, hc⟩; replace q0 := bcellv hc q0; replace p0 := bcellv hc p0; replace q1 := bcellv hc q1; replace p1 := bcellv hc p1; replace q2 := bcellv hc q2; replace p2 := bcellv hc p2; replace q3 := bcellv hc q3; replace p3 := bcellv hc p3; replace q4 := bcellv hc q4; replace p4 := bcellv hc p4; replace q5 := bcellv hc q5; replace p5 := bcellv hc p5; replace q6 := bcellv hc q6; replace p6 := bcellv hc p6; replace q7 := bcellv hc q7; replace p7 := bcellv hc p7; replace HA := HA.below hc; replace HB := HB.below hc; replace GB := GB.trans (hc.mono GB.size); clear hc)
  | (go_at_call 13; (with_reducible refine (DC.out ⟨A0, A1, A2, A3, A4, A5, A6, A7, c0, c1, c2, c3, c4, c5, c6, c7⟩ _ HA).mono ?_); clear DC; rintro e w5 ⟨rfl, hc⟩; replace q0 := bcellv hc q0; replace p0 := bcellv hc p0; replace q1 := bcellv hc q1; replace p1 := bcellv hc p1; replace q2 := bcellv hc q2; replace p2 := bcellv hc p2; replace q3 := bcellv hc q3; replace p3 := bcellv hc p3; replace q4 := bcellv hc q4; replace p4 := bcellv hc p4; replace q5 := bcellv hc q5; replace p5 := bcellv hc p5; replace q6 := bcellv hc q6; replace p6 := bcellv hc p6; replace q7 := bcellv hc q7; replace p7 := bcellv hc p7; replace HA := HA.below hc; replace HB := HB.below hc; replace GB := GB.trans (hc.mono GB.size); clear hc)
  | (go_at_call 13; refine (DE.out _ _ (root_at _)).mono ?_; clear DE; rintro e w5 ⟨rfl, hc2⟩; have hc := ((Below.refl _ _).alloc (Nat.le_refl _) _).trans (hc2.mono (by simp)); replace q0 := bcellv hc q0; replace p0 := bcellv hc p0; replace q1 := bcellv hc q1; replace p1 := bcellv hc p1; replace q2 := bcellv hc q2; replace p2 := bcellv hc p2; replace q3 := bcellv hc q3; replace p3 := bcellv hc p3; replace q4 := bcellv hc q4; replace p4 := bcellv hc p4; replace q5 := bcellv hc q5; replace p5 := bcellv hc p5; replace q6 := bcellv hc q6; replace p6 := bcellv hc p6; replace q7 := bcellv hc q7; replace p7 := bcellv hc p7; replace HA := HA.below hc; replace HB := HB.below hc; replace GB := GB.trans (hc.mono GB.size); clear hc))
 go_ret
 exact ⟨rfl, GB⟩
theorem garrisonlaw27_live.calls (r : Bool) (w : World) (hG : GL w) (h : garrisonlaw27_live.f = some r) : Calls Tryz.prog 9 #[] w fun e w' => e = .returned (.bool r) ∧ Below w.heap.size w w' := by
 obtain rfl := Option.some.inj h
 exact live_calls w hG
end Go.Proofs.YtmcjccigglekpaaGreatDoor.Given
