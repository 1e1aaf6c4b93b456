/- Texts of this seat, joined. -/
import Derived.Test.YtmcjccigglekpaaGreatDoorA6
import Derived.Test.YtmcjccigglekpaaGreatDoorA5
import Derived.Test.YtmcjccigglekpaaGreatDoorA4
import Derived.Carry
import Derived.StringKeys
import Derived.MapKept
import Derived.WideKeyMaps
import Derived.Maps.Keyed
import Derived.RangeFuncRecord
import Derived.WalkKit
import Derived.Outline
import Derived.Lib.Hide
import Derived.Laws.Rows
import Derived.Laws.BytesArg
import Derived.RangeFuncOwn
import Derived.Laws.Bits64b
import Derived.Test.YtmcjccigglekpaaGreatDoorProg
import Derived.RangeFuncFrom
import Derived.RangeFuncNested
import Derived.RangeFuncBound
import Derived.RangeFuncCalls
import Derived.RangeFuncLeaves
import Derived.Shelf.Abstract
import Derived.Shelf.RegionOpen
import Derived.OwnWalkIn
import Derived.TacticsInMore
import Derived.LoopNIn
import Derived.LoopIn
import Derived.Test.YtmcjccigglekpaaGreatDoorA3
import Derived.Test.YtmcjccigglekpaaGreatDoorA2
namespace Go.Proofs.YtmcjccigglekpaaGreatDoor.Given
open Go Go.RowKit Go.Proofs Go.Proofs.YtmcjccigglekpaaGreatDoorW.PrintWords Go.Proofs.YtmcjccigglekpaaGreatDoorW.PrintLast Go.Proofs.YtmcjccigglekpaaGreatDoorW.PrintMore Go.Proofs.YtmcjccigglekpaaGreatDoor.P Go.Proofs.YtmcjccigglekpaaGreatDoor.Plain
set_option linter.unusedVariables false
set_option linter.unusedSimpArgs false

theorem G_of (w a n : Nat) (hw : w < 18446744073709551616) (h1 : 1 ≤ n) (h2 : a + n ≤ 64) (W : World) :
  Calls Tryz.prog 153 #[.int .u64 (w : Int), .int .i64 (a : Int), .int .i64 (n : Int)] W fun e w' => e = .returned (.int .u64 ((getN w a n : Nat) : Int)) ∧ Drawn0 W w' :=
 bits_Get.calls _ _ _ _ W (Get_yes hw h1 h2)
def nArr (x0 x1 x2 x3 x4 : Int) : Nat → Array Value
 | 0 => #[.int .i64 0, .int .i64 0, .int .i64 0, .int .i64 0, .int .i64 0]
 | 1 => #[.int .i64 x0, .int .i64 0, .int .i64 0, .int .i64 0, .int .i64 0]
 | 2 => #[.int .i64 x0, .int .i64 x1, .int .i64 0, .int .i64 0, .int .i64 0]
 | 3 => #[.int .i64 x0, .int .i64 x1, .int .i64 x2, .int .i64 0, .int .i64 0]
 | 4 => #[.int .i64 x0, .int .i64 x1, .int .i64 x2, .int .i64 x3, .int .i64 0]
 | _ => #[.int .i64 x0, .int .i64 x1, .int .i64 x2, .int .i64 x3, .int .i64 x4]
theorem blk_newN {w : World} {o : Obj} {n : Nat} (h : w.heap.size = n) : (w.alloc o).heap[n]? = some o := h ▸ blk_new w o
theorem blk_drawn {w w1 : World} {g : Nat} {o : Obj} (h : w.heap[g]? = some o) (hd : Drawn0 w w1) : w1.heap[g]? = some o := blk_below h hd.below
set_option maxRecDepth 100000 in
set_option maxHeartbeats 4000000 in
theorem parse_walk (L : Int) (n0 n1 n2 n3 n4 : Nat) (w : World) (xw xe : Int) (q : Bool)
  (G0 : Hid (∀ W : World, Calls Tryz.prog 153 #[.int .u64 L, .int .i64 0, .int .i64 4] W fun e w' => e = .returned (.int .u64 (n0 : Int)) ∧ Drawn0 W w'))
  (G1 : Hid (∀ W : World, Calls Tryz.prog 153 #[.int .u64 L, .int .i64 4, .int .i64 4] W fun e w' => e = .returned (.int .u64 (n1 : Int)) ∧ Drawn0 W w'))
  (G2 : Hid (∀ W : World, Calls Tryz.prog 153 #[.int .u64 L, .int .i64 8, .int .i64 16] W fun e w' => e = .returned (.int .u64 (n2 : Int)) ∧ Drawn0 W w'))
  (G3 : Hid (∀ W : World, Calls Tryz.prog 153 #[.int .u64 L, .int .i64 24, .int .i64 10] W fun e w' => e = .returned (.int .u64 (n3 : Int)) ∧ Drawn0 W w'))
  (G4 : Hid (∀ W : World, Calls Tryz.prog 153 #[.int .u64 L, .int .i64 34, .int .i64 12] W fun e w' => e = .returned (.int .u64 (n4 : Int)) ∧ Drawn0 W w'))
  (h0 : (n0 : Int) < 16) (h1 : (n1 : Int) < 16) (h2 : (n2 : Int) < 65536) (h3 : (n3 : Int) < 1024) (h4 : (n4 : Int) < 4096)
  (Cw : Hid (∀ W, Calls Tryz.prog 64 #[.agg #[.int .i64 (n0 : Int), .int .i64 (n1 : Int), .int .i64 (n2 : Int), .int .i64 (n3 : Int), .int .i64 (n4 : Int)]] W fun e w' => e = .returned (.tuple #[.int .u64 xw, .int .i64 xe]) ∧ Below W.heap.size W w'))
  (Hq : Hid ((decide (xe ≠ 0) || decide (xw ≠ L)) = q))
  (rv : Array Value) (rr : Int) (HV : Hid ((rv, rr) = if q = false then ((#[.int .i64 (n0 : Int), .int .i64 (n1 : Int), .int .i64 (n2 : Int), .int .i64 (n3 : Int), .int .i64 (n4 : Int)] : Array Value), (0 : Int)) else ((#[.int .i64 0, .int .i64 0, .int .i64 0, .int .i64 0, .int .i64 0] : Array Value), (30 : Int)))) :
  Calls Tryz.prog 116 #[.int .u64 L] w fun e w' => e = .returned (.tuple #[.agg rv, .int .i64 rr]) ∧ Below w.heap.size w w' := by
 have X0 : Hid (∀ w : World, (Instr.index 172 (.agg #[.int .i64 0, .int .i64 4, .int .i64 4, .int .i64 4, .int .i64 8, .int .i64 16, .int .i64 24, .int .i64 10, .int .i64 34, .int .i64 12]) (.int .i64 0)).run Tryz.prog w = .ok (.agg #[.int .i64 0, .int .i64 4]) w) := Lib.hid (fun _ => by kernel_rfl)
 have X1 : Hid (∀ w : World, (Instr.index 172 (.agg #[.int .i64 0, .int .i64 4, .int .i64 4, .int .i64 4, .int .i64 8, .int .i64 16, .int .i64 24, .int .i64 10, .int .i64 34, .int .i64 12]) (.int .i64 1)).run Tryz.prog w = .ok (.agg #[.int .i64 4, .int .i64 4]) w) := Lib.hid (fun _ => by kernel_rfl)
 have X2 : Hid (∀ w : World, (Instr.index 172 (.agg #[.int .i64 0, .int .i64 4, .int .i64 4, .int .i64 4, .int .i64 8, .int .i64 16, .int .i64 24, .int .i64 10, .int .i64 34, .int .i64 12]) (.int .i64 2)).run Tryz.prog w = .ok (.agg #[.int .i64 8, .int .i64 16]) w) := Lib.hid (fun _ => by kernel_rfl)
 have X3 : Hid (∀ w : World, (Instr.index 172 (.agg #[.int .i64 0, .int .i64 4, .int .i64 4, .int .i64 4, .int .i64 8, .int .i64 16, .int .i64 24, .int .i64 10, .int .i64 34, .int .i64 12]) (.int .i64 3)).run Tryz.prog w = .ok (.agg #[.int .i64 24, .int .i64 10]) w) := Lib.hid (fun _ => by kernel_rfl)
 have X4 : Hid (∀ w : World, (Instr.index 172 (.agg #[.int .i64 0, .int .i64 4, .int .i64 4, .int .i64 4, .int .i64 8, .int .i64 16, .int .i64 24, .int .i64 10, .int .i64 34, .int .i64 12]) (.int .i64 4)).run Tryz.prog w = .ok (.agg #[.int .i64 34, .int .i64 12]) w) := Lib.hid (fun _ => by kernel_rfl)
 go_enter Tryz.func116, Tryz.ntmps116
 go_wp2_with (go_at_call 103; (with_reducible refine (fields_calls _).mono ?_); rintro e w2 ⟨rfl, hb⟩; have HB2 := Aside0.mk (below_step (show Below w.heap.size w _ by go_grown) hb); have HN := Aside0.mk (show w2.heap[w.heap.size + 1]? = some (.cells (nArr n0 n1 n2 n3 n4 0) 174 (0, 0)) from blk_below (blk_newN (by simp)) hb); have HR := Aside0.mk (show w2.heap[w.heap.size]? = some (.cells #[.int .i64 0, .int .i64 0, .int .i64 0, .int .i64 0, .int .i64 0] 87 (0, 0)) from blk_below (blk_alloc (blk_newN rfl) _) hb); clear hb)
 go_loopw [11] (fun i wr => ∃ k : Int, 0 ≤ k ∧ k ≤ 5 ∧ i = .int .i64 k ∧ Aside0 (wr.heap[w.heap.size + 1]? = some (.cells (nArr n0 n1 n2 n3 n4 k.toNat) 174 (0, 0))) ∧ Aside0 (wr.heap[w.heap.size]? = some (.cells #[.int .i64 0, .int .i64 0, .int .i64 0, .int .i64 0, .int .i64 0] 87 (0, 0))) ∧ Aside0 (Below w.heap.size w wr)) (fun i _ => 5 - (intOf i).toNat)
 case atStart => exact ⟨0, by omega, by omega, rfl, HN, HR, HB2⟩
 case round =>
  clear HN HR HB2
  obtain ⟨k, hk0, hk5, rfl, HN, HR, HB⟩ := hrel
  by_cases hlt : k < 5
  ·obtain rfl | rfl | rfl | rfl | rfl : k = 0 ∨ k = 1 ∨ k = 2 ∨ k = 3 ∨ k = 4 := by omega
   ·have X := X0.out
    clear X0 X1 X2 X3 X4
    have y0 : IntKind.i64.wrap (n0 : Int) = (n0 : Int) := by rw [IntKind.wrap_i64]; omega
    go_wp2_with (go_at_call 153; (with_reducible refine (G0.out _).mono ?_); rintro e w3 ⟨rfl, hd⟩; have HN3 := Aside0.mk (blk_drawn (blk_alloc HN.out _) hd); have HR3 := Aside0.mk (blk_drawn (blk_alloc HR.out _) hd); have HB3 := Aside0.mk (below_step (below_alloc HB.out _) hd.below); have hc3 : w3.cell? ⟨w.heap.size + 1, 0, none⟩ = some (.int .i64 0) := (blk_cell HN3.out 0).trans rfl; have hf3 := blk_frozen HN3.out 0; clear hd)
    exact ⟨⟨1, by decide, by decide, rfl, Aside0.mk (blk_set HN3.out 0 _), Aside0.mk (blk_far HR3.out (by simp) _), Aside0.mk (HB3.out.setCell (by simp) _)⟩, by decide⟩
   ·have X := X1.out
    clear X0 X1 X2 X3 X4
    have y0 : IntKind.i64.wrap (n1 : Int) = (n1 : Int) := by rw [IntKind.wrap_i64]; omega
    go_wp2_with (go_at_call 153; (with_reducible refine (G1.out _).mono ?_); rintro e w3 ⟨rfl, hd⟩; have HN3 := Aside0.mk (blk_drawn (blk_alloc HN.out _) hd); have HR3 := Aside0.mk (blk_drawn (blk_alloc HR.out _) hd); have HB3 := Aside0.mk (below_step (below_alloc HB.out _) hd.below); have hc3 : w3.cell? ⟨w.heap.size + 1, 1, none⟩ = some (.int .i64 0) := (blk_cell HN3.out 1).trans rfl; have hf3 := blk_frozen HN3.out 1; clear hd)
    exact ⟨⟨2, by decide, by decide, rfl, Aside0.mk (blk_set HN3.out 1 _), Aside0.mk (blk_far HR3.out (by simp) _), Aside0.mk (HB3.out.setCell (by simp) _)⟩, by decide⟩
   ·have X := X2.out
    clear X0 X1 X2 X3 X4
    have y0 : IntKind.i64.wrap (n2 : Int) = (n2 : Int) := by rw [IntKind.wrap_i64]; omega
    go_wp2_with (go_at_call 153; (with_reducible refine (G2.out _).mono ?_); rintro e w3 ⟨rfl, hd⟩; have HN3 := Aside0.mk (blk_drawn (blk_alloc HN.out _) hd); have HR3 := Aside0.mk (blk_drawn (blk_alloc HR.out _) hd); have HB3 := Aside0.mk (below_step (below_alloc HB.out _) hd.below); have hc3 : w3.cell? ⟨w.heap.size + 1, 2, none⟩ = some (.int .i64 0) := (blk_cell HN3.out 2).trans rfl; have hf3 := blk_frozen HN3.out 2; clear hd)
    exact ⟨⟨3, by decide, by decide, rfl, Aside0.mk (blk_set HN3.out 2 _), Aside0.mk (blk_far HR3.out (by simp) _), Aside0.mk (HB3.out.setCell (by simp) _)⟩, by decide⟩
   ·have X := X3.out
    clear X0 X1 X2 X3 X4
    have y0 : IntKind.i64.wrap (n3 : Int) = (n3 : Int) := by rw [IntKind.wrap_i64]; omega
    go_wp2_with (go_at_call 153; (with_reducible refine (G3.out _).mono ?_); rintro e w3 ⟨rfl, hd⟩; have HN3 := Aside0.mk (blk_drawn (blk_alloc HN.out _) hd); have HR3 := Aside0.mk (blk_drawn (blk_alloc HR.out _) hd); have HB3 := Aside0.mk (below_step (below_alloc HB.out _) hd.below); have hc3 : w3.cell? ⟨w.heap.size + 1, 3, none⟩ = some (.int .i64 0) := (blk_cell HN3.out 3).trans rfl; have hf3 := blk_frozen HN3.out 3; clear hd)
    exact ⟨⟨4, by decide, by decide, rfl, Aside0.mk (blk_set HN3.out 3 _), Aside0.mk (blk_far HR3.out (by simp) _), Aside0.mk (HB3.out.setCell (by simp) _)⟩, by decide⟩
   ·have X := X4.out
    clear X0 X1 X2 X3 X4
    have y0 : IntKind.i64.wrap (n4 : Int) = (n4 : Int) := by rw [IntKind.wrap_i64]; omega
    go_wp2_with (go_at_call 153; (with_reducible refine (G4.out _).mono ?_); rintro e w3 ⟨rfl, hd⟩; have HN3 := Aside0.mk (blk_drawn (blk_alloc HN.out _) hd); have HR3 := Aside0.mk (blk_drawn (blk_alloc HR.out _) hd); have HB3 := Aside0.mk (below_step (below_alloc HB.out _) hd.below); have hc3 : w3.cell? ⟨w.heap.size + 1, 4, none⟩ = some (.int .i64 0) := (blk_cell HN3.out 4).trans rfl; have hf3 := blk_frozen HN3.out 4; clear hd)
    exact ⟨⟨5, by decide, by decide, rfl, Aside0.mk (blk_set HN3.out 4 _), Aside0.mk (blk_far HR3.out (by simp) _), Aside0.mk (HB3.out.setCell (by simp) _)⟩, by decide⟩
  ·obtain rfl : k = 5 := by omega
   clear G0 G1 G2 G3 G4 X0 X1 X2 X3 X4 hlt hk0 hk5
   have HN' : wr.heap[w.heap.size + 1]? = some (.cells #[.int .i64 (n0 : Int), .int .i64 (n1 : Int), .int .i64 (n2 : Int), .int .i64 (n3 : Int), .int .i64 (n4 : Int)] 174 (0, 0)) := HN.out
   have m0 : wr.cell? ⟨w.heap.size + 1, 0, none⟩ = some (.int .i64 (n0 : Int)) := (blk_cell HN' 0).trans rfl
   have m1 : wr.cell? ⟨w.heap.size + 1, 1, none⟩ = some (.int .i64 (n1 : Int)) := (blk_cell HN' 1).trans rfl
   have m2 : wr.cell? ⟨w.heap.size + 1, 2, none⟩ = some (.int .i64 (n2 : Int)) := (blk_cell HN' 2).trans rfl
   have m3 : wr.cell? ⟨w.heap.size + 1, 3, none⟩ = some (.int .i64 (n3 : Int)) := (blk_cell HN' 3).trans rfl
   have m4 : wr.cell? ⟨w.heap.size + 1, 4, none⟩ = some (.int .i64 (n4 : Int)) := (blk_cell HN' 4).trans rfl
   have HS := Lib.hid (blk_lt HN')
   clear HN' HN
   have hq := Hq.out
   have hV := HV.out
   by_cases he : xe = 0
   ·subst he
    by_cases hx : xw = L
    ·subst hx
     have hq0 : q = false := by rw [← hq]; simp
     subst hq0
     rw [if_pos rfl] at hV
     obtain ⟨rfl, rfl⟩ := Prod.mk.injEq .. ▸ hV
     clear hq Hq HV hV
     go_wp2_with (go_at_call 64; (with_reducible refine (Cw.out _).mono ?_); clear Cw; rintro e w3 ⟨rfl, hb⟩; have HB3 := Aside0.mk (below_step (below_alloc HB.out _) hb); have HR3 := blk_below (blk_alloc HR.out _) hb; have hr0 : w3.cell? ⟨w.heap.size, 0, none⟩ = some (.int .i64 0) := (blk_cell HR3 0).trans rfl; have hr1 : w3.cell? ⟨w.heap.size, 1, none⟩ = some (.int .i64 0) := (blk_cell HR3 1).trans rfl; have hr2 : w3.cell? ⟨w.heap.size, 2, none⟩ = some (.int .i64 0) := (blk_cell HR3 2).trans rfl; have hr3 : w3.cell? ⟨w.heap.size, 3, none⟩ = some (.int .i64 0) := (blk_cell HR3 3).trans rfl; have hr4 : w3.cell? ⟨w.heap.size, 4, none⟩ = some (.int .i64 0) := (blk_cell HR3 4).trans rfl; have hrf0 := blk_frozen HR3 0; have hrf1 := blk_frozen HR3 1; have hrf2 := blk_frozen HR3 2; have hrf3 := blk_frozen HR3 3; have hrf4 := blk_frozen HR3 4; have HRA := Aside0.mk HR3; have HT := blk_below (blk_new wr (.cells #[.int .i64 (n0 : Int), .int .i64 (n1 : Int), .int .i64 (n2 : Int), .int .i64 (n3 : Int), .int .i64 (n4 : Int)] 87 (0, 0))) hb; have ht0 : w3.cell? ⟨wr.heap.size, 0, none⟩ = some (.int .i64 (n0 : Int)) := (blk_cell HT 0).trans rfl; have ht1 : w3.cell? ⟨wr.heap.size, 1, none⟩ = some (.int .i64 (n1 : Int)) := (blk_cell HT 1).trans rfl; have ht2 : w3.cell? ⟨wr.heap.size, 2, none⟩ = some (.int .i64 (n2 : Int)) := (blk_cell HT 2).trans rfl; have ht3 : w3.cell? ⟨wr.heap.size, 3, none⟩ = some (.int .i64 (n3 : Int)) := (blk_cell HT 3).trans rfl; have ht4 : w3.cell? ⟨wr.heap.size, 4, none⟩ = some (.int .i64 (n4 : Int)) := (blk_cell HT 4).trans rfl; clear HR3 HT hb)
     refine bodyPost_ret (v := .tuple #[.agg #[.int .i64 (n0 : Int), .int .i64 (n1 : Int), .int .i64 (n2 : Int), .int .i64 (n3 : Int), .int .i64 (n4 : Int)], .int .i64 0]) ?_ rfl ⟨rfl, ?_⟩
     ·have hres : Tryz.f116.results = #[.cell 2 87, .tmp 3] := rfl
      simp only [results, hres]
      go_simp
     ·have hB3 := HB3.out
      go_grown
    ·have bx : (xw == L) = false := beq_eq_false_iff_ne.mpr hx
     have bx2 : (xw != L) = true := bne_iff_ne.mpr hx
     have hq0 : q = true := by rw [← hq]; simp [hx]
     subst hq0
     rw [if_neg (by simp)] at hV
     obtain ⟨rfl, rfl⟩ := Prod.mk.injEq .. ▸ hV
     clear hq Hq HV hV hx
     go_wp2_with (go_at_call 64; (with_reducible refine (Cw.out _).mono ?_); clear Cw; rintro e w3 ⟨rfl, hb⟩; have HB3 := Aside0.mk (below_step (below_alloc HB.out _) hb); have HR3 := blk_below (blk_alloc HR.out _) hb; have hr0 : w3.cell? ⟨w.heap.size, 0, none⟩ = some (.int .i64 0) := (blk_cell HR3 0).trans rfl; have hr1 : w3.cell? ⟨w.heap.size, 1, none⟩ = some (.int .i64 0) := (blk_cell HR3 1).trans rfl; have hr2 : w3.cell? ⟨w.heap.size, 2, none⟩ = some (.int .i64 0) := (blk_cell HR3 2).trans rfl; have hr3 : w3.cell? ⟨w.heap.size, 3, none⟩ = some (.int .i64 0) := (blk_cell HR3 3).trans rfl; have hr4 : w3.cell? ⟨w.heap.size, 4, none⟩ = some (.int .i64 0) := (blk_cell HR3 4).trans rfl; have hrf0 := blk_frozen HR3 0; have hrf1 := blk_frozen HR3 1; have hrf2 := blk_frozen HR3 2; have hrf3 := blk_frozen HR3 3; have hrf4 := blk_frozen HR3 4; have HRA := Aside0.mk HR3; have HT := blk_below (blk_new wr (.cells #[.int .i64 (n0 : Int), .int .i64 (n1 : Int), .int .i64 (n2 : Int), .int .i64 (n3 : Int), .int .i64 (n4 : Int)] 87 (0, 0))) hb; have ht0 : w3.cell? ⟨wr.heap.size, 0, none⟩ = some (.int .i64 (n0 : Int)) := (blk_cell HT 0).trans rfl; have ht1 : w3.cell? ⟨wr.heap.size, 1, none⟩ = some (.int .i64 (n1 : Int)) := (blk_cell HT 1).trans rfl; have ht2 : w3.cell? ⟨wr.heap.size, 2, none⟩ = some (.int .i64 (n2 : Int)) := (blk_cell HT 2).trans rfl; have ht3 : w3.cell? ⟨wr.heap.size, 3, none⟩ = some (.int .i64 (n3 : Int)) := (blk_cell HT 3).trans rfl; have ht4 : w3.cell? ⟨wr.heap.size, 4, none⟩ = some (.int .i64 (n4 : Int)) := (blk_cell HT 4).trans rfl; clear HR3 HT hb)
     refine bodyPost_ret (v := .tuple #[.agg #[.int .i64 0, .int .i64 0, .int .i64 0, .int .i64 0, .int .i64 0], .int .i64 30]) ?_ rfl ⟨rfl, ?_⟩
     ·have hres : Tryz.f116.results = #[.cell 2 87, .tmp 3] := rfl
      simp only [results, hres]
      go_simp
     ·have hB3 := HB3.out
      go_grown
   ·have be : (xe == 0) = false := beq_eq_false_iff_ne.mpr he
    have be2 : (xe != 0) = true := bne_iff_ne.mpr he
    have hq0 : q = true := by rw [← hq]; simp [he]
    subst hq0
    rw [if_neg (by simp)] at hV
    obtain ⟨rfl, rfl⟩ := Prod.mk.injEq .. ▸ hV
    clear hq Hq HV hV he
    go_wp2_with (go_at_call 64; (with_reducible refine (Cw.out _).mono ?_); clear Cw; rintro e w3 ⟨rfl, hb⟩; have HB3 := Aside0.mk (below_step (below_alloc HB.out _) hb); have HR3 := blk_below (blk_alloc HR.out _) hb; have hr0 : w3.cell? ⟨w.heap.size, 0, none⟩ = some (.int .i64 0) := (blk_cell HR3 0).trans rfl; have hr1 : w3.cell? ⟨w.heap.size, 1, none⟩ = some (.int .i64 0) := (blk_cell HR3 1).trans rfl; have hr2 : w3.cell? ⟨w.heap.size, 2, none⟩ = some (.int .i64 0) := (blk_cell HR3 2).trans rfl; have hr3 : w3.cell? ⟨w.heap.size, 3, none⟩ = some (.int .i64 0) := (blk_cell HR3 3).trans rfl; have hr4 : w3.cell? ⟨w.heap.size, 4, none⟩ = some (.int .i64 0) := (blk_cell HR3 4).trans rfl; have hrf0 := blk_frozen HR3 0; have hrf1 := blk_frozen HR3 1; have hrf2 := blk_frozen HR3 2; have hrf3 := blk_frozen HR3 3; have hrf4 := blk_frozen HR3 4; have HRA := Aside0.mk HR3; have HT := blk_below (blk_new wr (.cells #[.int .i64 (n0 : Int), .int .i64 (n1 : Int), .int .i64 (n2 : Int), .int .i64 (n3 : Int), .int .i64 (n4 : Int)] 87 (0, 0))) hb; have ht0 : w3.cell? ⟨wr.heap.size, 0, none⟩ = some (.int .i64 (n0 : Int)) := (blk_cell HT 0).trans rfl; have ht1 : w3.cell? ⟨wr.heap.size, 1, none⟩ = some (.int .i64 (n1 : Int)) := (blk_cell HT 1).trans rfl; have ht2 : w3.cell? ⟨wr.heap.size, 2, none⟩ = some (.int .i64 (n2 : Int)) := (blk_cell HT 2).trans rfl; have ht3 : w3.cell? ⟨wr.heap.size, 3, none⟩ = some (.int .i64 (n3 : Int)) := (blk_cell HT 3).trans rfl; have ht4 : w3.cell? ⟨wr.heap.size, 4, none⟩ = some (.int .i64 (n4 : Int)) := (blk_cell HT 4).trans rfl; clear HR3 HT hb)
    refine bodyPost_ret (v := .tuple #[.agg #[.int .i64 0, .int .i64 0, .int .i64 0, .int .i64 0, .int .i64 0], .int .i64 30]) ?_ rfl ⟨rfl, ?_⟩
    ·have hres : Tryz.f116.results = #[.cell 2 87, .tmp 3] := rfl
     simp only [results, hres]
     go_simp
    ·have hB3 := HB3.out
     go_grown
/-- A word's numbers. -/
def parseN (w : Nat) : Nat × Nat × Nat × Nat × Nat := (getN w 0 4, getN w 4 4, getN w 8 16, getN w 24 10, getN w 34 12)
/-- Is a word a capability's? -/
def wordOk (w : Nat) : Bool := capOk (getN w 0 4 : Nat) (getN w 4 4 : Nat) (getN w 8 16 : Nat) (getN w 24 10 : Nat) (getN w 34 12 : Nat) && (wordN (getN w 0 4) (getN w 4 4) (getN w 8 16) (getN w 24 10) (getN w 34 12) == w)
def cap_Parse.f (L : Int) : Option (Int × Int × Int × Int × Int × Int) :=
 if 0 ≤ L ∧ L < 18446744073709551616 then some (if wordOk L.toNat = true then ((getN L.toNat 0 4 : Nat), (getN L.toNat 4 4 : Nat), (getN L.toNat 8 16 : Nat), (getN L.toNat 24 10 : Nat), (getN L.toNat 34 12 : Nat), 0) else (0, 0, 0, 0, 0, 30)) else none
theorem cap_Parse.calls (L : Int) (r1 r2 r3 r4 r5 r6 : Int) (w : World) (h : cap_Parse.f L = some (r1, r2, r3, r4, r5, r6)) :
  Calls Tryz.prog 116 #[.int .u64 L] w fun e w' => e = .returned (.tuple #[.agg #[.int .i64 r1, .int .i64 r2, .int .i64 r3, .int .i64 r4, .int .i64 r5], .int .i64 r6]) ∧ Below w.heap.size w w' := by
 unfold cap_Parse.f at h
 by_cases hL : 0 ≤ L ∧ L < 18446744073709551616
 ·rw [if_pos hL] at h
  have h := Option.some.inj h
  obtain ⟨n, rfl⟩ := Int.eq_ofNat_of_zero_le hL.1
  have hn : n < 18446744073709551616 := by omega
  rw [Int.toNat_natCast] at h
  have b0 := getN_lt n 0 4
  have b1 := getN_lt n 4 4
  have b2 := getN_lt n 8 16
  have b3 := getN_lt n 24 10
  have b4 := getN_lt n 34 12
  have hw : ∀ W, Calls Tryz.prog 64 #[.agg #[.int .i64 ((getN n 0 4 : Nat) : Int), .int .i64 ((getN n 4 4 : Nat) : Int), .int .i64 ((getN n 8 16 : Nat) : Int), .int .i64 ((getN n 24 10 : Nat) : Int), .int .i64 ((getN n 34 12 : Nat) : Int)]] W fun e w' =>
    e = .returned (.tuple #[.int .u64 (if capOk (getN n 0 4 : Nat) (getN n 4 4 : Nat) (getN n 8 16 : Nat) (getN n 24 10 : Nat) (getN n 34 12 : Nat) = true then ((wordN (getN n 0 4) (getN n 4 4) (getN n 8 16) (getN n 24 10) (getN n 34 12) : Nat) : Int) else 0), .int .i64 (if capOk (getN n 0 4 : Nat) (getN n 4 4 : Nat) (getN n 8 16 : Nat) (getN n 24 10 : Nat) (getN n 34 12 : Nat) = true then 0 else 30)]) ∧ Below W.heap.size W w' := fun W => by
   refine cap_Word.calls _ _ _ _ _ _ _ W ?_
   unfold cap_Word.f
   simp only [Int.toNat_natCast]
   split <;> rfl
  refine parse_walk (n : Int) (getN n 0 4) (getN n 4 4) (getN n 8 16) (getN n 24 10) (getN n 34 12) w _ _ (!(wordOk n)) (Lib.hid (G_of n 0 4 hn (by decide) (by decide))) (Lib.hid (G_of n 4 4 hn (by decide) (by decide))) (Lib.hid (G_of n 8 16 hn (by decide) (by decide))) (Lib.hid (G_of n 24 10 hn (by decide) (by decide))) (Lib.hid (G_of n 34 12 hn (by decide) (by decide))) (by omega) (by omega) (by omega) (by omega) (by omega) (Lib.hid hw) (Lib.hid ?_) #[.int .i64 r1, .int .i64 r2, .int .i64 r3, .int .i64 r4, .int .i64 r5] r6 (Lib.hid ?_)
  ·unfold wordOk
   cases hc : capOk (getN n 0 4 : Nat) (getN n 4 4 : Nat) (getN n 8 16 : Nat) (getN n 24 10 : Nat) (getN n 34 12 : Nat) with
   | false => simp
   | true =>
    simp only [if_true]
    by_cases he : wordN (getN n 0 4) (getN n 4 4) (getN n 8 16) (getN n 24 10) (getN n 34 12) = n
    ·simp [he]
    ·have he' : ¬ ((wordN (getN n 0 4) (getN n 4 4) (getN n 8 16) (getN n 24 10) (getN n 34 12) : Nat) : Int) = (n : Int) := by omega
     simp [he, he']
  ·cases hk : wordOk n with
   | true =>
    rw [hk, if_pos rfl] at h
    simp only [Prod.mk.injEq] at h
    obtain ⟨rfl, rfl, rfl, rfl, rfl, rfl⟩ := h
    rfl
   | false =>
    rw [hk, if_neg (by simp)] at h
    simp only [Prod.mk.injEq] at h
    obtain ⟨rfl, rfl, rfl, rfl, rfl, rfl⟩ := h
    rfl
 ·rw [if_neg hL] at h
  cases h
end Go.Proofs.YtmcjccigglekpaaGreatDoor.Given
namespace Go.Proofs.YtmcjccigglekpaaGreatDoor.Given
open Go Go.RowKit Go.Proofs Go.Proofs.YtmcjccigglekpaaGreatDoorW.PrintWords Go.Proofs.YtmcjccigglekpaaGreatDoorW.PrintLast Go.Proofs.YtmcjccigglekpaaGreatDoorW.PrintMore Go.Proofs.YtmcjccigglekpaaGreatDoor.P Go.Proofs.YtmcjccigglekpaaGreatDoor.Plain

/-- A word's capability, and the error. -/
def capOf (v : Int) : S87 := if wordOk v.toNat = true then ⟨(getN v.toNat 0 4 : Nat), (getN v.toNat 4 4 : Nat), (getN v.toNat 8 16 : Nat), (getN v.toNat 24 10 : Nat), (getN v.toNat 34 12 : Nat)⟩ else zcap
def capErr (v : Int) : Int := if wordOk v.toNat = true then 0 else 30
theorem cap_Parse_of (v : Int) (hv : 0 ≤ v ∧ v < 18446744073709551616) : cap_Parse.f v = some ((capOf v).f0, (capOf v).f1, (capOf v).f2, (capOf v).f3, (capOf v).f4, capErr v) := by
 unfold cap_Parse.f capOf capErr zcap
 rw [if_pos hv]
 cases wordOk v.toNat <;> rfl
def SlotOk (v e : Int) (k : S74) (s : St) : Prop := e = 0 ∧ capErr v = 0 ∧ 0 ≤ k.f0 ∧ k.f0 < s.no.length ∧ 0 ≤ k.f1 ∧ k.f1 < (s.no.getD k.f0.toNat []).length
instance (v e : Int) (k : S74) (s : St) : Decidable (SlotOk v e k s) := by unfold SlotOk; infer_instance
def stepSlot (v e : Int) (ws : List ByteArray) (s : St) (p : Int) : Option (St × Int) :=
 if ws.length = 2 then (if keyOk (wI ws 0) = true ∧ SlotOk v e (keyI (wI ws 0)) s then some ({ s with no := s.no.set (keyI (wI ws 0)).f0.toNat ((s.no.getD (keyI (wI ws 0)).f0.toNat []).set (keyI (wI ws 0)).f1.toNat (capOf v)) }, p) else none) else none

set_option maxRecDepth 100000 in
set_option maxHeartbeats 4000000 in
theorem rd_slot {B r : Nat} {h : Rv} {s : St} {p : Int} {wv nv : Value} {w : World} {ws : List ByteArray} {ns : List Int} (H : Rd B r h s p false wv nv w) (L : Line w wv nv ws ns) (hG : GLB B w) (hw : ∀ i, (wI ws i).size ≤ 1000000)
  (kk : Nat) (v e1 : Int) (hbp : bits_Parse.f kk (wI ws 1) = some (v, e1)) (hv : 0 ≤ v ∧ v < 18446744073709551616) :
  Calls Tryz.prog 80 #[.pointer (some ⟨r, 0, none⟩)] w (RdPost B r (stepSlot v e1 ws s p) w) := by
 generalize hoo : stepSlot v e1 ws s p = oo
 have HOO := Lib.hid hoo
 clear hoo
 obtain ⟨A, c, A', c', rfl, rfl, hW, hN⟩ := L.get
 have hlt := H.lt
 by_cases h8 : ws.length = 2
 ·obtain ⟨ad, rfl, _⟩ := hW 0 (by omega) w (Rest.refl w)
  have xW1 : ∀ W, Rest w W → W.cell? ⟨ad.block, ad.off + 1, none⟩ = some (.string (wI ws 1)) := fun W hr => by
   obtain ⟨q, e, hx⟩ := hW 1 (by omega) W hr
   obtain rfl := Option.some.inj e
   rwa [add_pos _ 1 (by decide)] at hx
  have Dn := Lib.hid (rd_need_ok H 2 (by omega))
  have HH := Lib.hid H
  have hcp := cap_Parse_of v hv
  have HE : Hid (oo = if keyOk (wI ws 0) = true ∧ SlotOk v e1 (keyI (wI ws 0)) s then some ({ s with no := s.no.set (keyI (wI ws 0)).f0.toNat ((s.no.getD (keyI (wI ws 0)).f0.toNat []).set (keyI (wI ws 0)).f1.toNat (capOf v)) }, p) else none) := Lib.hid (by rw [← HOO.out]; unfold stepSlot; rw [if_pos h8])
  have HSO : Hid (∀ k, SlotOk v e1 k s ↔ e1 = 0 ∧ capErr v = 0 ∧ 0 ≤ k.f0 ∧ k.f0 < s.no.length ∧ 0 ≤ k.f1 ∧ k.f1 < (s.no.getD k.f0.toNat []).length) := Lib.hid (fun k => Iff.rfl)
  have Dk := Lib.hid (fun w2 (H2 : Rd B r h s p false (.slice (some ad) ws.length c) (.slice A' ws.length c') w2) (hr : But (fun k => k = r) w w2) => rd_keyAt' H2 (hG.on (H.toBelow hr)).here 0 0 rfl (by omega) (hW 0 (by omega) w2 (H.rest hr)) (hw 0))
  have Db := Lib.hid (fun w' => bits_Parse.calls kk (wI ws 1) v e1 w' hbp)
  have Dc := Lib.hid (fun w' => cap_Parse.calls v _ _ _ _ _ _ w' hcp)
  have XW := Lib.hid xW1
  generalize keyOk (wI ws 0) = ok at *
  generalize keyI (wI ws 0) = kq at *
  obtain ⟨q0, q1⟩ := kq
  generalize capErr v = ec at *
  generalize capOf v = cv at *
  obtain ⟨v0, v1, v2, v3, v4⟩ := cv
  dsimp only at Dk Dc HE
  have C8 := Lib.hid (fun (W : World) (bad' : Bool) (hb : W.heap[r]? = some (.cells (h.cells (.slice (some ad) ws.length c) (.slice A' ws.length c') p bad') 106 (0, 0))) => ((blk_cell hb 8).trans rfl : W.cell? ⟨r, 8, none⟩ = some (.slice (some ad) ws.length c)))
  clear hN hW H L hG hw HOO xW1 hbp hv hcp
  go_enter Tryz.func80, Tryz.ntmps80
  go_wp2_with (first
   | (go_at_call 111; (with_reducible refine Dn.out.mono ?_); clear Dn; rintro e w2 ⟨rfl, H2, F2⟩)
   | (go_at_call 114; (with_reducible refine (Dk.out w2 H2 F2).mono ?_); clear Dk; rintro e w3 ⟨rfl, H3, F3⟩; have F3' := F2.trans F3; have x1 := XW.out _ ((HH.out.rest F3').alloc (.cells #[.int .i64 q0, .int .i64 q1] 74)); have k8 := C8.out _ _ (blk_alloc H3.blk (.cells #[.int .i64 q0, .int .i64 q1] 74)))
   | (go_at_call 115; (with_reducible refine (Db.out _).mono ?_); clear Db; rintro e w4 ⟨rfl, hd4⟩)
   | (go_at_call 116; (with_reducible refine (Dc.out _).mono ?_); clear Dc; rintro e w5 ⟨rfl, hb5⟩))
  have hb3 := blk_new w3 (.cells #[.int .i64 q0, .int .i64 q1] 74)
  have B4 : Below (w3.alloc (.cells #[.int .i64 q0, .int .i64 q1] 74)).heap.size (w3.alloc (.cells #[.int .i64 q0, .int .i64 q1] 74)) w4 := hd4.below
  have B5 := B4.trans (hb5.mono B4.size)
  have B6 := B5.alloc B5.size (.cells #[.int .i64 v0, .int .i64 v1, .int .i64 v2, .int .i64 v3, .int .i64 v4] 87)
  have hkb := blk_below hb3 B6
  have hcb := blk_new w5 (.cells #[.int .i64 v0, .int .i64 v1, .int .i64 v2, .int .i64 v3, .int .i64 v4] 87)
  have hq := (H3.alloc (.cells #[.int .i64 q0, .int .i64 q1] 74)).below B6
  have fq := (F3'.alloc (.cells #[.int .i64 q0, .int .i64 q1] 74)).below B6
  generalize w5.alloc (.cells #[.int .i64 v0, .int .i64 v1, .int .i64 v2, .int .i64 v3, .int .i64 v4] 87) = wq at *
  clear hb3 B4 B5 B6 hb5 hd4 x1 k8 F3' F3 H3 F2 H2
  generalize w3.heap.size = kb at *
  generalize w5.heap.size = cb at *
  rw [Bool.false_or] at hq
  have HQ := Lib.hid hq
  have FQ := Lib.hid fq
  have HNO : Hid (¬ (e1 = 0 ∧ ec = 0 ∧ 0 ≤ q0 ∧ q0 < s.no.length ∧ 0 ≤ q1 ∧ q1 < (s.no.getD q0.toNat []).length) → oo = if true = true then none else some (s, p)) := Lib.hid (fun hn => by rw [HE.out, if_neg (fun hh => hn ((HSO.out _).1 hh.2))]; rfl)
  have kc0 := (blk_cell hkb 0).trans (show _ = some (Value.int .i64 q0) from rfl)
  have kc1 := (blk_cell hkb 1).trans (show _ = some (Value.int .i64 q1) from rfl)
  have k11 := (blk_cell hq.blk 11).trans (show _ = some (Value.bool (!ok)) from rfl)
  have f11 := blk_frozen hq.blk 11
  obtain ⟨⟨A2, c2, e2, hl2⟩, _⟩ := rd_rows_reads hq
  have k2 := (blk_cell hq.blk 2).trans (show _ = some h.v2 from rfl)
  rw [e2] at k2
  have HE2 := Lib.hid e2
  clear fq e2 hl2
  by_cases hok : ¬ (e1 = 0 ∧ ec = 0 ∧ 0 ≤ q0 ∧ q0 < s.no.length ∧ 0 ≤ q1)
  ·clear hq
   have hcase : e1 ≠ 0 ∨ e1 = 0 ∧ (ec ≠ 0 ∨ ec = 0 ∧ (q0 < 0 ∨ ¬ q0 < 0 ∧ ((s.no.length : Int) ≤ q0 ∨ ¬ (s.no.length : Int) ≤ q0 ∧ q1 < 0))) := by omega
   have HNK := Lib.hid hok
   clear hok
   rcases hcase with c1 | ⟨rfl, c2 | ⟨rfl, c3 | ⟨c3, c4 | ⟨c4, c5⟩⟩⟩⟩
   ·have b1 : (e1 != 0) = true := bne_iff_ne.mpr c1
    go_quiet (fail)
    rename_i nq
    go_wp2
    go_end0
    have d1 := (HQ.out.below (pw_below_drewN (Below.refl _ _) nq)).setBad true
    have d2 := (FQ.out.drewN nq).set 11 (.bool true) (.inl (rfl : r = r))
    exact RdPost.yes d1 (HH.out.toBelow d2) (HH.out.rest d2) (HNO.out (by have := HNK.out; omega))
   ·have b1 : ((0 : Int) != 0) = false := rfl
    have b2 : (ec != 0) = true := bne_iff_ne.mpr c2
    go_quiet (fail)
    rename_i nq
    go_wp2
    go_end0
    have d1 := (HQ.out.below (pw_below_drewN (Below.refl _ _) nq)).setBad true
    have d2 := (FQ.out.drewN nq).set 11 (.bool true) (.inl (rfl : r = r))
    exact RdPost.yes d1 (HH.out.toBelow d2) (HH.out.rest d2) (HNO.out (by have := HNK.out; omega))
   ·have b1 : ((0 : Int) != 0) = false := rfl
    have b3 : decide (q0 < 0) = true := decide_eq_true c3
    go_quiet (fail)
    rename_i nq
    go_wp2
    go_end0
    have d1 := (HQ.out.below (pw_below_drewN (Below.refl _ _) nq)).setBad true
    have d2 := (FQ.out.drewN nq).set 11 (.bool true) (.inl (rfl : r = r))
    exact RdPost.yes d1 (HH.out.toBelow d2) (HH.out.rest d2) (HNO.out (by have := HNK.out; omega))
   ·have b1 : ((0 : Int) != 0) = false := rfl
    have b3 : decide (q0 < 0) = false := decide_eq_false c3
    have b4 : decide ((s.no.length : Int) ≤ q0) = true := decide_eq_true c4
    go_quiet (fail)
    rename_i nq
    go_wp2
    go_end0
    have d1 := (HQ.out.below (pw_below_drewN (Below.refl _ _) nq)).setBad true
    have d2 := (FQ.out.drewN nq).set 11 (.bool true) (.inl (rfl : r = r))
    exact RdPost.yes d1 (HH.out.toBelow d2) (HH.out.rest d2) (HNO.out (by have := HNK.out; omega))
   ·have b1 : ((0 : Int) != 0) = false := rfl
    have b3 : decide (q0 < 0) = false := decide_eq_false c3
    have b4 : decide ((s.no.length : Int) ≤ q0) = false := decide_eq_false c4
    have b5 : decide (q1 < 0) = true := decide_eq_true c5
    go_quiet (fail)
    rename_i nq
    go_wp2
    go_end0
    have d1 := (HQ.out.below (pw_below_drewN (Below.refl _ _) nq)).setBad true
    have d2 := (FQ.out.drewN nq).set 11 (.bool true) (.inl (rfl : r = r))
    exact RdPost.yes d1 (HH.out.toBelow d2) (HH.out.rest d2) (HNO.out (by have := HNK.out; omega))
  ·have hok' := Decidable.of_not_not hok
   clear hok
   obtain ⟨rfl, rfl, o0, o1, o2⟩ := hok'
   obtain ⟨o, rfl⟩ := Int.eq_ofNat_of_zero_le o0
   obtain ⟨j, rfl⟩ := Int.eq_ofNat_of_zero_le o2
   have ho2 : o < s.no.length := by omega
   obtain ⟨col, hrows⟩ := HH.out.rows
   obtain ⟨g, cap, hv2, hBg, hgl, cells, hgb⟩ := Kd.S_form hrows.r2 (by omega)
   have hcg : col g = 2 := (Kd.S_R hrows.r2).1 g (by rw [hv2]; simp [Value.ownBlock])
   have hgr : g ≠ r := fun e => by have := hrows.cr; rw [← e, hcg] at this; omega
   have HS0 := hrows.r2
   rw [hv2] at HS0
   obtain ⟨oki, cc, hcl, hM, hcc, hfr, hoki, hH⟩ := Kd.S_elem HS0 [] (o : Int) (by omega) (by omega)
   rw [Int.toNat_natCast] at hM hcc hfr
   rw [Int.toNat_natCast, Int.toNat_natCast] at HE
   rw [Int.toNat_natCast] at HNO
   generalize hrow : s.no.getD o [] = row at *
   obtain ⟨vi, rfl, hR2⟩ := hM
   have hc2 : w.cell? ⟨g, o, none⟩ = some vi := by have := hcc 0 vi rfl; rw [show o * (Kd.slice 87 k87).sz + 0 = o by show o * 1 + 0 = o; omega] at this; exact this
   have CA : wq.cell? ⟨g, o, none⟩ = some vi := (blk_cell ((FQ.out.block g hgl hgr).trans hgb) o).trans ((blk_cell hgb o).symm.trans hc2)
   have h2q : h.v2 = .slice A2 s.no.length c2 := HE2.out
   rw [hv2] at h2q
   obtain ⟨rfl, rfl⟩ : A2 = some ⟨g, 0, none⟩ ∧ c2 = cap := by injection h2q with a1 _ a3; exact ⟨a1.symm, a3.symm⟩
   clear h2q
   obtain ⟨Ai, ci, rfl, hli, _⟩ := Kd.R_reads hR2
   have i2 : decide (0 ≤ (o : Int)) = true := decide_eq_true (by omega)
   have j2 : decide (o < s.no.length) = true := decide_eq_true ho2
   have b1 : ((0 : Int) != 0) = false := rfl
   have b3 : decide ((o : Int) < 0) = false := decide_eq_false (by omega)
   have b4 : decide ((s.no.length : Int) ≤ (o : Int)) = false := decide_eq_false (by omega)
   have b4' : decide (s.no.length ≤ o) = false := decide_eq_false (by omega)
   have b5 : decide ((j : Int) < 0) = false := decide_eq_false (by omega)
   by_cases h6 : j < row.length
   ·have b6 : decide ((row.length : Int) ≤ (j : Int)) = false := decide_eq_false (by omega)
    have b6' : decide (row.length ≤ j) = false := decide_eq_false (by omega)
    have i3 : decide (0 ≤ (j : Int)) = true := decide_eq_true (by omega)
    have j3 : decide (j < row.length) = true := decide_eq_true h6
    obtain ⟨gi, cpi, hvi, hBi, hgil, cqi, hgib⟩ := Kd.R_form hR2 (by omega)
    obtain ⟨rfl, rfl⟩ : Ai = some ⟨gi, 0, none⟩ ∧ ci = cpi := by injection hvi with a1 _ a3; exact ⟨a1, a3⟩
    have hoi := hR2.1 gi (by simp [Value.ownBlock])
    have hgig : gi ≠ g := (hoki gi hoi).2
    have hcgi : col gi = 2 := (hoki gi hoi).1
    have hgir : gi ≠ r := fun e => by have := hrows.cr; rw [← e, hcgi] at this; omega
    have hH2 := Kd.H_mono hH (ok' := fun k => newCol col w.heap.size 2 k = 2) (fun k hk => by unfold newCol; split; exact hk; rfl)
    have hn2 : ∀ k, newCol col w.heap.size 2 k = 2 → k ≠ r := fun k hk e => by subst e; rw [newCol_lt hlt, hrows.cr] at hk; omega
    have RA := Lib.hid (fun (W : World) (F : But (fun k => k = r) w W) => (Kd.R_mono (Kd.R_step (Kd.R_bound hR2) (fun k hk hl => F.block k hl (fun e => by subst e; have := (hoki _ hk.1).1; have := hrows.cr; omega))) (fun _ hk => hk.1) : Kd.R k87 87 W B oki (.slice (some ⟨gi, 0, none⟩) row.length ci) row))
    have HA := Lib.hid (fun (W : World) (F : But (fun k => k = r) w W) => (Kd.H_step hH2 (fun k hk _ hl => F.block k hl (hn2 k hk)) : Kd.H (Kd.slice 87 k87) 56 W B (fun k => newCol col w.heap.size 2 k = 2) (.slice (some ⟨g, 0, none⟩) s.no.length c2) s.no (o : Int) oki [.slice (some ⟨gi, 0, none⟩) row.length ci]))
    have HQB := Lib.hid hq.blk
    have HK := Lib.hid hkb
    have HC := Lib.hid hcb
    have HRO := Lib.hid hrows
    have HV2 := Lib.hid hv2
    have HGB := Lib.hid hgib
    have HCA := Lib.hid CA
    have HR := Lib.hid hR2
    have HROW := Lib.hid hrow
    have HOK := Lib.hid hoki
    clear hq hrows hv2 HS0 hcc hfr hH hH2 hn2 hR2 hgib hrow hoki hvi hcb hkb o0 o1 o2 hc2
    go_quiet (fail)
    rename_i nq
    go_wp2_with fail
    obtain ⟨wd, hwd⟩ : ∃ wd, (World.drewN wq nq).drew = wd := ⟨_, rfl⟩
    have F3 : But (fun k => k = r) w wd := hwd ▸ (FQ.out.drewN nq).drew
    have hbd := blk_drew (blk_drewN HQB.out nq)
    rw [hwd] at hbd
    have hkd := blk_drew (blk_drewN HK.out nq)
    rw [hwd] at hkd
    have hcd := blk_drew (blk_drewN HC.out nq)
    rw [hwd] at hcd
    have hgd : wd.heap[g]? = _ := (F3.block g hgl hgr).trans hgb
    refine wp_region_sch (fun w' => w'.cell? ⟨r, 2, none⟩ = some (.slice (some ⟨g, 0, none⟩) s.no.length c2) ∧ w'.cell? ⟨kb, 0, none⟩ = some (.int .i64 (o : Int)) ∧ w'.cell? ⟨kb, 1, none⟩ = some (.int .i64 (j : Int)) ∧ w'.cell? ⟨g, o, none⟩ = some (.slice (some ⟨gi, 0, none⟩) row.length ci) ∧ w'.cell? ⟨cb, 0, none⟩ = some (.int .i64 v0) ∧ w'.cell? ⟨cb, 1, none⟩ = some (.int .i64 v1) ∧ w'.cell? ⟨cb, 2, none⟩ = some (.int .i64 v2) ∧ w'.cell? ⟨cb, 3, none⟩ = some (.int .i64 v3) ∧ w'.cell? ⟨cb, 4, none⟩ = some (.int .i64 v4)) 13 [(false, 0), (false, 1), (false, 2), (false, 3), (false, 4), (false, 5), (false, 6), (false, 7), (false, 8), (false, 9), (false, 10), (false, 11), (false, 12)] (by kernel_rfl) (by kernel_rfl) (fun _ a d _ _ h => by cases d <;> exact h) wd hwd ⟨(blk_cell hbd 2).trans (by rw [← HV2.out]; rfl), (blk_cell hkd 0).trans rfl, (blk_cell hkd 1).trans rfl, (blk_cell hgd o).trans ((blk_cell ((FQ.out.block g hgl hgr).trans hgb) o).symm.trans HCA.out), (blk_cell hcd 0).trans rfl, (blk_cell hcd 1).trans rfl, (blk_cell hcd 2).trans rfl, (blk_cell hcd 3).trans rfl, (blk_cell hcd 4).trans rfl⟩ ?_
    clear hwd
    try dsimp only
    repeat (refine' sch_pure rfl rfl ?_ ?_; rotate_left; · (rintro w' ⟨s0, s1, s2, s3, s4, s5, s6, s7, s8⟩; go_simp <;> rfl)
            simp only [Act.put, List.setIfInBounds_toArray, List.set_cons_zero, List.set_cons_succ])
    have HRd := RA.out wd F3
    obtain ⟨cp, hcpl, hcpM, hcpc, hcpf⟩ := Kd.R_elem HRd zcap (j : Int) (by omega) (by omega)
    rw [Int.toNat_natCast] at hcpM hcpc hcpf
    have hcp5 : cp.length = 5 := hcpl
    obtain ⟨u0, y0⟩ : ∃ u, wd.cell? ⟨gi, j * 5, none⟩ = some u := ⟨_, hcpc 0 _ (List.getElem?_eq_getElem (by omega))⟩
    obtain ⟨u1, y1⟩ : ∃ u, wd.cell? ⟨gi, j * 5 + 1, none⟩ = some u := ⟨_, hcpc 1 _ (List.getElem?_eq_getElem (by omega))⟩
    obtain ⟨u2, y2⟩ : ∃ u, wd.cell? ⟨gi, j * 5 + 2, none⟩ = some u := ⟨_, hcpc 2 _ (List.getElem?_eq_getElem (by omega))⟩
    obtain ⟨u3, y3⟩ : ∃ u, wd.cell? ⟨gi, j * 5 + 3, none⟩ = some u := ⟨_, hcpc 3 _ (List.getElem?_eq_getElem (by omega))⟩
    obtain ⟨u4, y4⟩ : ∃ u, wd.cell? ⟨gi, j * 5 + 4, none⟩ = some u := ⟨_, hcpc 4 _ (List.getElem?_eq_getElem (by omega))⟩
    have z0 : wd.frozen? ⟨gi, j * 5, none⟩ = false := hcpf 0
    have z1 : wd.frozen? ⟨gi, j * 5 + 1, none⟩ = false := hcpf 1
    have z2 : wd.frozen? ⟨gi, j * 5 + 2, none⟩ = false := hcpf 2
    have z3 : wd.frozen? ⟨gi, j * 5 + 3, none⟩ = false := hcpf 3
    have z4 : wd.frozen? ⟨gi, j * 5 + 4, none⟩ = false := hcpf 4
    have hN1 := Kd.R_seg HRd (j : Int) (by omega) (by omega) (c := cp) (seg := [.int .i64 v0, .int .i64 v1, .int .i64 v2, .int .i64 v3, .int .i64 v4]) (j := 0) hcpl (by rw [Int.toNat_natCast]; exact hcpc) (show 0 + 5 ≤ 5 by omega) (x' := ⟨v0, v1, v2, v3, v4⟩) (okp := fun _ => False) (by
     have hz : cp.take 0 ++ [Value.int .i64 v0, .int .i64 v1, .int .i64 v2, .int .i64 v3, .int .i64 v4] ++ cp.drop (0 + [Value.int .i64 v0, .int .i64 v1, .int .i64 v2, .int .i64 v3, .int .i64 v4].length) = [.int .i64 v0, .int .i64 v1, .int .i64 v2, .int .i64 v3, .int .i64 v4] := by
      match cp, hcp5 with
      | [_, _, _, _, _], _ => rfl
     rw [hz]; exact k87_mkM _ _ _ ⟨v0, v1, v2, v3, v4⟩) (fun _ hk => hk.elim)
    rw [Int.toNat_natCast] at hN1
    have HN1 := Lib.hid hN1
    clear hN1 hcpc hcpf hcpM hcpl
    refine sch_last rfl (fun K hK => ?_)
    go_simp
    refine hK.out _ _ ?_
    go_wp2
    go_end0
    obtain ⟨hR9, hg9⟩ := HN1.out
    have T1 := Kd.H_back (Kd.H_grown (HA.out wd F3) hg9 (fun k hk => by injection hk with hk; exact hk ▸ hoi)) (Kd.M_row hR9) (fun k hk => hk)
    rw [Int.toNat_natCast, ← HV2.out] at T1
    have F6 : But (fun k => k = r ∨ k = gi) w (((((wd.setCell ⟨gi, j * 5, none⟩ (.int .i64 v0)).setCell ⟨gi, j * 5 + 1, none⟩ (.int .i64 v1)).setCell ⟨gi, j * 5 + 2, none⟩ (.int .i64 v2)).setCell ⟨gi, j * 5 + 3, none⟩ (.int .i64 v3)).setCell ⟨gi, j * 5 + 4, none⟩ (.int .i64 v4)) := (((((F3.mono (fun k hk => .inl hk)).set _ _ (.inl (.inr rfl))).set _ _ (.inl (.inr rfl))).set _ _ (.inl (.inr rfl))).set _ _ (.inl (.inr rfl))).set _ _ (.inl (.inr rfl))
    have hR6 := HRO.out.put2 HH.out.lt (F6.mono (fun k hk => hk.elim .inl (fun e => .inr (e ▸ hcgi)))) T1
    have hb9 := blk_far (blk_far (blk_far (blk_far (blk_far hbd (p := ⟨gi, j * 5, none⟩) (Ne.symm hgir) (.int .i64 v0)) (p := ⟨gi, j * 5 + 1, none⟩) (Ne.symm hgir) (.int .i64 v1)) (p := ⟨gi, j * 5 + 2, none⟩) (Ne.symm hgir) (.int .i64 v2)) (p := ⟨gi, j * 5 + 3, none⟩) (Ne.symm hgir) (.int .i64 v3)) (p := ⟨gi, j * 5 + 4, none⟩) (Ne.symm hgir) (.int .i64 v4)
    have hRd : Rd B r h { s with no := s.no.set o (row.set j ⟨v0, v1, v2, v3, v4⟩) } p (!ok) (.slice (some ad) ws.length c) (.slice A' ws.length c') (((((wd.setCell ⟨gi, j * 5, none⟩ (.int .i64 v0)).setCell ⟨gi, j * 5 + 1, none⟩ (.int .i64 v1)).setCell ⟨gi, j * 5 + 2, none⟩ (.int .i64 v2)).setCell ⟨gi, j * 5 + 3, none⟩ (.int .i64 v3)).setCell ⟨gi, j * 5 + 4, none⟩ (.int .i64 v4)) :=
     ⟨hb9, HH.out.base, ⟨_, hR6⟩, by show (s.no.set _ _).length = _; rw [List.length_set]; exact HH.out.eq, HH.out.port⟩
    have hBase := HH.out.base
    refine RdPost.yes hRd (F6.toBelow (by omega) (fun k hk => hk.elim (fun e => e ▸ hBase) (fun e => e ▸ hBi))) (F6.restBlk HH.out.blk HGB.out (by decide)) ?_
    rw [HE.out]
    have hso : SlotOk v 0 ⟨(o : Int), (j : Int)⟩ s := (HSO.out _).2 ⟨by first | rfl | trivial, by first | rfl | trivial, by show (0 : Int) ≤ (o : Int); omega, by show (o : Int) < _; omega, by show (0 : Int) ≤ (j : Int); omega, by show (j : Int) < ((s.no.getD ((o : Int)).toNat []).length : Int); rw [Int.toNat_natCast, HROW.out]; omega⟩
    cases ok
    ·rw [if_neg (fun hh => by cases hh.1)]; rfl
    ·rw [if_pos ⟨rfl, hso⟩]; rfl
   ·have b6 : decide ((row.length : Int) ≤ (j : Int)) = true := decide_eq_true (by omega)
    have b6' : decide (row.length ≤ j) = true := decide_eq_true (by omega)
    have HNK := Lib.hid h6
    clear hq hrows hv2 HS0 hcc hfr hH hR2 hgb hrow hoki h6
    go_quiet (fail)
    rename_i nq
    go_wp2
    go_end0
    have d1 := (HQ.out.below (pw_below_drewN (Below.refl _ _) nq)).setBad true
    have d2 := (FQ.out.drewN nq).set 11 (.bool true) (.inl (rfl : r = r))
    exact RdPost.yes d1 (HH.out.toBelow d2) (HH.out.rest d2) (HNO.out (by have := HNK.out; omega))
 ·have Dn := Lib.hid (rd_need_no H 2 (by omega))
  have HH := Lib.hid H
  clear hN hW H L hG hw
  go_enter Tryz.func80, Tryz.ntmps80
  go_wp2_with (go_at_call 111; (with_reducible refine Dn.out.mono ?_); clear Dn; rintro e w2 ⟨rfl, H2, F2⟩)
  go_end0
  exact RdPost.yes H2 (HH.out.toBelow F2) (HH.out.rest F2) (by rw [← HOO.out]; unfold stepSlot; rw [if_neg h8]; rfl)
end Go.Proofs.YtmcjccigglekpaaGreatDoor.Given
namespace Go.Proofs.YtmcjccigglekpaaGreatDoor.Given
open Go Go.RowKit Go.Proofs Go.Proofs.YtmcjccigglekpaaGreatDoorW.PrintWords Go.Proofs.YtmcjccigglekpaaGreatDoorW.PrintLast Go.Proofs.YtmcjccigglekpaaGreatDoorW.PrintMore Go.Proofs.YtmcjccigglekpaaGreatDoor.P

/-- The words that begin a line, each with what reads it. -/
def rdL : List (ByteArray × Nat) := [(⟨#[103, 97, 114, 114, 105, 115, 111, 110]⟩, 76), (⟨#[101, 110, 100]⟩, 76), (⟨#[115, 105, 122, 101]⟩, 77), (⟨#[116, 104, 105, 110, 103]⟩, 78), (⟨#[110, 111, 100, 101]⟩, 79), (⟨#[115, 108, 111, 116]⟩, 80), (⟨#[98, 114, 97, 110, 99, 104]⟩, 81), (⟨#[112, 111, 114, 116]⟩, 82), (⟨#[119, 97, 105, 116]⟩, 83), (⟨#[99, 111, 114, 101]⟩, 84), (⟨#[102, 114, 101, 101]⟩, 85), (⟨#[108, 105, 109, 98, 111]⟩, 86)]
def entOf (p : (ByteArray × Nat) × Nat) : MapEntry := { key := .string p.1.1, val := .func (.func p.1.2) #[] #[], born := p.2 }
def rdEs (n : Nat) : Array MapEntry := ((rdL.take n).zipIdx.map entOf).toArray
theorem rdL_one : ∀ p ∈ rdL, ∀ q ∈ rdL, p.1 = q.1 → p = q := by decide +kernel
/-- Keys are strings. -/
def StrKeys (es : List MapEntry) : Prop := ∀ e ∈ es, ∃ s : ByteArray, e.key = .string s ∧ s.size ≤ 1000000
theorem keyOf_es {P : Program} {k : TypeId} (hk : P.underlying k = some .string) {es : List MapEntry} (h : StrKeys es) : ∀ e ∈ es, ∃ l, keyOf P k e.key = some l := fun e he => by
 obtain ⟨s, h1, h2⟩ := h e he
 exact ⟨_, by rw [h1]; exact WideMaps.keyOf_string_mk hk (by unfold maxLen; omega)⟩
theorem run_insert_new {P : Program} (t kt et : TypeId) (ht : P.underlying t = some (.map kt et)) (hk : P.underlying kt = some .string) {w : World} {r : Nat} {es : Array MapEntry} {c : Nat} (hb : w.heap[r]? = some (.map es c)) (hs : StrKeys es.toList) (s : ByteArray) (hz : s.size ≤ 1000000) (hn : ∀ e ∈ es.toList, e.key ≠ .string s) (v : Value) :
  (Instr.mapUpdate t (.map (some r)) (.string s) v).run P w = .ok () (w.putObj r (.map (es.push { key := .string s, val := v, born := c }) (c + 1))) := by
 have K := WideMaps.string_law (P := P) hk
 have hkey : keyOf P kt (.string s) = some (.string s.data.toList) := WideMaps.keyOf_string_mk hk (by unfold maxLen; omega)
 rcases K.find w hkey es.toList (keyOf_es hk hs) with ⟨h1, _⟩ | ⟨j, e, _, h2, h3⟩
 ·simp [Instr.mapUpdate, run_underlying ht, MapKept.run_getObj_map hb, K.check w _ hkey, h1, MapKept.run_setObj_map _ hb, Result.andThen, World.putObj]
 ·exact absurd h3 (hn e (List.mem_of_getElem? h2))
theorem rd_mem {e : MapEntry} (h : e ∈ (rdEs 12).toList) : ∃ p ∈ rdL, e.key = .string p.1 ∧ e.val = .func (.func p.2) #[] #[] := by
 unfold rdEs at h
 rw [List.toList_toArray, show rdL.take 12 = rdL from rfl] at h
 obtain ⟨⟨p, i⟩, hp, rfl⟩ := List.mem_map.1 h
 exact ⟨p, (List.mem_zipIdx' hp).2 ▸ List.getElem_mem _, rfl, rfl⟩
theorem rd_keys : StrKeys (rdEs 12).toList := fun e he => by
 obtain ⟨p, hp, hk, _⟩ := rd_mem he
 have : ∀ q ∈ rdL, q.1.size ≤ 1000000 := by decide +kernel
 exact ⟨p.1, hk, this p hp⟩
/-- What the map has of a word. -/
def lookI (s : ByteArray) : Option Nat := (rdL.find? (fun p => decide (p.1 = s))).map (·.2)
def lookV (s : ByteArray) : Value := match lookI s with
 | some f => .func (.func f) #[] #[]
 | none => .nilFunc
theorem run_look {w : World} {r : Nat} (hb : w.heap[r]? = some (.map (rdEs 12) 12)) (s : ByteArray) (hz : s.size ≤ 1000000) :
  (Instr.lookup 107 (.map (some r)) (.string s) true).run Tryz.prog w = .ok (.tuple #[lookV s, .bool (lookI s).isSome]) w := by
 have hk : Tryz.prog.underlying 9 = some .string := by kernel_rfl
 have ht : Tryz.prog.underlying 107 = some (.map 9 113) := by kernel_rfl
 have K := WideMaps.string_law (P := Tryz.prog) hk
 have hkey : keyOf Tryz.prog 9 (.string s) = some (.string s.data.toList) := WideMaps.keyOf_string_mk hk (by unfold maxLen; omega)
 have hz0 : (zeroValue 113).run Tryz.prog w = .ok .nilFunc w := Tryz.zeroValue113 w
 rcases K.find w hkey (rdEs 12).toList (keyOf_es hk rd_keys) with ⟨h1, h2⟩ | ⟨j, e, h1, h2, h3⟩
 ·have hn : lookI s = none := by
   unfold lookI
   rw [Option.map_eq_none_iff, List.find?_eq_none]
   intro p hp he
   have hp2 : p.1 = s := by simpa using he
   obtain ⟨i, hi, rfl⟩ := List.mem_iff_getElem.1 hp
   refine h2 (entOf (rdL[i], i)) ?_ (by show Value.string _ = _; rw [hp2])
   unfold rdEs
   rw [List.toList_toArray, show rdL.take 12 = rdL from rfl]
   exact List.mem_map.2 ⟨(rdL[i], i), List.mk_mem_zipIdx_iff_getElem?.2 (List.getElem?_eq_getElem hi), rfl⟩
  unfold lookV
  rw [hn]
  simp [Instr.lookup, run_underlying ht, MapKept.run_getObj_map hb, K.check w _ hkey, h1, hz0, Result.andThen]
 ·obtain ⟨p, hp, hk1, hv1⟩ := rd_mem (List.mem_of_getElem? h2)
  have hps : p.1 = s := by rw [hk1] at h3; injection h3
  have hn : lookI s = some p.2 := by
   unfold lookI
   cases hf : rdL.find? (fun p => decide (p.1 = s)) with
   | none => exact absurd (List.find?_eq_none.1 hf p hp) (by simp [hps])
   | some q =>
    have hq := List.find?_some hf
    have hqm := List.mem_of_find?_eq_some hf
    have : q = p := rdL_one q hqm p hp (by rw [hps]; simpa using hq)
    rw [this]; rfl
  unfold lookV
  rw [hn]
  simp [Instr.lookup, run_underlying ht, MapKept.run_getObj_map hb, K.check w _ hkey, h1, hv1, Result.andThen]
theorem rdL_apart : ∀ i : Fin 12, ∀ j : Fin 12, i ≠ j → (rdL[i.val]'(by have := i.2; exact this)).1 ≠ (rdL[j.val]'(by have := j.2; exact this)).1 := by decide +kernel
theorem rdEs_succ (n : Nat) (hn : n < 12) : rdEs (n + 1) = (rdEs n).push (entOf (rdL[n]'hn, n)) := by
 unfold rdEs
 rw [List.take_succ_eq_append_getElem (show n < rdL.length from hn), List.zipIdx_append, List.map_append, List.push_toArray]
 have hl : (rdL.take n).length = n := by rw [List.length_take]; show min n 12 = n; omega
 rw [hl]
 simp
 rfl
theorem run_ins (n : Nat) (hn : n < 12) (s : ByteArray) (f : Nat) (hsf : rdL[n]'hn = (s, f)) {w W : World} (hb : W.heap[w.heap.size]? = some (.map (rdEs n) n)) (hB : Below w.heap.size w W) :
  ∃ W', (Instr.mapUpdate 107 (.map (some w.heap.size)) (.string s) (.func (.func f) #[] #[])).run Tryz.prog W = .ok () W' ∧ W'.heap[w.heap.size]? = some (.map (rdEs (n + 1)) (n + 1)) ∧ Below w.heap.size w W' := by
 have hk : Tryz.prog.underlying 9 = some .string := by kernel_rfl
 have ht : Tryz.prog.underlying 107 = some (.map 9 113) := by kernel_rfl
 have hmem : ∀ e ∈ (rdEs n).toList, ∃ j, ∃ hj : j < n, e.key = .string (rdL[j]'(by show j < 12; omega)).1 := by
  intro e he
  unfold rdEs at he
  rw [List.toList_toArray] at he
  obtain ⟨⟨p, i⟩, hp, rfl⟩ := List.mem_map.1 he
  have h1 := List.mk_mem_zipIdx_iff_getElem?.1 hp
  obtain ⟨hlt, h2⟩ := List.getElem?_eq_some_iff.1 h1
  have hlt2 : i < n := by rw [List.length_take] at hlt; omega
  refine ⟨i, hlt2, ?_⟩
  rw [List.getElem_take] at h2
  show Value.string p.1 = _
  rw [h2]
 have hsz : ∀ q ∈ rdL, q.1.size ≤ 1000000 := by decide +kernel
 have hs : s = (rdL[n]'hn).1 := by rw [hsf]
 refine ⟨_, run_insert_new _ _ _ ht hk hb (fun e he => ?_) s (by rw [hs]; exact hsz _ (List.getElem_mem _)) (fun e he => ?_) _, ?_, ?_⟩
 ·obtain ⟨j, hj, hkj⟩ := hmem e he
  exact ⟨_, hkj, hsz _ (List.getElem_mem _)⟩
 ·obtain ⟨j, hj, hkj⟩ := hmem e he
  rw [hkj, hs]
  intro he2
  injection he2 with he2
  exact rdL_apart ⟨j, by omega⟩ ⟨n, hn⟩ (by intro h; have := congrArg Fin.val h; simp at this; omega) he2
 ·rw [rdEs_succ n hn, hsf]
  exact World.putObj_heap_same (blk_lt hb)
 ·exact ⟨hB.os, hB.tape, hB.output, by simpa using hB.size, fun k hk2 => (World.putObj_heap_other (by omega)).trans (hB.block k hk2)⟩
set_option maxRecDepth 100000 in
set_option maxHeartbeats 2000000 in
theorem readers_calls (w : World) : Calls Tryz.prog 44 #[] w fun e w' => e = .returned (.map (some w.heap.size)) ∧ w'.heap[w.heap.size]? = some (.map (rdEs 12) 12) ∧ Below w.heap.size w w' := by
 obtain ⟨W0, hmm, hb0, hB0⟩ : ∃ W0, (Instr.makeMap 107 none).run Tryz.prog w = .ok (.map (some w.heap.size)) W0 ∧ W0.heap[w.heap.size]? = some (.map (rdEs 0) 0) ∧ Below w.heap.size w W0 := ⟨_, run_makeMap _ w, blk_new w _, (Below.refl _ _).alloc (Nat.le_refl _) _⟩
 obtain ⟨W1, i0, hb1, hB1⟩ := run_ins 0 (by decide) ⟨#[103, 97, 114, 114, 105, 115, 111, 110]⟩ 76 rfl hb0 hB0
 clear hb0 hB0
 obtain ⟨W2, i1, hb2, hB2⟩ := run_ins 1 (by decide) ⟨#[101, 110, 100]⟩ 76 rfl hb1 hB1
 clear hb1 hB1
 obtain ⟨W3, i2, hb3, hB3⟩ := run_ins 2 (by decide) ⟨#[115, 105, 122, 101]⟩ 77 rfl hb2 hB2
 clear hb2 hB2
 obtain ⟨W4, i3, hb4, hB4⟩ := run_ins 3 (by decide) ⟨#[116, 104, 105, 110, 103]⟩ 78 rfl hb3 hB3
 clear hb3 hB3
 obtain ⟨W5, i4, hb5, hB5⟩ := run_ins 4 (by decide) ⟨#[110, 111, 100, 101]⟩ 79 rfl hb4 hB4
 clear hb4 hB4
 obtain ⟨W6, i5, hb6, hB6⟩ := run_ins 5 (by decide) ⟨#[115, 108, 111, 116]⟩ 80 rfl hb5 hB5
 clear hb5 hB5
 obtain ⟨W7, i6, hb7, hB7⟩ := run_ins 6 (by decide) ⟨#[98, 114, 97, 110, 99, 104]⟩ 81 rfl hb6 hB6
 clear hb6 hB6
 obtain ⟨W8, i7, hb8, hB8⟩ := run_ins 7 (by decide) ⟨#[112, 111, 114, 116]⟩ 82 rfl hb7 hB7
 clear hb7 hB7
 obtain ⟨W9, i8, hb9, hB9⟩ := run_ins 8 (by decide) ⟨#[119, 97, 105, 116]⟩ 83 rfl hb8 hB8
 clear hb8 hB8
 obtain ⟨W10, i9, hb10, hB10⟩ := run_ins 9 (by decide) ⟨#[99, 111, 114, 101]⟩ 84 rfl hb9 hB9
 clear hb9 hB9
 obtain ⟨W11, i10, hb11, hB11⟩ := run_ins 10 (by decide) ⟨#[102, 114, 101, 101]⟩ 85 rfl hb10 hB10
 clear hb10 hB10
 obtain ⟨W12, i11, hb12, hB12⟩ := run_ins 11 (by decide) ⟨#[108, 105, 109, 98, 111]⟩ 86 rfl hb11 hB11
 clear hb11 hB11
 have HB := Lib.hid hb12
 have HBB := Lib.hid hB12
 clear hb12 hB12
 go_enter Tryz.func44, Tryz.ntmps44
 go_wp2
 go_ret
 exact ⟨rfl, HB.out, HBB.out⟩
end Go.Proofs.YtmcjccigglekpaaGreatDoor.Given
namespace Go.Proofs.YtmcjccigglekpaaGreatDoor.Given
open Go Go.RowKit Go.Proofs

theorem setCell_blk {w : World} {g : Nat} {t : TypeId} {cs : Array Value} (h : w.heap[g]? = some (.cells cs t (0, 0))) (i : Nat) (u : Value) : (w.setCell ⟨g, i, none⟩ u).heap[g]? = some (.cells (cs.setIfInBounds i u) t (0, 0)) := by
 simp [World.setCell, Array.getElem?_modify, h]

/-- The sign of a digit below 16. -/
def sign (d : Int) : Int := if d < 10 then 48 + d else 87 + d
/-- The sign at place j of a word's text. -/
def signAt (x : Int) (j : Nat) : Int := sign (x / 2 ^ (60 - 4 * j) % 16)
def rowT (x : Int) (k : Nat) : List Int := (List.range 16).map fun j => if j < k then signAt x j else 0
def cellsT (x : Int) (k : Nat) : Array Value := ((rowT x k).map fun n => Value.int .u8 n).toArray

theorem rowT_length (x : Int) (k : Nat) : (rowT x k).length = 16 := by simp [rowT]
theorem rowT_get (x : Int) (k j : Nat) (h : j < 16) : (rowT x k)[j]? = some (if j < k then signAt x j else 0) := by simp [rowT, h]
theorem cellsT_get (x : Int) (k j : Nat) (h : j < 16) : (cellsT x k)[j]? = some (.int .u8 (if j < k then signAt x j else 0)) := by
 simp [cellsT, rowT_get x k j h]
theorem cellsT_set (x : Int) (k : Nat) (h : k < 16) : (cellsT x k).setIfInBounds k (.int .u8 (signAt x k)) = cellsT x (k + 1) := by
 apply Array.ext_getElem?
 intro j
 by_cases hj : j < 16
 ·rw [cellsT_get x (k + 1) j hj, Array.getElem?_setIfInBounds]
  have hs : k < (cellsT x k).size := by simp [cellsT, rowT_length, h]
  by_cases e : k = j
  ·subst e; simp [hs]
  ·rw [if_neg e, cellsT_get x k j hj]
   have : (j < k) = (j < k + 1) := by apply propext; omega
   simp only [this]
 ·have h1 : (cellsT x (k + 1)).size = 16 := by simp [cellsT, rowT_length]
  have h2 : ((cellsT x k).setIfInBounds k (.int .u8 (signAt x k))).size = 16 := by simp [cellsT, rowT_length]
  rw [Array.getElem?_eq_none (by omega), Array.getElem?_eq_none (by omega)]

theorem and15 (z : Int) (h0 : 0 ≤ z) (h1 : z < 18446744073709551616) : bits .and .u64 z 15 = z % 16 :=
 bits_mask .u64 64 (by decide) (fun n a b => by rw [show IntKind.u64.wrap n = n % 18446744073709551616 from by simp [IntKind.wrap, IntKind.signed, IntKind.bits]]; omega) 4 (by decide) z h0 h1
theorem sign_at (d : Nat) (h : d < 16) (h' : d < (⟨#[48, 49, 50, 51, 52, 53, 54, 55, 56, 57, 97, 98, 99, 100, 101, 102]⟩ : ByteArray).size) :
  (((⟨#[48, 49, 50, 51, 52, 53, 54, 55, 56, 57, 97, 98, 99, 100, 101, 102]⟩ : ByteArray)[d]'h').toNat : Int) = sign d := by
 unfold sign
 have : d = 0 ∨ d = 1 ∨ d = 2 ∨ d = 3 ∨ d = 4 ∨ d = 5 ∨ d = 6 ∨ d = 7 ∨ d = 8 ∨ d = 9 ∨ d = 10 ∨ d = 11 ∨ d = 12 ∨ d = 13 ∨ d = 14 ∨ d = 15 := by omega
 rcases this with rfl | rfl | rfl | rfl | rfl | rfl | rfl | rfl | rfl | rfl | rfl | rfl | rfl | rfl | rfl | rfl <;> rfl

def TextPost (x : Int) (w : World) (e : Ending) (w' : World) : Prop := ∃ s, s = strOfNums (rowT x 16) ∧ e = .returned (.string s) ∧ Below w.heap.size w w'

set_option maxRecDepth 100000 in
set_option maxHeartbeats 1000000 in
theorem text_calls (x : Int) (w : World) (h0 : 0 ≤ x) (h1 : x < 18446744073709551616) : Calls Tryz.prog 65 #[.int .u64 x] w (TextPost x w) := by
 go_enter Tryz.func65, Tryz.ntmps65
 go_wp2
 go_loopw [5] (fun i wr => ∃ k : Nat, k ≤ 16 ∧ i = .int .i64 k ∧ wr.heap[w.heap.size]? = some (.cells (cellsT x k) 177 (0, 0)) ∧ Below w.heap.size w wr) (fun i _ => 16 - (intOf i).toNat)
 case atStart =>
  refine ⟨0, by omega, rfl, ?_, (Below.refl _ _).alloc (Nat.le_refl _) _⟩
  have h := World.alloc_heap_new w (.cells (cellsT x 0) 177)
  exact h
 case round =>
  obtain ⟨k, hk, rfl, hblk, hB⟩ := hrel
  by_cases hlt : k < 16
  ·have hd : decide ((k : Int) < 16) = true := decide_eq_true (by omega)
   have hcell : wr.cell? ⟨w.heap.size, k, none⟩ = some (.int .u8 0) := by unfold World.cell?; rw [hblk]; simpa using cellsT_get x k k hlt
   have hfr : wr.frozen? ⟨w.heap.size, k, none⟩ = false := by unfold World.frozen?; rw [hblk]; simp
   have b0 : (0 : Int) ≤ 60 - 4 * (k : Int) := by omega
   have b1 : 60 - 4 * (k : Int) ≤ 64 := by omega
   have hlt' : (k : Int) < 16 := by omega
   have hz0 : 0 ≤ x / 2 ^ (60 - 4 * k) := Int.ediv_nonneg h0 (Int.pow_nonneg (by decide))
   have hz1 : x / 2 ^ (60 - 4 * k) < 18446744073709551616 := Int.lt_of_le_of_lt (Int.ediv_le_self _ h0) h1
   have ha := and15 _ hz0 hz1
   have hq0 : 0 ≤ bits .and .u64 (x / 2 ^ (60 - 4 * k)) 15 := by rw [ha]; omega
   have hq1 : bits .and .u64 (x / 2 ^ (60 - 4 * k)) 15 < 16 := by rw [ha]; omega
   have HA := Lib.hid ha
   clear ha hz0 hz1
   go_wp2
   go_roundw
   case rel =>
    refine ⟨k + 1, by omega, by go_num, ?_, hB.setCell (p := ⟨w.heap.size, k, none⟩) (Nat.le_refl _) _⟩
    have hs : ∀ h', (((⟨#[48, 49, 50, 51, 52, 53, 54, 55, 56, 57, 97, 98, 99, 100, 101, 102]⟩ : ByteArray)[(bits .and .u64 (x / 2 ^ (60 - 4 * k)) 15).toNat]'h').toNat : Int) = signAt x k := by
     intro h'
     rw [sign_at _ (by omega)]
     unfold signAt
     rw [← HA.out]
     congr 1
    rw [hs]
    rw [← cellsT_set x k hlt]
    exact setCell_blk hblk k _
   case measure => simp [intOf]; omega
  ·obtain rfl : k = 16 := by omega
   have hlen : wr.heap[w.heap.size]? = some (.cells (cellsT x 16) 177 (0, 0)) := hblk
   have hconv := run_convert_bytes_arg (P := Tryz.prog) wr 48 5 Tryz.underlying48 Tryz.underlying5 w.heap.size 0 16 16 (rowT x 16) (rowT_length x 16) (fun i hi => by
    unfold World.cell?
    rw [hlen]
    simp only [Nat.zero_add]
    rw [List.getD_eq_getElem?_getD, rowT_get x 16 i hi]
    exact cellsT_get x 16 i hi) 9 Tryz.underlying9
   go_wp2
   go_ret
   exact ⟨_, rfl, rfl, hB⟩
end Go.Proofs.YtmcjccigglekpaaGreatDoor.Given
namespace Go.Proofs.YtmcjccigglekpaaGreatDoor.Plain
open Go Go.RowKit Go.Proofs.YtmcjccigglekpaaGreatDoorW.PrintWords Go.Proofs.YtmcjccigglekpaaGreatDoorW.PrintLast Go.Proofs.YtmcjccigglekpaaGreatDoorW.PrintMore Go.Proofs.YtmcjccigglekpaaGreatDoor.P Go.Proofs.YtmcjccigglekpaaGreatDoor.Given

/-- The digit that a sign stands for. -/
def digOf (c : Int) : Option Nat := if 48 ≤ c ∧ c ≤ 57 then some (c - 48).toNat else if 97 ≤ c ∧ c ≤ 102 then some (c - 87).toNat else none
theorem digOf_lt {c : Int} {d : Nat} (h : digOf c = some d) : d < 16 := by
 unfold digOf at h
 split at h
 ·have := Option.some.inj h; omega
 ·split at h
  ·have := Option.some.inj h; omega
  ·cases h
theorem digOf_sign (d : Nat) (h : d < 16) : digOf (sign (d : Int)) = some d := by
 unfold digOf sign
 by_cases h1 : (d : Int) < 10
 ·rw [if_pos h1, if_pos (by omega)]
  congr 1; omega
 ·rw [if_neg h1, if_neg (by omega), if_pos (by omega)]
  congr 1; omega
/-- The word with one digit more. -/
def nxt (w d : Nat) : Nat := w * 16 % 18446744073709551616 + d
theorem nxt_lt (w d : Nat) (h : d < 16) : nxt w d < 18446744073709551616 := by unfold nxt; omega
theorem wrap16 (w : Nat) : IntKind.u64.wrap ((w : Int) * 16) = ((w * 16 % 18446744073709551616 : Nat) : Int) := by rw [wu64]; omega
theorem or_dig (w d : Nat) (e : Int) (he : e = (d : Int)) (h : d < 16) : bits .or .u64 (IntKind.u64.wrap ((w : Int) * 16)) e = ((nxt w d : Nat) : Int) := by
 rw [he, wrap16, or64 _ _ (Nat.mod_lt _ (by decide)) (by omega)]
 congr 1
 unfold nxt
 obtain ⟨q, hq⟩ : ∃ q, w * 16 % 18446744073709551616 = 2 ^ 4 * q := ⟨w * 16 % 18446744073709551616 / 16, by omega⟩
 rw [hq]
 exact (Nat.two_pow_add_eq_or_of_lt (i := 4) h q).symm
theorem add_dig (w d : Nat) (e : Int) (he : e = (d : Int)) (h : d < 16) : IntKind.u64.wrap (IntKind.u64.wrap ((w : Int) * 16) + e) = ((nxt w d : Nat) : Int) := by
 rw [he, wrap16, ← Int.natCast_add]
 exact back64 (nxt w d) (nxt_lt w d h)
theorem add_dig2 (w d : Nat) (e : Int) (he : e + 10 = (d : Int)) (h0 : 0 ≤ e) (h : d < 16) : IntKind.u64.wrap (IntKind.u64.wrap (IntKind.u64.wrap ((w : Int) * 16) + e) + 10) = ((nxt w d : Nat) : Int) := by
 obtain ⟨f, rfl⟩ := Int.eq_ofNat_of_zero_le h0
 rw [add_dig w f _ rfl (by omega), show ((nxt w f : Nat) : Int) + 10 = ((nxt w d : Nat) : Int) from by unfold nxt; omega, back64 _ (nxt_lt w d h)]

theorem suc (i : Nat) (h : i < 16) : wrap64 ((i : Int) + 1) = ((i + 1 : Nat) : Int) := by rw [w64 (by omega) (by omega)]; rfl

theorem parse_none {s : ByteArray} (hs : (s.size : Int) = 16) (k : Nat) (w : Int) (i : Nat) (hi : i < 16) (h : digOf (bt s i) = none) : bits_Parse.l0 (k + 1) s w 16 (i : Int) = some (0, 10) := by
 have hb := bt_range s i
 have g0 : (i : Int) < 16 := by omega
 have g1 : (0 : Int) ≤ (i : Int) := by omega
 have g2 : (i : Int) < (s.size : Int) := by omega
 simp only [bits_Parse.l0]
 rw [if_pos g0, if_pos g1, if_pos g2]
 clear g0 g1 g2
 generalize bt s (i : Int) = c at *
 unfold digOf at h
 by_cases h1 : c ≥ 97
 ·rw [if_pos h1]
  have h2 : (c - 97 + 10) % 256 > 15 := by
   by_cases h3 : c ≤ 102
   ·rw [if_neg (by omega), if_pos (by omega)] at h; cases h
   ·omega
  rw [if_pos h2]
 ·rw [if_neg h1]
  by_cases h2 : (c - 48) % 256 > 15
  ·rw [if_pos h2]
  ·rw [if_neg h2, if_pos (by omega)]
   have h3 : (c - 48) % 256 > 9 := by
    by_cases h4 : 48 ≤ c ∧ c ≤ 57
    ·rw [if_pos h4] at h; cases h
    ·omega
   rw [if_pos h3]
theorem parse_some {s : ByteArray} (hs : (s.size : Int) = 16) (k w : Nat) (i : Nat) (hi : i < 16) {d : Nat} (h : digOf (bt s i) = some d) : bits_Parse.l0 (k + 1) s (w : Int) 16 (i : Int) = bits_Parse.l0 k s ((nxt w d : Nat) : Int) 16 ((i + 1 : Nat) : Int) := by
 have hb := bt_range s i
 have hd := digOf_lt h
 have g0 : (i : Int) < 16 := by omega
 have g1 : (0 : Int) ≤ (i : Int) := by omega
 have g2 : (i : Int) < (s.size : Int) := by omega
 have g3 := suc i hi
 simp only [bits_Parse.l0]
 rw [if_pos g0, if_pos g1, if_pos g2, g3]
 clear g0 g1 g2 g3
 generalize ((i + 1 : Nat) : Int) = j
 generalize bt s (i : Int) = c at *
 unfold digOf at h
 by_cases h1 : c ≥ 97
 ·rw [if_neg (by omega)] at h
  by_cases h3 : 97 ≤ c ∧ c ≤ 102
  ·rw [if_pos h3] at h
   have h4 := Option.some.inj h
   rw [if_pos h1, if_neg (by omega), if_neg (by omega), or_dig w d _ (by omega) hd]
  ·rw [if_neg h3] at h; cases h
 ·by_cases h3 : 48 ≤ c ∧ c ≤ 57
  ·rw [if_pos h3] at h
   have h4 := Option.some.inj h
   rw [if_neg h1, if_neg (by omega), if_pos (by omega), if_neg (by omega), or_dig w d _ (by omega) hd]
  ·rw [if_neg h3, if_neg (by omega)] at h; cases h

theorem parse_lt {s : ByteArray} (hs : (s.size : Int) = 16) (e : Nat) : ∀ (i w k : Nat), i + e = 16 → e < k → w < 18446744073709551616 → ∃ v x : Int, bits_Parse.l0 k s (w : Int) 16 (i : Int) = some (v, x) ∧ 0 ≤ v ∧ v < 18446744073709551616 := by
 induction e with
 | zero =>
  intro i w k hi hk hw
  obtain ⟨k, rfl⟩ : ∃ m, k = m + 1 := ⟨k - 1, by omega⟩
  refine ⟨(w : Int), 0, ?_, by omega, by omega⟩
  simp only [bits_Parse.l0]
  rw [if_neg (show ¬ (i : Int) < 16 by omega)]
 | succ e ih =>
  intro i w k hi hk hw
  obtain ⟨k, rfl⟩ : ∃ m, k = m + 1 := ⟨k - 1, by omega⟩
  cases h : digOf (bt s i) with
  | none => exact ⟨0, 10, parse_none hs k w i (by omega) h, by omega, by omega⟩
  | some d =>
   rw [parse_some hs k w i (by omega) h]
   exact ih (i + 1) (nxt w d) k (by omega) (by omega) (nxt_lt w d (digOf_lt h))
/-- What a word's text is read as. -/
def bitsI (x : ByteArray) : Int × Int := (bits_Parse.f 41 x).getD (0, 10)
theorem bitsI_of (x : ByteArray) : bits_Parse.f 41 x = some ((bitsI x).1, (bitsI x).2) ∧ 0 ≤ (bitsI x).1 ∧ (bitsI x).1 < 18446744073709551616 := by
 unfold bitsI bits_Parse.f
 by_cases h : (x.size : Int) = 16
 ·rw [if_pos h, h]
  obtain ⟨v, e, h1, h2, h3⟩ := parse_lt h 16 0 0 41 rfl (by omega) (by omega)
  rw [show ((0 : Nat) : Int) = 0 from rfl] at h1
  rw [h1]
  exact ⟨rfl, h2, h3⟩
 ·rw [if_neg h]
  exact ⟨rfl, by show (0 : Int) ≤ 0; omega, by show (0 : Int) < _; omega⟩
end Go.Proofs.YtmcjccigglekpaaGreatDoor.Plain
namespace Go.Proofs.YtmcjccigglekpaaGreatDoor.Given
open Go Go.RowKit Go.Proofs Go.Proofs.YtmcjccigglekpaaGreatDoorW.PrintWords Go.Proofs.YtmcjccigglekpaaGreatDoorW.PrintLast Go.Proofs.YtmcjccigglekpaaGreatDoorW.PrintMore Go.Proofs.YtmcjccigglekpaaGreatDoor.P Go.Proofs.YtmcjccigglekpaaGreatDoor.Plain

/-- The lists are no longer than k. -/
structure Small (k : Nat) (s : St) : Prop where
 th : s.th.length ≤ k
 fr : s.fr.length ≤ k
 tr : s.tr.length ≤ k
 li : s.li.length ≤ k
 ro : s.ro.length ≤ k
 sw : s.sw.length ≤ k
 po : ∀ x ∈ s.po, x.f2.length ≤ k
theorem Small.mono {k k' : Nat} {s : St} (h : Small k s) (hk : k ≤ k') : Small k' s :=
 ⟨Nat.le_trans h.th hk, Nat.le_trans h.fr hk, Nat.le_trans h.tr hk, Nat.le_trans h.li hk, Nat.le_trans h.ro hk, Nat.le_trans h.sw hk, fun x hx => Nat.le_trans (h.po x hx) hk⟩
/-- What method f makes of a line's words. -/
def stepF (f : Nat) (ws : List ByteArray) (x : St × Int) : Option (St × Int) :=
 if f = 77 then stepSize ws x.1 x.2
 else if f = 78 then stepThing ws x.1 x.2
 else if f = 79 then stepNode ws x.1 x.2
 else if f = 80 then stepSlot (bitsI (wI ws 1)).1 (bitsI (wI ws 1)).2 ws x.1 x.2
 else if f = 81 then stepBranch ws x.1 x.2
 else if f = 82 then stepPort ws x.1 x.2
 else if f = 83 then stepWait ws x.1 x.2
 else if f = 84 then stepCore ws x.1 x.2
 else if f = 85 then stepFree ws x.1 x.2
 else if f = 86 then stepLimbo ws x.1 x.2
 else some x
/-- What a line makes of what is known. -/
def stepLine (x : St × Int) (line : ByteArray) (whole : Bool) : Option (St × Int) :=
 match lookI ((piecesB line).headD ByteArray.empty) with
 | none => none
 | some f => if whole = true then stepF f (piecesB line).tail x else none

theorem rd_nothing (p : Value) (w : World) : Calls Tryz.prog 76 #[p] w fun e w' => e = .returned (.tuple #[]) ∧ w' = w := by
 go_enter Tryz.func76, Tryz.ntmps76
 go_wp2
 go_end0
 exact ⟨rfl, rfl⟩
theorem lookI_mem {s : ByteArray} {f : Nat} (h : lookI s = some f) : f ∈ rdL.map (·.2) := by
 unfold lookI at h
 obtain ⟨p, hp, rfl⟩ := Option.map_eq_some_iff.1 h
 exact List.mem_map.2 ⟨p, List.mem_of_find?_eq_some hp, rfl⟩
theorem rd_all {B r : Nat} {h : Rv} {x : St × Int} {wv nv : Value} {w : World} {ws : List ByteArray} {ns : List Int} {w0 : ByteArray} {f : Nat} (hf : lookI w0 = some f) (H : Rd B r h x.1 x.2 false wv nv w) (L : Line w wv nv ws ns) (hG : GLB B w) (hw : ∀ i, (wI ws i).size ≤ 1000000) (hl : ns.length ≤ 1000000) (hs : Small 1000000 x.1) :
  Calls Tryz.prog f #[.pointer (some ⟨r, 0, none⟩)] w (RdPost B r (stepF f ws x) w) := by
 have hm := lookI_mem hf
 simp only [rdL, List.map_cons, List.map_nil, List.mem_cons, List.not_mem_nil, or_false] at hm
 have hbits := bitsI_of (wI ws 1)
 rcases hm with rfl | rfl | rfl | rfl | rfl | rfl | rfl | rfl | rfl | rfl | rfl | rfl
 ·refine (rd_nothing _ w).mono ?_
  rintro e w' ⟨rfl, rfl⟩
  exact RdPost.yes H (Below.refl _ _) (Rest.refl _) rfl
 ·refine (rd_nothing _ w).mono ?_
  rintro e w' ⟨rfl, rfl⟩
  exact RdPost.yes H (Below.refl _ _) (Rest.refl _) rfl
 ·exact rd_size H L
 ·exact rd_thing H L hs.th
 ·exact rd_node H L
 ·exact rd_slot H L hG hw 41 _ _ hbits.1 hbits.2
 ·exact rd_branch H L hG hw hs.tr
 ·exact rd_readPort H L
 ·exact rd_wait H L hG hw hs.po
 ·exact rd_core H L hG hw hs.ro hs.sw
 ·exact rd_free H L hl hs.fr
 ·exact rd_limbo H L hl hs.li
end Go.Proofs.YtmcjccigglekpaaGreatDoor.Given
namespace Go.Proofs.YtmcjccigglekpaaGreatDoor.Given
open Go Go.RowKit Go.Shelf Go.Proofs Go.Proofs.YtmcjccigglekpaaGreatDoorW.PrintWords
attribute [local go_sem] Oper.semAt_some

abbrev nl : ByteArray := ⟨#[10]⟩
/-- The lines of a text, one behind the other: what a step makes of each; none: it stops. -/
def foldLines {τ : Type} (step : τ → ByteArray → Bool → Option τ) : Nat → ByteArray → τ → Option τ
 | 0, _, x => some x
 | k + 1, s, x => if s.size = 0 then some x else (step x (cutA s ⟨#[10]⟩) (cutC s ⟨#[10]⟩)).bind fun y => foldLines step k (cutB s ⟨#[10]⟩) y
theorem cutB_lt (s : ByteArray) (h : s.size ≠ 0) : (cutB s ⟨#[10]⟩).size < s.size := by
 have hx : s.data.toList.length = s.size := by rw [Array.length_toList]; rfl
 unfold cutB Lib.cut
 split
 ·show (List.drop _ _).toArray.size < s.size
  rw [List.size_toArray, List.length_drop]
  show _ - (_ + 1) < _
  omega
 ·show ([] : List UInt8).toArray.size < s.size
  simp; omega

theorem foldLines_fuel {τ : Type} (step : τ → ByteArray → Bool → Option τ) : ∀ (k k' : Nat) (s : ByteArray) (x : τ), s.size < k → s.size < k' → foldLines step k s x = foldLines step k' s x
 | 0, _, _, _, h, _ => absurd h (Nat.not_lt_zero _)
 | _ + 1, 0, _, _, _, h => absurd h (Nat.not_lt_zero _)
 | k + 1, k' + 1, s, x, h, h' => by
  unfold foldLines
  by_cases hs : s.size = 0
  ·rw [if_pos hs, if_pos hs]
  ·rw [if_neg hs, if_neg hs]
   have := cutB_lt s hs
   congr 1
   funext y
   exact foldLines_fuel step k k' _ y (by omega) (by omega)
theorem isEmpty_no (s : ByteArray) (h : s.size ≠ 0) : s.toList.isEmpty = false := by
 rw [ByteArray.toList_eq]
 cases hl : s.data.toList with
 | nil => exact absurd (show s.data.size = 0 by rw [← Array.length_toList, hl]; rfl) h
 | cons a l => rfl
/-- What is left of the lines. -/
def LinesEnd {τ : Type} (r : Option τ) (J : ByteArray → τ → World → Prop) (Jx : World → Prop) (e : Ending) (W' : World) : Prop :=
 (∃ v, e = .returned v) ∧ (match r with
  | some y => ∃ s, J s y W'
  | none => Jx W')
set_option maxRecDepth 100000 in
set_option maxHeartbeats 2000000 in
theorem lines1_in {τ : Type} (F : Fence) (n : Nat) (hro : F.round = none) (hF : F.fn 87) (hF2 : F.fn 88) (hcut : ∀ (s : ByteArray), s.size ≤ 1000000 → ∀ W, GL W → CallsIn F (n - 1) Tryz.prog 88 #[.string s, .string ⟨#[10]⟩] W fun e w' => e = .returned (.tuple #[.string (cutA s ⟨#[10]⟩), .string (cutB s ⟨#[10]⟩), .bool (cutC s ⟨#[10]⟩)]) ∧ ∃ m, w' = W.drewN m) (hn : 1 ≤ n)
  (l bx : Nat) (step : τ → ByteArray → Bool → Option τ) (J J2 : ByteArray → τ → World → Prop) (Jx : World → Prop)
  (hcell2 : ∀ s x W, J2 s x W → W.cell? ⟨bx, 0, none⟩ = some (.string s) ∧ W.frozen? ⟨bx, 0, none⟩ = false)
  (hcell : ∀ s x W, J s x W → W.cell? ⟨bx, 0, none⟩ = some (.string s) ∧ W.frozen? ⟨bx, 0, none⟩ = false)
  (hGL : ∀ s x W, J s x W → GL W) (hsz : ∀ s x W, J s x W → s.size ≤ 1000000)
  (hdrew : ∀ s x W m, J s x W → J s x (W.drewN m))
  (hset : ∀ s x W, J2 s x W → J (cutB s ⟨#[10]⟩) x (W.setCell ⟨bx, 0, none⟩ (.string (cutB s ⟨#[10]⟩))))
  (hY : ∀ s x W, s.size ≠ 0 → J s x W → YieldAt F (n - 1) Tryz.prog l #[.string (cutA s ⟨#[10]⟩), .bool (cutC s ⟨#[10]⟩)] W fun e W' => match step x (cutA s ⟨#[10]⟩) (cutC s ⟨#[10]⟩) with
   | some y => e = .returned (.bool true) ∧ J2 s y W'
   | none => e = .returned (.bool false) ∧ Jx W')
  (s0 : ByteArray) (x0 : τ) (W : World) (h0 : J s0 x0 W) :
  CallsIn F n Tryz.prog 87 #[.func (.yield l) #[] #[], .pointer (some ⟨bx, 0, none⟩)] W (LinesEnd (foldLines step (s0.size + 1) s0 x0) J Jx) := by
 generalize hr : foldLines step (s0.size + 1) s0 x0 = r
 have HR := Lib.hid hr
 clear hr
 refine callsIn_of_wp Tryz.func87 rfl hF ?_ hro
 simp only [Tryz.ntmps87, List.size_toArray, List.length_cons, List.length_nil, Nat.reduceAdd, Nat.reduceSub, Array.replicate_succ, Array.replicate_zero, List.push_toArray, List.append_toArray, List.nil_append, List.cons_append]
 gi_wp2
 gi_loopw [3] (fun _ wr => ∃ (s : ByteArray) (x : τ), J s x wr ∧ Hid (foldLines step (s.size + 1) s x = r)) (fun _ wr => match wr.cell? ⟨bx, 0, none⟩ with | some (.string s) => s.size | _ => 0)
 case atStart => exact ⟨s0, x0, h0, HR⟩
 case round =>
  obtain ⟨s, x, hJ, hr⟩ := hrel
  obtain ⟨hc, hf⟩ := hcell s x wr hJ
  have hG := hGL s x wr hJ
  have hz := hsz s x wr hJ
  have HR2 := Lib.hid hr
  clear hr
  by_cases hs : s.size = 0
  ·obtain rfl : s = ⟨#[]⟩ := by
    have h1 : s.data.size = 0 := hs
    cases s with | mk d => congr 1; exact Array.size_eq_zero_iff.1 h1
   have hx : Hid (r = some x) := Lib.hid (by rw [← HR2.out]; rfl)
   gi_wp2
   go_end0
   rw [hx.out]
   exact ⟨⟨_, rfl⟩, _, hJ⟩
  ·have h1 : s.toList.isEmpty = false := isEmpty_no s hs
   have h2 : ¬ s.toList = [] := by intro h; rw [h] at h1; cases h1
   have hx : Hid (foldLines step (s.size + 1) s x = (step x (cutA s ⟨#[10]⟩) (cutC s ⟨#[10]⟩)).bind fun y => foldLines step s.size (cutB s ⟨#[10]⟩) y) := Lib.hid (by show (if s.size = 0 then _ else _) = _; rw [if_neg hs])
   have hlt := cutB_lt s hs
   have hse := hset s
   have hYs := fun W => hY s x W hs
   have hcs := hcut s hz wr hG
   have hdr := hdrew s x wr
   generalize cutA s ⟨#[10]⟩ = la at *
   generalize cutB s ⟨#[10]⟩ = lb at *
   generalize cutC s ⟨#[10]⟩ = lc at *
   have HSE := Lib.hid hse
   have HYS := Lib.hid hYs
   have HDR := Lib.hid hdr
   have HCE := Lib.hid hcell
   have HCE2 := Lib.hid hcell2
   clear hse hYs hdr hcell hcell2 hset hdrew hY hGL hsz
   gi_wp2_with (gi_at_call 88; refine hcs.mono ?_; clear hcs; rintro e w2 ⟨rfl, m, rfl⟩; obtain ⟨fn, tmps, asg, bdy, hy, hR⟩ := HYS.out _ (HDR.out m hJ); have HRY := Lib.hid hR; clear hR)
   refine HRY.out.mono ?_
   rintro e W3 hpost
   cases hst : step x la lc with
   | none =>
    rw [hst] at hpost
    obtain ⟨rfl, hx3⟩ := hpost
    have hrn : r = none := by rw [← HR2.out, hx.out, hst]; rfl
    have HRN := Lib.hid hrn
    clear hst hrn
    gi_wp2
    refine bodyPost_ret (results_none rfl _ _ _) rfl ?_
    rw [HRN.out]
    exact ⟨⟨_, rfl⟩, hx3⟩
   | some y =>
    rw [hst] at hpost
    obtain ⟨rfl, hJ3⟩ := hpost
    have hrs : foldLines step s.size lb y = r := by rw [← HR2.out, hx.out, hst]; rfl
    have HRS := Lib.hid hrs
    clear hst hrs
    obtain ⟨hc3, hf3⟩ := HCE2.out s y W3 hJ3
    have hJ4 := HSE.out y W3 hJ3
    have hc4 := (HCE.out lb y _ hJ4).1
    gi_wp2
    refine ⟨⟨lb, y, hJ4, Lib.hid ((foldLines_fuel step _ _ lb y (Nat.lt_succ_self _) hlt).trans HRS.out)⟩, ?_⟩
    rw [hc4, hc]
    exact hlt
/-- What a round leaves. -/
def RoundEnd {τ : Type} (o : Option τ) (I : τ → World → Prop) (Ix : World → Prop) (W : World) : Exit → Act → World → Prop := fun e _ W' =>
 KeepsOthers W W' ∧ match o with
  | some y => e = .normal ∧ I y W'
  | none => e = .ret ∧ Ix W'
set_option maxHeartbeats 1000000 in
/-- A loop over a text's lines. -/
theorem wpIn_lines {F : Fence} {n : Nat} {g : Operand} {p1 p2 : Tmp} {assign body : Code} {Q : Exit → Act → World → Prop} {a : Act} {w : World} {τ : Type}
  (hro : F.round = none) (h1 : 1 ≤ n) (h2 : 1 ≤ n - 1) (bx : Nat) (hg : a.eval g = .func (.func 87) #[] #[.pointer (some ⟨bx, 0, none⟩)]) (hF : F.fn 87) (hF2 : F.fn 88)
  (hcut : ∀ (s : ByteArray), s.size ≤ 1000000 → ∀ W, GL W → CallsIn F (n - 1 - 1) Tryz.prog 88 #[.string s, .string ⟨#[10]⟩] W fun e w' => e = .returned (.tuple #[.string (cutA s ⟨#[10]⟩), .string (cutB s ⟨#[10]⟩), .bool (cutC s ⟨#[10]⟩)]) ∧ ∃ m, w' = W.drewN m)
  (step : τ → ByteArray → Bool → Option τ) (I I2 : ByteArray → τ → World → Prop) (Ix : World → Prop)
  (hIp2 : ∀ s x W l o o', I2 s x W → w.heap.size ≤ l → W.heap[l]? = some o → o.isCells = false → I2 s x (W.putObj l o'))
  (hcell2 : ∀ s x W, I2 s x W → (∃ T, W.heap[bx]? = some (.cells #[.string s] T (0, 0))))
  (hIp : ∀ s x W l o o', I s x W → w.heap.size ≤ l → W.heap[l]? = some o → o.isCells = false → I s x (W.putObj l o'))
  (hXp : ∀ W l o o', Ix W → w.heap.size ≤ l → W.heap[l]? = some o → o.isCells = false → Ix (W.putObj l o'))
  (hIa : ∀ s x W o, I s x W → w.heap.size ≤ W.heap.size → I s x (W.alloc o))
  (hcell : ∀ s x W, I s x W → (∃ T, W.heap[bx]? = some (.cells #[.string s] T (0, 0))))
  (hGL : ∀ s x W, I s x W → GL W) (hsz : ∀ s x W, I s x W → s.size ≤ 1000000)
  (hdrew : ∀ s x W m, I s x W → I s x (W.drewN m))
  (hset : ∀ s x W, I2 s x W → I (cutB s ⟨#[10]⟩) x (W.setCell ⟨bx, 0, none⟩ (.string (cutB s ⟨#[10]⟩))))
  (s0 : ByteArray) (x0 : τ) (h0 : I s0 x0 w) (a₁ : ByteArray → Bool → Act)
  (hassign : ∀ (l : Nat) (v : ByteArray) (b : Bool) (W : World) (K : Act → World → Prop), K (a₁ v b) W →
   assign.wpIn (F.inRound l) (n - 1 - 1) Tryz.prog (Exit.then K (fun _ _ _ => False)) { tmps := (a.tmps.setIfInBounds p1 (.string v)).setIfInBounds p2 (.bool b), defers := [] } W)
  (hbody : ∀ (l : Nat) (s : ByteArray) (x : τ) (W : World), s.size ≠ 0 → I s x W → body.wpIn (F.inRound l) (n - 1 - 1) Tryz.prog (RoundEnd (step x (cutA s ⟨#[10]⟩) (cutC s ⟨#[10]⟩)) (I2 s) Ix W) (a₁ (cutA s ⟨#[10]⟩) (cutC s ⟨#[10]⟩)) W)
  (hdone : ∀ (D : Nat) (s : ByteArray) (y : τ) (W : World), w.heap.size ≤ D → foldLines step (s0.size + 1) s0 x0 = some y → I s y W → W.heap[D]? = some (.deferred (some [])) → Q .normal { a with defers := { target := .collected D, args := #[] } :: a.defers } W)
  (hstop : ∀ (D : Nat) (W : World), w.heap.size ≤ D → foldLines step (s0.size + 1) s0 x0 = none → Ix W → W.heap[D]? = some (.deferred (some [])) → Code.ret.wpIn F n Tryz.prog Q { a with defers := { target := .collected D, args := #[] } :: a.defers } W) :
  (Code.rangeFunc g #[p1, p2] assign body).wpIn F n Tryz.prog Q a w := by
 refine wpIn_rangeFunc fun fn hfn => ?_
 rw [hro]
 obtain ⟨rec, hrec⟩ : ∃ rec : LoopState → Option Code → Loop, rec = fun st pe => { state := st, pending := pe, fn, tmps := a.tmps, params := #[p1, p2], assign, body, defers := w.heap.size } := ⟨_, rfl⟩
 obtain ⟨W1, hW1⟩ : ∃ W1, (w.alloc (.deferred (some []))).alloc (.loop (rec .ready none)) = W1 := ⟨_, rfl⟩
 have hL1 : W1.heap[w.heap.size + 1]? = some (.loop (rec .ready none)) := by
  rw [← hW1]; have := World.alloc_heap_new (w.alloc (.deferred (some []))) (.loop (rec .ready none)); rwa [World.size_alloc] at this
 have hK1 : W1.heap[w.heap.size]? = some (.deferred (some [])) := by
  rw [← hW1]; exact (Below.heap_alloc _ _ _ (by simp)).trans (World.alloc_heap_new w _)
 have hI1 : I s0 x0 W1 := by rw [← hW1]; exact hIa _ _ _ _ (hIa _ _ _ _ h0 (Nat.le_refl _)) (by simp)
 have hbl : ∀ s x W, I2 s x W → W.heap[w.heap.size + 1]? = some (.loop (rec .ready none)) → bx ≠ w.heap.size + 1 := fun s x W hi hl e => by
  obtain ⟨T, hc⟩ := hcell2 s x W hi
  rw [e, hl] at hc
  cases hc
 have hbk : ∀ s x W, I2 s x W → W.heap[w.heap.size]? = some (.deferred (some [])) → bx ≠ w.heap.size := fun s x W hi hl e => by
  obtain ⟨T, hc⟩ := hcell2 s x W hi
  rw [e, hl] at hc
  cases hc
 refine ⟨w.heap.size + 1, [{ target := .collected w.heap.size, args := #[] }], W1, { target := .fn (.func 87) #[.pointer (some ⟨bx, 0, none⟩)], args := #[.func (.yield (w.heap.size + 1)) #[] #[]] }, W1, 87,
  #[.func (.yield (w.heap.size + 1)) #[] #[]] ++ #[.pointer (some ⟨bx, 0, none⟩)], W1, ?_, ?_, ?_, ?_, fun _ => h1, ?_⟩
 ·rw [← hW1, hrec]; exact run_enterLoop_outer _ _ _ _ _
 ·simp only [resolve, hg]
  simp [go_sem]
 ·intro f' hf'; simp [Target.leads] at hf'; subst hf'; exact hF
 ·simp [invoke, go_sem, enters_of Tryz.func87 (by kernel_rfl) rfl]
 ·have key := lines1_in F (n - 1) hro hF hF2 hcut h2 (w.heap.size + 1) bx step
   (fun s x W => I s x W ∧ W.heap[w.heap.size + 1]? = some (.loop (rec .ready none)) ∧ W.heap[w.heap.size]? = some (.deferred (some [])))
   (fun s x W => I2 s x W ∧ W.heap[w.heap.size + 1]? = some (.loop (rec .ready none)) ∧ W.heap[w.heap.size]? = some (.deferred (some [])))
   (fun W => Ix W ∧ W.heap[w.heap.size + 1]? = some (.loop (rec .done (some .ret))) ∧ W.heap[w.heap.size]? = some (.deferred (some [])))
   (fun s x W h => by obtain ⟨T, hc⟩ := hcell2 s x W h.1; exact ⟨(blk_cell hc 0).trans rfl, blk_frozen hc 0⟩)
   (fun s x W h => by obtain ⟨T, hc⟩ := hcell s x W h.1; exact ⟨(blk_cell hc 0).trans rfl, blk_frozen hc 0⟩)
   (fun s x W h => hGL s x W h.1) (fun s x W h => hsz s x W h.1) (fun s x W m h => ⟨hdrew s x W m h.1, h.2.1, h.2.2⟩)
   (fun s x W h => ⟨hset s x W h.1, (Below.heap_setCell W ⟨bx, 0, none⟩ _ _ (Ne.symm (hbl s x W h.1 h.2.1))).trans h.2.1, (Below.heap_setCell W ⟨bx, 0, none⟩ _ _ (Ne.symm (hbk s x W h.1 h.2.2))).trans h.2.2⟩)
   ?_ s0 x0 W1 ⟨hI1, hL1, hK1⟩
  ·refine key.mono ?_
   rintro e W2 ⟨⟨v, rfl⟩, hp⟩
   cases hfl : foldLines step (s0.size + 1) s0 x0 with
   | some y =>
    rw [hfl] at hp
    obtain ⟨s, hi, hl, hk⟩ := hp
    exact ⟨none, _, by have := run_endLoop (P := Tryz.prog) hl (by rw [hrec]; simp); rw [hrec] at this; exact this, hdone _ s y _ (Nat.le_refl _) hfl (hIp _ _ _ _ _ _ hi (by omega) hl rfl) ((World.putObj_heap_other (by omega)).trans hk)⟩
   | none =>
    rw [hfl] at hp
    obtain ⟨hi, hl, hk⟩ := hp
    exact ⟨some .ret, _, by have := run_endLoop (P := Tryz.prog) hl (by rw [hrec]; simp); rw [hrec] at this; exact this, hstop _ _ (Nat.le_refl _) hfl (hXp _ _ _ _ hi (by omega) hl rfl) ((World.putObj_heap_other (by omega)).trans hk)⟩
  ·rintro s x W hs0 ⟨hi, hl, hk⟩
   have hlt : w.heap.size + 1 < W.heap.size := (Array.getElem?_eq_some_iff.1 hl).1
   have hy := run_yield (P := Tryz.prog) (args := #[.string (cutA s ⟨#[10]⟩), .bool (cutC s ⟨#[10]⟩)]) hl (by rw [hrec]; rfl)
   rw [hrec] at hy
   have e1 : ∀ V1 V2 : Value, (((#[p1, p2] : Array Tmp).zip #[V1, V2]).foldl (fun tmps (t, a) => tmps.setIfInBounds t a) a.tmps) = (a.tmps.setIfInBounds p1 V1).setIfInBounds p2 V2 := fun V1 V2 => by simp
   dsimp only at hy
   rw [e1] at hy
   refine ⟨fn, _, assign, body, hy, roundIn_of_wpIn hfn ?_⟩
   refine hassign _ (cutA s ⟨#[10]⟩) (cutC s ⟨#[10]⟩) W _ ⟨_, run_beginRound hl (by rw [hrec]), ?_⟩
   have hl2 : (W.putObj (w.heap.size + 1) (.loop { rec .ready none with state := .busy })).heap[w.heap.size + 1]? = some (.loop { rec .ready none with state := .busy }) := World.putObj_heap_same hlt
   have hk2 : (W.putObj (w.heap.size + 1) (.loop { rec .ready none with state := .busy })).heap[w.heap.size]? = some (.deferred (some [])) := (World.putObj_heap_other (by omega)).trans hk
   have fin : ∀ (jump : Option Code) (W3 : World), KeepsOthers (W.putObj (w.heap.size + 1) (.loop { rec .ready none with state := .busy })) W3 →
     (Instr.endRound (w.heap.size + 1) jump).run Tryz.prog W3 = .ok (.bool jump.isNone) (W3.putObj (w.heap.size + 1) (.loop (rec (if jump.isNone then .ready else .done) jump))) ∧
     W3.heap[w.heap.size + 1]? = some (.loop { rec .ready none with state := .busy }) ∧
     (W3.putObj (w.heap.size + 1) (.loop (rec (if jump.isNone then .ready else .done) jump))).heap[w.heap.size + 1]? = some (.loop (rec (if jump.isNone then .ready else .done) jump)) ∧
     (W3.putObj (w.heap.size + 1) (.loop (rec (if jump.isNone then .ready else .done) jump))).heap[w.heap.size]? = some (.deferred (some [])) := fun jump W3 hk3 => by
    have hl3 := hk3.same _ _ hl2 rfl
    have := run_endRound (P := Tryz.prog) jump hl3
    rw [hrec] at this ⊢
    exact ⟨this, by rw [hrec] at hl3; exact hl3, World.putObj_heap_same (Array.getElem?_eq_some_iff.1 hl3).1, (World.putObj_heap_other (by omega)).trans (hk3.same _ _ hk2 rfl)⟩
   refine wpIn_mono (hbody _ s x _ hs0 (hIp _ _ _ _ _ _ hi (by omega) hl rfl)) ?_
   rintro e a3 W3 ⟨hk3, hp⟩
   cases hst : step x (cutA s ⟨#[10]⟩) (cutC s ⟨#[10]⟩) with
   | some y =>
    rw [hst] at hp
    obtain ⟨rfl, hi3⟩ := hp
    obtain ⟨hr, hl3, hl4, hk4⟩ := fin none W3 hk3
    exact ⟨_, _, hr, rfl, hIp2 _ _ _ _ _ _ hi3 (by omega) hl3 rfl, hl4, hk4⟩
   | none =>
    rw [hst] at hp
    obtain ⟨rfl, hi3⟩ := hp
    obtain ⟨hr, hl3, hl4, hk4⟩ := fin (some .ret) W3 hk3
    exact ⟨_, _, hr, rfl, hXp _ _ _ _ hi3 (by omega) hl3 rfl, hl4, hk4⟩
end Go.Proofs.YtmcjccigglekpaaGreatDoor.Given
namespace Go.Proofs.YtmcjccigglekpaaGreatDoor.Given
open Go Go.RowKit Go.Proofs Go.Proofs.YtmcjccigglekpaaGreatDoorW.PrintWords Go.Proofs.YtmcjccigglekpaaGreatDoorW.PrintLast Go.Proofs.YtmcjccigglekpaaGreatDoorW.PrintMore Go.Proofs.YtmcjccigglekpaaGreatDoor.P

theorem Pw.lt {B b : Nat} {t : ByteArray} {w : World} (h : Pw B b t w) : b < w.heap.size := by
 rcases h.pen with h | h
 ·exact h.lt
 ·exact h.lt
theorem Pw.alloc {B b : Nat} {t : ByteArray} {w : World} (h : Pw B b t w) (o : Obj) : Pw B b t (w.alloc o) := h.below ((Below.refl _ _).alloc (Nat.le_refl _) _)
theorem Pw.drew {B b : Nat} {t : ByteArray} {w : World} (h : Pw B b t w) : Pw B b t w.drew := h.below (Below.refl _ _).drew
/-- A row that lies in a block of its own stays. -/
theorem rowBlock {B b g : Nat} (hg : g ≠ b) {l : List Int} {cs : Array Value} {w : World} (hc : cs.toList = l.map (Value.int .i64)) (hw : w.heap[g]? = some (.cells cs 3 (0, 0))) : RowStays B b (some ⟨g, 0, none⟩) l w := by
 intro w' _ hk j hj
 have h := hk g cs 3 (0, 0) hg (by decide) hw
 refine ⟨⟨g, 0, none⟩, rfl, ?_⟩
 have h1 : cs[j]? = some (.int .i64 l[j]) := by rw [← Array.getElem?_toList, hc, List.getElem?_map, List.getElem?_eq_getElem hj]; rfl
 have hx := (blk_cell h j).trans h1
 by_cases hj0 : j = 0
 ·subst hj0; exact hx
 ·simpa [Addr.add, hj0] using hx
theorem RowStays.on {B b : Nat} {A : Option Addr} {l : List Int} {w w' : World} (h : RowStays B b A l w) (hb : Below B w w') (hk : Kept b w w') : RowStays B b A l w' := fun w2 h2 k2 => h w2 (hb.trans h2) (hk.trans k2)
/-- A row below B stays. -/
theorem rowBelow {B b : Nat} {A : Option Addr} {l : List Int} {w0 w : World} (hB : w0.heap.size = B) (hw : Below B w0 w) (hr : Kd.C (Kd.int .i64) w0 A l.length l) : RowStays B b A l w := by
 intro w' hb _ j hj
 obtain ⟨ad, e, hx⟩ := Kd.at_int (Kd.C_below hr (by rw [hB]; exact hw.trans hb)) (j : Int) (by omega) (by omega)
 refine ⟨ad, e, ?_⟩
 rw [Int.toNat_natCast] at hx
 rw [hx]
 unfold rd
 rw [Int.toNat_natCast, List.getD_eq_getElem?_getD, List.getElem?_eq_getElem hj]
 rfl

def yesT (x : Bool) : ByteArray := numsT [if x = true then 1 else 0]
theorem one_size : (⟨#[32]⟩ : ByteArray).size = 1 := rfl

set_option maxHeartbeats 800000 in
theorem pen_yes (B b : Nat) (t : ByteArray) (x : Bool) (w : World) (h : Pw B b t w) (hlen : t.size + (yesT x).size ≤ 140737488355328) :
  Calls Tryz.prog 27 #[.pointer (some ⟨b, 0, none⟩), .bool x] w (PPost B b (t ++ yesT x) (.pointer (some ⟨b, 0, none⟩)) w) := by
 have hne : w.heap.size ≠ b := by have := h.lt; omega
 unfold yesT at hlen ⊢
 obtain ⟨n, hn⟩ : ∃ n : Int, (if x = true then 1 else 0) = n := ⟨_, rfl⟩
 have hn64 : R64 n := by rw [← hn]; cases x <;> simp [R64]
 rw [hn] at hlen ⊢
 have hw : Pw B b t (w.alloc (.cells #[.int .i64 n] 3)) := h.alloc _
 have D := (show Calls Tryz.prog 22 #[.pointer (some ⟨b, 0, none⟩), .slice (some ⟨w.heap.size, 0, none⟩) 1 1] _ _ from pen_number B b t (some ⟨w.heap.size, 0, none⟩) 1 [n] (fun m hm => by rw [List.mem_singleton.1 hm]; exact hn64) _ hw (rowBlock hne rfl (heap_alloc_new w _)) (by simp) hlen)
 have hb1 : Below B w (w.alloc (.cells #[.int .i64 n] 3)) := (Below.refl _ _).alloc h.base _
 have hk1 : Kept b w (w.alloc (.cells #[.int .i64 n] 3)) := (Kept.refl _ _).alloc _
 generalize t ++ numsT [n] = t' at *
 have HD := Lib.hid D
 have HB := Lib.hid hb1
 have HK := Lib.hid hk1
 clear D hb1 hk1 h hlen hw hn64
 cases x
 all_goals
  first | obtain rfl : (0 : Int) = n := hn
        | obtain rfl : (1 : Int) = n := hn
  go_enter Tryz.func27, Tryz.ntmps27
  go_wp2_with (go_at_call 22; (with_reducible refine HD.out.mono ?_); clear HD; rintro e w1 ⟨rfl, h1, hb1, hk1⟩)
  go_ret
  exact ⟨rfl, h1, HB.out.trans hb1, HK.out.trans hk1⟩

def keyT (k : S74) : ByteArray := numsT [k.f0] ++ (⟨#[46]⟩ ++ itoS k.f1)

set_option maxHeartbeats 800000 in
theorem pen_key (B b : Nat) (t : ByteArray) (k : S74) (h0 : R64 k.f0) (h1 : R64 k.f1) (w : World) (h : Pw B b t w) (hlen : t.size + (keyT k).size ≤ 140737488355328) :
  Calls Tryz.prog 26 #[.pointer (some ⟨b, 0, none⟩), .agg #[.int .i64 k.f0, .int .i64 k.f1]] w (PPost B b (t ++ keyT k) (.pointer (some ⟨b, 0, none⟩)) w) := by
 have hne := h.lt
 unfold keyT at hlen ⊢
 rw [ByteArray.size_append, ByteArray.size_append] at hlen
 have h46 : (⟨#[46]⟩ : ByteArray).size = 1 := rfl
 have hw : Pw B b t ((w.alloc (.cells #[.int .i64 k.f0, .int .i64 k.f1] 74)).alloc (.cells #[.int .i64 k.f0] 3)) := (h.alloc _).alloc _
 have D := (show Calls Tryz.prog 22 #[.pointer (some ⟨b, 0, none⟩), .slice (some ⟨w.heap.size + 1, 0, none⟩) 1 1] _ _ from pen_number B b t (some ⟨w.heap.size + 1, 0, none⟩) 1 [k.f0] (fun n hn => by rw [List.mem_singleton.1 hn]; exact h0) _ hw (rowBlock (by omega) rfl (by have := heap_alloc_new (w.alloc (.cells #[.int .i64 k.f0, .int .i64 k.f1] 74)) (.cells #[.int .i64 k.f0] 3); rwa [show (w.alloc (.cells #[.int .i64 k.f0, .int .i64 k.f1] 74)).heap.size = w.heap.size + 1 by simp] at this)) (by simp) (by omega))
 have hb1 : Below B w ((w.alloc (.cells #[.int .i64 k.f0, .int .i64 k.f1] 74)).alloc (.cells #[.int .i64 k.f0] 3)) := ((Below.refl _ _).alloc h.base _).alloc (by simp; have := h.base; omega) _
 have hk1 : Kept b w ((w.alloc (.cells #[.int .i64 k.f0, .int .i64 k.f1] 74)).alloc (.cells #[.int .i64 k.f0] 3)) := ((Kept.refl _ _).alloc _).alloc _
 have hx : ((w.alloc (.cells #[.int .i64 k.f0, .int .i64 k.f1] 74)).alloc (.cells #[.int .i64 k.f0] 3)).heap[w.heap.size]? = some (.cells #[.int .i64 k.f0, .int .i64 k.f1] 74 (0, 0)) := (Lib.alloc_old _ _ _ (by simp)).trans (heap_alloc_new w _)
 have D1 := fun w' (h' : Pw B b (t ++ numsT [k.f0]) w') => (show Calls Tryz.prog 61 #[.pointer (some ⟨b, 0, none⟩), .int .u8 46] w' (PPost B b (t ++ numsT [k.f0] ++ ⟨#[46]⟩) .nilIface w') from wByte B b _ 46 w' h' (by rw [ByteArray.size_append]; omega))
 have D2 := fun w' (h' : Pw B b (t ++ numsT [k.f0] ++ ⟨#[46]⟩) w') => itoa_calls k.f1 h1 w' h'.gl.here
 have D3 := fun w' (h' : Pw B b (t ++ numsT [k.f0] ++ ⟨#[46]⟩) w') => wString B b _ (itoS k.f1) w' h' (by rw [ByteArray.size_append, ByteArray.size_append]; omega)
 rw [← ByteArray.append_assoc, ← ByteArray.append_assoc]
 generalize t ++ numsT [k.f0] = q at *
 generalize itoS k.f1 = s at *
 have HD := Lib.hid D
 have HB := Lib.hid hb1
 have HK := Lib.hid hk1
 have HX := Lib.hid hx
 have D1 := Lib.hid D1
 have D2 := Lib.hid D2
 have D3 := Lib.hid D3
 clear D hb1 hk1 h hlen hw hx h0 h1
 go_enter Tryz.func26, Tryz.ntmps26
 go_wp2_with (first | (go_at_call 22; (with_reducible refine HD.out.mono ?_); clear HD; rintro e w1 ⟨rfl, h1, hb1, hk1⟩; have m1 := hk1 _ _ _ _ (by omega) (by decide) HX.out) | (go_at_call 61; (with_reducible refine (D1.out _ ?_).mono ?_); clear D1; (exact h1); rintro e w2 ⟨rfl, h2, hb2, hk2⟩; have m2 := hk2 _ _ _ _ (by omega) (by decide) m1; have m3 := (blk_cell m2 1).trans (show _ = some (Value.int .i64 k.f1) from rfl)))
 go_region_held3 (fun w' => w'.cell? ⟨w.heap.size, 1, none⟩ = some (.int .i64 k.f1)) (first | exact m3 | exact m4 | exact m5) (first | (go_at_call 62; (with_reducible refine (D2.out _ ?_).mono ?_); clear D2; (exact h2.drew); rintro e w3 ⟨rfl, hb3⟩; have n4 := (hb3.block _ (heap_lt m2)).trans m2; have m4 := (blk_cell n4 1).trans (show _ = some (Value.int .i64 k.f1) from rfl)) | (go_at_call 60; (with_reducible refine (D3.out _ ?_).mono ?_); clear D3; (exact h2.drew.below hb3); rintro e w4 ⟨rfl, h4, hb4, hk4⟩; have m5 := (blk_cell (hk4 _ _ _ _ (by omega) (by decide) n4) 1).trans (show _ = some (Value.int .i64 k.f1) from rfl)))
 go_wp2
 go_ret
 have hf := pfin h2.base hb2 hk2 hb3 hb4 hk4
 exact ⟨rfl, h4, (HB.out.trans hb1).trans hf.1, (HK.out.trans hk1).trans hf.2⟩
end Go.Proofs.YtmcjccigglekpaaGreatDoor.Given
namespace Go.Proofs.YtmcjccigglekpaaGreatDoor.Given
open Go Go.RowKit Go.Proofs Go.Proofs.YtmcjccigglekpaaGreatDoorW.PrintWords Go.Proofs.YtmcjccigglekpaaGreatDoorW.PrintLast Go.Proofs.YtmcjccigglekpaaGreatDoorW.PrintMore Go.Proofs.YtmcjccigglekpaaGreatDoor.P Go.Proofs.YtmcjccigglekpaaGreatDoor.Plain

/-- What is written for each of a list, its place told. -/
def catI {α : Type} (f : Nat → α → ByteArray) : List α → Nat → ByteArray
 | [], _ => ⟨#[]⟩
 | x :: l, i => f i x ++ catI f l (i + 1)
theorem catI_take {α : Type} (f : Nat → α → ByteArray) : ∀ (l : List α) (i k : Nat) (hk : k < l.length), catI f (l.take (k + 1)) i = catI f (l.take k) i ++ f (i + k) l[k]
 | [], _, _, h => absurd h (Nat.not_lt_zero _)
 | x :: l, i, 0, _ => by
  show f i x ++ ⟨#[]⟩ = ⟨#[]⟩ ++ f i x
  exact (ByteArray.append_empty).trans (ByteArray.empty_append).symm
 | x :: l, i, k + 1, h => by
  show f i x ++ catI f (l.take (k + 1)) (i + 1) = f i x ++ catI f (l.take k) (i + 1) ++ f (i + (k + 1)) (l[k]'(Nat.lt_of_succ_lt_succ h))
  rw [catI_take f l (i + 1) k (Nat.lt_of_succ_lt_succ h), ByteArray.append_assoc, show i + 1 + k = i + (k + 1) by omega]
theorem catI_size {α : Type} (f : Nat → α → ByteArray) : ∀ (l : List α) (i k : Nat), (catI f (l.take k) i).size ≤ (catI f l i).size
 | [], i, k => by rw [List.take_nil]; exact Nat.le_refl _
 | x :: l, i, 0 => Nat.zero_le _
 | x :: l, i, k + 1 => by
  show (f i x ++ catI f (l.take k) (i + 1)).size ≤ (f i x ++ catI f l (i + 1)).size
  rw [ByteArray.size_append, ByteArray.size_append]
  exact Nat.add_le_add_left (catI_size f l (i + 1) k) _
theorem catI_fits {α : Type} (f : Nat → α → ByteArray) (l : List α) (k : Nat) (hk : k < l.length) : (catI f (l.take k) 0).size + (f k l[k]).size ≤ (catI f l 0).size := by
 have h := catI_size f l 0 (k + 1)
 rw [catI_take f l 0 k hk, ByteArray.size_append, Nat.zero_add] at h
 exact h

theorem num1 (B b : Nat) (t : ByteArray) (n : Int) (hn : R64 n) (w : World) (h : Pw B b t w) (hlen : t.size + (numsT [n]).size ≤ 140737488355328) :
  Calls Tryz.prog 22 #[.pointer (some ⟨b, 0, none⟩), .slice (some ⟨w.heap.size, 0, none⟩) 1 1] (w.alloc (.cells #[.int .i64 n] 3)) (PPost B b (t ++ numsT [n]) (.pointer (some ⟨b, 0, none⟩)) w) := by
 have hne : w.heap.size ≠ b := by have := h.lt; omega
 refine (show Calls Tryz.prog 22 #[.pointer (some ⟨b, 0, none⟩), .slice (some ⟨w.heap.size, 0, none⟩) 1 1] _ _ from pen_number B b t (some ⟨w.heap.size, 0, none⟩) 1 [n] (fun m hm => by rw [List.mem_singleton.1 hm]; exact hn) _ (h.alloc _) (rowBlock hne rfl (heap_alloc_new w _)) (by simp) hlen).mono ?_
 rintro e w' ⟨rfl, h1, h2, h3⟩
 exact ⟨rfl, h1, ((Below.refl _ _).alloc h.base _).trans h2, ((Kept.refl _ _).alloc _).trans h3⟩
theorem num2 (B b : Nat) (t : ByteArray) (m n : Int) (hm : R64 m) (hn : R64 n) (w : World) (h : Pw B b t w) (hlen : t.size + (numsT [m, n]).size ≤ 140737488355328) :
  Calls Tryz.prog 22 #[.pointer (some ⟨b, 0, none⟩), .slice (some ⟨w.heap.size, 0, none⟩) 2 2] (w.alloc (.cells #[.int .i64 m, .int .i64 n] 3)) (PPost B b (t ++ numsT [m, n]) (.pointer (some ⟨b, 0, none⟩)) w) := by
 have hne : w.heap.size ≠ b := by have := h.lt; omega
 refine (show Calls Tryz.prog 22 #[.pointer (some ⟨b, 0, none⟩), .slice (some ⟨w.heap.size, 0, none⟩) 2 2] _ _ from pen_number B b t (some ⟨w.heap.size, 0, none⟩) 2 [m, n] (fun x hx => by simp at hx; rcases hx with rfl | rfl <;> assumption) _ (h.alloc _) (rowBlock hne rfl (heap_alloc_new w _)) (by simp) hlen).mono ?_
 rintro e w' ⟨rfl, h1, h2, h3⟩
 exact ⟨rfl, h1, ((Below.refl _ _).alloc h.base _).trans h2, ((Kept.refl _ _).alloc _).trans h3⟩

/-- A word's text. -/
def textW (x : Int) : ByteArray := strOfNums (rowT x 16)
def capZ (c : S87) : Bool := capZero c.f0 c.f1 c.f2 c.f3 c.f4
def capWord (c : S87) : Int := ((wordN c.f0.toNat c.f1.toNat c.f2.toNat c.f3.toNat c.f4.toNat : Nat) : Int)
theorem bitsText_calls (x : Int) (w : World) (h0 : 0 ≤ x) (h1 : x < 18446744073709551616) : Calls Tryz.prog 65 #[.int .u64 x] w fun e w' => e = .returned (.string (textW x)) ∧ Below w.heap.size w w' := by
 refine (text_calls x w h0 h1).mono ?_
 rintro e w' ⟨_, rfl, rfl, hb⟩
 exact ⟨rfl, hb⟩
def slotT (o : Int) (i : Nat) (c : S87) : ByteArray := if capZ c = true then ⟨#[]⟩ else ⟨#[115, 108, 111, 116]⟩ ++ keyT ⟨o, (i : Int)⟩ ++ (⟨#[32]⟩ ++ textW (capWord c)) ++ ⟨#[10]⟩
def nodeHead (o : Int) : ByteArray := ⟨#[110, 111, 100, 101]⟩ ++ numsT [o] ++ ⟨#[10]⟩
def nodeT (o : Int) (l : List S87) : ByteArray := nodeHead o ++ catI (slotT o) l 0
theorem capWord_ok (c : S87) (h : capBad c = false) : cap_Word.f c.f0 c.f1 c.f2 c.f3 c.f4 = some (capWord c, 0) ∧ 0 ≤ capWord c ∧ capWord c < 18446744073709551616 := by
 unfold capBad capRes at h
 have hz : ∀ n0 n1 n2 n3 n4 : Nat, (0 : Int) ≤ ((wordN n0 n1 n2 n3 n4 : Nat) : Int) := fun _ _ _ _ _ => Int.natCast_nonneg _
 have hok : capOk c.f0 c.f1 c.f2 c.f3 c.f4 = true := by
  have hck := Option.some.inj (check_ok c.f0 c.f1 c.f2 c.f3 c.f4)
  have h0 := bne_eq_false_iff_eq.mp h
  rw [h0] at hck
  by_cases hc : capOk c.f0 c.f1 c.f2 c.f3 c.f4 = true
  ·exact hc
  ·rw [if_neg hc] at hck
   cases hck
 refine ⟨?_, hz _ _ _ _ _, ?_⟩
 ·unfold cap_Word.f
  rw [if_pos hok]
  rfl
 ·obtain ⟨⟨a0, a1⟩, ⟨b0, b1⟩, ⟨c0, c1⟩, ⟨d0, d1⟩, e0, e1⟩ := capOk_bounds hok
  have q0 : putN 0 0 4 c.f0.toNat < 18446744073709551616 := putN_lt _ _ _ _ (by decide) (by omega) (by decide)
  have q1 : putN (putN 0 0 4 c.f0.toNat) 4 4 c.f1.toNat < 18446744073709551616 := putN_lt _ _ _ _ q0 (by omega) (by decide)
  have q2 := putN_lt _ 8 16 c.f2.toNat q1 (by omega) (by decide)
  have q3 := putN_lt _ 24 10 c.f3.toNat q2 (by omega) (by decide)
  have q4 := putN_lt _ 34 12 c.f4.toNat q3 (by omega) (by decide)
  unfold capWord wordN
  exact Int.ofNat_lt.2 q4
theorem rdCap (xs : List S87) (k : Nat) (hk : k < xs.length) : rd_T87 xs (k : Int) = xs[k] := by
 unfold rd_T87
 rw [Int.toNat_natCast, List.getD_eq_getElem?_getD, List.getElem?_eq_getElem hk]
 rfl
attribute [local go_sem high] capEq

set_option maxRecDepth 100000 in
set_option maxHeartbeats 1600000 in
theorem pen_node (w0 : World) (b : Nat) (t : ByteArray) (o : Int) (ho : R64 o) (A : Option Addr) (c : Nat) (l : List S87) (hr : Kd.C k87 w0 A l.length l) (hl : l.length ≤ 8) (hok : ∀ x ∈ l, capBad x = false)
  (w : World) (hw : Below w0.heap.size w0 w) (h : Pw w0.heap.size b t w) (hlen : t.size + (nodeT o l).size ≤ 140737488355328) :
  Calls Tryz.prog 25 #[.pointer (some ⟨b, 0, none⟩), .int .i64 o, .slice A l.length c] w (PPost w0.heap.size b (t ++ nodeT o l) (.tuple #[]) w) := by
 have HM := Lib.hid hlen
 have HR := Lib.hid hr
 have HO := Lib.hid hok
 have h1s : (⟨#[10]⟩ : ByteArray).size = 1 := rfl
 have h4s : (⟨#[110, 111, 100, 101]⟩ : ByteArray).size = 4 := rfl
 have e1 : t.size + (4 + (numsT [o]).size + 1) + (catI (slotT o) l 0).size ≤ 140737488355328 := by
  have := hlen
  unfold nodeT nodeHead at this
  rw [ByteArray.size_append, ByteArray.size_append, ByteArray.size_append, h1s, h4s] at this
  omega
 have D1 := Lib.hid (pen_word w0.heap.size b t ⟨#[110, 111, 100, 101]⟩ w h (by rw [h4s]; omega))
 have D2 := Lib.hid (fun w' (h' : Pw w0.heap.size b (t ++ ⟨#[110, 111, 100, 101]⟩) w') => num1 w0.heap.size b _ o ho w' h' (by rw [ByteArray.size_append, h4s]; omega))
 have D3 := Lib.hid (fun w' (h' : Pw w0.heap.size b (t ++ ⟨#[110, 111, 100, 101]⟩ ++ numsT [o]) w') => pen_end w0.heap.size b _ w' h' (by rw [ByteArray.size_append, ByteArray.size_append, h4s]; omega))
 have ht : t ++ ⟨#[110, 111, 100, 101]⟩ ++ numsT [o] ++ ⟨#[10]⟩ = t ++ nodeHead o := by unfold nodeHead; simp only [ByteArray.append_assoc]
 have hn : t ++ nodeT o l = t ++ nodeHead o ++ catI (slotT o) l 0 := by unfold nodeT; rw [ByteArray.append_assoc]
 rw [hn]
 have hs : (t ++ nodeHead o).size + (catI (slotT o) l 0).size ≤ 140737488355328 := by
  rw [← ht, ByteArray.size_append, ByteArray.size_append, ByteArray.size_append, h1s, h4s]; omega
 have HW := Lib.hid hw
 clear hlen hr hok e1 hn HM hw h
 rw [ht.symm] at hs
 have HT := Lib.hid hs
 clear hs
 go_enter Tryz.func25, Tryz.ntmps25
 go_wp2_with (first | (go_at_call 21; (with_reducible refine D1.out.mono ?_); clear D1; rintro e w1 ⟨rfl, h1, hb1, hk1⟩) | (go_at_call 22; (with_reducible refine (D2.out _ ?_).mono ?_); clear D2; (exact h1); rintro e w2 ⟨rfl, h2, hb2, hk2⟩) | (go_at_call 23; (with_reducible refine (D3.out _ ?_).mono ?_); clear D3; (exact h2); rintro e w3 ⟨rfl, h3, hb3, hk3⟩))
 rw [ht] at h3 HT
 have hB3 : Below w0.heap.size w w3 := (hb1.trans hb2).trans hb3
 have hK3 : Kept b w w3 := (hk1.trans hk2).trans hk3
 clear h1 h2 hb1 hb2 hb3 hk1 hk2 hk3 ht
 generalize t ++ nodeHead o = T at *
 go_loopw [18] (fun v wr => ∃ k : Nat, k ≤ l.length ∧ v = .int .i64 k ∧ Hid (Pw w0.heap.size b (T ++ catI (slotT o) (l.take k) 0) wr) ∧ Below w0.heap.size w wr ∧ Kept b w wr) (fun v _ => l.length - (intOf v).toNat)
 case atStart => exact ⟨0, Nat.zero_le _, rfl, Lib.hid (by have e : T ++ catI (slotT o) (l.take 0) 0 = T := ByteArray.append_empty; rw [e]; exact h3), hB3, hK3⟩
 case round =>
  obtain ⟨k, hk, rfl, hp, hB, hK⟩ := hrel
  by_cases hlt : k < l.length
  ·have hd : decide ((k : Int) < (l.length : Int)) = true := decide_eq_true (by omega)
   have i2 : decide (0 ≤ (k : Int)) = true := decide_eq_true (by omega)
   have j2 : decide (k < l.length) = true := decide_eq_true hlt
   obtain ⟨ad, e1, hx0, hx1, hx2, hx3, hx4⟩ := at_T87 (Kd.C_below HR.out (HW.out.trans hB)) (k : Int) (by omega) (by omega)
   subst e1
   rw [rdCap _ k hlt, Int.toNat_natCast] at hx0 hx1 hx2 hx3 hx4
   have hcat := catI_take (slotT o) l 0 k hlt
   have hfit := catI_fits (slotT o) l k hlt
   have hbad := HO.out l[k] (List.getElem_mem hlt)
   have hT := HT.out
   rw [Nat.zero_add] at hcat
   generalize l[k] = x at *
   generalize catI (slotT o) (l.take k) 0 = q at *
   have HC : Hid (catI (slotT o) (l.take (k + 1)) 0 = q ++ slotT o k x) := Lib.hid hcat
   have hend : (k : Int).toNat = k := Int.toNat_natCast k
   cases hz : capZ x with
   | true =>
    have hz' : ((x.f0 == 0) && ((x.f1 == 0) && ((x.f2 == 0) && ((x.f3 == 0) && (x.f4 == 0))))) = true := hz
    have hs : slotT o k x = ⟨#[]⟩ := by unfold slotT; rw [hz, if_pos rfl]
    have HS := Lib.hid hs
    clear hs hcat hfit hbad hT
    go_wp2
    refine ⟨⟨k + 1, hlt, rfl, ?_, ?_, ?_⟩, ?_⟩
    ·rw [HC.out, HS.out, ← ByteArray.append_assoc]
     have e : T ++ q ++ ⟨#[]⟩ = T ++ q := ByteArray.append_empty
     rw [e]
     exact Lib.hid (hp.out.below (by go_grown))
    ·exact hB.trans ((by go_grown : Below wr.heap.size wr _).mono hp.out.base)
    ·exact hK.below (by go_grown)
    ·show l.length - ((k : Int) + 1).toNat < l.length - ((k : Int)).toNat
     omega
   | false =>
    have hz' : ((x.f0 == 0) && ((x.f1 == 0) && ((x.f2 == 0) && ((x.f3 == 0) && (x.f4 == 0))))) = false := hz
    obtain ⟨hW, hW0, hW1⟩ := capWord_ok x hbad
    have hs : slotT o k x = ⟨#[115, 108, 111, 116]⟩ ++ keyT ⟨o, (k : Int)⟩ ++ (⟨#[32]⟩ ++ textW (capWord x)) ++ ⟨#[10]⟩ := by unfold slotT; rw [hz, if_neg (by decide)]
    have D4 := fun w' => cap_Word.calls x.f0 x.f1 x.f2 x.f3 x.f4 _ _ w' hW
    generalize capWord x = Wd at *
    have D7 := fun w' => bitsText_calls Wd w' hW0 hW1
    generalize textW Wd = s at *
    have hs4 : (⟨#[115, 108, 111, 116]⟩ : ByteArray).size = 4 := rfl
    have hq : (T ++ q).size + (4 + (keyT ⟨o, (k : Int)⟩).size + (1 + s.size) + 1) ≤ 140737488355328 := by
     rw [hs, ByteArray.size_append, ByteArray.size_append, ByteArray.size_append, ByteArray.size_append (a := ⟨#[32]⟩), hs4, h1s, one_size] at hfit
     rw [ByteArray.size_append]
     omega
    have HS : Hid (T ++ (q ++ slotT o k x) = T ++ q ++ ⟨#[115, 108, 111, 116]⟩ ++ keyT ⟨o, (k : Int)⟩ ++ (⟨#[32]⟩ ++ s) ++ ⟨#[10]⟩) := Lib.hid (by rw [hs]; simp only [ByteArray.append_assoc])
    have D5 := Lib.hid (fun w' (h' : Pw w0.heap.size b (T ++ q) w') => pen_word w0.heap.size b _ ⟨#[115, 108, 111, 116]⟩ w' h' (by rw [hs4]; omega))
    have D6 := Lib.hid (fun w' (h' : Pw w0.heap.size b (T ++ q ++ ⟨#[115, 108, 111, 116]⟩) w') => pen_key w0.heap.size b _ ⟨o, (k : Int)⟩ ho ⟨by show _ ≤ (k : Int); omega, by show (k : Int) ≤ _; omega⟩ w' h' (by rw [ByteArray.size_append (a := T ++ q), hs4]; omega))
    have D8 := Lib.hid (fun w' (h' : Pw w0.heap.size b (T ++ q ++ ⟨#[115, 108, 111, 116]⟩ ++ keyT ⟨o, (k : Int)⟩) w') => pen_word w0.heap.size b _ (⟨#[32]⟩ ++ s) w' h' (by rw [ByteArray.size_append (a := T ++ q ++ ⟨#[115, 108, 111, 116]⟩), ByteArray.size_append (a := T ++ q), ByteArray.size_append (a := ⟨#[32]⟩), hs4, one_size]; omega))
    have D9 := Lib.hid (fun w' (h' : Pw w0.heap.size b (T ++ q ++ ⟨#[115, 108, 111, 116]⟩ ++ keyT ⟨o, (k : Int)⟩ ++ (⟨#[32]⟩ ++ s)) w') => pen_end w0.heap.size b _ w' h' (by rw [ByteArray.size_append (a := T ++ q ++ ⟨#[115, 108, 111, 116]⟩ ++ keyT ⟨o, (k : Int)⟩), ByteArray.size_append (a := T ++ q ++ ⟨#[115, 108, 111, 116]⟩), ByteArray.size_append (a := T ++ q), ByteArray.size_append (a := ⟨#[32]⟩), hs4, one_size]; omega))
    have hz1 : 1 + s.size ≤ 9223372036854775807 := by omega
    have D4 := Lib.hid D4
    have D7 := Lib.hid D7
    clear hcat hfit hbad hT hs hW hW0 hW1 hq hz
    go_wp2_with (go_at_call 64; (with_reducible refine (D4.out _).mono ?_); clear D4; rintro e w4 ⟨rfl, hb4⟩)
    have hg : Below wr.heap.size wr w4 := (by go_grown : Below wr.heap.size wr _).trans (hb4.mono (by simp))
    have hp4 := hp.out.below hg
    go_wp2_with (first | (go_at_call 21; (with_reducible refine (D5.out _ ?_).mono ?_); clear D5; (exact hp4); rintro e w5 ⟨rfl, h5, hb5, hk5⟩) | (go_at_call 26; (with_reducible refine (D6.out _ ?_).mono ?_); clear D6; (exact h5); rintro e w6 ⟨rfl, h6, hb6, hk6⟩) | (go_at_call 65; (with_reducible refine (D7.out _).mono ?_); clear D7; rintro e w7 ⟨rfl, hb7⟩) | (go_at_call 21; (with_reducible refine (D8.out _ ?_).mono ?_); clear D8; (exact h6.below hb7); rintro e w8 ⟨rfl, h8, hb8, hk8⟩) | (go_at_call 23; (with_reducible refine (D9.out _ ?_).mono ?_); clear D9; (exact h8); rintro e w9 ⟨rfl, h9, hb9, hk9⟩))
    have hB9 : Below w0.heap.size wr w9 := ((((hg.mono hp.out.base).trans hb5).trans hb6).trans (hb7.mono h6.base)).trans (hb8.trans hb9)
    have hK9 : Kept b wr w9 := (((((Kept.refl _ _).below hg).trans hk5).trans hk6).below hb7).trans (hk8.trans hk9)
    refine ⟨⟨k + 1, hlt, rfl, ?_, hB.trans hB9, hK.trans hK9⟩, ?_⟩
    ·rw [HC.out, HS.out]
     exact Lib.hid h9
    ·show l.length - ((k : Int) + 1).toNat < l.length - ((k : Int)).toNat
     omega
  ·have hd : decide ((k : Int) < (l.length : Int)) = false := decide_eq_false (by omega)
   obtain rfl : k = l.length := by omega
   rw [List.take_length] at hp
   go_wp2
   go_end0
   exact ⟨rfl, hp.out, hB, hK⟩
end Go.Proofs.YtmcjccigglekpaaGreatDoor.Given
namespace Go.Proofs.YtmcjccigglekpaaGreatDoor.Given
open Go Go.RowKit
section
variable {P : Program} {ops : Array Oper} {Q : Exit → Act → World → Prop} {md : Region.Mode} {S : World → Prop} {σ : Type}
def graphOk [BEq σ] (md : Region.Mode) (ops : Array Oper) (sts : List σ) (lst : σ → Array Bool) (stp : σ → Nat → Option σ) (fin : σ → Bool) (rk : σ → Nat) : Bool :=
 sts.all fun s => (!(Region.ready md ops (lst s)).isEmpty || fin s) && (Region.ready md ops (lst s)).all fun i => match stp s i with
  | some s' => sts.contains s' && ((lst s).setIfInBounds i true == lst s') && decide (rk s' < rk s)
  | none => false
theorem wpAnyH_graph [BEq σ] [LawfulBEq σ] {sts : List σ} {lst : σ → Array Bool} {stp : σ → Nat → Option σ} {fin : σ → Bool} {rk : σ → Nat} (hchk : graphOk md ops sts lst stp fin rk = true) (J : σ → Act → World → Prop)
  (hstep : ∀ s i s', stp s i = some s' → ∀ a w, S w → J s a w → wpOp P ops Q i (fun a' w' => S w' ∧ J s' a' w') a w)
  (hdone : ∀ s a w, fin s = true → S w → J s a w → Q .normal a w) :
  ∀ (fuel : Nat) (s : σ) (a : Act) (w : World), s ∈ sts → rk s ≤ fuel → S w → J s a w → wpAnyH P md ops Q S fuel (lst s) a w := by
 have chk : ∀ s ∈ sts, (Region.ready md ops (lst s) = [] → fin s = true) ∧ ∀ i ∈ Region.ready md ops (lst s), ∃ s', stp s i = some s' ∧ s' ∈ sts ∧ (lst s).setIfInBounds i true = lst s' ∧ rk s' < rk s := by
  intro s hs
  have h := (List.all_eq_true.1 hchk) s hs
  simp only [Bool.and_eq_true, Bool.or_eq_true, Bool.not_eq_true', List.all_eq_true] at h
  refine ⟨fun h0 => ?_, fun i hi => ?_⟩
  ·rcases h.1 with h1 | h1
   ·rw [h0] at h1; cases h1
   ·exact h1
  ·have h2 := h.2 i hi
   cases hst : stp s i with
   | none => rw [hst] at h2; cases h2
   | some s' =>
    rw [hst] at h2
    simp only [Bool.and_eq_true, decide_eq_true_eq, beq_iff_eq, List.contains_iff_mem] at h2
    exact ⟨s', rfl, h2.1.1, h2.1.2, h2.2⟩
 intro fuel
 induction fuel with
 | zero =>
  intro s a w hs hk hS hJ
  have hno : Region.ready md ops (lst s) = [] := List.eq_nil_iff_forall_not_mem.2 fun i hi => by
   obtain ⟨s', _, _, _, h⟩ := (chk s hs).2 i hi
   omega
  exact ⟨hno, hdone s a w ((chk s hs).1 hno) hS hJ⟩
 | succ fuel ih =>
  intro s a w hs hk hS hJ
  refine ⟨fun h0 => hdone s a w ((chk s hs).1 h0) hS hJ, fun i hi => ?_⟩
  obtain ⟨s', h1, h2, h3, h4⟩ := (chk s hs).2 i hi
  rw [h3]
  exact wpOp_mono (fun a' w' hk' => ⟨hk'.1, ih s' a' w' h2 (by omega) hk'.1 hk'.2⟩) (hstep s i s' h1 a w hS hJ)
/-- What only reads, taken first. -/
def wpPre (P : Program) (ops : Array Oper) (S : World → Prop) (K : Act → World → Prop) : List Nat → Act → World → Prop
 | [], a, w => K a w
 | i :: r, a, w => ∃ o v, ops[i]? = some o ∧ YieldsIf P ops S o v a ∧ wpPre P ops S K r (a.put o.dst v) w
def preOk (md : Region.Mode) (ops : Array Oper) (L : Array Bool) : List Nat → Array Bool → Bool
 | [], listed => listed == L
 | i :: r, listed => (Region.ready md ops listed).contains i && Region.free md ops listed i && preOk md ops L r (listed.setIfInBounds i true)
theorem pre_held {L : Array Bool} {fuel : Nat} (hs : Region.noSelect ops = true) (hQ : ∀ c (a : Act) d v w, Q (.panic c) (a.put d v) w → Q (.panic c) a w) : ∀ (pre : List Nat) (listed : Array Bool) (a : Act) (w : World), preOk md ops L pre listed = true → S w →
  wpPre P ops S (fun a w => wpAnyH P md ops Q S fuel L a w) pre a w → wpAnyH P md ops Q S (fuel + pre.length) listed a w := by
 intro pre
 induction pre with
 | nil =>
  intro listed a w hB hS h
  have hB : listed = L := by unfold preOk at hB; simpa using hB
  rw [hB]
  exact h
 | cons i r ih =>
  intro listed a w hB hS h
  simp only [preOk, Bool.and_eq_true] at hB
  obtain ⟨⟨h1, h2⟩, h3⟩ := hB
  obtain ⟨o, v, ho, hy, hr⟩ := h
  exact wpAnyH_take ho hs h2 h1 (fun c a w hp => hQ c a _ _ w hp) hy hS (ih _ _ _ h3 hS hr)
theorem pre_pure {K : Act → World → Prop} {i : Nat} {r : List Nat} {a : Act} {w : World} {o : Oper} {l : List Oper} {v : Value} (ho : l[i]? = some o) (hw : Region.wanted o (yielded l.toArray a.tmps) = true) (hy : ∀ w, S w → (execOp a.eval o).run P w = .ok (.value v) w)
  (h : wpPre P l.toArray S K r (a.put o.dst v) w) : wpPre P l.toArray S K (i :: r) a w := ⟨o, v, by simpa using ho, .inl ⟨hw, hy⟩, h⟩
/-- An operation, looked up. -/
theorem wpOp_at {i : Nat} {a : Act} {w : World} {o : Oper} {l : List Oper} {K : Act → World → Prop} (ho : l[i]? = some o) (hw : Region.wanted o (yielded l.toArray a.tmps) = true)
  (h : ∀ K' : Act → World → Prop, Hid (∀ a' w', K a' w' → K' a' w') → Oper.wp P o a w K' Q) : wpOp P l.toArray Q i K a w := by
 have h' := h K (Lib.hid fun _ _ hk => hk)
 unfold wpOp
 rw [show l.toArray[i]? = some o by simpa using ho]
 dsimp only
 rw [if_pos hw]
 exact .inl h'
/-- **The region: all but the last: those that read by a list, the others by a graph; then the last.** -/
theorem wp_region_graph [BEq σ] [LawfulBEq σ] {id : Nat} {a : Act} {w : World} {l : List Oper} (S : World → Prop) (m : Nat) (pre : List Nat) (sts : List σ) (lst : σ → Array Bool) (stp : σ → Nat → Option σ) (fin : σ → Bool) (rk : σ → Nat) (s0 : σ) (hm : P.follows .mixedOrders = true)
  (hB : (peelB .any l.toArray m && (rk s0 + pre.length == m) && Region.noSelect l.toArray && preOk .any l.toArray (lst s0) pre ((Array.replicate l.toArray.size false).setIfInBounds m true) && sts.contains s0 && graphOk .any l.toArray sts lst stp fin rk) = true)
  (hQ : ∀ c (a : Act) d v w, Q (.panic c) (a.put d v) w → Q (.panic c) a w) (wd : World) (hwd : w.drew = wd) (hS : S wd) (J : σ → Act → World → Prop)
  (hstep : ∀ s i s', stp s i = some s' → ∀ a w, S w → J s a w → wpOp P l.toArray (lastQ P l.toArray Q m) i (fun a' w' => S w' ∧ J s' a' w') a w)
  (hdone : ∀ s a w, fin s = true → S w → J s a w → lastQ P l.toArray Q m .normal a w)
  (h : wpPre P l.toArray S (J s0) pre a wd) : (Code.region id l.toArray true).wp P Q a w := by
 subst hwd
 simp only [Bool.and_eq_true, beq_iff_eq, List.contains_iff_mem] at hB
 obtain ⟨⟨⟨⟨⟨h1, h2⟩, h3⟩, h4⟩, h5⟩, h6⟩ := hB
 have hsz : l.toArray.size = m + 1 := by
  unfold peelB at h1
  simp only [Bool.and_eq_true, beq_iff_eq] at h1
  exact h1.1.1
 refine wp_region_any hm ?_
 have hpre : ∀ (pre : List Nat) (a : Act) (w : World), S w → wpPre P l.toArray S (J s0) pre a w → wpPre P l.toArray S (fun a w => wpAnyH P .any l.toArray (lastQ P l.toArray Q m) S (rk s0) (lst s0) a w) pre a w := by
  intro pre
  induction pre with
  | nil => intro a w hS hJ; exact wpAnyH_graph h6 J hstep hdone _ _ _ _ h5 (Nat.le_refl _) hS hJ
  | cons i r ih => intro a w hS hJ; obtain ⟨o, v, ho, hy, hr⟩ := hJ; exact ⟨o, v, ho, hy, ih _ _ hS hr⟩
 have hx := wpAny_last (P := P) (Q := Q) h1 (rk s0 + pre.length) (Array.replicate l.toArray.size false) a w.drew (by simp) (fun i o ho hl => absurd hl (by rw [Array.getD_eq_getD_getElem?, Array.getElem?_replicate, if_pos (Array.getElem?_eq_some_iff.1 ho).1]; simp)) (by rw [Array.getD_eq_getD_getElem?, Array.getElem?_replicate, if_pos (by omega)]; rfl) (wpAny_of_held _ _ _ _ (pre_held (Q := lastQ P l.toArray Q m) h3 (fun c a d v w hp => hQ c a d v w hp) pre _ _ _ h4 hS (hpre pre a w.drew hS h)))
 rw [h2, ← hsz] at hx
 exact hx
theorem last_at {m : Nat} {a : Act} {w : World} {o : Oper} {l : List Oper} (ho : l[m]? = some o)
  (h : ∀ K : Act → World → Prop, Hid (∀ a' w', Q .normal a' w' → K a' w') → if Region.wanted o (yielded l.toArray a.tmps) = true then Oper.wp P o a w K Q else K (a.put o.dst undef) w) : lastQ P l.toArray Q m .normal a w :=
 sch_last (S := fun _ => True) ho h
end
end Go.Proofs.YtmcjccigglekpaaGreatDoor.Given
