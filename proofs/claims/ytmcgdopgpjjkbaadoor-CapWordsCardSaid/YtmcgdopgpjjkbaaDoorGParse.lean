/- cap.Parse at this program: what the call answers (fields and numbers lie in arrays). -/
import Derived.Test.YtmcgdopgpjjkbaaDoorGWord
import Derived.Test.YtmcgdopgpjjkbaaDoorPx4
namespace Go.Proofs.YtmcgdopgpjjkbaaDoor.Given
open Go Go.RowKit Go.Proofs Go.Proofs.YtmcgdopgpjjkbaaDoorW.PrintWords Go.Proofs.YtmcgdopgpjjkbaaDoorW.PrintLast Go.Proofs.YtmcgdopgpjjkbaaDoorW.PrintMore Go.Proofs.YtmcgdopgpjjkbaaDoor.P Go.Proofs.YtmcgdopgpjjkbaaDoor.Plain
set_option linter.unusedVariables false
set_option linter.unusedSimpArgs false

theorem G_of (w a n : Nat) (hw : w < 18446744073709551616) (h1 : 1 ≤ n) (h2 : a + n ≤ 64) (W : World) :
    Calls Tryd.prog 32 #[.int .u64 (w : Int), .int .i64 (a : Int), .int .i64 (n : Int)] W fun e w' => e = .returned (.int .u64 ((getN w a n : Nat) : Int)) ∧ Drawn0 W w' :=
  bits_Get.calls _ _ _ _ W (Get_yes hw h1 h2)
def nArr (x0 x1 x2 x3 x4 : Int) : Nat → Array Value
  | 0 => #[.int .i64 0, .int .i64 0, .int .i64 0, .int .i64 0, .int .i64 0]
  | 1 => #[.int .i64 x0, .int .i64 0, .int .i64 0, .int .i64 0, .int .i64 0]
  | 2 => #[.int .i64 x0, .int .i64 x1, .int .i64 0, .int .i64 0, .int .i64 0]
  | 3 => #[.int .i64 x0, .int .i64 x1, .int .i64 x2, .int .i64 0, .int .i64 0]
  | 4 => #[.int .i64 x0, .int .i64 x1, .int .i64 x2, .int .i64 x3, .int .i64 0]
  | _ => #[.int .i64 x0, .int .i64 x1, .int .i64 x2, .int .i64 x3, .int .i64 x4]
theorem blk_newN {w : World} {o : Obj} {n : Nat} (h : w.heap.size = n) : (w.alloc o).heap[n]? = some o := h ▸ blk_new w o
theorem blk_drawn {w w1 : World} {g : Nat} {o : Obj} (h : w.heap[g]? = some o) (hd : Drawn0 w w1) : w1.heap[g]? = some o := blk_below h hd.below
set_option maxRecDepth 100000 in
set_option maxHeartbeats 4000000 in
theorem parse_walk (L : Int) (n0 n1 n2 n3 n4 : Nat) (w : World) (xw xe : Int) (q : Bool)
    (G0 : Hid (∀ W : World, Calls Tryd.prog 32 #[.int .u64 L, .int .i64 0, .int .i64 4] W fun e w' => e = .returned (.int .u64 (n0 : Int)) ∧ Drawn0 W w'))
    (G1 : Hid (∀ W : World, Calls Tryd.prog 32 #[.int .u64 L, .int .i64 4, .int .i64 4] W fun e w' => e = .returned (.int .u64 (n1 : Int)) ∧ Drawn0 W w'))
    (G2 : Hid (∀ W : World, Calls Tryd.prog 32 #[.int .u64 L, .int .i64 8, .int .i64 16] W fun e w' => e = .returned (.int .u64 (n2 : Int)) ∧ Drawn0 W w'))
    (G3 : Hid (∀ W : World, Calls Tryd.prog 32 #[.int .u64 L, .int .i64 24, .int .i64 10] W fun e w' => e = .returned (.int .u64 (n3 : Int)) ∧ Drawn0 W w'))
    (G4 : Hid (∀ W : World, Calls Tryd.prog 32 #[.int .u64 L, .int .i64 34, .int .i64 12] W fun e w' => e = .returned (.int .u64 (n4 : Int)) ∧ Drawn0 W w'))
    (h0 : (n0 : Int) < 16) (h1 : (n1 : Int) < 16) (h2 : (n2 : Int) < 65536) (h3 : (n3 : Int) < 1024) (h4 : (n4 : Int) < 4096)
    (Cw : Hid (∀ W, Calls Tryd.prog 11 #[.agg #[.int .i64 (n0 : Int), .int .i64 (n1 : Int), .int .i64 (n2 : Int), .int .i64 (n3 : Int), .int .i64 (n4 : Int)]] W fun e w' => e = .returned (.tuple #[.int .u64 xw, .int .i64 xe]) ∧ Below W.heap.size W w'))
    (Hq : Hid ((decide (xe ≠ 0) || decide (xw ≠ L)) = q))
    (rv : Array Value) (rr : Int) (HV : Hid ((rv, rr) = if q = false then ((#[.int .i64 (n0 : Int), .int .i64 (n1 : Int), .int .i64 (n2 : Int), .int .i64 (n3 : Int), .int .i64 (n4 : Int)] : Array Value), (0 : Int)) else ((#[.int .i64 0, .int .i64 0, .int .i64 0, .int .i64 0, .int .i64 0] : Array Value), (30 : Int)))) :
    Calls Tryd.prog 13 #[.int .u64 L] w fun e w' => e = .returned (.tuple #[.agg rv, .int .i64 rr]) ∧ Below w.heap.size w w' := by
  have X0 : Hid (∀ w : World, (Instr.index 50 (.agg #[.int .i64 0, .int .i64 4, .int .i64 4, .int .i64 4, .int .i64 8, .int .i64 16, .int .i64 24, .int .i64 10, .int .i64 34, .int .i64 12]) (.int .i64 0)).run Tryd.prog w = .ok (.agg #[.int .i64 0, .int .i64 4]) w) := Lib.hid (fun _ => by kernel_rfl)
  have X1 : Hid (∀ w : World, (Instr.index 50 (.agg #[.int .i64 0, .int .i64 4, .int .i64 4, .int .i64 4, .int .i64 8, .int .i64 16, .int .i64 24, .int .i64 10, .int .i64 34, .int .i64 12]) (.int .i64 1)).run Tryd.prog w = .ok (.agg #[.int .i64 4, .int .i64 4]) w) := Lib.hid (fun _ => by kernel_rfl)
  have X2 : Hid (∀ w : World, (Instr.index 50 (.agg #[.int .i64 0, .int .i64 4, .int .i64 4, .int .i64 4, .int .i64 8, .int .i64 16, .int .i64 24, .int .i64 10, .int .i64 34, .int .i64 12]) (.int .i64 2)).run Tryd.prog w = .ok (.agg #[.int .i64 8, .int .i64 16]) w) := Lib.hid (fun _ => by kernel_rfl)
  have X3 : Hid (∀ w : World, (Instr.index 50 (.agg #[.int .i64 0, .int .i64 4, .int .i64 4, .int .i64 4, .int .i64 8, .int .i64 16, .int .i64 24, .int .i64 10, .int .i64 34, .int .i64 12]) (.int .i64 3)).run Tryd.prog w = .ok (.agg #[.int .i64 24, .int .i64 10]) w) := Lib.hid (fun _ => by kernel_rfl)
  have X4 : Hid (∀ w : World, (Instr.index 50 (.agg #[.int .i64 0, .int .i64 4, .int .i64 4, .int .i64 4, .int .i64 8, .int .i64 16, .int .i64 24, .int .i64 10, .int .i64 34, .int .i64 12]) (.int .i64 4)).run Tryd.prog w = .ok (.agg #[.int .i64 34, .int .i64 12]) w) := Lib.hid (fun _ => by kernel_rfl)
  go_enter Tryd.func13, Tryd.ntmps13
  go_wp2_with (go_at_call 28; (with_reducible refine (fields_calls _).mono ?_); rintro e w2 ⟨rfl, hb⟩; have HB2 := Aside0.mk (below_step (show Below w.heap.size w _ by go_grown) hb); have HN := Aside0.mk (show w2.heap[w.heap.size + 1]? = some (.cells (nArr n0 n1 n2 n3 n4 0) 52 (0, 0)) from blk_below (blk_newN (by simp)) hb); have HR := Aside0.mk (show w2.heap[w.heap.size]? = some (.cells #[.int .i64 0, .int .i64 0, .int .i64 0, .int .i64 0, .int .i64 0] 23 (0, 0)) from blk_below (blk_alloc (blk_newN rfl) _) hb); clear hb)
  go_loopw [11] (fun i wr => ∃ k : Int, 0 ≤ k ∧ k ≤ 5 ∧ i = .int .i64 k ∧ Aside0 (wr.heap[w.heap.size + 1]? = some (.cells (nArr n0 n1 n2 n3 n4 k.toNat) 52 (0, 0))) ∧ Aside0 (wr.heap[w.heap.size]? = some (.cells #[.int .i64 0, .int .i64 0, .int .i64 0, .int .i64 0, .int .i64 0] 23 (0, 0))) ∧ Aside0 (Below w.heap.size w wr)) (fun i _ => 5 - (intOf i).toNat)
  case atStart => exact ⟨0, by omega, by omega, rfl, HN, HR, HB2⟩
  case round =>
    clear HN HR HB2
    obtain ⟨k, hk0, hk5, rfl, HN, HR, HB⟩ := hrel
    by_cases hlt : k < 5
    · obtain rfl | rfl | rfl | rfl | rfl : k = 0 ∨ k = 1 ∨ k = 2 ∨ k = 3 ∨ k = 4 := by omega
      · have X := X0.out
        clear X0 X1 X2 X3 X4
        have y0 : IntKind.i64.wrap (n0 : Int) = (n0 : Int) := by rw [IntKind.wrap_i64]; omega
        go_wp2_with (go_at_call 32; (with_reducible refine (G0.out _).mono ?_); rintro e w3 ⟨rfl, hd⟩; have HN3 := Aside0.mk (blk_drawn (blk_alloc HN.out _) hd); have HR3 := Aside0.mk (blk_drawn (blk_alloc HR.out _) hd); have HB3 := Aside0.mk (below_step (below_alloc HB.out _) hd.below); have hc3 : w3.cell? ⟨w.heap.size + 1, 0, none⟩ = some (.int .i64 0) := (blk_cell HN3.out 0).trans rfl; have hf3 := blk_frozen HN3.out 0; clear hd)
        exact ⟨⟨1, by decide, by decide, rfl, Aside0.mk (blk_set HN3.out 0 _), Aside0.mk (blk_far HR3.out (by simp) _), Aside0.mk (HB3.out.setCell (by simp) _)⟩, by decide⟩
      · have X := X1.out
        clear X0 X1 X2 X3 X4
        have y0 : IntKind.i64.wrap (n1 : Int) = (n1 : Int) := by rw [IntKind.wrap_i64]; omega
        go_wp2_with (go_at_call 32; (with_reducible refine (G1.out _).mono ?_); rintro e w3 ⟨rfl, hd⟩; have HN3 := Aside0.mk (blk_drawn (blk_alloc HN.out _) hd); have HR3 := Aside0.mk (blk_drawn (blk_alloc HR.out _) hd); have HB3 := Aside0.mk (below_step (below_alloc HB.out _) hd.below); have hc3 : w3.cell? ⟨w.heap.size + 1, 1, none⟩ = some (.int .i64 0) := (blk_cell HN3.out 1).trans rfl; have hf3 := blk_frozen HN3.out 1; clear hd)
        exact ⟨⟨2, by decide, by decide, rfl, Aside0.mk (blk_set HN3.out 1 _), Aside0.mk (blk_far HR3.out (by simp) _), Aside0.mk (HB3.out.setCell (by simp) _)⟩, by decide⟩
      · have X := X2.out
        clear X0 X1 X2 X3 X4
        have y0 : IntKind.i64.wrap (n2 : Int) = (n2 : Int) := by rw [IntKind.wrap_i64]; omega
        go_wp2_with (go_at_call 32; (with_reducible refine (G2.out _).mono ?_); rintro e w3 ⟨rfl, hd⟩; have HN3 := Aside0.mk (blk_drawn (blk_alloc HN.out _) hd); have HR3 := Aside0.mk (blk_drawn (blk_alloc HR.out _) hd); have HB3 := Aside0.mk (below_step (below_alloc HB.out _) hd.below); have hc3 : w3.cell? ⟨w.heap.size + 1, 2, none⟩ = some (.int .i64 0) := (blk_cell HN3.out 2).trans rfl; have hf3 := blk_frozen HN3.out 2; clear hd)
        exact ⟨⟨3, by decide, by decide, rfl, Aside0.mk (blk_set HN3.out 2 _), Aside0.mk (blk_far HR3.out (by simp) _), Aside0.mk (HB3.out.setCell (by simp) _)⟩, by decide⟩
      · have X := X3.out
        clear X0 X1 X2 X3 X4
        have y0 : IntKind.i64.wrap (n3 : Int) = (n3 : Int) := by rw [IntKind.wrap_i64]; omega
        go_wp2_with (go_at_call 32; (with_reducible refine (G3.out _).mono ?_); rintro e w3 ⟨rfl, hd⟩; have HN3 := Aside0.mk (blk_drawn (blk_alloc HN.out _) hd); have HR3 := Aside0.mk (blk_drawn (blk_alloc HR.out _) hd); have HB3 := Aside0.mk (below_step (below_alloc HB.out _) hd.below); have hc3 : w3.cell? ⟨w.heap.size + 1, 3, none⟩ = some (.int .i64 0) := (blk_cell HN3.out 3).trans rfl; have hf3 := blk_frozen HN3.out 3; clear hd)
        exact ⟨⟨4, by decide, by decide, rfl, Aside0.mk (blk_set HN3.out 3 _), Aside0.mk (blk_far HR3.out (by simp) _), Aside0.mk (HB3.out.setCell (by simp) _)⟩, by decide⟩
      · have X := X4.out
        clear X0 X1 X2 X3 X4
        have y0 : IntKind.i64.wrap (n4 : Int) = (n4 : Int) := by rw [IntKind.wrap_i64]; omega
        go_wp2_with (go_at_call 32; (with_reducible refine (G4.out _).mono ?_); rintro e w3 ⟨rfl, hd⟩; have HN3 := Aside0.mk (blk_drawn (blk_alloc HN.out _) hd); have HR3 := Aside0.mk (blk_drawn (blk_alloc HR.out _) hd); have HB3 := Aside0.mk (below_step (below_alloc HB.out _) hd.below); have hc3 : w3.cell? ⟨w.heap.size + 1, 4, none⟩ = some (.int .i64 0) := (blk_cell HN3.out 4).trans rfl; have hf3 := blk_frozen HN3.out 4; clear hd)
        exact ⟨⟨5, by decide, by decide, rfl, Aside0.mk (blk_set HN3.out 4 _), Aside0.mk (blk_far HR3.out (by simp) _), Aside0.mk (HB3.out.setCell (by simp) _)⟩, by decide⟩
    · obtain rfl : k = 5 := by omega
      clear G0 G1 G2 G3 G4 X0 X1 X2 X3 X4 hlt hk0 hk5
      have HN' : wr.heap[w.heap.size + 1]? = some (.cells #[.int .i64 (n0 : Int), .int .i64 (n1 : Int), .int .i64 (n2 : Int), .int .i64 (n3 : Int), .int .i64 (n4 : Int)] 52 (0, 0)) := HN.out
      have m0 : wr.cell? ⟨w.heap.size + 1, 0, none⟩ = some (.int .i64 (n0 : Int)) := (blk_cell HN' 0).trans rfl
      have m1 : wr.cell? ⟨w.heap.size + 1, 1, none⟩ = some (.int .i64 (n1 : Int)) := (blk_cell HN' 1).trans rfl
      have m2 : wr.cell? ⟨w.heap.size + 1, 2, none⟩ = some (.int .i64 (n2 : Int)) := (blk_cell HN' 2).trans rfl
      have m3 : wr.cell? ⟨w.heap.size + 1, 3, none⟩ = some (.int .i64 (n3 : Int)) := (blk_cell HN' 3).trans rfl
      have m4 : wr.cell? ⟨w.heap.size + 1, 4, none⟩ = some (.int .i64 (n4 : Int)) := (blk_cell HN' 4).trans rfl
      have HS := Lib.hid (blk_lt HN')
      clear HN' HN
      have hq := Hq.out
      have hV := HV.out
      by_cases he : xe = 0
      · subst he
        by_cases hx : xw = L
        · subst hx
          have hq0 : q = false := by rw [← hq]; simp
          subst hq0
          rw [if_pos rfl] at hV
          obtain ⟨rfl, rfl⟩ := Prod.mk.injEq .. ▸ hV
          clear hq Hq HV hV
          go_wp2_with (go_at_call 11; (with_reducible refine (Cw.out _).mono ?_); clear Cw; rintro e w3 ⟨rfl, hb⟩; have HB3 := Aside0.mk (below_step (below_alloc HB.out _) hb); have HR3 := blk_below (blk_alloc HR.out _) hb; have hr0 : w3.cell? ⟨w.heap.size, 0, none⟩ = some (.int .i64 0) := (blk_cell HR3 0).trans rfl; have hr1 : w3.cell? ⟨w.heap.size, 1, none⟩ = some (.int .i64 0) := (blk_cell HR3 1).trans rfl; have hr2 : w3.cell? ⟨w.heap.size, 2, none⟩ = some (.int .i64 0) := (blk_cell HR3 2).trans rfl; have hr3 : w3.cell? ⟨w.heap.size, 3, none⟩ = some (.int .i64 0) := (blk_cell HR3 3).trans rfl; have hr4 : w3.cell? ⟨w.heap.size, 4, none⟩ = some (.int .i64 0) := (blk_cell HR3 4).trans rfl; have hrf0 := blk_frozen HR3 0; have hrf1 := blk_frozen HR3 1; have hrf2 := blk_frozen HR3 2; have hrf3 := blk_frozen HR3 3; have hrf4 := blk_frozen HR3 4; have HRA := Aside0.mk HR3; have HT := blk_below (blk_new wr (.cells #[.int .i64 (n0 : Int), .int .i64 (n1 : Int), .int .i64 (n2 : Int), .int .i64 (n3 : Int), .int .i64 (n4 : Int)] 23 (0, 0))) hb; have ht0 : w3.cell? ⟨wr.heap.size, 0, none⟩ = some (.int .i64 (n0 : Int)) := (blk_cell HT 0).trans rfl; have ht1 : w3.cell? ⟨wr.heap.size, 1, none⟩ = some (.int .i64 (n1 : Int)) := (blk_cell HT 1).trans rfl; have ht2 : w3.cell? ⟨wr.heap.size, 2, none⟩ = some (.int .i64 (n2 : Int)) := (blk_cell HT 2).trans rfl; have ht3 : w3.cell? ⟨wr.heap.size, 3, none⟩ = some (.int .i64 (n3 : Int)) := (blk_cell HT 3).trans rfl; have ht4 : w3.cell? ⟨wr.heap.size, 4, none⟩ = some (.int .i64 (n4 : Int)) := (blk_cell HT 4).trans rfl; clear HR3 HT hb)
          refine bodyPost_ret (v := .tuple #[.agg #[.int .i64 (n0 : Int), .int .i64 (n1 : Int), .int .i64 (n2 : Int), .int .i64 (n3 : Int), .int .i64 (n4 : Int)], .int .i64 0]) ?_ rfl ⟨rfl, ?_⟩
          · have hres : Tryd.f13.results = #[.cell 2 23, .tmp 3] := rfl
            simp only [results, hres]
            go_simp
          · have hB3 := HB3.out
            go_grown
        · have bx : (xw == L) = false := beq_eq_false_iff_ne.mpr hx
          have bx2 : (xw != L) = true := bne_iff_ne.mpr hx
          have hq0 : q = true := by rw [← hq]; simp [hx]
          subst hq0
          rw [if_neg (by simp)] at hV
          obtain ⟨rfl, rfl⟩ := Prod.mk.injEq .. ▸ hV
          clear hq Hq HV hV hx
          go_wp2_with (go_at_call 11; (with_reducible refine (Cw.out _).mono ?_); clear Cw; rintro e w3 ⟨rfl, hb⟩; have HB3 := Aside0.mk (below_step (below_alloc HB.out _) hb); have HR3 := blk_below (blk_alloc HR.out _) hb; have hr0 : w3.cell? ⟨w.heap.size, 0, none⟩ = some (.int .i64 0) := (blk_cell HR3 0).trans rfl; have hr1 : w3.cell? ⟨w.heap.size, 1, none⟩ = some (.int .i64 0) := (blk_cell HR3 1).trans rfl; have hr2 : w3.cell? ⟨w.heap.size, 2, none⟩ = some (.int .i64 0) := (blk_cell HR3 2).trans rfl; have hr3 : w3.cell? ⟨w.heap.size, 3, none⟩ = some (.int .i64 0) := (blk_cell HR3 3).trans rfl; have hr4 : w3.cell? ⟨w.heap.size, 4, none⟩ = some (.int .i64 0) := (blk_cell HR3 4).trans rfl; have hrf0 := blk_frozen HR3 0; have hrf1 := blk_frozen HR3 1; have hrf2 := blk_frozen HR3 2; have hrf3 := blk_frozen HR3 3; have hrf4 := blk_frozen HR3 4; have HRA := Aside0.mk HR3; have HT := blk_below (blk_new wr (.cells #[.int .i64 (n0 : Int), .int .i64 (n1 : Int), .int .i64 (n2 : Int), .int .i64 (n3 : Int), .int .i64 (n4 : Int)] 23 (0, 0))) hb; have ht0 : w3.cell? ⟨wr.heap.size, 0, none⟩ = some (.int .i64 (n0 : Int)) := (blk_cell HT 0).trans rfl; have ht1 : w3.cell? ⟨wr.heap.size, 1, none⟩ = some (.int .i64 (n1 : Int)) := (blk_cell HT 1).trans rfl; have ht2 : w3.cell? ⟨wr.heap.size, 2, none⟩ = some (.int .i64 (n2 : Int)) := (blk_cell HT 2).trans rfl; have ht3 : w3.cell? ⟨wr.heap.size, 3, none⟩ = some (.int .i64 (n3 : Int)) := (blk_cell HT 3).trans rfl; have ht4 : w3.cell? ⟨wr.heap.size, 4, none⟩ = some (.int .i64 (n4 : Int)) := (blk_cell HT 4).trans rfl; clear HR3 HT hb)
          refine bodyPost_ret (v := .tuple #[.agg #[.int .i64 0, .int .i64 0, .int .i64 0, .int .i64 0, .int .i64 0], .int .i64 30]) ?_ rfl ⟨rfl, ?_⟩
          · have hres : Tryd.f13.results = #[.cell 2 23, .tmp 3] := rfl
            simp only [results, hres]
            go_simp
          · have hB3 := HB3.out
            go_grown
      · have be : (xe == 0) = false := beq_eq_false_iff_ne.mpr he
        have be2 : (xe != 0) = true := bne_iff_ne.mpr he
        have hq0 : q = true := by rw [← hq]; simp [he]
        subst hq0
        rw [if_neg (by simp)] at hV
        obtain ⟨rfl, rfl⟩ := Prod.mk.injEq .. ▸ hV
        clear hq Hq HV hV he
        go_wp2_with (go_at_call 11; (with_reducible refine (Cw.out _).mono ?_); clear Cw; rintro e w3 ⟨rfl, hb⟩; have HB3 := Aside0.mk (below_step (below_alloc HB.out _) hb); have HR3 := blk_below (blk_alloc HR.out _) hb; have hr0 : w3.cell? ⟨w.heap.size, 0, none⟩ = some (.int .i64 0) := (blk_cell HR3 0).trans rfl; have hr1 : w3.cell? ⟨w.heap.size, 1, none⟩ = some (.int .i64 0) := (blk_cell HR3 1).trans rfl; have hr2 : w3.cell? ⟨w.heap.size, 2, none⟩ = some (.int .i64 0) := (blk_cell HR3 2).trans rfl; have hr3 : w3.cell? ⟨w.heap.size, 3, none⟩ = some (.int .i64 0) := (blk_cell HR3 3).trans rfl; have hr4 : w3.cell? ⟨w.heap.size, 4, none⟩ = some (.int .i64 0) := (blk_cell HR3 4).trans rfl; have hrf0 := blk_frozen HR3 0; have hrf1 := blk_frozen HR3 1; have hrf2 := blk_frozen HR3 2; have hrf3 := blk_frozen HR3 3; have hrf4 := blk_frozen HR3 4; have HRA := Aside0.mk HR3; have HT := blk_below (blk_new wr (.cells #[.int .i64 (n0 : Int), .int .i64 (n1 : Int), .int .i64 (n2 : Int), .int .i64 (n3 : Int), .int .i64 (n4 : Int)] 23 (0, 0))) hb; have ht0 : w3.cell? ⟨wr.heap.size, 0, none⟩ = some (.int .i64 (n0 : Int)) := (blk_cell HT 0).trans rfl; have ht1 : w3.cell? ⟨wr.heap.size, 1, none⟩ = some (.int .i64 (n1 : Int)) := (blk_cell HT 1).trans rfl; have ht2 : w3.cell? ⟨wr.heap.size, 2, none⟩ = some (.int .i64 (n2 : Int)) := (blk_cell HT 2).trans rfl; have ht3 : w3.cell? ⟨wr.heap.size, 3, none⟩ = some (.int .i64 (n3 : Int)) := (blk_cell HT 3).trans rfl; have ht4 : w3.cell? ⟨wr.heap.size, 4, none⟩ = some (.int .i64 (n4 : Int)) := (blk_cell HT 4).trans rfl; clear HR3 HT hb)
        refine bodyPost_ret (v := .tuple #[.agg #[.int .i64 0, .int .i64 0, .int .i64 0, .int .i64 0, .int .i64 0], .int .i64 30]) ?_ rfl ⟨rfl, ?_⟩
        · have hres : Tryd.f13.results = #[.cell 2 23, .tmp 3] := rfl
          simp only [results, hres]
          go_simp
        · have hB3 := HB3.out
          go_grown
/-- A word's numbers. -/
def parseN (w : Nat) : Nat × Nat × Nat × Nat × Nat := (getN w 0 4, getN w 4 4, getN w 8 16, getN w 24 10, getN w 34 12)
/-- Is a word a capability's? -/
def wordOk (w : Nat) : Bool := capOk (getN w 0 4 : Nat) (getN w 4 4 : Nat) (getN w 8 16 : Nat) (getN w 24 10 : Nat) (getN w 34 12 : Nat) && (wordN (getN w 0 4) (getN w 4 4) (getN w 8 16) (getN w 24 10) (getN w 34 12) == w)
def cap_Parse.f (L : Int) : Option (Int × Int × Int × Int × Int × Int) :=
  if 0 ≤ L ∧ L < 18446744073709551616 then some (if wordOk L.toNat = true then ((getN L.toNat 0 4 : Nat), (getN L.toNat 4 4 : Nat), (getN L.toNat 8 16 : Nat), (getN L.toNat 24 10 : Nat), (getN L.toNat 34 12 : Nat), 0) else (0, 0, 0, 0, 0, 30)) else none
theorem cap_Parse.calls (L : Int) (r1 r2 r3 r4 r5 r6 : Int) (w : World) (h : cap_Parse.f L = some (r1, r2, r3, r4, r5, r6)) :
    Calls Tryd.prog 13 #[.int .u64 L] w fun e w' => e = .returned (.tuple #[.agg #[.int .i64 r1, .int .i64 r2, .int .i64 r3, .int .i64 r4, .int .i64 r5], .int .i64 r6]) ∧ Below w.heap.size w w' := by
  unfold cap_Parse.f at h
  by_cases hL : 0 ≤ L ∧ L < 18446744073709551616
  · rw [if_pos hL] at h
    have h := Option.some.inj h
    obtain ⟨n, rfl⟩ := Int.eq_ofNat_of_zero_le hL.1
    have hn : n < 18446744073709551616 := by omega
    rw [Int.toNat_natCast] at h
    have b0 := getN_lt n 0 4
    have b1 := getN_lt n 4 4
    have b2 := getN_lt n 8 16
    have b3 := getN_lt n 24 10
    have b4 := getN_lt n 34 12
    have hw : ∀ W, Calls Tryd.prog 11 #[.agg #[.int .i64 ((getN n 0 4 : Nat) : Int), .int .i64 ((getN n 4 4 : Nat) : Int), .int .i64 ((getN n 8 16 : Nat) : Int), .int .i64 ((getN n 24 10 : Nat) : Int), .int .i64 ((getN n 34 12 : Nat) : Int)]] W fun e w' =>
        e = .returned (.tuple #[.int .u64 (if capOk (getN n 0 4 : Nat) (getN n 4 4 : Nat) (getN n 8 16 : Nat) (getN n 24 10 : Nat) (getN n 34 12 : Nat) = true then ((wordN (getN n 0 4) (getN n 4 4) (getN n 8 16) (getN n 24 10) (getN n 34 12) : Nat) : Int) else 0), .int .i64 (if capOk (getN n 0 4 : Nat) (getN n 4 4 : Nat) (getN n 8 16 : Nat) (getN n 24 10 : Nat) (getN n 34 12 : Nat) = true then 0 else 30)]) ∧ Below W.heap.size W w' := fun W => by
      refine cap_Word.calls _ _ _ _ _ _ _ W ?_
      unfold cap_Word.f
      simp only [Int.toNat_natCast]
      split <;> rfl
    refine parse_walk (n : Int) (getN n 0 4) (getN n 4 4) (getN n 8 16) (getN n 24 10) (getN n 34 12) w _ _ (!(wordOk n)) (Lib.hid (G_of n 0 4 hn (by decide) (by decide))) (Lib.hid (G_of n 4 4 hn (by decide) (by decide))) (Lib.hid (G_of n 8 16 hn (by decide) (by decide))) (Lib.hid (G_of n 24 10 hn (by decide) (by decide))) (Lib.hid (G_of n 34 12 hn (by decide) (by decide))) (by omega) (by omega) (by omega) (by omega) (by omega) (Lib.hid hw) (Lib.hid ?_) #[.int .i64 r1, .int .i64 r2, .int .i64 r3, .int .i64 r4, .int .i64 r5] r6 (Lib.hid ?_)
    · unfold wordOk
      cases hc : capOk (getN n 0 4 : Nat) (getN n 4 4 : Nat) (getN n 8 16 : Nat) (getN n 24 10 : Nat) (getN n 34 12 : Nat) with
      | false => simp
      | true =>
        simp only [if_true]
        by_cases he : wordN (getN n 0 4) (getN n 4 4) (getN n 8 16) (getN n 24 10) (getN n 34 12) = n
        · simp [he]
        · have he' : ¬ ((wordN (getN n 0 4) (getN n 4 4) (getN n 8 16) (getN n 24 10) (getN n 34 12) : Nat) : Int) = (n : Int) := by omega
          simp [he, he']
    · cases hk : wordOk n with
      | true =>
        rw [hk, if_pos rfl] at h
        simp only [Prod.mk.injEq] at h
        obtain ⟨rfl, rfl, rfl, rfl, rfl, rfl⟩ := h
        rfl
      | false =>
        rw [hk, if_neg (by simp)] at h
        simp only [Prod.mk.injEq] at h
        obtain ⟨rfl, rfl, rfl, rfl, rfl, rfl⟩ := h
        rfl
  · rw [if_neg hL] at h
    cases h
end Go.Proofs.YtmcgdopgpjjkbaaDoor.Given
