/- call.Parse at this program: what the call answers (fields and numbers lie in arrays). -/
import Derived.Test.YtikbldmlfjckkaaGPut
import Derived.Deep.RegionHeld3
import Derived.Test.YtikbldmlfjckkaaPx4
namespace Go.Proofs.Ytikbldmlfjckkaa.Given
open Go Go.RowKit Go.Proofs Go.Proofs.YtikbldmlfjckkaaW.PrintWords Go.Proofs.YtikbldmlfjckkaaW.PrintLast Go.Proofs.YtikbldmlfjckkaaW.PrintMore Go.Proofs.Ytikbldmlfjckkaa.P Go.Proofs.Ytikbldmlfjckkaa.Plain

theorem G_of (w a n : Nat) (hw : w < 18446744073709551616) (h1 : 1 ≤ n) (h2 : a + n ≤ 64) (W : World) :
    Calls Try.prog 22 #[.int .u64 (w : Int), .int .i64 (a : Int), .int .i64 (n : Int)] W fun e w' => e = .returned (.int .u64 ((getN w a n : Nat) : Int)) ∧ Drawn0 W w' :=
  bits_Get.calls _ _ _ _ W (Get_yes hw h1 h2)
theorem M_of (a n : Nat) (h1 : 1 ≤ n) (h2 : a + n ≤ 64) (W : World) :
    Calls Try.prog 23 #[.int .i64 (a : Int), .int .i64 (n : Int)] W fun e w' => e = .returned (.int .u64 ((maskN a n : Nat) : Int)) ∧ Drawn0 W w' :=
  bits_Mask.calls _ _ _ W (Mask_yes h1 h2)
def nArr (x0 x1 x2 x3 x4 : Int) : Nat → Array Value
  | 0 => #[.int .i64 0, .int .i64 0, .int .i64 0, .int .i64 0, .int .i64 0]
  | 1 => #[.int .i64 x0, .int .i64 0, .int .i64 0, .int .i64 0, .int .i64 0]
  | 2 => #[.int .i64 x0, .int .i64 x1, .int .i64 0, .int .i64 0, .int .i64 0]
  | 3 => #[.int .i64 x0, .int .i64 x1, .int .i64 x2, .int .i64 0, .int .i64 0]
  | 4 => #[.int .i64 x0, .int .i64 x1, .int .i64 x2, .int .i64 x3, .int .i64 0]
  | _ => #[.int .i64 x0, .int .i64 x1, .int .i64 x2, .int .i64 x3, .int .i64 x4]
def usedI : Nat → Int | 0 => 0 | 1 => 15 | 2 => 255 | 3 => 4095 | 4 => 268435455 | _ => 562949953421311
theorem blk_newN {w : World} {o : Obj} {n : Nat} (h : w.heap.size = n) : (w.alloc o).heap[n]? = some o := h ▸ blk_new w o
theorem cell_far {w : World} {a q : Addr} {v : Value} (h : a.block ≠ q.block) : (w.setCell q v).cell? a = w.cell? a := World.cell?_setCell_far w q a v h.symm
theorem cells4 {W : World} {A : Option Addr} {l0 l1 l2 l3 : Int} (h : Kd.C (Kd.int .u64) W A 4 [l0, l1, l2, l3]) : ∃ ad, A = some ad ∧ ad.block < W.heap.size ∧ W.cell? ad = some (.int .u64 l0) ∧ W.cell? (ad.add 1) = some (.int .u64 l1) ∧ W.cell? (ad.add 2) = some (.int .u64 l2) ∧ W.cell? (ad.add 3) = some (.int .u64 l3) := by
  obtain ⟨ad, e, hc⟩ := h.2.2 (by decide)
  have g : ∀ (j : Nat) (p : Int), [l0, l1, l2, l3][j]? = some p → W.cell? (ad.add j) = some (.int .u64 p) := fun j p hp => by
    obtain ⟨c, h1, h2, h3⟩ := hc j p hp
    have h2' : c = [.int .u64 p] := h2
    subst h2'
    have := h3 0 _ rfl
    rwa [show j * (Kd.int .u64).sz + 0 = j from Nat.mul_one j] at this
  refine ⟨ad, e, ?_, ?_, g 1 _ rfl, g 2 _ rfl, g 3 _ rfl⟩
  · have h0 := g 1 _ rfl
    have hb : (ad.add 1).block = ad.block := by unfold Addr.add; split <;> rfl
    have := World.block_lt_of_cell? _ _ h0
    rwa [hb] at this
  · have h0 := g 0 _ rfl
    rwa [show ad.add 0 = ad by unfold Addr.add; simp] at h0
set_option maxRecDepth 100000 in
set_option maxHeartbeats 4000000 in
theorem parse_walk (L l1 l2 l3 : Int) (n0 n1 n2 n3 n4 : Nat) (ec : Int) (q : Bool) (cp : Nat) (ad : Addr) (w : World)
    (G0 : Hid (∀ W : World, Calls Try.prog 22 #[.int .u64 L, .int .i64 0, .int .i64 4] W fun e w' => e = .returned (.int .u64 (n0 : Int)) ∧ Drawn0 W w'))
    (G1 : Hid (∀ W : World, Calls Try.prog 22 #[.int .u64 L, .int .i64 4, .int .i64 4] W fun e w' => e = .returned (.int .u64 (n1 : Int)) ∧ Drawn0 W w'))
    (G2 : Hid (∀ W : World, Calls Try.prog 22 #[.int .u64 L, .int .i64 8, .int .i64 4] W fun e w' => e = .returned (.int .u64 (n2 : Int)) ∧ Drawn0 W w'))
    (G3 : Hid (∀ W : World, Calls Try.prog 22 #[.int .u64 L, .int .i64 12, .int .i64 16] W fun e w' => e = .returned (.int .u64 (n3 : Int)) ∧ Drawn0 W w'))
    (G4 : Hid (∀ W : World, Calls Try.prog 22 #[.int .u64 L, .int .i64 28, .int .i64 21] W fun e w' => e = .returned (.int .u64 (n4 : Int)) ∧ Drawn0 W w'))
    (M0 : Hid (∀ W : World, Calls Try.prog 23 #[.int .i64 0, .int .i64 4] W fun e w' => e = .returned (.int .u64 15) ∧ Drawn0 W w'))
    (M1 : Hid (∀ W : World, Calls Try.prog 23 #[.int .i64 4, .int .i64 4] W fun e w' => e = .returned (.int .u64 240) ∧ Drawn0 W w'))
    (M2 : Hid (∀ W : World, Calls Try.prog 23 #[.int .i64 8, .int .i64 4] W fun e w' => e = .returned (.int .u64 3840) ∧ Drawn0 W w'))
    (M3 : Hid (∀ W : World, Calls Try.prog 23 #[.int .i64 12, .int .i64 16] W fun e w' => e = .returned (.int .u64 268431360) ∧ Drawn0 W w'))
    (M4 : Hid (∀ W : World, Calls Try.prog 23 #[.int .i64 28, .int .i64 21] W fun e w' => e = .returned (.int .u64 562949684985856) ∧ Drawn0 W w'))
    (h0 : (n0 : Int) < 16) (h1 : (n1 : Int) < 16) (h2 : (n2 : Int) < 16) (h3 : (n3 : Int) < 65536) (h4 : (n4 : Int) < 2097152)
    (Cc : Hid (∀ W, Calls Try.prog 14 #[.agg #[.int .i64 (n0 : Int), .int .u64 l1, .int .u64 l2, .int .i64 (n1 : Int), .int .i64 (n3 : Int), .int .i64 (n2 : Int), .int .i64 (n4 : Int), .int .i64 (wrap64 l3)]] W fun e w' => e = .returned (.int .i64 ec) ∧ Below W.heap.size W w'))
    (HL : Hid (w.cell? ad = some (.int .u64 L) ∧ w.cell? (ad.add 1) = some (.int .u64 l1) ∧ w.cell? (ad.add 2) = some (.int .u64 l2) ∧ w.cell? (ad.add 3) = some (.int .u64 l3)))
    (Hq : Hid ((Go.bits .andNot .u64 L (usedI 5) != 0) = q))
    (rv : Array Value) (rr : Int) (HV : Hid ((rv, rr) = if q = false ∧ ec = 0 then ((#[.int .i64 (n0 : Int), .int .u64 l1, .int .u64 l2, .int .i64 (n1 : Int), .int .i64 (n3 : Int), .int .i64 (n2 : Int), .int .i64 (n4 : Int), .int .i64 (wrap64 l3)] : Array Value), (0 : Int)) else ((#[.int .i64 0, .int .u64 0, .int .u64 0, .int .i64 0, .int .i64 0, .int .i64 0, .int .i64 0, .int .i64 0] : Array Value), (150 : Int)))) :
    Calls Try.prog 11 #[.slice (some ad) 4 cp] w fun e w' => e = .returned (.tuple #[.agg rv, .int .i64 rr]) ∧ Below w.heap.size w w' := by
  have X0 : Hid (∀ w : World, (Instr.index 46 (.agg #[.int .i64 0, .int .i64 4, .int .i64 4, .int .i64 4, .int .i64 8, .int .i64 4, .int .i64 12, .int .i64 16, .int .i64 28, .int .i64 21]) (.int .i64 0)).run Try.prog w = .ok (.agg #[.int .i64 0, .int .i64 4]) w) := Lib.hid (fun _ => by kernel_rfl)
  have X1 : Hid (∀ w : World, (Instr.index 46 (.agg #[.int .i64 0, .int .i64 4, .int .i64 4, .int .i64 4, .int .i64 8, .int .i64 4, .int .i64 12, .int .i64 16, .int .i64 28, .int .i64 21]) (.int .i64 1)).run Try.prog w = .ok (.agg #[.int .i64 4, .int .i64 4]) w) := Lib.hid (fun _ => by kernel_rfl)
  have X2 : Hid (∀ w : World, (Instr.index 46 (.agg #[.int .i64 0, .int .i64 4, .int .i64 4, .int .i64 4, .int .i64 8, .int .i64 4, .int .i64 12, .int .i64 16, .int .i64 28, .int .i64 21]) (.int .i64 2)).run Try.prog w = .ok (.agg #[.int .i64 8, .int .i64 4]) w) := Lib.hid (fun _ => by kernel_rfl)
  have X3 : Hid (∀ w : World, (Instr.index 46 (.agg #[.int .i64 0, .int .i64 4, .int .i64 4, .int .i64 4, .int .i64 8, .int .i64 4, .int .i64 12, .int .i64 16, .int .i64 28, .int .i64 21]) (.int .i64 3)).run Try.prog w = .ok (.agg #[.int .i64 12, .int .i64 16]) w) := Lib.hid (fun _ => by kernel_rfl)
  have X4 : Hid (∀ w : World, (Instr.index 46 (.agg #[.int .i64 0, .int .i64 4, .int .i64 4, .int .i64 4, .int .i64 8, .int .i64 4, .int .i64 12, .int .i64 16, .int .i64 28, .int .i64 21]) (.int .i64 4)).run Try.prog w = .ok (.agg #[.int .i64 28, .int .i64 21]) w) := Lib.hid (fun _ => by kernel_rfl)
  have O0 : Hid (Go.bits .or .u64 0 15 = 15) := Lib.hid (by decide +kernel)
  have O1 : Hid (Go.bits .or .u64 15 240 = 255) := Lib.hid (by decide +kernel)
  have O2 : Hid (Go.bits .or .u64 255 3840 = 4095) := Lib.hid (by decide +kernel)
  have O3 : Hid (Go.bits .or .u64 4095 268431360 = 268435455) := Lib.hid (by decide +kernel)
  have O4 : Hid (Go.bits .or .u64 268435455 562949684985856 = 562949953421311) := Lib.hid (by decide +kernel)
  go_enter Try.func11, Try.ntmps11
  go_wp2_with (go_at_call 19; (with_reducible refine (head_calls _).mono ?_); rintro e w2 ⟨rfl, hb⟩; have HB2 := Aside0.mk (below_step (show Below w.heap.size w _ by go_grown) hb); have HN := Aside0.mk (show w2.heap[w.heap.size + 1]? = some (.cells (nArr n0 n1 n2 n3 n4 0) 48 (0, 0)) from blk_below (blk_newN (by simp)) hb); have HR := Aside0.mk (show w2.heap[w.heap.size]? = some (.cells #[.int .i64 0, .int .u64 0, .int .u64 0, .int .i64 0, .int .i64 0, .int .i64 0, .int .i64 0, .int .i64 0] 24 (0, 0)) from blk_below (blk_alloc (blk_newN rfl) _) hb); clear hb)
  have hB2 := HB2.out.size
  go_loopw [14, 5] (fun i u wr => ∃ k : Int, 0 ≤ k ∧ k ≤ 5 ∧ i = .int .i64 k ∧ u = .int .u64 (usedI k.toNat) ∧ Aside0 (wr.heap[w.heap.size + 1]? = some (.cells (nArr n0 n1 n2 n3 n4 k.toNat) 48 (0, 0))) ∧ Aside0 (wr.heap[w.heap.size]? = some (.cells #[.int .i64 0, .int .u64 0, .int .u64 0, .int .i64 0, .int .i64 0, .int .i64 0, .int .i64 0, .int .i64 0] 24 (0, 0))) ∧ Aside0 (Below w.heap.size w wr)) (fun i _ _ => 5 - (intOf i).toNat)
  case atStart => exact ⟨0, by omega, by omega, rfl, rfl, HN, HR, HB2⟩
  case round =>
    clear HN HR HB2 hB2
    obtain ⟨k, hk0, hk5, rfl, rfl, HN, HR, HB⟩ := hrel
    by_cases hlt : k < 5
    · have cL : wr.cell? ad = some (.int .u64 L) := pw_cell_below HB.out HL.out.1
      have nA : ad.block ≠ wr.heap.size := Nat.ne_of_lt (World.block_lt_of_cell? _ _ cL)
      have nN : w.heap.size + 1 ≠ wr.heap.size := Nat.ne_of_lt (blk_lt HN.out)
      have nAN : ad.block ≠ w.heap.size + 1 := fun h => (by have := World.block_lt_of_cell? _ _ HL.out.1; omega)
      have nF : wr.heap.size ≠ w.heap.size + 1 := fun h => nN h.symm
      obtain rfl | rfl | rfl | rfl | rfl : k = 0 ∨ k = 1 ∨ k = 2 ∨ k = 3 ∨ k = 4 := by omega
      · have HN' := Aside0.mk (show wr.heap[w.heap.size + 1]? = some (.cells #[.int .i64 0, .int .i64 0, .int .i64 0, .int .i64 0, .int .i64 0] 48 (0, 0)) from HN.out)
        clear HN
        have HN := HN'
        clear HN'
        rw [show usedI (0 : Int).toNat = 0 from rfl]
        have x_ := X0.out
        have o_ := O0.out
        have y_ : IntKind.i64.wrap (n0 : Int) = (n0 : Int) := IntWalk.i64_in _ (by omega)
        clear hk0 hk5 hlt
        go_wp2_with (fail)
        go_region_held3 (fun w' => w'.cell? ad = some (.int .u64 L) ∧ w'.cell? ⟨wr.heap.size, 0, none⟩ = some (.int .i64 0) ∧ w'.cell? ⟨wr.heap.size, 1, none⟩ = some (.int .i64 4)) (first | (go_keep; done) | (obtain ⟨m_, hm_⟩ := hd.out; subst hm_; go_keep; done) | (exact ⟨(cell_far nAN).trans CL3.out, (cell_far nF).trans ((blk_cell HF3.out 0).trans rfl), (cell_far nF).trans ((blk_cell HF3.out 1).trans rfl)⟩)) (first | (go_at_call 22; refine (G0.out _).mono ?_; rintro e w3 ⟨rfl, hd⟩; have hB3 : w3.heap[w.heap.size + 1]? = some (.cells #[.int .i64 0, .int .i64 0, .int .i64 0, .int .i64 0, .int .i64 0] 48 (0, 0)) := (by obtain ⟨m_, hm_⟩ := hd.out; rw [hm_]; exact blk_alloc HN.out _); have HF3 : Aside0 (w3.heap[wr.heap.size]? = some (.cells #[.int .i64 0, .int .i64 4] 45 (0, 0))) := ⟨(by obtain ⟨m_, hm_⟩ := hd.out; rw [hm_]; exact blk_new wr _)⟩; have CL3 : Aside0 (w3.cell? ad = some (.int .u64 L)) := ⟨(by obtain ⟨m_, hm_⟩ := hd.out; rw [hm_]; exact pw_cell_below (below_alloc (Below.refl _ _) _) cL)⟩; have cN := (blk_cell hB3 0).trans (show _ = some (Value.int .i64 0) from rfl); have fN := blk_frozen hB3 0; have HB3 := Aside0.mk hB3; clear hB3))
        have cF0 : (w3.setCell ⟨w.heap.size + 1, 0, none⟩ (.int .i64 (n0 : Int))).cell? ⟨wr.heap.size, 0, none⟩ = some (.int .i64 0) := (cell_far nF).trans ((blk_cell HF3.out 0).trans rfl)
        have cF1 : (w3.setCell ⟨w.heap.size + 1, 0, none⟩ (.int .i64 (n0 : Int))).cell? ⟨wr.heap.size, 1, none⟩ = some (.int .i64 4) := (cell_far nF).trans ((blk_cell HF3.out 1).trans rfl)
        clear cN fN
        go_wp2_with (go_at_call 23; refine (M0.out _).mono ?_; rintro e w4 ⟨rfl, hd4⟩)
        refine ⟨⟨0 + 1, by decide, by decide, rfl, rfl, ⟨?_⟩, ⟨?_⟩, ⟨?_⟩⟩, by decide⟩
        · obtain ⟨m4_, hm4_⟩ := hd4.out
          rw [hm4_]
          exact blk_set HB3.out 0 (.int .i64 (n0 : Int))
        · obtain ⟨m_, hm_⟩ := hd.out
          obtain ⟨m4_, hm4_⟩ := hd4.out
          rw [hm4_, hm_]
          exact blk_far (blk_alloc HR.out _) (by simp) _
        · obtain ⟨m_, hm_⟩ := hd.out
          obtain ⟨m4_, hm4_⟩ := hd4.out
          rw [hm4_, hm_]
          exact pw_below_drewN (below_set (pw_below_drewN (below_drew1 (below_alloc HB.out _)) _) (show w.heap.size ≤ w.heap.size + 1 from Nat.le_succ _)) _
      · have HN' := Aside0.mk (show wr.heap[w.heap.size + 1]? = some (.cells #[.int .i64 (n0 : Int), .int .i64 0, .int .i64 0, .int .i64 0, .int .i64 0] 48 (0, 0)) from HN.out)
        clear HN
        have HN := HN'
        clear HN'
        rw [show usedI (1 : Int).toNat = 15 from rfl]
        have x_ := X1.out
        have o_ := O1.out
        have y_ : IntKind.i64.wrap (n1 : Int) = (n1 : Int) := IntWalk.i64_in _ (by omega)
        clear hk0 hk5 hlt
        go_wp2_with (fail)
        go_region_held3 (fun w' => w'.cell? ad = some (.int .u64 L) ∧ w'.cell? ⟨wr.heap.size, 0, none⟩ = some (.int .i64 4) ∧ w'.cell? ⟨wr.heap.size, 1, none⟩ = some (.int .i64 4)) (first | (go_keep; done) | (obtain ⟨m_, hm_⟩ := hd.out; subst hm_; go_keep; done) | (exact ⟨(cell_far nAN).trans CL3.out, (cell_far nF).trans ((blk_cell HF3.out 0).trans rfl), (cell_far nF).trans ((blk_cell HF3.out 1).trans rfl)⟩)) (first | (go_at_call 22; refine (G1.out _).mono ?_; rintro e w3 ⟨rfl, hd⟩; have hB3 : w3.heap[w.heap.size + 1]? = some (.cells #[.int .i64 (n0 : Int), .int .i64 0, .int .i64 0, .int .i64 0, .int .i64 0] 48 (0, 0)) := (by obtain ⟨m_, hm_⟩ := hd.out; rw [hm_]; exact blk_alloc HN.out _); have HF3 : Aside0 (w3.heap[wr.heap.size]? = some (.cells #[.int .i64 4, .int .i64 4] 45 (0, 0))) := ⟨(by obtain ⟨m_, hm_⟩ := hd.out; rw [hm_]; exact blk_new wr _)⟩; have CL3 : Aside0 (w3.cell? ad = some (.int .u64 L)) := ⟨(by obtain ⟨m_, hm_⟩ := hd.out; rw [hm_]; exact pw_cell_below (below_alloc (Below.refl _ _) _) cL)⟩; have cN := (blk_cell hB3 1).trans (show _ = some (Value.int .i64 0) from rfl); have fN := blk_frozen hB3 1; have HB3 := Aside0.mk hB3; clear hB3))
        have cF0 : (w3.setCell ⟨w.heap.size + 1, 1, none⟩ (.int .i64 (n1 : Int))).cell? ⟨wr.heap.size, 0, none⟩ = some (.int .i64 4) := (cell_far nF).trans ((blk_cell HF3.out 0).trans rfl)
        have cF1 : (w3.setCell ⟨w.heap.size + 1, 1, none⟩ (.int .i64 (n1 : Int))).cell? ⟨wr.heap.size, 1, none⟩ = some (.int .i64 4) := (cell_far nF).trans ((blk_cell HF3.out 1).trans rfl)
        clear cN fN
        go_wp2_with (go_at_call 23; refine (M1.out _).mono ?_; rintro e w4 ⟨rfl, hd4⟩)
        refine ⟨⟨1 + 1, by decide, by decide, rfl, rfl, ⟨?_⟩, ⟨?_⟩, ⟨?_⟩⟩, by decide⟩
        · obtain ⟨m4_, hm4_⟩ := hd4.out
          rw [hm4_]
          exact blk_set HB3.out 1 (.int .i64 (n1 : Int))
        · obtain ⟨m_, hm_⟩ := hd.out
          obtain ⟨m4_, hm4_⟩ := hd4.out
          rw [hm4_, hm_]
          exact blk_far (blk_alloc HR.out _) (by simp) _
        · obtain ⟨m_, hm_⟩ := hd.out
          obtain ⟨m4_, hm4_⟩ := hd4.out
          rw [hm4_, hm_]
          exact pw_below_drewN (below_set (pw_below_drewN (below_drew1 (below_alloc HB.out _)) _) (show w.heap.size ≤ w.heap.size + 1 from Nat.le_succ _)) _
      · have HN' := Aside0.mk (show wr.heap[w.heap.size + 1]? = some (.cells #[.int .i64 (n0 : Int), .int .i64 (n1 : Int), .int .i64 0, .int .i64 0, .int .i64 0] 48 (0, 0)) from HN.out)
        clear HN
        have HN := HN'
        clear HN'
        rw [show usedI (2 : Int).toNat = 255 from rfl]
        have x_ := X2.out
        have o_ := O2.out
        have y_ : IntKind.i64.wrap (n2 : Int) = (n2 : Int) := IntWalk.i64_in _ (by omega)
        clear hk0 hk5 hlt
        go_wp2_with (fail)
        go_region_held3 (fun w' => w'.cell? ad = some (.int .u64 L) ∧ w'.cell? ⟨wr.heap.size, 0, none⟩ = some (.int .i64 8) ∧ w'.cell? ⟨wr.heap.size, 1, none⟩ = some (.int .i64 4)) (first | (go_keep; done) | (obtain ⟨m_, hm_⟩ := hd.out; subst hm_; go_keep; done) | (exact ⟨(cell_far nAN).trans CL3.out, (cell_far nF).trans ((blk_cell HF3.out 0).trans rfl), (cell_far nF).trans ((blk_cell HF3.out 1).trans rfl)⟩)) (first | (go_at_call 22; refine (G2.out _).mono ?_; rintro e w3 ⟨rfl, hd⟩; have hB3 : w3.heap[w.heap.size + 1]? = some (.cells #[.int .i64 (n0 : Int), .int .i64 (n1 : Int), .int .i64 0, .int .i64 0, .int .i64 0] 48 (0, 0)) := (by obtain ⟨m_, hm_⟩ := hd.out; rw [hm_]; exact blk_alloc HN.out _); have HF3 : Aside0 (w3.heap[wr.heap.size]? = some (.cells #[.int .i64 8, .int .i64 4] 45 (0, 0))) := ⟨(by obtain ⟨m_, hm_⟩ := hd.out; rw [hm_]; exact blk_new wr _)⟩; have CL3 : Aside0 (w3.cell? ad = some (.int .u64 L)) := ⟨(by obtain ⟨m_, hm_⟩ := hd.out; rw [hm_]; exact pw_cell_below (below_alloc (Below.refl _ _) _) cL)⟩; have cN := (blk_cell hB3 2).trans (show _ = some (Value.int .i64 0) from rfl); have fN := blk_frozen hB3 2; have HB3 := Aside0.mk hB3; clear hB3))
        have cF0 : (w3.setCell ⟨w.heap.size + 1, 2, none⟩ (.int .i64 (n2 : Int))).cell? ⟨wr.heap.size, 0, none⟩ = some (.int .i64 8) := (cell_far nF).trans ((blk_cell HF3.out 0).trans rfl)
        have cF1 : (w3.setCell ⟨w.heap.size + 1, 2, none⟩ (.int .i64 (n2 : Int))).cell? ⟨wr.heap.size, 1, none⟩ = some (.int .i64 4) := (cell_far nF).trans ((blk_cell HF3.out 1).trans rfl)
        clear cN fN
        go_wp2_with (go_at_call 23; refine (M2.out _).mono ?_; rintro e w4 ⟨rfl, hd4⟩)
        refine ⟨⟨2 + 1, by decide, by decide, rfl, rfl, ⟨?_⟩, ⟨?_⟩, ⟨?_⟩⟩, by decide⟩
        · obtain ⟨m4_, hm4_⟩ := hd4.out
          rw [hm4_]
          exact blk_set HB3.out 2 (.int .i64 (n2 : Int))
        · obtain ⟨m_, hm_⟩ := hd.out
          obtain ⟨m4_, hm4_⟩ := hd4.out
          rw [hm4_, hm_]
          exact blk_far (blk_alloc HR.out _) (by simp) _
        · obtain ⟨m_, hm_⟩ := hd.out
          obtain ⟨m4_, hm4_⟩ := hd4.out
          rw [hm4_, hm_]
          exact pw_below_drewN (below_set (pw_below_drewN (below_drew1 (below_alloc HB.out _)) _) (show w.heap.size ≤ w.heap.size + 1 from Nat.le_succ _)) _
      · have HN' := Aside0.mk (show wr.heap[w.heap.size + 1]? = some (.cells #[.int .i64 (n0 : Int), .int .i64 (n1 : Int), .int .i64 (n2 : Int), .int .i64 0, .int .i64 0] 48 (0, 0)) from HN.out)
        clear HN
        have HN := HN'
        clear HN'
        rw [show usedI (3 : Int).toNat = 4095 from rfl]
        have x_ := X3.out
        have o_ := O3.out
        have y_ : IntKind.i64.wrap (n3 : Int) = (n3 : Int) := IntWalk.i64_in _ (by omega)
        clear hk0 hk5 hlt
        go_wp2_with (fail)
        go_region_held3 (fun w' => w'.cell? ad = some (.int .u64 L) ∧ w'.cell? ⟨wr.heap.size, 0, none⟩ = some (.int .i64 12) ∧ w'.cell? ⟨wr.heap.size, 1, none⟩ = some (.int .i64 16)) (first | (go_keep; done) | (obtain ⟨m_, hm_⟩ := hd.out; subst hm_; go_keep; done) | (exact ⟨(cell_far nAN).trans CL3.out, (cell_far nF).trans ((blk_cell HF3.out 0).trans rfl), (cell_far nF).trans ((blk_cell HF3.out 1).trans rfl)⟩)) (first | (go_at_call 22; refine (G3.out _).mono ?_; rintro e w3 ⟨rfl, hd⟩; have hB3 : w3.heap[w.heap.size + 1]? = some (.cells #[.int .i64 (n0 : Int), .int .i64 (n1 : Int), .int .i64 (n2 : Int), .int .i64 0, .int .i64 0] 48 (0, 0)) := (by obtain ⟨m_, hm_⟩ := hd.out; rw [hm_]; exact blk_alloc HN.out _); have HF3 : Aside0 (w3.heap[wr.heap.size]? = some (.cells #[.int .i64 12, .int .i64 16] 45 (0, 0))) := ⟨(by obtain ⟨m_, hm_⟩ := hd.out; rw [hm_]; exact blk_new wr _)⟩; have CL3 : Aside0 (w3.cell? ad = some (.int .u64 L)) := ⟨(by obtain ⟨m_, hm_⟩ := hd.out; rw [hm_]; exact pw_cell_below (below_alloc (Below.refl _ _) _) cL)⟩; have cN := (blk_cell hB3 3).trans (show _ = some (Value.int .i64 0) from rfl); have fN := blk_frozen hB3 3; have HB3 := Aside0.mk hB3; clear hB3))
        have cF0 : (w3.setCell ⟨w.heap.size + 1, 3, none⟩ (.int .i64 (n3 : Int))).cell? ⟨wr.heap.size, 0, none⟩ = some (.int .i64 12) := (cell_far nF).trans ((blk_cell HF3.out 0).trans rfl)
        have cF1 : (w3.setCell ⟨w.heap.size + 1, 3, none⟩ (.int .i64 (n3 : Int))).cell? ⟨wr.heap.size, 1, none⟩ = some (.int .i64 16) := (cell_far nF).trans ((blk_cell HF3.out 1).trans rfl)
        clear cN fN
        go_wp2_with (go_at_call 23; refine (M3.out _).mono ?_; rintro e w4 ⟨rfl, hd4⟩)
        refine ⟨⟨3 + 1, by decide, by decide, rfl, rfl, ⟨?_⟩, ⟨?_⟩, ⟨?_⟩⟩, by decide⟩
        · obtain ⟨m4_, hm4_⟩ := hd4.out
          rw [hm4_]
          exact blk_set HB3.out 3 (.int .i64 (n3 : Int))
        · obtain ⟨m_, hm_⟩ := hd.out
          obtain ⟨m4_, hm4_⟩ := hd4.out
          rw [hm4_, hm_]
          exact blk_far (blk_alloc HR.out _) (by simp) _
        · obtain ⟨m_, hm_⟩ := hd.out
          obtain ⟨m4_, hm4_⟩ := hd4.out
          rw [hm4_, hm_]
          exact pw_below_drewN (below_set (pw_below_drewN (below_drew1 (below_alloc HB.out _)) _) (show w.heap.size ≤ w.heap.size + 1 from Nat.le_succ _)) _
      · have HN' := Aside0.mk (show wr.heap[w.heap.size + 1]? = some (.cells #[.int .i64 (n0 : Int), .int .i64 (n1 : Int), .int .i64 (n2 : Int), .int .i64 (n3 : Int), .int .i64 0] 48 (0, 0)) from HN.out)
        clear HN
        have HN := HN'
        clear HN'
        rw [show usedI (4 : Int).toNat = 268435455 from rfl]
        have x_ := X4.out
        have o_ := O4.out
        have y_ : IntKind.i64.wrap (n4 : Int) = (n4 : Int) := IntWalk.i64_in _ (by omega)
        clear hk0 hk5 hlt
        go_wp2_with (fail)
        go_region_held3 (fun w' => w'.cell? ad = some (.int .u64 L) ∧ w'.cell? ⟨wr.heap.size, 0, none⟩ = some (.int .i64 28) ∧ w'.cell? ⟨wr.heap.size, 1, none⟩ = some (.int .i64 21)) (first | (go_keep; done) | (obtain ⟨m_, hm_⟩ := hd.out; subst hm_; go_keep; done) | (exact ⟨(cell_far nAN).trans CL3.out, (cell_far nF).trans ((blk_cell HF3.out 0).trans rfl), (cell_far nF).trans ((blk_cell HF3.out 1).trans rfl)⟩)) (first | (go_at_call 22; refine (G4.out _).mono ?_; rintro e w3 ⟨rfl, hd⟩; have hB3 : w3.heap[w.heap.size + 1]? = some (.cells #[.int .i64 (n0 : Int), .int .i64 (n1 : Int), .int .i64 (n2 : Int), .int .i64 (n3 : Int), .int .i64 0] 48 (0, 0)) := (by obtain ⟨m_, hm_⟩ := hd.out; rw [hm_]; exact blk_alloc HN.out _); have HF3 : Aside0 (w3.heap[wr.heap.size]? = some (.cells #[.int .i64 28, .int .i64 21] 45 (0, 0))) := ⟨(by obtain ⟨m_, hm_⟩ := hd.out; rw [hm_]; exact blk_new wr _)⟩; have CL3 : Aside0 (w3.cell? ad = some (.int .u64 L)) := ⟨(by obtain ⟨m_, hm_⟩ := hd.out; rw [hm_]; exact pw_cell_below (below_alloc (Below.refl _ _) _) cL)⟩; have cN := (blk_cell hB3 4).trans (show _ = some (Value.int .i64 0) from rfl); have fN := blk_frozen hB3 4; have HB3 := Aside0.mk hB3; clear hB3))
        have cF0 : (w3.setCell ⟨w.heap.size + 1, 4, none⟩ (.int .i64 (n4 : Int))).cell? ⟨wr.heap.size, 0, none⟩ = some (.int .i64 28) := (cell_far nF).trans ((blk_cell HF3.out 0).trans rfl)
        have cF1 : (w3.setCell ⟨w.heap.size + 1, 4, none⟩ (.int .i64 (n4 : Int))).cell? ⟨wr.heap.size, 1, none⟩ = some (.int .i64 21) := (cell_far nF).trans ((blk_cell HF3.out 1).trans rfl)
        clear cN fN
        go_wp2_with (go_at_call 23; refine (M4.out _).mono ?_; rintro e w4 ⟨rfl, hd4⟩)
        refine ⟨⟨4 + 1, by decide, by decide, rfl, rfl, ⟨?_⟩, ⟨?_⟩, ⟨?_⟩⟩, by decide⟩
        · obtain ⟨m4_, hm4_⟩ := hd4.out
          rw [hm4_]
          exact blk_set HB3.out 4 (.int .i64 (n4 : Int))
        · obtain ⟨m_, hm_⟩ := hd.out
          obtain ⟨m4_, hm4_⟩ := hd4.out
          rw [hm4_, hm_]
          exact blk_far (blk_alloc HR.out _) (by simp) _
        · obtain ⟨m_, hm_⟩ := hd.out
          obtain ⟨m4_, hm4_⟩ := hd4.out
          rw [hm4_, hm_]
          exact pw_below_drewN (below_set (pw_below_drewN (below_drew1 (below_alloc HB.out _)) _) (show w.heap.size ≤ w.heap.size + 1 from Nat.le_succ _)) _
    · obtain rfl : k = 5 := by omega
      have hN := HN.out
      rw [show (5 : Int).toNat = 5 from rfl] at hN
      have d0 : wr.cell? ⟨w.heap.size + 1, 0, none⟩ = some (.int .i64 (n0 : Int)) := (blk_cell hN 0).trans rfl
      have d1 : wr.cell? ⟨w.heap.size + 1, 1, none⟩ = some (.int .i64 (n1 : Int)) := (blk_cell hN 1).trans rfl
      have d2 : wr.cell? ⟨w.heap.size + 1, 2, none⟩ = some (.int .i64 (n2 : Int)) := (blk_cell hN 2).trans rfl
      have d3 : wr.cell? ⟨w.heap.size + 1, 3, none⟩ = some (.int .i64 (n3 : Int)) := (blk_cell hN 3).trans rfl
      have d4 : wr.cell? ⟨w.heap.size + 1, 4, none⟩ = some (.int .i64 (n4 : Int)) := (blk_cell hN 4).trans rfl
      have e0 : ∀ o : Obj, (wr.alloc o).cell? ⟨w.heap.size + 1, 0, none⟩ = some (.int .i64 (n0 : Int)) := fun o => (blk_cell (blk_alloc hN o) 0).trans rfl
      have e1 : ∀ o : Obj, (wr.alloc o).cell? ⟨w.heap.size + 1, 1, none⟩ = some (.int .i64 (n1 : Int)) := fun o => (blk_cell (blk_alloc hN o) 1).trans rfl
      have e2 : ∀ o : Obj, (wr.alloc o).cell? ⟨w.heap.size + 1, 2, none⟩ = some (.int .i64 (n2 : Int)) := fun o => (blk_cell (blk_alloc hN o) 2).trans rfl
      have e3 : ∀ o : Obj, (wr.alloc o).cell? ⟨w.heap.size + 1, 3, none⟩ = some (.int .i64 (n3 : Int)) := fun o => (blk_cell (blk_alloc hN o) 3).trans rfl
      have e4 : ∀ o : Obj, (wr.alloc o).cell? ⟨w.heap.size + 1, 4, none⟩ = some (.int .i64 (n4 : Int)) := fun o => (blk_cell (blk_alloc hN o) 4).trans rfl
      have cL : wr.cell? ad = some (.int .u64 L) := pw_cell_below HB.out HL.out.1
      have c1 : wr.cell? ⟨ad.block, ad.off + 1, none⟩ = some (.int .u64 l1) := pw_cell_below HB.out HL.out.2.1
      have c2 : wr.cell? ⟨ad.block, ad.off + 2, none⟩ = some (.int .u64 l2) := pw_cell_below HB.out HL.out.2.2.1
      have c3 : wr.cell? ⟨ad.block, ad.off + 3, none⟩ = some (.int .u64 l3) := pw_cell_below HB.out HL.out.2.2.2
      have gL : ∀ o : Obj, (wr.alloc o).cell? ad = some (.int .u64 L) := fun o => pw_cell_below (below_alloc (Below.refl _ _) o) cL
      have g1 : ∀ o : Obj, (wr.alloc o).cell? ⟨ad.block, ad.off + 1, none⟩ = some (.int .u64 l1) := fun o => pw_cell_below (below_alloc (Below.refl _ _) o) c1
      have g2 : ∀ o : Obj, (wr.alloc o).cell? ⟨ad.block, ad.off + 2, none⟩ = some (.int .u64 l2) := fun o => pw_cell_below (below_alloc (Below.refl _ _) o) c2
      have g3 : ∀ o : Obj, (wr.alloc o).cell? ⟨ad.block, ad.off + 3, none⟩ = some (.int .u64 l3) := fun o => pw_cell_below (below_alloc (Below.refl _ _) o) c3
      clear hN hlt hk0 hk5
      rw [show usedI (5 : Int).toNat = usedI 5 from rfl]
      have hq := Hq.out
      clear Hq
      generalize usedI 5 = U at *
      have Hq := Lib.hid hq
      clear hq M0 M1 M2 M3 M4 O0 O1 O2 O3 O4 G0 G1 G2 G3 G4 X0 X1 X2 X3 X4
      go_wp2_with (fail)
      have nA : ad.block ≠ wr.heap.size := Nat.ne_of_lt (World.block_lt_of_cell? _ _ cL)
      have nA' : wr.heap.size ≠ ad.block := nA.symm
      have nN : w.heap.size + 1 ≠ wr.heap.size := Nat.ne_of_lt (blk_lt HN.out)
      have nN' := nN.symm
      go_region_held3 (fun w' => w'.cell? ⟨w.heap.size + 1, 0, none⟩ = some (.int .i64 (n0 : Int)) ∧ w'.cell? ⟨w.heap.size + 1, 1, none⟩ = some (.int .i64 (n1 : Int)) ∧ w'.cell? ⟨w.heap.size + 1, 2, none⟩ = some (.int .i64 (n2 : Int)) ∧ w'.cell? ⟨w.heap.size + 1, 3, none⟩ = some (.int .i64 (n3 : Int)) ∧ w'.cell? ⟨w.heap.size + 1, 4, none⟩ = some (.int .i64 (n4 : Int)) ∧ w'.cell? ⟨ad.block, ad.off + 1, none⟩ = some (.int .u64 l1) ∧ w'.cell? ⟨ad.block, ad.off + 2, none⟩ = some (.int .u64 l2) ∧ w'.cell? ⟨ad.block, ad.off + 3, none⟩ = some (.int .u64 l3)) (first | (go_keep; done) | (exact ⟨e0 _, e1 _, e2 _, e3 _, e4 _, g1 _, g2 _, g3 _⟩)) (fail)
      clear d0 d1 d2 d3 d4 e0 e1 e2 e3 e4 c1 c2 c3 g1 g2 g3
      have HR6 := Aside0.mk (blk_drew (blk_alloc HR.out (.cells #[.int .i64 (n0 : Int), .int .u64 l1, .int .u64 l2, .int .i64 (n1 : Int), .int .i64 (n3 : Int), .int .i64 (n2 : Int), .int .i64 (n4 : Int), .int .i64 (IntKind.i64.wrap l3)] 24)))
      have HC6 := Aside0.mk (blk_drew (blk_new wr (.cells #[.int .i64 (n0 : Int), .int .u64 l1, .int .u64 l2, .int .i64 (n1 : Int), .int .i64 (n3 : Int), .int .i64 (n2 : Int), .int .i64 (n4 : Int), .int .i64 (IntKind.i64.wrap l3)] 24)))
      have HB6 := Aside0.mk (below_drew1 (below_alloc HB.out (.cells #[.int .i64 (n0 : Int), .int .u64 l1, .int .u64 l2, .int .i64 (n1 : Int), .int .i64 (n3 : Int), .int .i64 (n2 : Int), .int .i64 (n4 : Int), .int .i64 (IntKind.i64.wrap l3)] 24)))
      have HL6 := Aside0.mk (show (wr.alloc (.cells #[.int .i64 (n0 : Int), .int .u64 l1, .int .u64 l2, .int .i64 (n1 : Int), .int .i64 (n3 : Int), .int .i64 (n2 : Int), .int .i64 (n4 : Int), .int .i64 (IntKind.i64.wrap l3)] 24)).drew.cell? ad = some (.int .u64 L) from pw_cell_below (below_alloc (Below.refl _ _) _) cL)
      have hzR : w.heap.size < wr.heap.size := blk_lt HR.out
      have hnR : w.heap.size ≠ wr.heap.size := Nat.ne_of_lt hzR
      clear cL gL nA nA' nN nN' HN HR HB HL
      generalize (wr.alloc (.cells #[.int .i64 (n0 : Int), .int .u64 l1, .int .u64 l2, .int .i64 (n1 : Int), .int .i64 (n3 : Int), .int .i64 (n2 : Int), .int .i64 (n4 : Int), .int .i64 (IntKind.i64.wrap l3)] 24)).drew = W6 at *
      have r0 : W6.cell? ⟨w.heap.size, 0, none⟩ = some (.int .i64 0) := (blk_cell HR6.out 0).trans rfl
      have f0 : W6.frozen? ⟨w.heap.size, 0, none⟩ = false := blk_frozen HR6.out 0
      have r1 : W6.cell? ⟨w.heap.size, 1, none⟩ = some (.int .u64 0) := (blk_cell HR6.out 1).trans rfl
      have f1 : W6.frozen? ⟨w.heap.size, 1, none⟩ = false := blk_frozen HR6.out 1
      have r2 : W6.cell? ⟨w.heap.size, 2, none⟩ = some (.int .u64 0) := (blk_cell HR6.out 2).trans rfl
      have f2 : W6.frozen? ⟨w.heap.size, 2, none⟩ = false := blk_frozen HR6.out 2
      have r3 : W6.cell? ⟨w.heap.size, 3, none⟩ = some (.int .i64 0) := (blk_cell HR6.out 3).trans rfl
      have f3 : W6.frozen? ⟨w.heap.size, 3, none⟩ = false := blk_frozen HR6.out 3
      have r4 : W6.cell? ⟨w.heap.size, 4, none⟩ = some (.int .i64 0) := (blk_cell HR6.out 4).trans rfl
      have f4 : W6.frozen? ⟨w.heap.size, 4, none⟩ = false := blk_frozen HR6.out 4
      have r5 : W6.cell? ⟨w.heap.size, 5, none⟩ = some (.int .i64 0) := (blk_cell HR6.out 5).trans rfl
      have f5 : W6.frozen? ⟨w.heap.size, 5, none⟩ = false := blk_frozen HR6.out 5
      have r6 : W6.cell? ⟨w.heap.size, 6, none⟩ = some (.int .i64 0) := (blk_cell HR6.out 6).trans rfl
      have f6 : W6.frozen? ⟨w.heap.size, 6, none⟩ = false := blk_frozen HR6.out 6
      have r7 : W6.cell? ⟨w.heap.size, 7, none⟩ = some (.int .i64 0) := (blk_cell HR6.out 7).trans rfl
      have f7 : W6.frozen? ⟨w.heap.size, 7, none⟩ = false := blk_frozen HR6.out 7
      have s0 : W6.cell? ⟨wr.heap.size, 0, none⟩ = some (.int .i64 (n0 : Int)) := (blk_cell HC6.out 0).trans rfl
      have s1 : W6.cell? ⟨wr.heap.size, 1, none⟩ = some (.int .u64 l1) := (blk_cell HC6.out 1).trans rfl
      have s2 : W6.cell? ⟨wr.heap.size, 2, none⟩ = some (.int .u64 l2) := (blk_cell HC6.out 2).trans rfl
      have s3 : W6.cell? ⟨wr.heap.size, 3, none⟩ = some (.int .i64 (n1 : Int)) := (blk_cell HC6.out 3).trans rfl
      have s4 : W6.cell? ⟨wr.heap.size, 4, none⟩ = some (.int .i64 (n3 : Int)) := (blk_cell HC6.out 4).trans rfl
      have s5 : W6.cell? ⟨wr.heap.size, 5, none⟩ = some (.int .i64 (n2 : Int)) := (blk_cell HC6.out 5).trans rfl
      have s6 : W6.cell? ⟨wr.heap.size, 6, none⟩ = some (.int .i64 (n4 : Int)) := (blk_cell HC6.out 6).trans rfl
      have s7 : W6.cell? ⟨wr.heap.size, 7, none⟩ = some (.int .i64 (IntKind.i64.wrap l3)) := (blk_cell HC6.out 7).trans rfl
      have cL := HL6.out
      have hz6 : wr.heap.size < W6.heap.size := blk_lt HC6.out
      have hz7 : w.heap.size < W6.heap.size := blk_lt HR6.out
      have hq := Hq.out
      clear Hq
      clear h0 h1 h2 h3 h4
      cases q with
      | true =>
        obtain ⟨rfl, rfl⟩ : rv = (#[.int .i64 0, .int .u64 0, .int .u64 0, .int .i64 0, .int .i64 0, .int .i64 0, .int .i64 0, .int .i64 0] : Array Value) ∧ rr = 150 := by
          have h_ := HV.out
          rw [if_neg (fun h => by cases h.1)] at h_
          exact Prod.mk.inj h_
        clear HV
        go_wp2_with (fail)
        refine bodyPost_ret (v := .tuple #[.agg #[.int .i64 0, .int .u64 0, .int .u64 0, .int .i64 0, .int .i64 0, .int .i64 0, .int .i64 0, .int .i64 0], .int .i64 150]) ?_ rfl ⟨rfl, ?_⟩
        · have hres : Try.f11.results = #[.cell 2 24, .tmp 3] := rfl
          simp only [results, hres]
          go_simp
        · have hB6 := HB6.out
          go_grown
      | false =>
        by_cases hec : ec = 0
        · subst hec
          obtain ⟨rfl, rfl⟩ : rv = (#[.int .i64 (n0 : Int), .int .u64 l1, .int .u64 l2, .int .i64 (n1 : Int), .int .i64 (n3 : Int), .int .i64 (n2 : Int), .int .i64 (n4 : Int), .int .i64 (wrap64 l3)] : Array Value) ∧ rr = 0 := by
            have h_ := HV.out
            rw [if_pos ⟨rfl, rfl⟩] at h_
            exact Prod.mk.inj h_
          clear HV
          go_wp2_with (go_at_call 14; (with_reducible refine (Cc.out _).mono ?_); rintro e w5 ⟨rfl, hb⟩; have HB5 := Aside0.mk (below_step HB6.out hb); obtain ⟨hc, hf⟩ := bcell hb; clear hb)
          refine bodyPost_ret (v := .tuple #[.agg #[.int .i64 (n0 : Int), .int .u64 l1, .int .u64 l2, .int .i64 (n1 : Int), .int .i64 (n3 : Int), .int .i64 (n2 : Int), .int .i64 (n4 : Int), .int .i64 (wrap64 l3)], .int .i64 0]) ?_ rfl ⟨rfl, ?_⟩
          · have hres : Try.f11.results = #[.cell 2 24, .tmp 3] := rfl
            simp only [results, hres]
            go_simp
          · have hB5 := HB5.out
            go_grown
        · obtain ⟨rfl, rfl⟩ : rv = (#[.int .i64 0, .int .u64 0, .int .u64 0, .int .i64 0, .int .i64 0, .int .i64 0, .int .i64 0, .int .i64 0] : Array Value) ∧ rr = 150 := by
            have h_ := HV.out
            rw [if_neg (fun h => hec h.2)] at h_
            exact Prod.mk.inj h_
          clear HV
          have bec : (ec == 0) = false := beq_eq_false_iff_ne.mpr hec
          go_wp2_with (go_at_call 14; (with_reducible refine (Cc.out _).mono ?_); rintro e w5 ⟨rfl, hb⟩; have HB5 := Aside0.mk (below_step HB6.out hb); obtain ⟨hc, hf⟩ := bcell hb; clear hb)
          refine bodyPost_ret (v := .tuple #[.agg #[.int .i64 0, .int .u64 0, .int .u64 0, .int .i64 0, .int .i64 0, .int .i64 0, .int .i64 0, .int .i64 0], .int .i64 150]) ?_ rfl ⟨rfl, ?_⟩
          · have hres : Try.f11.results = #[.cell 2 24, .tmp 3] := rfl
            simp only [results, hres]
            go_simp
          · have hB5 := HB5.out
            go_grown

set_option maxRecDepth 100000 in
set_option maxHeartbeats 1000000 in
theorem parse_short (A0 : Option Addr) (n c0 : Nat) (w : World) (_b1 : ((n : Int) != 4) = true) (_b2 : (n == 4) = false) (_b3 : ((n : Int) == 4) = false) : Calls Try.prog 11 #[.slice A0 n c0] w fun e w' => e = .returned (.tuple #[.agg #[.int .i64 0, .int .u64 0, .int .u64 0, .int .i64 0, .int .i64 0, .int .i64 0, .int .i64 0, .int .i64 0], .int .i64 150]) ∧ Below w.heap.size w w' := by
  go_enter Try.func11, Try.ntmps11
  go_wp2_with (fail)
  refine bodyPost_ret (v := .tuple #[.agg #[.int .i64 0, .int .u64 0, .int .u64 0, .int .i64 0, .int .i64 0, .int .i64 0, .int .i64 0, .int .i64 0], .int .i64 150]) ?_ rfl ⟨rfl, by go_grown⟩
  have hres : Try.f11.results = #[.cell 2 24, .tmp 3] := rfl
  simp only [results, hres]
  go_simp
theorem M0_ : Hid (∀ W : World, Calls Try.prog 23 #[.int .i64 0, .int .i64 4] W fun e w' => e = .returned (.int .u64 15) ∧ Drawn0 W w') := Lib.hid (fun W => by
  have h := M_of 0 4 (by decide) (by decide) W
  rwa [show ((maskN 0 4 : Nat) : Int) = 15 by decide +kernel] at h)
theorem M1_ : Hid (∀ W : World, Calls Try.prog 23 #[.int .i64 4, .int .i64 4] W fun e w' => e = .returned (.int .u64 240) ∧ Drawn0 W w') := Lib.hid (fun W => by
  have h := M_of 4 4 (by decide) (by decide) W
  rwa [show ((maskN 4 4 : Nat) : Int) = 240 by decide +kernel] at h)
theorem M2_ : Hid (∀ W : World, Calls Try.prog 23 #[.int .i64 8, .int .i64 4] W fun e w' => e = .returned (.int .u64 3840) ∧ Drawn0 W w') := Lib.hid (fun W => by
  have h := M_of 8 4 (by decide) (by decide) W
  rwa [show ((maskN 8 4 : Nat) : Int) = 3840 by decide +kernel] at h)
theorem M3_ : Hid (∀ W : World, Calls Try.prog 23 #[.int .i64 12, .int .i64 16] W fun e w' => e = .returned (.int .u64 268431360) ∧ Drawn0 W w') := Lib.hid (fun W => by
  have h := M_of 12 16 (by decide) (by decide) W
  rwa [show ((maskN 12 16 : Nat) : Int) = 268431360 by decide +kernel] at h)
theorem M4_ : Hid (∀ W : World, Calls Try.prog 23 #[.int .i64 28, .int .i64 21] W fun e w' => e = .returned (.int .u64 562949684985856) ∧ Drawn0 W w') := Lib.hid (fun W => by
  have h := M_of 28 21 (by decide) (by decide) W
  rwa [show ((maskN 28 21 : Nat) : Int) = 562949684985856 by decide +kernel] at h)

def wfl (l : List Int) : Prop := ∀ x ∈ l, 0 ≤ x ∧ x < 18446744073709551616
instance (l : List Int) : Decidable (wfl l) := by unfold wfl; infer_instance
abbrev Nine := Int × Int × Int × Int × Int × Int × Int × Int × Int
def zeroC (e : Int) : Nine := (0, 0, 0, 0, 0, 0, 0, 0, e)
/-- What four words say. -/
def saidC (x0 x1 x2 x3 : Int) : Nine := (((getN x0.toNat 0 4 : Nat) : Int), x1, x2, ((getN x0.toNat 4 4 : Nat) : Int), ((getN x0.toNat 12 16 : Nat) : Int), ((getN x0.toNat 8 4 : Nat) : Int), ((getN x0.toNat 28 21 : Nat) : Int), wrap64 x3, 0)
def okC (x0 x1 x2 x3 : Int) : Bool := decide (x0.toNat < 2 ^ 49) && callOk ((getN x0.toNat 0 4 : Nat) : Int) x1 x2 ((getN x0.toNat 4 4 : Nat) : Int) ((getN x0.toNat 12 16 : Nat) : Int) ((getN x0.toNat 8 4 : Nat) : Int) ((getN x0.toNat 28 21 : Nat) : Int) (wrap64 x3)
def parseC : List Int → Nine
  | [x0, x1, x2, x3] => if okC x0 x1 x2 x3 = true then saidC x0 x1 x2 x3 else zeroC 150
  | _ => zeroC 150
theorem parseC_four (x0 x1 x2 x3 : Int) : parseC [x0, x1, x2, x3] = if okC x0 x1 x2 x3 = true then saidC x0 x1 x2 x3 else zeroC 150 := rfl
def call_Parse.f (l : List Int) : Option Nine := if wfl l then some (parseC l) else none
theorem used_q (L : Nat) (hL : L < 18446744073709551616) : (Go.bits .andNot .u64 (L : Int) (usedI 5) != 0) = !decide (L < 2 ^ 49) := by
  have e : usedI 5 = ((2 ^ 49 - 1 : Nat) : Int) := by decide +kernel
  rw [e, andNot64 _ _ hL (by decide)]
  have h := high_none hL (n := 49) (by decide)
  generalize L &&& notN (2 ^ 49 - 1) = z at *
  by_cases h2 : L < 2 ^ 49
  · rw [decide_eq_true h2, h.2 h2]
    rfl
  · rw [decide_eq_false h2]
    have : z ≠ 0 := fun hz => h2 (h.1 hz)
    exact bne_iff_ne.2 (by omega)
theorem call_Parse.four (x0 x1 x2 x3 : Int) (hw : wfl [x0, x1, x2, x3]) (A0 : Option Addr) (c0 : Nat) (w : World) (hr0 : Kd.C (Kd.int .u64) w A0 4 [x0, x1, x2, x3]) (rv : Array Value) (rr : Int)
    (hv : (rv, rr) = if okC x0 x1 x2 x3 = true then (#[.int .i64 ((getN x0.toNat 0 4 : Nat) : Int), .int .u64 x1, .int .u64 x2, .int .i64 ((getN x0.toNat 4 4 : Nat) : Int), .int .i64 ((getN x0.toNat 12 16 : Nat) : Int), .int .i64 ((getN x0.toNat 8 4 : Nat) : Int), .int .i64 ((getN x0.toNat 28 21 : Nat) : Int), .int .i64 (wrap64 x3)], 0) else (#[.int .i64 0, .int .u64 0, .int .u64 0, .int .i64 0, .int .i64 0, .int .i64 0, .int .i64 0, .int .i64 0], 150)) :
    Calls Try.prog 11 #[.slice A0 4 c0] w fun e w' => e = .returned (.tuple #[.agg rv, .int .i64 rr]) ∧ Below w.heap.size w w' := by
  obtain ⟨h0, h0'⟩ := hw x0 (by simp)
  have h1 := hw x1 (by simp)
  have h2 := hw x2 (by simp)
  obtain ⟨L, rfl⟩ := Int.eq_ofNat_of_zero_le h0
  have hL : L < 18446744073709551616 := by omega
  obtain ⟨ad, rfl, hb, g0, g1, g2, g3⟩ := cells4 hr0
  rw [Int.toNat_natCast] at hv
  unfold okC at hv
  rw [Int.toNat_natCast] at hv
  have b0 := getN_lt L 0 4
  have b1 := getN_lt L 4 4
  have b2 := getN_lt L 8 4
  have b3 := getN_lt L 12 16
  have b4 := getN_lt L 28 21
  have hwf : wfc x1 x2 ((getN L 4 4 : Nat) : Int) := ⟨h1, h2, by omega, by omega⟩
  have hck : call_Check.f ((getN L 0 4 : Nat) : Int) x1 x2 ((getN L 4 4 : Nat) : Int) ((getN L 12 16 : Nat) : Int) ((getN L 8 4 : Nat) : Int) ((getN L 28 21 : Nat) : Int) (wrap64 x3) = some (if callOk ((getN L 0 4 : Nat) : Int) x1 x2 ((getN L 4 4 : Nat) : Int) ((getN L 12 16 : Nat) : Int) ((getN L 8 4 : Nat) : Int) ((getN L 28 21 : Nat) : Int) (wrap64 x3) = true then 0 else 150) := by
    unfold call_Check.f
    rw [if_pos hwf]
  refine parse_walk (L : Int) x1 x2 x3 (getN L 0 4) (getN L 4 4) (getN L 8 4) (getN L 12 16) (getN L 28 21) _ _ c0 ad w (Lib.hid (G_of L 0 4 hL (by decide) (by decide))) (Lib.hid (G_of L 4 4 hL (by decide) (by decide))) (Lib.hid (G_of L 8 4 hL (by decide) (by decide))) (Lib.hid (G_of L 12 16 hL (by decide) (by decide))) (Lib.hid (G_of L 28 21 hL (by decide) (by decide))) M0_ M1_ M2_ M3_ M4_ (by omega) (by omega) (by omega) (by omega) (by omega) (Lib.hid (fun W => call_Check.calls _ _ _ _ _ _ _ _ _ W hck)) (Lib.hid ⟨g0, g1, g2, g3⟩) (Lib.hid (used_q L hL)) rv rr (Lib.hid ?_)
  rw [hv]
  generalize callOk ((getN L 0 4 : Nat) : Int) x1 x2 ((getN L 4 4 : Nat) : Int) ((getN L 12 16 : Nat) : Int) ((getN L 8 4 : Nat) : Int) ((getN L 28 21 : Nat) : Int) (wrap64 x3) = k
  by_cases hl : L < 2 ^ 49
  · rw [decide_eq_true hl]
    cases k
    · rw [if_neg (by decide), if_neg (by decide)]
    · rw [if_pos (by decide), if_pos (by decide)]
  · rw [decide_eq_false hl]
    rw [if_neg (by simp), if_neg (by simp)]
theorem call_Parse.calls (A0 : Option Addr) (c0 : Nat) (l0 : List Int) (r1 r2 r3 r4 r5 r6 r7 r8 r9 : Int) (w : World) (hr0 : Kd.C (Kd.int .u64) w A0 l0.length l0) (_hc0 : l0.length ≤ c0) (h : call_Parse.f l0 = some (r1, r2, r3, r4, r5, r6, r7, r8, r9)) :
    Calls Try.prog 11 #[.slice A0 l0.length c0] w fun e w' => e = .returned (.tuple #[.agg #[.int .i64 r1, .int .u64 r2, .int .u64 r3, .int .i64 r4, .int .i64 r5, .int .i64 r6, .int .i64 r7, .int .i64 r8], .int .i64 r9]) ∧ Below w.heap.size w w' := by
  unfold call_Parse.f at h
  by_cases hw : wfl l0
  · rw [if_pos hw] at h
    have h := Option.some.inj h
    by_cases h4 : l0.length = 4
    · obtain ⟨x0, x1, x2, x3, rfl⟩ : ∃ x0 x1 x2 x3, l0 = [x0, x1, x2, x3] := by
        match l0, h4 with
        | [a, b, c, d], _ => exact ⟨a, b, c, d, rfl⟩
      refine call_Parse.four x0 x1 x2 x3 hw A0 c0 w hr0 _ _ ?_
      rw [parseC_four] at h
      by_cases ho : okC x0 x1 x2 x3 = true
      · rw [if_pos ho] at h ⊢
        unfold saidC at h
        simp only [Prod.mk.injEq] at h
        obtain ⟨rfl, rfl, rfl, rfl, rfl, rfl, rfl, rfl, rfl⟩ := h
        rfl
      · rw [if_neg ho] at h ⊢
        unfold zeroC at h
        simp only [Prod.mk.injEq] at h
        obtain ⟨rfl, rfl, rfl, rfl, rfl, rfl, rfl, rfl, rfl⟩ := h
        rfl
    · have hp : parseC l0 = zeroC 150 := by
        unfold parseC
        split
        · exact absurd rfl h4
        · rfl
      rw [hp] at h
      unfold zeroC at h
      simp only [Prod.mk.injEq] at h
      obtain ⟨rfl, rfl, rfl, rfl, rfl, rfl, rfl, rfl, rfl⟩ := h
      exact parse_short A0 l0.length c0 w (bne_iff_ne.2 (by omega)) (beq_eq_false_iff_ne.2 h4) (beq_eq_false_iff_ne.2 (by omega))
  · rw [if_neg hw] at h
    cases h
end Go.Proofs.Ytikbldmlfjckkaa.Given
