/- rights.Text at this program: what the call answers. -/
import Derived.Test.YtmcgdopgpjjkbaaDoorRights
import Derived.LoopN
import Derived.Lib.SmallJoins
import Derived.Lib.Hide
import Derived.Test.YtmcgdopgpjjkbaaDoorPx4
namespace Go.Proofs.YtmcgdopgpjjkbaaDoor.Given
open Go Go.RowKit Go.Proofs Go.Proofs.YtmcgdopgpjjkbaaDoorW.PrintWords Go.Proofs.YtmcgdopgpjjkbaaDoorW.PrintLast Go.Proofs.YtmcgdopgpjjkbaaDoorW.PrintMore Go.Proofs.YtmcgdopgpjjkbaaDoor.P Go.Proofs.YtmcgdopgpjjkbaaDoor.Plain
set_option linter.unusedVariables false
set_option linter.unusedSimpArgs false

/-- One sign. -/
def signC (r : Int) (k : Nat) (c : UInt8) : UInt8 := if (r / 2 ^ k) % 2 = 1 then c else 45
/-- Rights' signs. -/
def rightsS (r : Int) : ByteArray := if rightsB r = true then ⟨#[signC r 0 114, signC r 1 119, signC r 2 103, signC r 3 99]⟩ else ⟨#[]⟩

theorem set_newf (w : World) (cs : Array Value) (t : TypeId) (fr : Nat × Nat) (i : Nat) (v : Value) : (w.alloc (.cells cs t fr)).setCell ⟨w.heap.size, i, none⟩ v = w.alloc (.cells (cs.setIfInBounds i v) t fr) := by
 unfold World.setCell World.alloc
 congr 1
 apply Array.ext
 ·simp
 ·intro j h1 h2
  rw [Array.getElem_modify]
  by_cases hj : w.heap.size = j
  ·subst hj
   simp
  ·have hj' : j < w.heap.size := by
    have h3 : j < (w.heap.push (.cells (cs.setIfInBounds i v) t fr)).size := h2
    rw [Array.size_push] at h3
    omega
   rw [if_neg hj]
   simp [Array.getElem_push, hj']
theorem frozen_new (w : World) (cs : Array Value) (i : Nat) (h : i < 4) : (w.alloc (.cells cs 5 (4, 5))).frozen? ⟨w.heap.size, i, none⟩ = false := by
 have hh : (w.alloc (.cells cs 5 (4, 5))).heap[w.heap.size]? = some (.cells cs 5 (4, 5)) := by
  show (w.heap.push _)[w.heap.size]? = _
  simp
 obtain rfl | rfl | rfl | rfl : i = 0 ∨ i = 1 ∨ i = 2 ∨ i = 3 := by omega
 all_goals
  unfold World.frozen?
  dsimp only
  rw [hh]
  rfl
theorem conv_back (W : World) (a b c d : UInt8) : (convert 69 9 (.slice (some ⟨W.heap.size, 0, none⟩) 4 4)).run Tryd.prog (W.alloc (.cells #[.int .u8 (a.toNat : Int), .int .u8 (b.toNat : Int), .int .u8 (c.toNat : Int), .int .u8 (d.toNat : Int)] 5 (4, 5))) = .ok (.string ⟨#[a, b, c, d]⟩) (W.alloc (.cells #[.int .u8 (a.toNat : Int), .int .u8 (b.toNat : Int), .int .u8 (c.toNat : Int), .int .u8 (d.toNat : Int)] 5 (4, 5))) := by
 refine run_convert_bytes_back _ 69 9 5 ⟨W.heap.size, 0, none⟩ 4 [a, b, c, d] Tryd.underlying69 Tryd.underlying5 Tryd.underlying9 (fun j hj => ?_)
 rw [add_plain, World.cell?_alloc_mark]
 match j, hj with
 | 0, _ => rfl
 | 1, _ => rfl
 | 2, _ => rfl
 | 3, _ => rfl
set_option maxHeartbeats 4000000
set_option maxRecDepth 100000
theorem hb_ (a b c d : UInt8) (x y z u : Int) (h1 : (a.toNat : Int) = x) (h2 : (b.toNat : Int) = y) (h3 : (c.toNat : Int) = z) (h4 : (d.toNat : Int) = u) : ∀ W : World, (convert 69 9 (.slice (some ⟨W.heap.size, 0, none⟩) 4 4)).run Tryd.prog (W.alloc (.cells #[.int .u8 x, .int .u8 y, .int .u8 z, .int .u8 u] 5 (4, 5))) = .ok (.string ⟨#[a, b, c, d]⟩) (W.alloc (.cells #[.int .u8 x, .int .u8 y, .int .u8 z, .int .u8 u] 5 (4, 5))) := fun W => by rw [← h1, ← h2, ← h3, ← h4]; exact conv_back W a b c d
theorem gh0_ : (Go.bits .and .i64 0 1 == 0) = true := by decide +kernel
theorem gh1_ : ∀ W : World, (convert 69 69 (.slice (some ⟨W.heap.size, 0, none⟩) 4 4)).run Tryd.prog (W.alloc (.cells #[.int .u8 114, .int .u8 119, .int .u8 103, .int .u8 99] 5 (0, 0))) = .ok (.slice (some ⟨W.heap.size, 0, none⟩) 4 4) (W.alloc (.cells #[.int .u8 114, .int .u8 119, .int .u8 103, .int .u8 99] 5 (4, 5))) := fun W => Joins.run_convert_bytes_const_at W _ _ _ 4 4 _ rfl Tryd.underlying69 Tryd.underlying5
theorem gh2_ : ∀ (W : World) (C : Array Value) (i : Nat), (W.alloc (.cells C 5 (4, 5))).cell? ⟨W.heap.size, i, none⟩ = C[i]? := fun W C i => World.cell?_alloc_mark W C 5 (4, 5) i
theorem gh3_ : ∀ (W : World) (C : Array Value) (i : Nat) (v : Value), (W.alloc (.cells C 5 (4, 5))).setCell ⟨W.heap.size, i, none⟩ v = W.alloc (.cells (C.setIfInBounds i v) 5 (4, 5)) := fun W C i v => set_newf W C 5 (4, 5) i v
theorem gh4_ : ∀ (W : World) (C : Array Value), (W.alloc (.cells C 5 (4, 5))).frozen? ⟨W.heap.size, 0, none⟩ = false := fun W C => frozen_new W C 0 (by decide)
theorem gh5_ : ∀ (W : World) (C : Array Value), (W.alloc (.cells C 5 (4, 5))).frozen? ⟨W.heap.size, 1, none⟩ = false := fun W C => frozen_new W C 1 (by decide)
theorem gh6_ : ∀ (W : World) (C : Array Value), (W.alloc (.cells C 5 (4, 5))).frozen? ⟨W.heap.size, 2, none⟩ = false := fun W C => frozen_new W C 2 (by decide)
theorem gh7_ : ∀ (W : World) (C : Array Value), (W.alloc (.cells C 5 (4, 5))).frozen? ⟨W.heap.size, 3, none⟩ = false := fun W C => frozen_new W C 3 (by decide)
theorem gh8_ : (Go.bits .and .i64 1 1 == 0) = false := by decide +kernel
theorem gh9_ : (Go.bits .and .i64 2 1 == 0) = true := by decide +kernel
theorem gh10_ : (Go.bits .and .i64 3 1 == 0) = false := by decide +kernel
theorem gh11_ : (Go.bits .and .i64 4 1 == 0) = true := by decide +kernel
theorem gh12_ : (Go.bits .and .i64 5 1 == 0) = false := by decide +kernel
theorem gh13_ : (Go.bits .and .i64 6 1 == 0) = true := by decide +kernel
theorem gh14_ : (Go.bits .and .i64 7 1 == 0) = false := by decide +kernel
theorem gh15_ : (⟨#[114, 119, 103, 99]⟩ : ByteArray).extract 0 1 = ⟨#[114]⟩ := by decide +kernel
theorem gh16_ : (⟨#[114, 119, 103, 99]⟩ : ByteArray).extract 1 2 = ⟨#[119]⟩ := by decide +kernel
theorem gh17_ : (⟨#[114, 119, 103, 99]⟩ : ByteArray).extract 2 3 = ⟨#[103]⟩ := by decide +kernel
theorem gh18_ : (⟨#[114, 119, 103, 99]⟩ : ByteArray).extract 3 4 = ⟨#[99]⟩ := by decide +kernel
theorem gh19_ : ((⟨#[]⟩ : ByteArray) ++ (⟨#[45]⟩ : ByteArray)) = ⟨#[45]⟩ := by decide +kernel
theorem gh20_ : ((⟨#[45]⟩ : ByteArray) ++ (⟨#[45]⟩ : ByteArray)) = ⟨#[45, 45]⟩ := by decide +kernel
theorem gh21_ : ((⟨#[45, 45]⟩ : ByteArray) ++ (⟨#[45]⟩ : ByteArray)) = ⟨#[45, 45, 45]⟩ := by decide +kernel
theorem gh22_ : ((⟨#[]⟩ : ByteArray) ++ (⟨#[114]⟩ : ByteArray)) = ⟨#[114]⟩ := by decide +kernel
theorem gh23_ : ((⟨#[114]⟩ : ByteArray) ++ (⟨#[45]⟩ : ByteArray)) = ⟨#[114, 45]⟩ := by decide +kernel
theorem gh24_ : ((⟨#[114, 45]⟩ : ByteArray) ++ (⟨#[45]⟩ : ByteArray)) = ⟨#[114, 45, 45]⟩ := by decide +kernel
theorem gh25_ : ((⟨#[45]⟩ : ByteArray) ++ (⟨#[119]⟩ : ByteArray)) = ⟨#[45, 119]⟩ := by decide +kernel
theorem gh26_ : ((⟨#[45, 119]⟩ : ByteArray) ++ (⟨#[45]⟩ : ByteArray)) = ⟨#[45, 119, 45]⟩ := by decide +kernel
theorem gh27_ : ((⟨#[114]⟩ : ByteArray) ++ (⟨#[119]⟩ : ByteArray)) = ⟨#[114, 119]⟩ := by decide +kernel
theorem gh28_ : ((⟨#[114, 119]⟩ : ByteArray) ++ (⟨#[45]⟩ : ByteArray)) = ⟨#[114, 119, 45]⟩ := by decide +kernel
theorem gh29_ : ((⟨#[45, 45]⟩ : ByteArray) ++ (⟨#[103]⟩ : ByteArray)) = ⟨#[45, 45, 103]⟩ := by decide +kernel
theorem gh30_ : ((⟨#[114, 45]⟩ : ByteArray) ++ (⟨#[103]⟩ : ByteArray)) = ⟨#[114, 45, 103]⟩ := by decide +kernel
theorem gh31_ : ((⟨#[45, 119]⟩ : ByteArray) ++ (⟨#[103]⟩ : ByteArray)) = ⟨#[45, 119, 103]⟩ := by decide +kernel
theorem gh32_ : ((⟨#[114, 119]⟩ : ByteArray) ++ (⟨#[103]⟩ : ByteArray)) = ⟨#[114, 119, 103]⟩ := by decide +kernel
theorem rtext_0 (w : World) : Calls Tryd.prog 37 #[.int .i64 0] w fun e w' => e = .returned (.string ⟨#[45, 45, 45, 45]⟩) ∧ Below w.heap.size w w' := by
 have HI := Lib.hid (fun W => rights_Is.calls 0 true W (by decide +kernel))
 have v0 := gh0_
 have hcv := gh1_
 have hcl := gh2_
 have hst := gh3_
 have hf0 := gh4_
 have hf1 := gh5_
 have hf2 := gh6_
 have hf3 := gh7_
 have hbk := hb_ 45 45 45 45 45 45 45 45 rfl rfl rfl rfl
 go_enter Tryd.func37, Tryd.ntmps37
 go_wp2_with (go_at_call 51; (with_reducible refine (HI.out _).mono ?_); clear HI; rintro e w1 ⟨rfl, hb⟩; have HB := Aside0.mk hb; clear hb)
 refine wp_loop_rounds 5 ?_
 iterate 5 (rw [rounds_succ]; go_wp2_with (fail))
 go_ret
 exact ⟨rfl, (HB.out.below).trans (below_alloc (Below.refl _ _) _ |>.mono HB.out.below.size)⟩
theorem rtext_1 (w : World) : Calls Tryd.prog 37 #[.int .i64 1] w fun e w' => e = .returned (.string ⟨#[114, 45, 45, 45]⟩) ∧ Below w.heap.size w w' := by
 have HI := Lib.hid (fun W => rights_Is.calls 1 true W (by decide +kernel))
 have v0 := gh0_
 have v1 := gh8_
 have hcv := gh1_
 have hcl := gh2_
 have hst := gh3_
 have hf0 := gh4_
 have hf1 := gh5_
 have hf2 := gh6_
 have hf3 := gh7_
 have hbk := hb_ 114 45 45 45 114 45 45 45 rfl rfl rfl rfl
 go_enter Tryd.func37, Tryd.ntmps37
 go_wp2_with (go_at_call 51; (with_reducible refine (HI.out _).mono ?_); clear HI; rintro e w1 ⟨rfl, hb⟩; have HB := Aside0.mk hb; clear hb)
 refine wp_loop_rounds 5 ?_
 iterate 5 (rw [rounds_succ]; go_wp2_with (fail))
 go_ret
 exact ⟨rfl, (HB.out.below).trans (below_alloc (Below.refl _ _) _ |>.mono HB.out.below.size)⟩
theorem rtext_2 (w : World) : Calls Tryd.prog 37 #[.int .i64 2] w fun e w' => e = .returned (.string ⟨#[45, 119, 45, 45]⟩) ∧ Below w.heap.size w w' := by
 have HI := Lib.hid (fun W => rights_Is.calls 2 true W (by decide +kernel))
 have v0 := gh0_
 have v1 := gh8_
 have v2 := gh9_
 have hcv := gh1_
 have hcl := gh2_
 have hst := gh3_
 have hf0 := gh4_
 have hf1 := gh5_
 have hf2 := gh6_
 have hf3 := gh7_
 have hbk := hb_ 45 119 45 45 45 119 45 45 rfl rfl rfl rfl
 go_enter Tryd.func37, Tryd.ntmps37
 go_wp2_with (go_at_call 51; (with_reducible refine (HI.out _).mono ?_); clear HI; rintro e w1 ⟨rfl, hb⟩; have HB := Aside0.mk hb; clear hb)
 refine wp_loop_rounds 5 ?_
 iterate 5 (rw [rounds_succ]; go_wp2_with (fail))
 go_ret
 exact ⟨rfl, (HB.out.below).trans (below_alloc (Below.refl _ _) _ |>.mono HB.out.below.size)⟩
theorem rtext_3 (w : World) : Calls Tryd.prog 37 #[.int .i64 3] w fun e w' => e = .returned (.string ⟨#[114, 119, 45, 45]⟩) ∧ Below w.heap.size w w' := by
 have HI := Lib.hid (fun W => rights_Is.calls 3 true W (by decide +kernel))
 have v0 := gh0_
 have v1 := gh8_
 have v3 := gh10_
 have hcv := gh1_
 have hcl := gh2_
 have hst := gh3_
 have hf0 := gh4_
 have hf1 := gh5_
 have hf2 := gh6_
 have hf3 := gh7_
 have hbk := hb_ 114 119 45 45 114 119 45 45 rfl rfl rfl rfl
 go_enter Tryd.func37, Tryd.ntmps37
 go_wp2_with (go_at_call 51; (with_reducible refine (HI.out _).mono ?_); clear HI; rintro e w1 ⟨rfl, hb⟩; have HB := Aside0.mk hb; clear hb)
 refine wp_loop_rounds 5 ?_
 iterate 5 (rw [rounds_succ]; go_wp2_with (fail))
 go_ret
 exact ⟨rfl, (HB.out.below).trans (below_alloc (Below.refl _ _) _ |>.mono HB.out.below.size)⟩
theorem rtext_4 (w : World) : Calls Tryd.prog 37 #[.int .i64 4] w fun e w' => e = .returned (.string ⟨#[45, 45, 103, 45]⟩) ∧ Below w.heap.size w w' := by
 have HI := Lib.hid (fun W => rights_Is.calls 4 true W (by decide +kernel))
 have v0 := gh0_
 have v1 := gh8_
 have v2 := gh9_
 have v4 := gh11_
 have hcv := gh1_
 have hcl := gh2_
 have hst := gh3_
 have hf0 := gh4_
 have hf1 := gh5_
 have hf2 := gh6_
 have hf3 := gh7_
 have hbk := hb_ 45 45 103 45 45 45 103 45 rfl rfl rfl rfl
 go_enter Tryd.func37, Tryd.ntmps37
 go_wp2_with (go_at_call 51; (with_reducible refine (HI.out _).mono ?_); clear HI; rintro e w1 ⟨rfl, hb⟩; have HB := Aside0.mk hb; clear hb)
 refine wp_loop_rounds 5 ?_
 iterate 5 (rw [rounds_succ]; go_wp2_with (fail))
 go_ret
 exact ⟨rfl, (HB.out.below).trans (below_alloc (Below.refl _ _) _ |>.mono HB.out.below.size)⟩
theorem rtext_5 (w : World) : Calls Tryd.prog 37 #[.int .i64 5] w fun e w' => e = .returned (.string ⟨#[114, 45, 103, 45]⟩) ∧ Below w.heap.size w w' := by
 have HI := Lib.hid (fun W => rights_Is.calls 5 true W (by decide +kernel))
 have v0 := gh0_
 have v1 := gh8_
 have v2 := gh9_
 have v5 := gh12_
 have hcv := gh1_
 have hcl := gh2_
 have hst := gh3_
 have hf0 := gh4_
 have hf1 := gh5_
 have hf2 := gh6_
 have hf3 := gh7_
 have hbk := hb_ 114 45 103 45 114 45 103 45 rfl rfl rfl rfl
 go_enter Tryd.func37, Tryd.ntmps37
 go_wp2_with (go_at_call 51; (with_reducible refine (HI.out _).mono ?_); clear HI; rintro e w1 ⟨rfl, hb⟩; have HB := Aside0.mk hb; clear hb)
 refine wp_loop_rounds 5 ?_
 iterate 5 (rw [rounds_succ]; go_wp2_with (fail))
 go_ret
 exact ⟨rfl, (HB.out.below).trans (below_alloc (Below.refl _ _) _ |>.mono HB.out.below.size)⟩
theorem rtext_6 (w : World) : Calls Tryd.prog 37 #[.int .i64 6] w fun e w' => e = .returned (.string ⟨#[45, 119, 103, 45]⟩) ∧ Below w.heap.size w w' := by
 have HI := Lib.hid (fun W => rights_Is.calls 6 true W (by decide +kernel))
 have v0 := gh0_
 have v1 := gh8_
 have v3 := gh10_
 have v6 := gh13_
 have hcv := gh1_
 have hcl := gh2_
 have hst := gh3_
 have hf0 := gh4_
 have hf1 := gh5_
 have hf2 := gh6_
 have hf3 := gh7_
 have hbk := hb_ 45 119 103 45 45 119 103 45 rfl rfl rfl rfl
 go_enter Tryd.func37, Tryd.ntmps37
 go_wp2_with (go_at_call 51; (with_reducible refine (HI.out _).mono ?_); clear HI; rintro e w1 ⟨rfl, hb⟩; have HB := Aside0.mk hb; clear hb)
 refine wp_loop_rounds 5 ?_
 iterate 5 (rw [rounds_succ]; go_wp2_with (fail))
 go_ret
 exact ⟨rfl, (HB.out.below).trans (below_alloc (Below.refl _ _) _ |>.mono HB.out.below.size)⟩
theorem rtext_7 (w : World) : Calls Tryd.prog 37 #[.int .i64 7] w fun e w' => e = .returned (.string ⟨#[114, 119, 103, 45]⟩) ∧ Below w.heap.size w w' := by
 have HI := Lib.hid (fun W => rights_Is.calls 7 true W (by decide +kernel))
 have v0 := gh0_
 have v1 := gh8_
 have v3 := gh10_
 have v7 := gh14_
 have hcv := gh1_
 have hcl := gh2_
 have hst := gh3_
 have hf0 := gh4_
 have hf1 := gh5_
 have hf2 := gh6_
 have hf3 := gh7_
 have hbk := hb_ 114 119 103 45 114 119 103 45 rfl rfl rfl rfl
 go_enter Tryd.func37, Tryd.ntmps37
 go_wp2_with (go_at_call 51; (with_reducible refine (HI.out _).mono ?_); clear HI; rintro e w1 ⟨rfl, hb⟩; have HB := Aside0.mk hb; clear hb)
 refine wp_loop_rounds 5 ?_
 iterate 5 (rw [rounds_succ]; go_wp2_with (fail))
 go_ret
 exact ⟨rfl, (HB.out.below).trans (below_alloc (Below.refl _ _) _ |>.mono HB.out.below.size)⟩
theorem rtext_8 (w : World) : Calls Tryd.prog 37 #[.int .i64 8] w fun e w' => e = .returned (.string ⟨#[45, 45, 45, 99]⟩) ∧ Below w.heap.size w w' := by
 have HI := Lib.hid (fun W => rights_Is.calls 8 true W (by decide +kernel))
 have v1 := gh8_
 have v2 := gh9_
 have v4 := gh11_
 have v8 : (Go.bits .and .i64 8 1 == 0) = true := by decide +kernel
 have hcv := gh1_
 have hcl := gh2_
 have hst := gh3_
 have hf0 := gh4_
 have hf1 := gh5_
 have hf2 := gh6_
 have hf3 := gh7_
 have hbk := hb_ 45 45 45 99 45 45 45 99 rfl rfl rfl rfl
 go_enter Tryd.func37, Tryd.ntmps37
 go_wp2_with (go_at_call 51; (with_reducible refine (HI.out _).mono ?_); clear HI; rintro e w1 ⟨rfl, hb⟩; have HB := Aside0.mk hb; clear hb)
 refine wp_loop_rounds 5 ?_
 iterate 5 (rw [rounds_succ]; go_wp2_with (fail))
 go_ret
 exact ⟨rfl, (HB.out.below).trans (below_alloc (Below.refl _ _) _ |>.mono HB.out.below.size)⟩
theorem rtext_9 (w : World) : Calls Tryd.prog 37 #[.int .i64 9] w fun e w' => e = .returned (.string ⟨#[114, 45, 45, 99]⟩) ∧ Below w.heap.size w w' := by
 have HI := Lib.hid (fun W => rights_Is.calls 9 true W (by decide +kernel))
 have v1 := gh8_
 have v2 := gh9_
 have v4 := gh11_
 have v9 : (Go.bits .and .i64 9 1 == 0) = false := by decide +kernel
 have hcv := gh1_
 have hcl := gh2_
 have hst := gh3_
 have hf0 := gh4_
 have hf1 := gh5_
 have hf2 := gh6_
 have hf3 := gh7_
 have hbk := hb_ 114 45 45 99 114 45 45 99 rfl rfl rfl rfl
 go_enter Tryd.func37, Tryd.ntmps37
 go_wp2_with (go_at_call 51; (with_reducible refine (HI.out _).mono ?_); clear HI; rintro e w1 ⟨rfl, hb⟩; have HB := Aside0.mk hb; clear hb)
 refine wp_loop_rounds 5 ?_
 iterate 5 (rw [rounds_succ]; go_wp2_with (fail))
 go_ret
 exact ⟨rfl, (HB.out.below).trans (below_alloc (Below.refl _ _) _ |>.mono HB.out.below.size)⟩
theorem rtext_10 (w : World) : Calls Tryd.prog 37 #[.int .i64 10] w fun e w' => e = .returned (.string ⟨#[45, 119, 45, 99]⟩) ∧ Below w.heap.size w w' := by
 have HI := Lib.hid (fun W => rights_Is.calls 10 true W (by decide +kernel))
 have v1 := gh8_
 have v2 := gh9_
 have v5 := gh12_
 have v10 : (Go.bits .and .i64 10 1 == 0) = true := by decide +kernel
 have hcv := gh1_
 have hcl := gh2_
 have hst := gh3_
 have hf0 := gh4_
 have hf1 := gh5_
 have hf2 := gh6_
 have hf3 := gh7_
 have hbk := hb_ 45 119 45 99 45 119 45 99 rfl rfl rfl rfl
 go_enter Tryd.func37, Tryd.ntmps37
 go_wp2_with (go_at_call 51; (with_reducible refine (HI.out _).mono ?_); clear HI; rintro e w1 ⟨rfl, hb⟩; have HB := Aside0.mk hb; clear hb)
 refine wp_loop_rounds 5 ?_
 iterate 5 (rw [rounds_succ]; go_wp2_with (fail))
 go_ret
 exact ⟨rfl, (HB.out.below).trans (below_alloc (Below.refl _ _) _ |>.mono HB.out.below.size)⟩
theorem rtext_11 (w : World) : Calls Tryd.prog 37 #[.int .i64 11] w fun e w' => e = .returned (.string ⟨#[114, 119, 45, 99]⟩) ∧ Below w.heap.size w w' := by
 have HI := Lib.hid (fun W => rights_Is.calls 11 true W (by decide +kernel))
 have v1 := gh8_
 have v2 := gh9_
 have v5 := gh12_
 have v11 : (Go.bits .and .i64 11 1 == 0) = false := by decide +kernel
 have hcv := gh1_
 have hcl := gh2_
 have hst := gh3_
 have hf0 := gh4_
 have hf1 := gh5_
 have hf2 := gh6_
 have hf3 := gh7_
 have hbk := hb_ 114 119 45 99 114 119 45 99 rfl rfl rfl rfl
 go_enter Tryd.func37, Tryd.ntmps37
 go_wp2_with (go_at_call 51; (with_reducible refine (HI.out _).mono ?_); clear HI; rintro e w1 ⟨rfl, hb⟩; have HB := Aside0.mk hb; clear hb)
 refine wp_loop_rounds 5 ?_
 iterate 5 (rw [rounds_succ]; go_wp2_with (fail))
 go_ret
 exact ⟨rfl, (HB.out.below).trans (below_alloc (Below.refl _ _) _ |>.mono HB.out.below.size)⟩
theorem rtext_12 (w : World) : Calls Tryd.prog 37 #[.int .i64 12] w fun e w' => e = .returned (.string ⟨#[45, 45, 103, 99]⟩) ∧ Below w.heap.size w w' := by
 have HI := Lib.hid (fun W => rights_Is.calls 12 true W (by decide +kernel))
 have v1 := gh8_
 have v3 := gh10_
 have v6 := gh13_
 have v12 : (Go.bits .and .i64 12 1 == 0) = true := by decide +kernel
 have hcv := gh1_
 have hcl := gh2_
 have hst := gh3_
 have hf0 := gh4_
 have hf1 := gh5_
 have hf2 := gh6_
 have hf3 := gh7_
 have hbk := hb_ 45 45 103 99 45 45 103 99 rfl rfl rfl rfl
 go_enter Tryd.func37, Tryd.ntmps37
 go_wp2_with (go_at_call 51; (with_reducible refine (HI.out _).mono ?_); clear HI; rintro e w1 ⟨rfl, hb⟩; have HB := Aside0.mk hb; clear hb)
 refine wp_loop_rounds 5 ?_
 iterate 5 (rw [rounds_succ]; go_wp2_with (fail))
 go_ret
 exact ⟨rfl, (HB.out.below).trans (below_alloc (Below.refl _ _) _ |>.mono HB.out.below.size)⟩
theorem rtext_13 (w : World) : Calls Tryd.prog 37 #[.int .i64 13] w fun e w' => e = .returned (.string ⟨#[114, 45, 103, 99]⟩) ∧ Below w.heap.size w w' := by
 have HI := Lib.hid (fun W => rights_Is.calls 13 true W (by decide +kernel))
 have v1 := gh8_
 have v3 := gh10_
 have v6 := gh13_
 have v13 : (Go.bits .and .i64 13 1 == 0) = false := by decide +kernel
 have hcv := gh1_
 have hcl := gh2_
 have hst := gh3_
 have hf0 := gh4_
 have hf1 := gh5_
 have hf2 := gh6_
 have hf3 := gh7_
 have hbk := hb_ 114 45 103 99 114 45 103 99 rfl rfl rfl rfl
 go_enter Tryd.func37, Tryd.ntmps37
 go_wp2_with (go_at_call 51; (with_reducible refine (HI.out _).mono ?_); clear HI; rintro e w1 ⟨rfl, hb⟩; have HB := Aside0.mk hb; clear hb)
 refine wp_loop_rounds 5 ?_
 iterate 5 (rw [rounds_succ]; go_wp2_with (fail))
 go_ret
 exact ⟨rfl, (HB.out.below).trans (below_alloc (Below.refl _ _) _ |>.mono HB.out.below.size)⟩
theorem rtext_14 (w : World) : Calls Tryd.prog 37 #[.int .i64 14] w fun e w' => e = .returned (.string ⟨#[45, 119, 103, 99]⟩) ∧ Below w.heap.size w w' := by
 have HI := Lib.hid (fun W => rights_Is.calls 14 true W (by decide +kernel))
 have v1 := gh8_
 have v3 := gh10_
 have v7 := gh14_
 have v14 : (Go.bits .and .i64 14 1 == 0) = true := by decide +kernel
 have hcv := gh1_
 have hcl := gh2_
 have hst := gh3_
 have hf0 := gh4_
 have hf1 := gh5_
 have hf2 := gh6_
 have hf3 := gh7_
 have hbk := hb_ 45 119 103 99 45 119 103 99 rfl rfl rfl rfl
 go_enter Tryd.func37, Tryd.ntmps37
 go_wp2_with (go_at_call 51; (with_reducible refine (HI.out _).mono ?_); clear HI; rintro e w1 ⟨rfl, hb⟩; have HB := Aside0.mk hb; clear hb)
 refine wp_loop_rounds 5 ?_
 iterate 5 (rw [rounds_succ]; go_wp2_with (fail))
 go_ret
 exact ⟨rfl, (HB.out.below).trans (below_alloc (Below.refl _ _) _ |>.mono HB.out.below.size)⟩
theorem rtext_15 (w : World) : Calls Tryd.prog 37 #[.int .i64 15] w fun e w' => e = .returned (.string ⟨#[114, 119, 103, 99]⟩) ∧ Below w.heap.size w w' := by
 have HI := Lib.hid (fun W => rights_Is.calls 15 true W (by decide +kernel))
 have v1 := gh8_
 have v3 := gh10_
 have v7 := gh14_
 have v15 : (Go.bits .and .i64 15 1 == 0) = false := by decide +kernel
 have hcv := gh1_
 have hcl := gh2_
 have hst := gh3_
 have hf0 := gh4_
 have hf1 := gh5_
 have hf2 := gh6_
 have hf3 := gh7_
 have hbk := hb_ 114 119 103 99 114 119 103 99 rfl rfl rfl rfl
 go_enter Tryd.func37, Tryd.ntmps37
 go_wp2_with (go_at_call 51; (with_reducible refine (HI.out _).mono ?_); clear HI; rintro e w1 ⟨rfl, hb⟩; have HB := Aside0.mk hb; clear hb)
 refine wp_loop_rounds 5 ?_
 iterate 5 (rw [rounds_succ]; go_wp2_with (fail))
 go_ret
 exact ⟨rfl, (HB.out.below).trans (below_alloc (Below.refl _ _) _ |>.mono HB.out.below.size)⟩
theorem r2text_0 (w : World) : Calls Tryd.prog 39 #[.int .i64 0] w fun e w' => e = .returned (.string ⟨#[45, 45, 45, 45]⟩) ∧ Below w.heap.size w w' := by
 have HI := Lib.hid (fun W => garrisonref02_Is.calls 0 true W (by decide +kernel))
 have K0 := Lib.hid (fun W => garrisonref02_Has.calls 0 0 false W (by decide +kernel))
 have K1 := Lib.hid (fun W => garrisonref02_Has.calls 0 1 false W (by decide +kernel))
 have K2 := Lib.hid (fun W => garrisonref02_Has.calls 0 2 false W (by decide +kernel))
 have K3 := Lib.hid (fun W => garrisonref02_Has.calls 0 3 false W (by decide +kernel))
 have S0 := gh15_
 have S1 := gh16_
 have S2 := gh17_
 have S3 := gh18_
 have A0 := gh19_
 have A1 := gh20_
 have A2 := gh21_
 have A3 : ((⟨#[45, 45, 45]⟩ : ByteArray) ++ (⟨#[45]⟩ : ByteArray)) = ⟨#[45, 45, 45, 45]⟩ := by decide +kernel
 go_enter Tryd.func39, Tryd.ntmps39
 go_wp2_with (go_at_call 35; (with_reducible refine (HI.out _).mono ?_); clear HI; rintro e w1 ⟨rfl, hb⟩; have HB := Aside0.mk hb; clear hb)
 refine wp_loop_rounds 5 ?_
 rw [rounds_succ]
 go_wp2_with (go_at_call 44; (with_reducible refine (K0.out _).mono ?_); clear K0; rintro e w2 ⟨rfl, hb⟩; have HB0 := Aside0.mk hb; clear hb)
 rw [rounds_succ]
 go_wp2_with (go_at_call 44; (with_reducible refine (K1.out _).mono ?_); clear K1; rintro e w3 ⟨rfl, hb⟩; have HB1 := Aside0.mk hb; clear hb)
 rw [rounds_succ]
 go_wp2_with (go_at_call 44; (with_reducible refine (K2.out _).mono ?_); clear K2; rintro e w4 ⟨rfl, hb⟩; have HB2 := Aside0.mk hb; clear hb)
 rw [rounds_succ]
 go_wp2_with (go_at_call 44; (with_reducible refine (K3.out _).mono ?_); clear K3; rintro e w5 ⟨rfl, hb⟩; have HB3 := Aside0.mk hb; clear hb)
 rw [rounds_succ]
 go_wp2_with (fail)
 go_ret
 exact ⟨rfl, HB.out.below.trans ((HB0.out.below.mono HB.out.below.size).trans ((HB1.out.below.mono (Nat.le_trans HB.out.below.size HB0.out.below.size)).trans ((HB2.out.below.mono (Nat.le_trans HB.out.below.size (Nat.le_trans HB0.out.below.size HB1.out.below.size))).trans (HB3.out.below.mono (Nat.le_trans HB.out.below.size (Nat.le_trans HB0.out.below.size (Nat.le_trans HB1.out.below.size HB2.out.below.size)))))))⟩
theorem r2text_1 (w : World) : Calls Tryd.prog 39 #[.int .i64 1] w fun e w' => e = .returned (.string ⟨#[114, 45, 45, 45]⟩) ∧ Below w.heap.size w w' := by
 have HI := Lib.hid (fun W => garrisonref02_Is.calls 1 true W (by decide +kernel))
 have K0 := Lib.hid (fun W => garrisonref02_Has.calls 1 0 true W (by decide +kernel))
 have K1 := Lib.hid (fun W => garrisonref02_Has.calls 1 1 false W (by decide +kernel))
 have K2 := Lib.hid (fun W => garrisonref02_Has.calls 1 2 false W (by decide +kernel))
 have K3 := Lib.hid (fun W => garrisonref02_Has.calls 1 3 false W (by decide +kernel))
 have S0 := gh15_
 have S1 := gh16_
 have S2 := gh17_
 have S3 := gh18_
 have A0 := gh22_
 have A1 := gh23_
 have A2 := gh24_
 have A3 : ((⟨#[114, 45, 45]⟩ : ByteArray) ++ (⟨#[45]⟩ : ByteArray)) = ⟨#[114, 45, 45, 45]⟩ := by decide +kernel
 go_enter Tryd.func39, Tryd.ntmps39
 go_wp2_with (go_at_call 35; (with_reducible refine (HI.out _).mono ?_); clear HI; rintro e w1 ⟨rfl, hb⟩; have HB := Aside0.mk hb; clear hb)
 refine wp_loop_rounds 5 ?_
 rw [rounds_succ]
 go_wp2_with (go_at_call 44; (with_reducible refine (K0.out _).mono ?_); clear K0; rintro e w2 ⟨rfl, hb⟩; have HB0 := Aside0.mk hb; clear hb)
 rw [rounds_succ]
 go_wp2_with (go_at_call 44; (with_reducible refine (K1.out _).mono ?_); clear K1; rintro e w3 ⟨rfl, hb⟩; have HB1 := Aside0.mk hb; clear hb)
 rw [rounds_succ]
 go_wp2_with (go_at_call 44; (with_reducible refine (K2.out _).mono ?_); clear K2; rintro e w4 ⟨rfl, hb⟩; have HB2 := Aside0.mk hb; clear hb)
 rw [rounds_succ]
 go_wp2_with (go_at_call 44; (with_reducible refine (K3.out _).mono ?_); clear K3; rintro e w5 ⟨rfl, hb⟩; have HB3 := Aside0.mk hb; clear hb)
 rw [rounds_succ]
 go_wp2_with (fail)
 go_ret
 exact ⟨rfl, HB.out.below.trans ((HB0.out.below.mono HB.out.below.size).trans ((HB1.out.below.mono (Nat.le_trans HB.out.below.size HB0.out.below.size)).trans ((HB2.out.below.mono (Nat.le_trans HB.out.below.size (Nat.le_trans HB0.out.below.size HB1.out.below.size))).trans (HB3.out.below.mono (Nat.le_trans HB.out.below.size (Nat.le_trans HB0.out.below.size (Nat.le_trans HB1.out.below.size HB2.out.below.size)))))))⟩
theorem r2text_2 (w : World) : Calls Tryd.prog 39 #[.int .i64 2] w fun e w' => e = .returned (.string ⟨#[45, 119, 45, 45]⟩) ∧ Below w.heap.size w w' := by
 have HI := Lib.hid (fun W => garrisonref02_Is.calls 2 true W (by decide +kernel))
 have K0 := Lib.hid (fun W => garrisonref02_Has.calls 2 0 false W (by decide +kernel))
 have K1 := Lib.hid (fun W => garrisonref02_Has.calls 2 1 true W (by decide +kernel))
 have K2 := Lib.hid (fun W => garrisonref02_Has.calls 2 2 false W (by decide +kernel))
 have K3 := Lib.hid (fun W => garrisonref02_Has.calls 2 3 false W (by decide +kernel))
 have S0 := gh15_
 have S1 := gh16_
 have S2 := gh17_
 have S3 := gh18_
 have A0 := gh19_
 have A1 := gh25_
 have A2 := gh26_
 have A3 : ((⟨#[45, 119, 45]⟩ : ByteArray) ++ (⟨#[45]⟩ : ByteArray)) = ⟨#[45, 119, 45, 45]⟩ := by decide +kernel
 go_enter Tryd.func39, Tryd.ntmps39
 go_wp2_with (go_at_call 35; (with_reducible refine (HI.out _).mono ?_); clear HI; rintro e w1 ⟨rfl, hb⟩; have HB := Aside0.mk hb; clear hb)
 refine wp_loop_rounds 5 ?_
 rw [rounds_succ]
 go_wp2_with (go_at_call 44; (with_reducible refine (K0.out _).mono ?_); clear K0; rintro e w2 ⟨rfl, hb⟩; have HB0 := Aside0.mk hb; clear hb)
 rw [rounds_succ]
 go_wp2_with (go_at_call 44; (with_reducible refine (K1.out _).mono ?_); clear K1; rintro e w3 ⟨rfl, hb⟩; have HB1 := Aside0.mk hb; clear hb)
 rw [rounds_succ]
 go_wp2_with (go_at_call 44; (with_reducible refine (K2.out _).mono ?_); clear K2; rintro e w4 ⟨rfl, hb⟩; have HB2 := Aside0.mk hb; clear hb)
 rw [rounds_succ]
 go_wp2_with (go_at_call 44; (with_reducible refine (K3.out _).mono ?_); clear K3; rintro e w5 ⟨rfl, hb⟩; have HB3 := Aside0.mk hb; clear hb)
 rw [rounds_succ]
 go_wp2_with (fail)
 go_ret
 exact ⟨rfl, HB.out.below.trans ((HB0.out.below.mono HB.out.below.size).trans ((HB1.out.below.mono (Nat.le_trans HB.out.below.size HB0.out.below.size)).trans ((HB2.out.below.mono (Nat.le_trans HB.out.below.size (Nat.le_trans HB0.out.below.size HB1.out.below.size))).trans (HB3.out.below.mono (Nat.le_trans HB.out.below.size (Nat.le_trans HB0.out.below.size (Nat.le_trans HB1.out.below.size HB2.out.below.size)))))))⟩
theorem r2text_3 (w : World) : Calls Tryd.prog 39 #[.int .i64 3] w fun e w' => e = .returned (.string ⟨#[114, 119, 45, 45]⟩) ∧ Below w.heap.size w w' := by
 have HI := Lib.hid (fun W => garrisonref02_Is.calls 3 true W (by decide +kernel))
 have K0 := Lib.hid (fun W => garrisonref02_Has.calls 3 0 true W (by decide +kernel))
 have K1 := Lib.hid (fun W => garrisonref02_Has.calls 3 1 true W (by decide +kernel))
 have K2 := Lib.hid (fun W => garrisonref02_Has.calls 3 2 false W (by decide +kernel))
 have K3 := Lib.hid (fun W => garrisonref02_Has.calls 3 3 false W (by decide +kernel))
 have S0 := gh15_
 have S1 := gh16_
 have S2 := gh17_
 have S3 := gh18_
 have A0 := gh22_
 have A1 := gh27_
 have A2 := gh28_
 have A3 : ((⟨#[114, 119, 45]⟩ : ByteArray) ++ (⟨#[45]⟩ : ByteArray)) = ⟨#[114, 119, 45, 45]⟩ := by decide +kernel
 go_enter Tryd.func39, Tryd.ntmps39
 go_wp2_with (go_at_call 35; (with_reducible refine (HI.out _).mono ?_); clear HI; rintro e w1 ⟨rfl, hb⟩; have HB := Aside0.mk hb; clear hb)
 refine wp_loop_rounds 5 ?_
 rw [rounds_succ]
 go_wp2_with (go_at_call 44; (with_reducible refine (K0.out _).mono ?_); clear K0; rintro e w2 ⟨rfl, hb⟩; have HB0 := Aside0.mk hb; clear hb)
 rw [rounds_succ]
 go_wp2_with (go_at_call 44; (with_reducible refine (K1.out _).mono ?_); clear K1; rintro e w3 ⟨rfl, hb⟩; have HB1 := Aside0.mk hb; clear hb)
 rw [rounds_succ]
 go_wp2_with (go_at_call 44; (with_reducible refine (K2.out _).mono ?_); clear K2; rintro e w4 ⟨rfl, hb⟩; have HB2 := Aside0.mk hb; clear hb)
 rw [rounds_succ]
 go_wp2_with (go_at_call 44; (with_reducible refine (K3.out _).mono ?_); clear K3; rintro e w5 ⟨rfl, hb⟩; have HB3 := Aside0.mk hb; clear hb)
 rw [rounds_succ]
 go_wp2_with (fail)
 go_ret
 exact ⟨rfl, HB.out.below.trans ((HB0.out.below.mono HB.out.below.size).trans ((HB1.out.below.mono (Nat.le_trans HB.out.below.size HB0.out.below.size)).trans ((HB2.out.below.mono (Nat.le_trans HB.out.below.size (Nat.le_trans HB0.out.below.size HB1.out.below.size))).trans (HB3.out.below.mono (Nat.le_trans HB.out.below.size (Nat.le_trans HB0.out.below.size (Nat.le_trans HB1.out.below.size HB2.out.below.size)))))))⟩
theorem r2text_4 (w : World) : Calls Tryd.prog 39 #[.int .i64 4] w fun e w' => e = .returned (.string ⟨#[45, 45, 103, 45]⟩) ∧ Below w.heap.size w w' := by
 have HI := Lib.hid (fun W => garrisonref02_Is.calls 4 true W (by decide +kernel))
 have K0 := Lib.hid (fun W => garrisonref02_Has.calls 4 0 false W (by decide +kernel))
 have K1 := Lib.hid (fun W => garrisonref02_Has.calls 4 1 false W (by decide +kernel))
 have K2 := Lib.hid (fun W => garrisonref02_Has.calls 4 2 true W (by decide +kernel))
 have K3 := Lib.hid (fun W => garrisonref02_Has.calls 4 3 false W (by decide +kernel))
 have S0 := gh15_
 have S1 := gh16_
 have S2 := gh17_
 have S3 := gh18_
 have A0 := gh19_
 have A1 := gh20_
 have A2 := gh29_
 have A3 : ((⟨#[45, 45, 103]⟩ : ByteArray) ++ (⟨#[45]⟩ : ByteArray)) = ⟨#[45, 45, 103, 45]⟩ := by decide +kernel
 go_enter Tryd.func39, Tryd.ntmps39
 go_wp2_with (go_at_call 35; (with_reducible refine (HI.out _).mono ?_); clear HI; rintro e w1 ⟨rfl, hb⟩; have HB := Aside0.mk hb; clear hb)
 refine wp_loop_rounds 5 ?_
 rw [rounds_succ]
 go_wp2_with (go_at_call 44; (with_reducible refine (K0.out _).mono ?_); clear K0; rintro e w2 ⟨rfl, hb⟩; have HB0 := Aside0.mk hb; clear hb)
 rw [rounds_succ]
 go_wp2_with (go_at_call 44; (with_reducible refine (K1.out _).mono ?_); clear K1; rintro e w3 ⟨rfl, hb⟩; have HB1 := Aside0.mk hb; clear hb)
 rw [rounds_succ]
 go_wp2_with (go_at_call 44; (with_reducible refine (K2.out _).mono ?_); clear K2; rintro e w4 ⟨rfl, hb⟩; have HB2 := Aside0.mk hb; clear hb)
 rw [rounds_succ]
 go_wp2_with (go_at_call 44; (with_reducible refine (K3.out _).mono ?_); clear K3; rintro e w5 ⟨rfl, hb⟩; have HB3 := Aside0.mk hb; clear hb)
 rw [rounds_succ]
 go_wp2_with (fail)
 go_ret
 exact ⟨rfl, HB.out.below.trans ((HB0.out.below.mono HB.out.below.size).trans ((HB1.out.below.mono (Nat.le_trans HB.out.below.size HB0.out.below.size)).trans ((HB2.out.below.mono (Nat.le_trans HB.out.below.size (Nat.le_trans HB0.out.below.size HB1.out.below.size))).trans (HB3.out.below.mono (Nat.le_trans HB.out.below.size (Nat.le_trans HB0.out.below.size (Nat.le_trans HB1.out.below.size HB2.out.below.size)))))))⟩
theorem r2text_5 (w : World) : Calls Tryd.prog 39 #[.int .i64 5] w fun e w' => e = .returned (.string ⟨#[114, 45, 103, 45]⟩) ∧ Below w.heap.size w w' := by
 have HI := Lib.hid (fun W => garrisonref02_Is.calls 5 true W (by decide +kernel))
 have K0 := Lib.hid (fun W => garrisonref02_Has.calls 5 0 true W (by decide +kernel))
 have K1 := Lib.hid (fun W => garrisonref02_Has.calls 5 1 false W (by decide +kernel))
 have K2 := Lib.hid (fun W => garrisonref02_Has.calls 5 2 true W (by decide +kernel))
 have K3 := Lib.hid (fun W => garrisonref02_Has.calls 5 3 false W (by decide +kernel))
 have S0 := gh15_
 have S1 := gh16_
 have S2 := gh17_
 have S3 := gh18_
 have A0 := gh22_
 have A1 := gh23_
 have A2 := gh30_
 have A3 : ((⟨#[114, 45, 103]⟩ : ByteArray) ++ (⟨#[45]⟩ : ByteArray)) = ⟨#[114, 45, 103, 45]⟩ := by decide +kernel
 go_enter Tryd.func39, Tryd.ntmps39
 go_wp2_with (go_at_call 35; (with_reducible refine (HI.out _).mono ?_); clear HI; rintro e w1 ⟨rfl, hb⟩; have HB := Aside0.mk hb; clear hb)
 refine wp_loop_rounds 5 ?_
 rw [rounds_succ]
 go_wp2_with (go_at_call 44; (with_reducible refine (K0.out _).mono ?_); clear K0; rintro e w2 ⟨rfl, hb⟩; have HB0 := Aside0.mk hb; clear hb)
 rw [rounds_succ]
 go_wp2_with (go_at_call 44; (with_reducible refine (K1.out _).mono ?_); clear K1; rintro e w3 ⟨rfl, hb⟩; have HB1 := Aside0.mk hb; clear hb)
 rw [rounds_succ]
 go_wp2_with (go_at_call 44; (with_reducible refine (K2.out _).mono ?_); clear K2; rintro e w4 ⟨rfl, hb⟩; have HB2 := Aside0.mk hb; clear hb)
 rw [rounds_succ]
 go_wp2_with (go_at_call 44; (with_reducible refine (K3.out _).mono ?_); clear K3; rintro e w5 ⟨rfl, hb⟩; have HB3 := Aside0.mk hb; clear hb)
 rw [rounds_succ]
 go_wp2_with (fail)
 go_ret
 exact ⟨rfl, HB.out.below.trans ((HB0.out.below.mono HB.out.below.size).trans ((HB1.out.below.mono (Nat.le_trans HB.out.below.size HB0.out.below.size)).trans ((HB2.out.below.mono (Nat.le_trans HB.out.below.size (Nat.le_trans HB0.out.below.size HB1.out.below.size))).trans (HB3.out.below.mono (Nat.le_trans HB.out.below.size (Nat.le_trans HB0.out.below.size (Nat.le_trans HB1.out.below.size HB2.out.below.size)))))))⟩
theorem r2text_6 (w : World) : Calls Tryd.prog 39 #[.int .i64 6] w fun e w' => e = .returned (.string ⟨#[45, 119, 103, 45]⟩) ∧ Below w.heap.size w w' := by
 have HI := Lib.hid (fun W => garrisonref02_Is.calls 6 true W (by decide +kernel))
 have K0 := Lib.hid (fun W => garrisonref02_Has.calls 6 0 false W (by decide +kernel))
 have K1 := Lib.hid (fun W => garrisonref02_Has.calls 6 1 true W (by decide +kernel))
 have K2 := Lib.hid (fun W => garrisonref02_Has.calls 6 2 true W (by decide +kernel))
 have K3 := Lib.hid (fun W => garrisonref02_Has.calls 6 3 false W (by decide +kernel))
 have S0 := gh15_
 have S1 := gh16_
 have S2 := gh17_
 have S3 := gh18_
 have A0 := gh19_
 have A1 := gh25_
 have A2 := gh31_
 have A3 : ((⟨#[45, 119, 103]⟩ : ByteArray) ++ (⟨#[45]⟩ : ByteArray)) = ⟨#[45, 119, 103, 45]⟩ := by decide +kernel
 go_enter Tryd.func39, Tryd.ntmps39
 go_wp2_with (go_at_call 35; (with_reducible refine (HI.out _).mono ?_); clear HI; rintro e w1 ⟨rfl, hb⟩; have HB := Aside0.mk hb; clear hb)
 refine wp_loop_rounds 5 ?_
 rw [rounds_succ]
 go_wp2_with (go_at_call 44; (with_reducible refine (K0.out _).mono ?_); clear K0; rintro e w2 ⟨rfl, hb⟩; have HB0 := Aside0.mk hb; clear hb)
 rw [rounds_succ]
 go_wp2_with (go_at_call 44; (with_reducible refine (K1.out _).mono ?_); clear K1; rintro e w3 ⟨rfl, hb⟩; have HB1 := Aside0.mk hb; clear hb)
 rw [rounds_succ]
 go_wp2_with (go_at_call 44; (with_reducible refine (K2.out _).mono ?_); clear K2; rintro e w4 ⟨rfl, hb⟩; have HB2 := Aside0.mk hb; clear hb)
 rw [rounds_succ]
 go_wp2_with (go_at_call 44; (with_reducible refine (K3.out _).mono ?_); clear K3; rintro e w5 ⟨rfl, hb⟩; have HB3 := Aside0.mk hb; clear hb)
 rw [rounds_succ]
 go_wp2_with (fail)
 go_ret
 exact ⟨rfl, HB.out.below.trans ((HB0.out.below.mono HB.out.below.size).trans ((HB1.out.below.mono (Nat.le_trans HB.out.below.size HB0.out.below.size)).trans ((HB2.out.below.mono (Nat.le_trans HB.out.below.size (Nat.le_trans HB0.out.below.size HB1.out.below.size))).trans (HB3.out.below.mono (Nat.le_trans HB.out.below.size (Nat.le_trans HB0.out.below.size (Nat.le_trans HB1.out.below.size HB2.out.below.size)))))))⟩
theorem r2text_7 (w : World) : Calls Tryd.prog 39 #[.int .i64 7] w fun e w' => e = .returned (.string ⟨#[114, 119, 103, 45]⟩) ∧ Below w.heap.size w w' := by
 have HI := Lib.hid (fun W => garrisonref02_Is.calls 7 true W (by decide +kernel))
 have K0 := Lib.hid (fun W => garrisonref02_Has.calls 7 0 true W (by decide +kernel))
 have K1 := Lib.hid (fun W => garrisonref02_Has.calls 7 1 true W (by decide +kernel))
 have K2 := Lib.hid (fun W => garrisonref02_Has.calls 7 2 true W (by decide +kernel))
 have K3 := Lib.hid (fun W => garrisonref02_Has.calls 7 3 false W (by decide +kernel))
 have S0 := gh15_
 have S1 := gh16_
 have S2 := gh17_
 have S3 := gh18_
 have A0 := gh22_
 have A1 := gh27_
 have A2 := gh32_
 have A3 : ((⟨#[114, 119, 103]⟩ : ByteArray) ++ (⟨#[45]⟩ : ByteArray)) = ⟨#[114, 119, 103, 45]⟩ := by decide +kernel
 go_enter Tryd.func39, Tryd.ntmps39
 go_wp2_with (go_at_call 35; (with_reducible refine (HI.out _).mono ?_); clear HI; rintro e w1 ⟨rfl, hb⟩; have HB := Aside0.mk hb; clear hb)
 refine wp_loop_rounds 5 ?_
 rw [rounds_succ]
 go_wp2_with (go_at_call 44; (with_reducible refine (K0.out _).mono ?_); clear K0; rintro e w2 ⟨rfl, hb⟩; have HB0 := Aside0.mk hb; clear hb)
 rw [rounds_succ]
 go_wp2_with (go_at_call 44; (with_reducible refine (K1.out _).mono ?_); clear K1; rintro e w3 ⟨rfl, hb⟩; have HB1 := Aside0.mk hb; clear hb)
 rw [rounds_succ]
 go_wp2_with (go_at_call 44; (with_reducible refine (K2.out _).mono ?_); clear K2; rintro e w4 ⟨rfl, hb⟩; have HB2 := Aside0.mk hb; clear hb)
 rw [rounds_succ]
 go_wp2_with (go_at_call 44; (with_reducible refine (K3.out _).mono ?_); clear K3; rintro e w5 ⟨rfl, hb⟩; have HB3 := Aside0.mk hb; clear hb)
 rw [rounds_succ]
 go_wp2_with (fail)
 go_ret
 exact ⟨rfl, HB.out.below.trans ((HB0.out.below.mono HB.out.below.size).trans ((HB1.out.below.mono (Nat.le_trans HB.out.below.size HB0.out.below.size)).trans ((HB2.out.below.mono (Nat.le_trans HB.out.below.size (Nat.le_trans HB0.out.below.size HB1.out.below.size))).trans (HB3.out.below.mono (Nat.le_trans HB.out.below.size (Nat.le_trans HB0.out.below.size (Nat.le_trans HB1.out.below.size HB2.out.below.size)))))))⟩
theorem r2text_8 (w : World) : Calls Tryd.prog 39 #[.int .i64 8] w fun e w' => e = .returned (.string ⟨#[45, 45, 45, 99]⟩) ∧ Below w.heap.size w w' := by
 have HI := Lib.hid (fun W => garrisonref02_Is.calls 8 true W (by decide +kernel))
 have K0 := Lib.hid (fun W => garrisonref02_Has.calls 8 0 false W (by decide +kernel))
 have K1 := Lib.hid (fun W => garrisonref02_Has.calls 8 1 false W (by decide +kernel))
 have K2 := Lib.hid (fun W => garrisonref02_Has.calls 8 2 false W (by decide +kernel))
 have K3 := Lib.hid (fun W => garrisonref02_Has.calls 8 3 true W (by decide +kernel))
 have S0 := gh15_
 have S1 := gh16_
 have S2 := gh17_
 have S3 := gh18_
 have A0 := gh19_
 have A1 := gh20_
 have A2 := gh21_
 have A3 : ((⟨#[45, 45, 45]⟩ : ByteArray) ++ (⟨#[99]⟩ : ByteArray)) = ⟨#[45, 45, 45, 99]⟩ := by decide +kernel
 go_enter Tryd.func39, Tryd.ntmps39
 go_wp2_with (go_at_call 35; (with_reducible refine (HI.out _).mono ?_); clear HI; rintro e w1 ⟨rfl, hb⟩; have HB := Aside0.mk hb; clear hb)
 refine wp_loop_rounds 5 ?_
 rw [rounds_succ]
 go_wp2_with (go_at_call 44; (with_reducible refine (K0.out _).mono ?_); clear K0; rintro e w2 ⟨rfl, hb⟩; have HB0 := Aside0.mk hb; clear hb)
 rw [rounds_succ]
 go_wp2_with (go_at_call 44; (with_reducible refine (K1.out _).mono ?_); clear K1; rintro e w3 ⟨rfl, hb⟩; have HB1 := Aside0.mk hb; clear hb)
 rw [rounds_succ]
 go_wp2_with (go_at_call 44; (with_reducible refine (K2.out _).mono ?_); clear K2; rintro e w4 ⟨rfl, hb⟩; have HB2 := Aside0.mk hb; clear hb)
 rw [rounds_succ]
 go_wp2_with (go_at_call 44; (with_reducible refine (K3.out _).mono ?_); clear K3; rintro e w5 ⟨rfl, hb⟩; have HB3 := Aside0.mk hb; clear hb)
 rw [rounds_succ]
 go_wp2_with (fail)
 go_ret
 exact ⟨rfl, HB.out.below.trans ((HB0.out.below.mono HB.out.below.size).trans ((HB1.out.below.mono (Nat.le_trans HB.out.below.size HB0.out.below.size)).trans ((HB2.out.below.mono (Nat.le_trans HB.out.below.size (Nat.le_trans HB0.out.below.size HB1.out.below.size))).trans (HB3.out.below.mono (Nat.le_trans HB.out.below.size (Nat.le_trans HB0.out.below.size (Nat.le_trans HB1.out.below.size HB2.out.below.size)))))))⟩
theorem r2text_9 (w : World) : Calls Tryd.prog 39 #[.int .i64 9] w fun e w' => e = .returned (.string ⟨#[114, 45, 45, 99]⟩) ∧ Below w.heap.size w w' := by
 have HI := Lib.hid (fun W => garrisonref02_Is.calls 9 true W (by decide +kernel))
 have K0 := Lib.hid (fun W => garrisonref02_Has.calls 9 0 true W (by decide +kernel))
 have K1 := Lib.hid (fun W => garrisonref02_Has.calls 9 1 false W (by decide +kernel))
 have K2 := Lib.hid (fun W => garrisonref02_Has.calls 9 2 false W (by decide +kernel))
 have K3 := Lib.hid (fun W => garrisonref02_Has.calls 9 3 true W (by decide +kernel))
 have S0 := gh15_
 have S1 := gh16_
 have S2 := gh17_
 have S3 := gh18_
 have A0 := gh22_
 have A1 := gh23_
 have A2 := gh24_
 have A3 : ((⟨#[114, 45, 45]⟩ : ByteArray) ++ (⟨#[99]⟩ : ByteArray)) = ⟨#[114, 45, 45, 99]⟩ := by decide +kernel
 go_enter Tryd.func39, Tryd.ntmps39
 go_wp2_with (go_at_call 35; (with_reducible refine (HI.out _).mono ?_); clear HI; rintro e w1 ⟨rfl, hb⟩; have HB := Aside0.mk hb; clear hb)
 refine wp_loop_rounds 5 ?_
 rw [rounds_succ]
 go_wp2_with (go_at_call 44; (with_reducible refine (K0.out _).mono ?_); clear K0; rintro e w2 ⟨rfl, hb⟩; have HB0 := Aside0.mk hb; clear hb)
 rw [rounds_succ]
 go_wp2_with (go_at_call 44; (with_reducible refine (K1.out _).mono ?_); clear K1; rintro e w3 ⟨rfl, hb⟩; have HB1 := Aside0.mk hb; clear hb)
 rw [rounds_succ]
 go_wp2_with (go_at_call 44; (with_reducible refine (K2.out _).mono ?_); clear K2; rintro e w4 ⟨rfl, hb⟩; have HB2 := Aside0.mk hb; clear hb)
 rw [rounds_succ]
 go_wp2_with (go_at_call 44; (with_reducible refine (K3.out _).mono ?_); clear K3; rintro e w5 ⟨rfl, hb⟩; have HB3 := Aside0.mk hb; clear hb)
 rw [rounds_succ]
 go_wp2_with (fail)
 go_ret
 exact ⟨rfl, HB.out.below.trans ((HB0.out.below.mono HB.out.below.size).trans ((HB1.out.below.mono (Nat.le_trans HB.out.below.size HB0.out.below.size)).trans ((HB2.out.below.mono (Nat.le_trans HB.out.below.size (Nat.le_trans HB0.out.below.size HB1.out.below.size))).trans (HB3.out.below.mono (Nat.le_trans HB.out.below.size (Nat.le_trans HB0.out.below.size (Nat.le_trans HB1.out.below.size HB2.out.below.size)))))))⟩
theorem r2text_10 (w : World) : Calls Tryd.prog 39 #[.int .i64 10] w fun e w' => e = .returned (.string ⟨#[45, 119, 45, 99]⟩) ∧ Below w.heap.size w w' := by
 have HI := Lib.hid (fun W => garrisonref02_Is.calls 10 true W (by decide +kernel))
 have K0 := Lib.hid (fun W => garrisonref02_Has.calls 10 0 false W (by decide +kernel))
 have K1 := Lib.hid (fun W => garrisonref02_Has.calls 10 1 true W (by decide +kernel))
 have K2 := Lib.hid (fun W => garrisonref02_Has.calls 10 2 false W (by decide +kernel))
 have K3 := Lib.hid (fun W => garrisonref02_Has.calls 10 3 true W (by decide +kernel))
 have S0 := gh15_
 have S1 := gh16_
 have S2 := gh17_
 have S3 := gh18_
 have A0 := gh19_
 have A1 := gh25_
 have A2 := gh26_
 have A3 : ((⟨#[45, 119, 45]⟩ : ByteArray) ++ (⟨#[99]⟩ : ByteArray)) = ⟨#[45, 119, 45, 99]⟩ := by decide +kernel
 go_enter Tryd.func39, Tryd.ntmps39
 go_wp2_with (go_at_call 35; (with_reducible refine (HI.out _).mono ?_); clear HI; rintro e w1 ⟨rfl, hb⟩; have HB := Aside0.mk hb; clear hb)
 refine wp_loop_rounds 5 ?_
 rw [rounds_succ]
 go_wp2_with (go_at_call 44; (with_reducible refine (K0.out _).mono ?_); clear K0; rintro e w2 ⟨rfl, hb⟩; have HB0 := Aside0.mk hb; clear hb)
 rw [rounds_succ]
 go_wp2_with (go_at_call 44; (with_reducible refine (K1.out _).mono ?_); clear K1; rintro e w3 ⟨rfl, hb⟩; have HB1 := Aside0.mk hb; clear hb)
 rw [rounds_succ]
 go_wp2_with (go_at_call 44; (with_reducible refine (K2.out _).mono ?_); clear K2; rintro e w4 ⟨rfl, hb⟩; have HB2 := Aside0.mk hb; clear hb)
 rw [rounds_succ]
 go_wp2_with (go_at_call 44; (with_reducible refine (K3.out _).mono ?_); clear K3; rintro e w5 ⟨rfl, hb⟩; have HB3 := Aside0.mk hb; clear hb)
 rw [rounds_succ]
 go_wp2_with (fail)
 go_ret
 exact ⟨rfl, HB.out.below.trans ((HB0.out.below.mono HB.out.below.size).trans ((HB1.out.below.mono (Nat.le_trans HB.out.below.size HB0.out.below.size)).trans ((HB2.out.below.mono (Nat.le_trans HB.out.below.size (Nat.le_trans HB0.out.below.size HB1.out.below.size))).trans (HB3.out.below.mono (Nat.le_trans HB.out.below.size (Nat.le_trans HB0.out.below.size (Nat.le_trans HB1.out.below.size HB2.out.below.size)))))))⟩
theorem r2text_11 (w : World) : Calls Tryd.prog 39 #[.int .i64 11] w fun e w' => e = .returned (.string ⟨#[114, 119, 45, 99]⟩) ∧ Below w.heap.size w w' := by
 have HI := Lib.hid (fun W => garrisonref02_Is.calls 11 true W (by decide +kernel))
 have K0 := Lib.hid (fun W => garrisonref02_Has.calls 11 0 true W (by decide +kernel))
 have K1 := Lib.hid (fun W => garrisonref02_Has.calls 11 1 true W (by decide +kernel))
 have K2 := Lib.hid (fun W => garrisonref02_Has.calls 11 2 false W (by decide +kernel))
 have K3 := Lib.hid (fun W => garrisonref02_Has.calls 11 3 true W (by decide +kernel))
 have S0 := gh15_
 have S1 := gh16_
 have S2 := gh17_
 have S3 := gh18_
 have A0 := gh22_
 have A1 := gh27_
 have A2 := gh28_
 have A3 : ((⟨#[114, 119, 45]⟩ : ByteArray) ++ (⟨#[99]⟩ : ByteArray)) = ⟨#[114, 119, 45, 99]⟩ := by decide +kernel
 go_enter Tryd.func39, Tryd.ntmps39
 go_wp2_with (go_at_call 35; (with_reducible refine (HI.out _).mono ?_); clear HI; rintro e w1 ⟨rfl, hb⟩; have HB := Aside0.mk hb; clear hb)
 refine wp_loop_rounds 5 ?_
 rw [rounds_succ]
 go_wp2_with (go_at_call 44; (with_reducible refine (K0.out _).mono ?_); clear K0; rintro e w2 ⟨rfl, hb⟩; have HB0 := Aside0.mk hb; clear hb)
 rw [rounds_succ]
 go_wp2_with (go_at_call 44; (with_reducible refine (K1.out _).mono ?_); clear K1; rintro e w3 ⟨rfl, hb⟩; have HB1 := Aside0.mk hb; clear hb)
 rw [rounds_succ]
 go_wp2_with (go_at_call 44; (with_reducible refine (K2.out _).mono ?_); clear K2; rintro e w4 ⟨rfl, hb⟩; have HB2 := Aside0.mk hb; clear hb)
 rw [rounds_succ]
 go_wp2_with (go_at_call 44; (with_reducible refine (K3.out _).mono ?_); clear K3; rintro e w5 ⟨rfl, hb⟩; have HB3 := Aside0.mk hb; clear hb)
 rw [rounds_succ]
 go_wp2_with (fail)
 go_ret
 exact ⟨rfl, HB.out.below.trans ((HB0.out.below.mono HB.out.below.size).trans ((HB1.out.below.mono (Nat.le_trans HB.out.below.size HB0.out.below.size)).trans ((HB2.out.below.mono (Nat.le_trans HB.out.below.size (Nat.le_trans HB0.out.below.size HB1.out.below.size))).trans (HB3.out.below.mono (Nat.le_trans HB.out.below.size (Nat.le_trans HB0.out.below.size (Nat.le_trans HB1.out.below.size HB2.out.below.size)))))))⟩
theorem r2text_12 (w : World) : Calls Tryd.prog 39 #[.int .i64 12] w fun e w' => e = .returned (.string ⟨#[45, 45, 103, 99]⟩) ∧ Below w.heap.size w w' := by
 have HI := Lib.hid (fun W => garrisonref02_Is.calls 12 true W (by decide +kernel))
 have K0 := Lib.hid (fun W => garrisonref02_Has.calls 12 0 false W (by decide +kernel))
 have K1 := Lib.hid (fun W => garrisonref02_Has.calls 12 1 false W (by decide +kernel))
 have K2 := Lib.hid (fun W => garrisonref02_Has.calls 12 2 true W (by decide +kernel))
 have K3 := Lib.hid (fun W => garrisonref02_Has.calls 12 3 true W (by decide +kernel))
 have S0 := gh15_
 have S1 := gh16_
 have S2 := gh17_
 have S3 := gh18_
 have A0 := gh19_
 have A1 := gh20_
 have A2 := gh29_
 have A3 : ((⟨#[45, 45, 103]⟩ : ByteArray) ++ (⟨#[99]⟩ : ByteArray)) = ⟨#[45, 45, 103, 99]⟩ := by decide +kernel
 go_enter Tryd.func39, Tryd.ntmps39
 go_wp2_with (go_at_call 35; (with_reducible refine (HI.out _).mono ?_); clear HI; rintro e w1 ⟨rfl, hb⟩; have HB := Aside0.mk hb; clear hb)
 refine wp_loop_rounds 5 ?_
 rw [rounds_succ]
 go_wp2_with (go_at_call 44; (with_reducible refine (K0.out _).mono ?_); clear K0; rintro e w2 ⟨rfl, hb⟩; have HB0 := Aside0.mk hb; clear hb)
 rw [rounds_succ]
 go_wp2_with (go_at_call 44; (with_reducible refine (K1.out _).mono ?_); clear K1; rintro e w3 ⟨rfl, hb⟩; have HB1 := Aside0.mk hb; clear hb)
 rw [rounds_succ]
 go_wp2_with (go_at_call 44; (with_reducible refine (K2.out _).mono ?_); clear K2; rintro e w4 ⟨rfl, hb⟩; have HB2 := Aside0.mk hb; clear hb)
 rw [rounds_succ]
 go_wp2_with (go_at_call 44; (with_reducible refine (K3.out _).mono ?_); clear K3; rintro e w5 ⟨rfl, hb⟩; have HB3 := Aside0.mk hb; clear hb)
 rw [rounds_succ]
 go_wp2_with (fail)
 go_ret
 exact ⟨rfl, HB.out.below.trans ((HB0.out.below.mono HB.out.below.size).trans ((HB1.out.below.mono (Nat.le_trans HB.out.below.size HB0.out.below.size)).trans ((HB2.out.below.mono (Nat.le_trans HB.out.below.size (Nat.le_trans HB0.out.below.size HB1.out.below.size))).trans (HB3.out.below.mono (Nat.le_trans HB.out.below.size (Nat.le_trans HB0.out.below.size (Nat.le_trans HB1.out.below.size HB2.out.below.size)))))))⟩
theorem r2text_13 (w : World) : Calls Tryd.prog 39 #[.int .i64 13] w fun e w' => e = .returned (.string ⟨#[114, 45, 103, 99]⟩) ∧ Below w.heap.size w w' := by
 have HI := Lib.hid (fun W => garrisonref02_Is.calls 13 true W (by decide +kernel))
 have K0 := Lib.hid (fun W => garrisonref02_Has.calls 13 0 true W (by decide +kernel))
 have K1 := Lib.hid (fun W => garrisonref02_Has.calls 13 1 false W (by decide +kernel))
 have K2 := Lib.hid (fun W => garrisonref02_Has.calls 13 2 true W (by decide +kernel))
 have K3 := Lib.hid (fun W => garrisonref02_Has.calls 13 3 true W (by decide +kernel))
 have S0 := gh15_
 have S1 := gh16_
 have S2 := gh17_
 have S3 := gh18_
 have A0 := gh22_
 have A1 := gh23_
 have A2 := gh30_
 have A3 : ((⟨#[114, 45, 103]⟩ : ByteArray) ++ (⟨#[99]⟩ : ByteArray)) = ⟨#[114, 45, 103, 99]⟩ := by decide +kernel
 go_enter Tryd.func39, Tryd.ntmps39
 go_wp2_with (go_at_call 35; (with_reducible refine (HI.out _).mono ?_); clear HI; rintro e w1 ⟨rfl, hb⟩; have HB := Aside0.mk hb; clear hb)
 refine wp_loop_rounds 5 ?_
 rw [rounds_succ]
 go_wp2_with (go_at_call 44; (with_reducible refine (K0.out _).mono ?_); clear K0; rintro e w2 ⟨rfl, hb⟩; have HB0 := Aside0.mk hb; clear hb)
 rw [rounds_succ]
 go_wp2_with (go_at_call 44; (with_reducible refine (K1.out _).mono ?_); clear K1; rintro e w3 ⟨rfl, hb⟩; have HB1 := Aside0.mk hb; clear hb)
 rw [rounds_succ]
 go_wp2_with (go_at_call 44; (with_reducible refine (K2.out _).mono ?_); clear K2; rintro e w4 ⟨rfl, hb⟩; have HB2 := Aside0.mk hb; clear hb)
 rw [rounds_succ]
 go_wp2_with (go_at_call 44; (with_reducible refine (K3.out _).mono ?_); clear K3; rintro e w5 ⟨rfl, hb⟩; have HB3 := Aside0.mk hb; clear hb)
 rw [rounds_succ]
 go_wp2_with (fail)
 go_ret
 exact ⟨rfl, HB.out.below.trans ((HB0.out.below.mono HB.out.below.size).trans ((HB1.out.below.mono (Nat.le_trans HB.out.below.size HB0.out.below.size)).trans ((HB2.out.below.mono (Nat.le_trans HB.out.below.size (Nat.le_trans HB0.out.below.size HB1.out.below.size))).trans (HB3.out.below.mono (Nat.le_trans HB.out.below.size (Nat.le_trans HB0.out.below.size (Nat.le_trans HB1.out.below.size HB2.out.below.size)))))))⟩
theorem r2text_14 (w : World) : Calls Tryd.prog 39 #[.int .i64 14] w fun e w' => e = .returned (.string ⟨#[45, 119, 103, 99]⟩) ∧ Below w.heap.size w w' := by
 have HI := Lib.hid (fun W => garrisonref02_Is.calls 14 true W (by decide +kernel))
 have K0 := Lib.hid (fun W => garrisonref02_Has.calls 14 0 false W (by decide +kernel))
 have K1 := Lib.hid (fun W => garrisonref02_Has.calls 14 1 true W (by decide +kernel))
 have K2 := Lib.hid (fun W => garrisonref02_Has.calls 14 2 true W (by decide +kernel))
 have K3 := Lib.hid (fun W => garrisonref02_Has.calls 14 3 true W (by decide +kernel))
 have S0 := gh15_
 have S1 := gh16_
 have S2 := gh17_
 have S3 := gh18_
 have A0 := gh19_
 have A1 := gh25_
 have A2 := gh31_
 have A3 : ((⟨#[45, 119, 103]⟩ : ByteArray) ++ (⟨#[99]⟩ : ByteArray)) = ⟨#[45, 119, 103, 99]⟩ := by decide +kernel
 go_enter Tryd.func39, Tryd.ntmps39
 go_wp2_with (go_at_call 35; (with_reducible refine (HI.out _).mono ?_); clear HI; rintro e w1 ⟨rfl, hb⟩; have HB := Aside0.mk hb; clear hb)
 refine wp_loop_rounds 5 ?_
 rw [rounds_succ]
 go_wp2_with (go_at_call 44; (with_reducible refine (K0.out _).mono ?_); clear K0; rintro e w2 ⟨rfl, hb⟩; have HB0 := Aside0.mk hb; clear hb)
 rw [rounds_succ]
 go_wp2_with (go_at_call 44; (with_reducible refine (K1.out _).mono ?_); clear K1; rintro e w3 ⟨rfl, hb⟩; have HB1 := Aside0.mk hb; clear hb)
 rw [rounds_succ]
 go_wp2_with (go_at_call 44; (with_reducible refine (K2.out _).mono ?_); clear K2; rintro e w4 ⟨rfl, hb⟩; have HB2 := Aside0.mk hb; clear hb)
 rw [rounds_succ]
 go_wp2_with (go_at_call 44; (with_reducible refine (K3.out _).mono ?_); clear K3; rintro e w5 ⟨rfl, hb⟩; have HB3 := Aside0.mk hb; clear hb)
 rw [rounds_succ]
 go_wp2_with (fail)
 go_ret
 exact ⟨rfl, HB.out.below.trans ((HB0.out.below.mono HB.out.below.size).trans ((HB1.out.below.mono (Nat.le_trans HB.out.below.size HB0.out.below.size)).trans ((HB2.out.below.mono (Nat.le_trans HB.out.below.size (Nat.le_trans HB0.out.below.size HB1.out.below.size))).trans (HB3.out.below.mono (Nat.le_trans HB.out.below.size (Nat.le_trans HB0.out.below.size (Nat.le_trans HB1.out.below.size HB2.out.below.size)))))))⟩
theorem r2text_15 (w : World) : Calls Tryd.prog 39 #[.int .i64 15] w fun e w' => e = .returned (.string ⟨#[114, 119, 103, 99]⟩) ∧ Below w.heap.size w w' := by
 have HI := Lib.hid (fun W => garrisonref02_Is.calls 15 true W (by decide +kernel))
 have K0 := Lib.hid (fun W => garrisonref02_Has.calls 15 0 true W (by decide +kernel))
 have K1 := Lib.hid (fun W => garrisonref02_Has.calls 15 1 true W (by decide +kernel))
 have K2 := Lib.hid (fun W => garrisonref02_Has.calls 15 2 true W (by decide +kernel))
 have K3 := Lib.hid (fun W => garrisonref02_Has.calls 15 3 true W (by decide +kernel))
 have S0 := gh15_
 have S1 := gh16_
 have S2 := gh17_
 have S3 := gh18_
 have A0 := gh22_
 have A1 := gh27_
 have A2 := gh32_
 have A3 : ((⟨#[114, 119, 103]⟩ : ByteArray) ++ (⟨#[99]⟩ : ByteArray)) = ⟨#[114, 119, 103, 99]⟩ := by decide +kernel
 go_enter Tryd.func39, Tryd.ntmps39
 go_wp2_with (go_at_call 35; (with_reducible refine (HI.out _).mono ?_); clear HI; rintro e w1 ⟨rfl, hb⟩; have HB := Aside0.mk hb; clear hb)
 refine wp_loop_rounds 5 ?_
 rw [rounds_succ]
 go_wp2_with (go_at_call 44; (with_reducible refine (K0.out _).mono ?_); clear K0; rintro e w2 ⟨rfl, hb⟩; have HB0 := Aside0.mk hb; clear hb)
 rw [rounds_succ]
 go_wp2_with (go_at_call 44; (with_reducible refine (K1.out _).mono ?_); clear K1; rintro e w3 ⟨rfl, hb⟩; have HB1 := Aside0.mk hb; clear hb)
 rw [rounds_succ]
 go_wp2_with (go_at_call 44; (with_reducible refine (K2.out _).mono ?_); clear K2; rintro e w4 ⟨rfl, hb⟩; have HB2 := Aside0.mk hb; clear hb)
 rw [rounds_succ]
 go_wp2_with (go_at_call 44; (with_reducible refine (K3.out _).mono ?_); clear K3; rintro e w5 ⟨rfl, hb⟩; have HB3 := Aside0.mk hb; clear hb)
 rw [rounds_succ]
 go_wp2_with (fail)
 go_ret
 exact ⟨rfl, HB.out.below.trans ((HB0.out.below.mono HB.out.below.size).trans ((HB1.out.below.mono (Nat.le_trans HB.out.below.size HB0.out.below.size)).trans ((HB2.out.below.mono (Nat.le_trans HB.out.below.size (Nat.le_trans HB0.out.below.size HB1.out.below.size))).trans (HB3.out.below.mono (Nat.le_trans HB.out.below.size (Nat.le_trans HB0.out.below.size (Nat.le_trans HB1.out.below.size HB2.out.below.size)))))))⟩

theorem rightsS_eq (r : Int) (h : rightsB r = true) : r = 0 ∨ r = 1 ∨ r = 2 ∨ r = 3 ∨ r = 4 ∨ r = 5 ∨ r = 6 ∨ r = 7 ∨ r = 8 ∨ r = 9 ∨ r = 10 ∨ r = 11 ∨ r = 12 ∨ r = 13 ∨ r = 14 ∨ r = 15 := by
 have := of_decide_eq_true h
 omega
theorem rtext_no (r : Int) (w : World) (h0 : -9223372036854775808 ≤ r) (h1 : r ≤ 9223372036854775807) (h : rightsB r = false) : Calls Tryd.prog 37 #[.int .i64 r] w fun e w' => e = .returned (.string ⟨#[]⟩) ∧ Below w.heap.size w w' := by
 have HI := Lib.hid (fun W => rights_Is.calls r false W (by rw [rightsIs_eq h0 h1, h]))
 clear h h0 h1
 go_enter Tryd.func37, Tryd.ntmps37
 go_wp2_with (go_at_call 51; (with_reducible refine (HI.out _).mono ?_); clear HI; rintro e w1 ⟨rfl, hb⟩; have HB := Aside0.mk hb; clear hb)
 go_ret
 exact ⟨rfl, HB.out.below⟩
theorem r2text_no (r : Int) (w : World) (h : rightsB r = false) : Calls Tryd.prog 39 #[.int .i64 r] w fun e w' => e = .returned (.string ⟨#[]⟩) ∧ Below w.heap.size w w' := by
 have HI := Lib.hid (fun W => garrisonref02_Is.calls r false W (by rw [refRights_eq, h]))
 clear h
 go_enter Tryd.func39, Tryd.ntmps39
 go_wp2_with (go_at_call 35; (with_reducible refine (HI.out _).mono ?_); clear HI; rintro e w1 ⟨rfl, hb⟩; have HB := Aside0.mk hb; clear hb)
 go_ret
 exact ⟨rfl, HB.out.below⟩
/-- What the calls answer. -/
def rights_Text.f (r : Int) : Option ByteArray := if -9223372036854775808 ≤ r ∧ r ≤ 9223372036854775807 then some (rightsS r) else none
def garrisonref02_Text.f (r : Int) : Option ByteArray := some (rightsS r)
theorem rights_Text.calls (a : Int) (r : ByteArray) (w : World) (h : rights_Text.f a = some r) : Calls Tryd.prog 37 #[.int .i64 a] w fun e w' => e = .returned (.string r) ∧ Below w.heap.size w w' := by
 unfold rights_Text.f at h
 by_cases hr : -9223372036854775808 ≤ a ∧ a ≤ 9223372036854775807
 ·rw [if_pos hr] at h
  obtain rfl := Option.some.inj h
  by_cases hb : rightsB a = true
  ·obtain rfl | rfl | rfl | rfl | rfl | rfl | rfl | rfl | rfl | rfl | rfl | rfl | rfl | rfl | rfl | rfl := rightsS_eq a hb
   ·exact rtext_0 w
   ·exact rtext_1 w
   ·exact rtext_2 w
   ·exact rtext_3 w
   ·exact rtext_4 w
   ·exact rtext_5 w
   ·exact rtext_6 w
   ·exact rtext_7 w
   ·exact rtext_8 w
   ·exact rtext_9 w
   ·exact rtext_10 w
   ·exact rtext_11 w
   ·exact rtext_12 w
   ·exact rtext_13 w
   ·exact rtext_14 w
   ·exact rtext_15 w
  ·rw [Bool.not_eq_true] at hb
   unfold rightsS
   rw [hb]
   exact rtext_no a w hr.1 hr.2 hb
 ·rw [if_neg hr] at h
  cases h
theorem garrisonref02_Text.calls (a : Int) (r : ByteArray) (w : World) (h : garrisonref02_Text.f a = some r) : Calls Tryd.prog 39 #[.int .i64 a] w fun e w' => e = .returned (.string r) ∧ Below w.heap.size w w' := by
 obtain rfl := Option.some.inj h
 by_cases hb : rightsB a = true
 ·obtain rfl | rfl | rfl | rfl | rfl | rfl | rfl | rfl | rfl | rfl | rfl | rfl | rfl | rfl | rfl | rfl := rightsS_eq a hb
  ·exact r2text_0 w
  ·exact r2text_1 w
  ·exact r2text_2 w
  ·exact r2text_3 w
  ·exact r2text_4 w
  ·exact r2text_5 w
  ·exact r2text_6 w
  ·exact r2text_7 w
  ·exact r2text_8 w
  ·exact r2text_9 w
  ·exact r2text_10 w
  ·exact r2text_11 w
  ·exact r2text_12 w
  ·exact r2text_13 w
  ·exact r2text_14 w
  ·exact r2text_15 w
 ·rw [Bool.not_eq_true] at hb
  unfold rightsS
  rw [hb]
  exact r2text_no a w hb
end Go.Proofs.YtmcgdopgpjjkbaaDoor.Given
