/- script.Fill at this program: what the call answers (slices.Concat and Grow are behind). -/
import Derived.Shelf.Spec.SlicesGrow
import Derived.Lib.LazyBuf
import Derived.Test.YthifdmelanbgmaaDoorShelf
import Derived.LoopN
import Derived.Lib.Hide
import Derived.Outline
import Derived.Test.YthifdmelanbgmaaDoorPx9
namespace Go.Proofs.YthifdmelanbgmaaDoor.Given
open Go Go.RowKit Go.Proofs Go.Proofs.YthifdmelanbgmaaDoorW.PrintWords Go.Proofs.YthifdmelanbgmaaDoorW.PrintLast Go.Proofs.YthifdmelanbgmaaDoorW.PrintMore Go.Proofs.YthifdmelanbgmaaDoor.P Go.Lib Go.Sort
set_option linter.unusedVariables false
set_option linter.unusedSimpArgs false

def RowPost (base : Nat) (w0 : World) (r : List Int) (e : Ending) (w' : World) : Prop := ∃ v0_ : Value, e = .returned v0_ ∧ Kd.R (Kd.int .i64) 3 w' base (fun _ => True) v0_ r ∧ Below base w0 w'
theorem grow_calls (n : Nat) (hn : n ≤ 200000) (w : World) : Calls Tryd.prog 45 #[.slice none 0 0, .int .i64 (n : Int)] w (RowPost w.heap.size w []) := by
  by_cases h0 : n = 0
  · subst h0
    have h := Any8.slices_Grow_room Tryd.growI none 0 0 0 w (Nat.le_refl _) (by omega) (by omega) (by omega)
    refine Calls.mono h ?_
    rintro e w' ⟨rfl, rfl⟩
    exact ⟨_, rfl, Kd.R_nil _ _ _ _ _, Below.refl _ _⟩
  · obtain ⟨i0, hi, hz⟩ := Option.map_eq_some_iff.1 info3
    simp only [Prod.mk.injEq] at hz
    obtain ⟨hz0, hz1, hz2⟩ := hz
    have h := Any8.slices_Grow_grow Tryd.growI i0 (.int .i64 0) hi hz0 (by rw [hz1]; decide) none 0 0 n [] w (Nat.le_refl _) (by omega) (by rw [hz2]; omega) (by omega) (by simp) (fun _ => rfl) (fun a h => by cases h)
    refine Calls.mono h ?_
    rintro e w' ⟨rfl, rfl⟩
    have hge := grownCap_ge w (0 + n) 0 3
    have hle := grownCap_le_maxLen w (0 + n) 0 3 (by unfold maxLen; omega)
    refine ⟨_, rfl, ⟨fun _ _ => trivial, [], World.ownsRow_made w.drew _ _ (Nat.le_refl _) hle ?_, Reps.none _ _⟩, below_alloc (below_drew (Below.refl _ _)) _⟩
    have hz : ∀ m, (Builtin.zeroCells (Value.int .i64 0).cells m).size = m * 1 := fun m => by
      unfold Builtin.zeroCells
      rw [Array.size_map, Array.size_range]
      rfl
    rw [Array.size_append, Array.size_append, hz, hz]
    simp only [List.size_toArray, List.length_nil]
    have h2 : n ≤ grownCap w (0 + n) 0 3 := by omega
    show 0 + (0 + n - 0) * 1 + (grownCap w (0 + n) 0 3 - (0 + n)) * 1 = grownCap w (0 + n) 0 3 * 1
    omega

set_option maxHeartbeats 2000000 in
set_option maxRecDepth 100000 in
theorem concat_calls (g : Nat) (A0 A1 : Option Addr) (c0 c1 : Nat) (l0 l1 : List Int) (w : World) (hg : w.heap[g]? = some (.cells #[.slice A0 l0.length c0, .slice A1 l1.length c1] 22 (0, 0)))
    (h0 : Kd.C (Kd.int .i64) w A0 l0.length l0) (h1 : Kd.C (Kd.int .i64) w A1 l1.length l1) (n0 : l0.length ≤ 100000) (n1 : l1.length ≤ 100000) :
    Calls Tryd.prog 36 #[.slice (some ⟨g, 0, none⟩) 2 2] w (RowPost w.heap.size w (l0 ++ l1)) := by
  have HC0 := Aside0.mk h0
  have HC1 := Aside0.mk h1
  have HG := Aside0.mk hg
  have HL0 := Aside0.mk n0
  have HL1 := Aside0.mk n1
  have hgr := grow_calls (l0.length + l1.length) (by omega) w
  rw [Int.natCast_add] at hgr
  have Hgr := Aside0.mk hgr
  have m0 := blk_cell hg 0
  have m1 := blk_cell hg 1
  simp only [List.getElem?_toArray, List.getElem?_cons_zero, List.getElem?_cons_succ] at m0 m1
  obtain ⟨n, hn0, hn⟩ : ∃ n : Int, n = 100000 ∧ True := ⟨_, rfl, trivial⟩
  have b0 : (l0.length : Int) ≤ 10000000 := by omega
  have b1 : (l1.length : Int) ≤ 10000000 := by omega
  have b2 : ¬ ((l0.length : Int) < 0) := by omega
  have b3 : ¬ ((l0.length : Int) + (l1.length : Int) < 0) := by omega
  clear h0 h1 hg n0 n1 hgr hn hn0
  go_enter Tryd.func36, Tryd.ntmps36
  go_wp2
  refine wp_loop_rounds 3 ?_
  rw [rounds_succ]
  go_wp2_with (fail)
  rw [rounds_succ]
  go_wp2_with (fail)
  rw [rounds_succ]
  go_wp2_with (go_at_call 45; (with_reducible refine Hgr.out.mono ?_); clear Hgr; rintro e w1 ⟨v1, rfl, ho, hb⟩; have HO := Aside0.mk ho; have HB := Aside0.mk hb; clear ho hb)
  have m0_ := Aside0.mk m0
  have m1_ := Aside0.mk m1
  replace m0 := (HB.out.cell (World.block_lt_of_cell? w _ m0_.out)).trans m0_.out
  replace m1 := (HB.out.cell (World.block_lt_of_cell? w _ m1_.out)).trans m1_.out
  refine wp_loop_rounds 3 ?_
  rw [rounds_succ]
  go_wp2_with ((with_reducible refine gate_builtin (b := .append) (xs := #[.tmp 31, .tmp 32]) rfl ?_); at_builtin; refine Kd.R_append_rows (Kd.int .i64) (w0 := w) w.heap.size rfl (.tmp 31) (.tmp 32) 22 3 (.int .i64 0) 8 rfl Tryd.underlying22 info3 rfl (by decide) (by omega) v1 [] l0 _ _ _ (fun _ => True) (fun _ => False) rfl rfl ?aO ?aR (fun _ _ h => h) (fun _ h => h.elim) ?aF ?aB ?aS ?aL ?_; (case aR => exact Kd.C_below HC0.out HB.out); (case aB => exact HB.out); (case aF => exact fun _ _ => trivial); (case aO => exact HO.out); (case aS => exact HB.out.size); (case aL => have := HL0.out; have := HL1.out; simp only [List.length_nil, List.nil_append]; omega); intro v2 w2 ho2 hb2 hg2 hat2; have HO_ := Aside0.mk ho2; have HB_ := Aside0.mk hb2; clear ho2 hb2 hg2 hat2 HO HB; have HO := HO_; have HB := HB_; clear HO_ HB_; replace m1 := (HB.out.cell (World.block_lt_of_cell? w _ m1_.out)).trans m1_.out)
  rw [rounds_succ]
  go_wp2_with ((with_reducible refine gate_builtin (b := .append) (xs := #[.tmp 31, .tmp 32]) rfl ?_); at_builtin; refine Kd.R_append_rows (Kd.int .i64) (w0 := w) w.heap.size rfl (.tmp 31) (.tmp 32) 22 3 (.int .i64 0) 8 rfl Tryd.underlying22 info3 rfl (by decide) (by omega) v2 ([] ++ l0) l1 _ _ _ (fun _ => True) (fun _ => False) rfl rfl ?aO ?aR (fun _ _ h => h) (fun _ h => h.elim) ?aF ?aB ?aS ?aL ?_; (case aR => exact Kd.C_below HC1.out HB.out); (case aB => exact HB.out); (case aF => exact fun _ _ => trivial); (case aO => exact HO.out); (case aS => exact HB.out.size); (case aL => have := HL0.out; have := HL1.out; simp only [List.length_nil, List.nil_append]; omega); intro v3 w3 ho2 hb2 hg2 hat2; have HO_ := Aside0.mk ho2; have HB_ := Aside0.mk hb2; clear ho2 hb2 hg2 hat2 HO HB; have HO := HO_; have HB := HB_; clear HO_ HB_)
  rw [rounds_succ]
  go_wp2_with (fail)
  go_ret
  exact ⟨_, rfl, HO.out, HB.out⟩

/-- What the call answers. -/
def script_Fill.f (k : Nat) (l : List Int) (n m : Int) : Option (List Int) := (script_Rounds.f k n m).bind fun t => if l.length ≤ 100000 ∧ t.length ≤ 100000 then some (l ++ t) else none
theorem script_Fill.mono : ∀ l n m k, LeO (script_Fill.f k l n m) (script_Fill.f (k + 1) l n m) := by
  intro l n m k
  exact LeO.bind (script_Rounds.mono _ _ _) (fun _ => LeO.refl _)
set_option maxHeartbeats 1000000 in
set_option maxRecDepth 100000 in
theorem script_Fill.calls (k : Nat) (A0 : Option Addr) (c0 : Nat) (l0 : List Int) (a1 : Int) (a2 : Int) (r : List Int) (w : World) (hr0 : Kd.C (Kd.int .i64) w A0 l0.length l0) (hc0 : l0.length ≤ c0) (h : script_Fill.f k l0 a1 a2 = some r) :
    Calls Tryd.prog 27 #[.slice A0 l0.length c0, .int .i64 a1, .int .i64 a2] w fun e w' => ∃ v0_ : Value, e = .returned (v0_) ∧ Kd.R (Kd.int .i64) 3 w' w.heap.size (fun _ => True) v0_ r ∧ Below w.heap.size w w' := by
  unfold script_Fill.f at h
  obtain ⟨t, ht, h⟩ := Option.bind_eq_some_iff.mp h
  by_cases hl : l0.length ≤ 100000 ∧ t.length ≤ 100000
  · rw [if_pos hl] at h
    obtain rfl := Option.some.inj h
    have HR0 := Aside0.mk hr0
    have HL := Aside0.mk hl
    have Hc := Aside0.mk (script_Rounds.calls k a1 a2 t w ht)
    clear hr0 hl h ht
    go_enter Tryd.func27, Tryd.ntmps27
    go_wp2_with (first | (go_at_call 25; (with_reducible refine Hc.out.mono ?_); rintro e w1 ⟨v1, rfl, ho, hb⟩; obtain ⟨A1, c1, rfl⟩ := Kd.R_slice ho; have HO := Aside0.mk ho; have HB := Aside0.mk hb; clear ho hb Hc) | (go_at_call 36; (with_reducible refine (concat_calls _ A0 A1 c0 c1 l0 t _ (blk_new _ _) (Kd.C_alloc (Kd.C_below HR0.out HB.out) _) (Kd.C_alloc (Kd.R_reads' HO.out).2.2 _) HL.out.1 HL.out.2).mono ?_); rintro e w2 ⟨v2, rfl, ho2, hb2⟩; have HO2 := Aside0.mk ho2; have HB2 := Aside0.mk hb2; clear ho2 hb2))
    go_ret
    exact ⟨_, rfl, Kd.R_lower HO2.out (Nat.le_trans HB.out.size (by simp)), HB.out.trans ((below_alloc (Below.refl _ _) _).trans (HB2.out.mono (by simp)) |>.mono HB.out.size)⟩
  · rw [if_neg hl] at h
    cases h
end Go.Proofs.YthifdmelanbgmaaDoor.Given
