/- Texts of this seat, joined. -/
import Derived.Test.YtmcjccigglekpaaGreatDoorA4
import Derived.Test.YtmcjccigglekpaaGreatDoorA10
import Derived.Test.YtmcjccigglekpaaGreatDoorA11
import Derived.Test.YtmcjccigglekpaaGreatDoorRows
import Derived.Test.YtmcjccigglekpaaGreatDoorA3
import Derived.ProofKit
import Derived.LaidLaws
import Derived.ChangeSame
import Derived.ChangeVars
import Derived.HandedShaped
import Derived.Stop.LaidErr
import Derived.Shelf.Vars
import Derived.Lay
import Derived.DataElems
import Derived.Test.YtmcjccigglekpaaGreatDoorA0
namespace Go.Proofs.YtmcjccigglekpaaGreatDoor.Given
open Go Go.RowKit Go.Proofs Go.Proofs.YtmcjccigglekpaaGreatDoorW.PrintWords Go.Proofs.YtmcjccigglekpaaGreatDoorW.PrintLast Go.Proofs.YtmcjccigglekpaaGreatDoorW.PrintMore Go.Proofs.YtmcjccigglekpaaGreatDoor.P Go.Proofs.YtmcjccigglekpaaGreatDoor.Plain

theorem eqB (x y : ByteArray) : (x.toList == y.toList) = decide (x = y) := by
 rw [ByteArray.toList_eq, ByteArray.toList_eq]
 by_cases h : x = y
 ·subst h; simp
 ·rw [decide_eq_false h, beq_eq_false_iff_ne]
  intro e; apply h; cases x; cases y; congr 1; exact Array.toList_inj.1 e
def TruePost (w : World) (e : Ending) (w' : World) : Prop := e = .returned (.bool true) ∧ Below w.heap.size w w'
set_option maxRecDepth 100000 in
set_option maxHeartbeats 4000000 in
theorem imageAny_calls (h h' : Sv) (s t : St) (w : World) (H : h.At s w) (H' : h'.At t w) (hs : s.wf) (ht : t.wf) (hG : GL w) : Calls Tryz.prog 5 #[.agg (h.cells s), .agg (h'.cells t)] w (TruePost w) := by
 have HG := Lib.hid hG
 have DN := Lib.hid (fun (n : Int) (w' : World) => garrisonlaw27_num.calls n n w' rfl)
 have DS := Lib.hid (fun (W : World) (A : h.At s W) => small_calls h s W A)
 have DT := Lib.hid (fun (W : World) (A : h'.At t W) => small_calls h' t W A)
 have DC := Lib.hid (fun (W : World) (A : h.At s W) => image_Check_calls h s W A)
 have DD := Lib.hid (fun (W : World) (A : h'.At t W) => image_Check_calls h' t W A)
 have DP := Lib.hid (fun (W : World) (A : h.At s W) (g : GL W) => image_Put_calls h s W A hs g)
 have DQ := Lib.hid (fun (W : World) (A : h'.At t W) (g : GL W) => image_Put_calls h' t W A ht g)
 have DE := Lib.hid (fun (W : World) (A : h.At s W) (A' : h'.At t W) => refSame_calls h h' s t W A A')
 have DF := Lib.hid (fun (k : Sv) (u : St) (W : World) (A : h.At s W) (A' : k.At u W) => refSame_calls h k s u W A A')
 have PB : stateB s = true → ¬ ((putT s).size : Int) > 262144 → parseI (putT s) = (s, 0) := fun a b => parse_put hs a b
 have PL : ((putT s).size : Int) > 262144 → (parseI (putT s)).2 = 1 := fun b => by unfold parseI; rw [if_pos b]
 have PI : stateB s = true → stateB t = true → ((putT s).toList == (putT t).toList) = decide (s = t) := fun a b => by
  rw [eqB]
  exact decide_eq_decide.2 ⟨fun h => put_inj hs ht a b h, fun h => by rw [h]⟩
 clear hs ht hG
 obtain ⟨a0, a1, a2, a3, a4, a5, a6, a7, hc⟩ := h.letters s
 obtain ⟨b0, b1, b2, b3, b4, b5, b6, b7, hd⟩ := h'.letters t
 rw [hc] at DS DC DP DE DF
 rw [hd] at DT DD DQ DE
 rw [hc, hd]
 have X := (Bx.make H #[a0, a1, a2, a3, a4, a5, a6, a7]).alloc (.cells #[b0, b1, b2, b3, b4, b5, b6, b7] 32)
 have Y := Bx.make (H'.below ((Below.refl _ _).alloc (Nat.le_refl _) (.cells #[a0, a1, a2, a3, a4, a5, a6, a7] 32))) #[b0, b1, b2, b3, b4, b5, b6, b7]
 rw [show (w.alloc (.cells #[a0, a1, a2, a3, a4, a5, a6, a7] 32)).heap.size = w.heap.size + 1 by simp] at Y
 have HB : Below w.heap.size w ((w.alloc (.cells #[a0, a1, a2, a3, a4, a5, a6, a7] 32)).alloc (.cells #[b0, b1, b2, b3, b4, b5, b6, b7] 32)) := ((Below.refl _ _).alloc (Nat.le_refl _) _).alloc (by simp) _
 clear hc hd H H'
 obtain ⟨q0, q1, q2, q3, q4, q5, q6, q7⟩ := X.cells
 obtain ⟨p0, p1, p2, p3, p4, p5, p6, p7⟩ := Y.cells
 cases hx : smallB s with
 | false =>
  rw [hx] at DS
  clear DT DC DD DP DQ DE DF PB PL PI DN
  go_enter Tryz.func5, Tryz.ntmps5
  go_wp2
  obtain ⟨wd, hwd⟩ : ∃ wd, ((w.alloc (.cells #[a0, a1, a2, a3, a4, a5, a6, a7] 32)).alloc (.cells #[b0, b1, b2, b3, b4, b5, b6, b7] 32)).drew = wd := ⟨_, rfl⟩
  have hdr : Below ((w.alloc (.cells #[a0, a1, a2, a3, a4, a5, a6, a7] 32)).alloc (.cells #[b0, b1, b2, b3, b4, b5, b6, b7] 32)).heap.size ((w.alloc (.cells #[a0, a1, a2, a3, a4, a5, a6, a7] 32)).alloc (.cells #[b0, b1, b2, b3, b4, b5, b6, b7] 32)) wd := hwd ▸ below_drew (Below.refl _ _)
  refine wp_region_sch (fun w' => (w'.cell? ⟨w.heap.size, 0, none⟩ = some a0 ∧ w'.cell? ⟨w.heap.size, 1, none⟩ = some a1 ∧ w'.cell? ⟨w.heap.size, 2, none⟩ = some a2 ∧ w'.cell? ⟨w.heap.size, 3, none⟩ = some a3 ∧ w'.cell? ⟨w.heap.size, 4, none⟩ = some a4 ∧ w'.cell? ⟨w.heap.size, 5, none⟩ = some a5 ∧ w'.cell? ⟨w.heap.size, 6, none⟩ = some a6 ∧ w'.cell? ⟨w.heap.size, 7, none⟩ = some a7) ∧ (w'.cell? ⟨w.heap.size + 1, 0, none⟩ = some b0 ∧ w'.cell? ⟨w.heap.size + 1, 1, none⟩ = some b1 ∧ w'.cell? ⟨w.heap.size + 1, 2, none⟩ = some b2 ∧ w'.cell? ⟨w.heap.size + 1, 3, none⟩ = some b3 ∧ w'.cell? ⟨w.heap.size + 1, 4, none⟩ = some b4 ∧ w'.cell? ⟨w.heap.size + 1, 5, none⟩ = some b5 ∧ w'.cell? ⟨w.heap.size + 1, 6, none⟩ = some b6 ∧ w'.cell? ⟨w.heap.size + 1, 7, none⟩ = some b7)) 17 [(false, 0), (true, 1), (false, 2), (false, 3), (false, 4), (true, 5), (false, 6), (false, 7), (false, 8), (false, 9), (false, 12), (true, 10), (true, 11), (true, 13), (true, 14), (false, 15), (false, 16)] (by kernel_rfl) (by kernel_rfl) (fun _ a d _ _ h => by cases d <;> exact h) wd hwd ⟨(X.on hdr).cells, (Y.on hdr).cells⟩ ?_
  replace X := X.on hdr
  replace Y := Y.on hdr
  replace HB := HB.trans (hdr.mono HB.size)
  clear hdr hwd
  clear q0 q1 q2 q3 q4 q5 q6 q7 p0 p1 p2 p3 p4 p5 p6 p7
  try dsimp only
  repeat (first | (refine' sch_pure rfl rfl ?_ ?_; rotate_left; · (rintro w' ⟨⟨s0, s1, s2, s3, s4, s5, s6, s7⟩, t0, t1, t2, t3, t4, t5, t6, t7⟩; go_simp <;> rfl)) | (refine sch_skip rfl rfl ?_)); try simp only [Act.put, List.setIfInBounds_toArray, List.set_cons_zero, List.set_cons_succ]
  (refine sch_alone rfl (fun K hK => ?_); go_simp; refine (DS.out _ X.row).mono ?_; rintro e w1 ⟨rfl, hc⟩; replace X := X.on hc; replace Y := Y.on hc; replace HB := HB.trans (hc.mono HB.size); clear hc; refine hK.out _ _ ⟨X.cells, Y.cells⟩ ?_; clear hK K)
  try simp only [Act.put, List.setIfInBounds_toArray, List.set_cons_zero, List.set_cons_succ]
  repeat (first | (refine' sch_pure rfl rfl ?_ ?_; rotate_left; · (rintro w' ⟨⟨s0, s1, s2, s3, s4, s5, s6, s7⟩, t0, t1, t2, t3, t4, t5, t6, t7⟩; go_simp <;> rfl)) | (refine sch_skip rfl rfl ?_)); try simp only [Act.put, List.setIfInBounds_toArray, List.set_cons_zero, List.set_cons_succ]
  (refine sch_alone rfl (fun K hK => ?_); go_simp; refine hK.out _ _ ⟨X.cells, Y.cells⟩ ?_; clear hK K)
  try simp only [Act.put, List.setIfInBounds_toArray, List.set_cons_zero, List.set_cons_succ]
  repeat (first | (refine' sch_pure rfl rfl ?_ ?_; rotate_left; · (rintro w' ⟨⟨s0, s1, s2, s3, s4, s5, s6, s7⟩, t0, t1, t2, t3, t4, t5, t6, t7⟩; go_simp <;> rfl)) | (refine sch_skip rfl rfl ?_)); try simp only [Act.put, List.setIfInBounds_toArray, List.set_cons_zero, List.set_cons_succ]
  (refine sch_alone rfl (fun K hK => ?_); go_simp; refine hK.out _ _ ⟨X.cells, Y.cells⟩ ?_; clear hK K)
  try simp only [Act.put, List.setIfInBounds_toArray, List.set_cons_zero, List.set_cons_succ]
  repeat (first | (refine' sch_pure rfl rfl ?_ ?_; rotate_left; · (rintro w' ⟨⟨s0, s1, s2, s3, s4, s5, s6, s7⟩, t0, t1, t2, t3, t4, t5, t6, t7⟩; go_simp <;> rfl)) | (refine sch_skip rfl rfl ?_)); try simp only [Act.put, List.setIfInBounds_toArray, List.set_cons_zero, List.set_cons_succ]
  (refine sch_alone rfl (fun K hK => ?_); go_simp; refine hK.out _ _ ⟨X.cells, Y.cells⟩ ?_; clear hK K)
  try simp only [Act.put, List.setIfInBounds_toArray, List.set_cons_zero, List.set_cons_succ]
  repeat (first | (refine' sch_pure rfl rfl ?_ ?_; rotate_left; · (rintro w' ⟨⟨s0, s1, s2, s3, s4, s5, s6, s7⟩, t0, t1, t2, t3, t4, t5, t6, t7⟩; go_simp <;> rfl)) | (refine sch_skip rfl rfl ?_)); try simp only [Act.put, List.setIfInBounds_toArray, List.set_cons_zero, List.set_cons_succ]
  (refine sch_alone rfl (fun K hK => ?_); go_simp; refine hK.out _ _ ⟨X.cells, Y.cells⟩ ?_; clear hK K)
  try simp only [Act.put, List.setIfInBounds_toArray, List.set_cons_zero, List.set_cons_succ]
  repeat (first | (refine' sch_pure rfl rfl ?_ ?_; rotate_left; · (rintro w' ⟨⟨s0, s1, s2, s3, s4, s5, s6, s7⟩, t0, t1, t2, t3, t4, t5, t6, t7⟩; go_simp <;> rfl)) | (refine sch_skip rfl rfl ?_)); try simp only [Act.put, List.setIfInBounds_toArray, List.set_cons_zero, List.set_cons_succ]
  (refine sch_alone rfl (fun K hK => ?_); go_simp; refine hK.out _ _ ⟨X.cells, Y.cells⟩ ?_; clear hK K)
  try simp only [Act.put, List.setIfInBounds_toArray, List.set_cons_zero, List.set_cons_succ]
  repeat (first | (refine' sch_pure rfl rfl ?_ ?_; rotate_left; · (rintro w' ⟨⟨s0, s1, s2, s3, s4, s5, s6, s7⟩, t0, t1, t2, t3, t4, t5, t6, t7⟩; go_simp <;> rfl)) | (refine sch_skip rfl rfl ?_)); try simp only [Act.put, List.setIfInBounds_toArray, List.set_cons_zero, List.set_cons_succ]
  refine sch_last rfl (fun K hK => ?_)
  go_simp
  refine hK.out _ _ ?_
  clear hK K
  obtain ⟨q0, q1, q2, q3, q4, q5, q6, q7⟩ := X.cells
  obtain ⟨p0, p1, p2, p3, p4, p5, p6, p7⟩ := Y.cells
  go_wp2_with (first | (go_at_call 9; (with_reducible refine (live_calls _ (HG.out.below HB)).mono ?_); rintro e w1 ⟨rfl, hc⟩; skip))
  go_ret
  exact ⟨rfl, HB.trans (hc.mono HB.size)⟩
 | true =>
  rw [hx] at DS
  cases hy : smallB t with
  | false =>
   rw [hy] at DT
   clear DC DD DP DQ DE DF PB PL PI DN
   go_enter Tryz.func5, Tryz.ntmps5
   go_wp2
   obtain ⟨wd, hwd⟩ : ∃ wd, ((w.alloc (.cells #[a0, a1, a2, a3, a4, a5, a6, a7] 32)).alloc (.cells #[b0, b1, b2, b3, b4, b5, b6, b7] 32)).drew = wd := ⟨_, rfl⟩
   have hdr : Below ((w.alloc (.cells #[a0, a1, a2, a3, a4, a5, a6, a7] 32)).alloc (.cells #[b0, b1, b2, b3, b4, b5, b6, b7] 32)).heap.size ((w.alloc (.cells #[a0, a1, a2, a3, a4, a5, a6, a7] 32)).alloc (.cells #[b0, b1, b2, b3, b4, b5, b6, b7] 32)) wd := hwd ▸ below_drew (Below.refl _ _)
   refine wp_region_sch (fun w' => (w'.cell? ⟨w.heap.size, 0, none⟩ = some a0 ∧ w'.cell? ⟨w.heap.size, 1, none⟩ = some a1 ∧ w'.cell? ⟨w.heap.size, 2, none⟩ = some a2 ∧ w'.cell? ⟨w.heap.size, 3, none⟩ = some a3 ∧ w'.cell? ⟨w.heap.size, 4, none⟩ = some a4 ∧ w'.cell? ⟨w.heap.size, 5, none⟩ = some a5 ∧ w'.cell? ⟨w.heap.size, 6, none⟩ = some a6 ∧ w'.cell? ⟨w.heap.size, 7, none⟩ = some a7) ∧ (w'.cell? ⟨w.heap.size + 1, 0, none⟩ = some b0 ∧ w'.cell? ⟨w.heap.size + 1, 1, none⟩ = some b1 ∧ w'.cell? ⟨w.heap.size + 1, 2, none⟩ = some b2 ∧ w'.cell? ⟨w.heap.size + 1, 3, none⟩ = some b3 ∧ w'.cell? ⟨w.heap.size + 1, 4, none⟩ = some b4 ∧ w'.cell? ⟨w.heap.size + 1, 5, none⟩ = some b5 ∧ w'.cell? ⟨w.heap.size + 1, 6, none⟩ = some b6 ∧ w'.cell? ⟨w.heap.size + 1, 7, none⟩ = some b7)) 17 [(false, 0), (true, 1), (false, 2), (false, 3), (false, 4), (true, 5), (false, 6), (false, 7), (false, 8), (false, 9), (false, 12), (true, 10), (true, 11), (true, 13), (true, 14), (false, 15), (false, 16)] (by kernel_rfl) (by kernel_rfl) (fun _ a d _ _ h => by cases d <;> exact h) wd hwd ⟨(X.on hdr).cells, (Y.on hdr).cells⟩ ?_
   replace X := X.on hdr
   replace Y := Y.on hdr
   replace HB := HB.trans (hdr.mono HB.size)
   clear hdr hwd
   clear q0 q1 q2 q3 q4 q5 q6 q7 p0 p1 p2 p3 p4 p5 p6 p7
   try dsimp only
   repeat (first | (refine' sch_pure rfl rfl ?_ ?_; rotate_left; · (rintro w' ⟨⟨s0, s1, s2, s3, s4, s5, s6, s7⟩, t0, t1, t2, t3, t4, t5, t6, t7⟩; go_simp <;> rfl)) | (refine sch_skip rfl rfl ?_)); try simp only [Act.put, List.setIfInBounds_toArray, List.set_cons_zero, List.set_cons_succ]
   (refine sch_alone rfl (fun K hK => ?_); go_simp; refine (DS.out _ X.row).mono ?_; rintro e w1 ⟨rfl, hc⟩; replace X := X.on hc; replace Y := Y.on hc; replace HB := HB.trans (hc.mono HB.size); clear hc; refine hK.out _ _ ⟨X.cells, Y.cells⟩ ?_; clear hK K)
   try simp only [Act.put, List.setIfInBounds_toArray, List.set_cons_zero, List.set_cons_succ]
   repeat (first | (refine' sch_pure rfl rfl ?_ ?_; rotate_left; · (rintro w' ⟨⟨s0, s1, s2, s3, s4, s5, s6, s7⟩, t0, t1, t2, t3, t4, t5, t6, t7⟩; go_simp <;> rfl)) | (refine sch_skip rfl rfl ?_)); try simp only [Act.put, List.setIfInBounds_toArray, List.set_cons_zero, List.set_cons_succ]
   (refine sch_alone rfl (fun K hK => ?_); go_simp; refine (DT.out _ Y.row).mono ?_; rintro e w1 ⟨rfl, hc⟩; replace X := X.on hc; replace Y := Y.on hc; replace HB := HB.trans (hc.mono HB.size); clear hc; refine hK.out _ _ ⟨X.cells, Y.cells⟩ ?_; clear hK K)
   try simp only [Act.put, List.setIfInBounds_toArray, List.set_cons_zero, List.set_cons_succ]
   repeat (first | (refine' sch_pure rfl rfl ?_ ?_; rotate_left; · (rintro w' ⟨⟨s0, s1, s2, s3, s4, s5, s6, s7⟩, t0, t1, t2, t3, t4, t5, t6, t7⟩; go_simp <;> rfl)) | (refine sch_skip rfl rfl ?_)); try simp only [Act.put, List.setIfInBounds_toArray, List.set_cons_zero, List.set_cons_succ]
   (refine sch_alone rfl (fun K hK => ?_); go_simp; refine hK.out _ _ ⟨X.cells, Y.cells⟩ ?_; clear hK K)
   try simp only [Act.put, List.setIfInBounds_toArray, List.set_cons_zero, List.set_cons_succ]
   repeat (first | (refine' sch_pure rfl rfl ?_ ?_; rotate_left; · (rintro w' ⟨⟨s0, s1, s2, s3, s4, s5, s6, s7⟩, t0, t1, t2, t3, t4, t5, t6, t7⟩; go_simp <;> rfl)) | (refine sch_skip rfl rfl ?_)); try simp only [Act.put, List.setIfInBounds_toArray, List.set_cons_zero, List.set_cons_succ]
   (refine sch_alone rfl (fun K hK => ?_); go_simp; refine hK.out _ _ ⟨X.cells, Y.cells⟩ ?_; clear hK K)
   try simp only [Act.put, List.setIfInBounds_toArray, List.set_cons_zero, List.set_cons_succ]
   repeat (first | (refine' sch_pure rfl rfl ?_ ?_; rotate_left; · (rintro w' ⟨⟨s0, s1, s2, s3, s4, s5, s6, s7⟩, t0, t1, t2, t3, t4, t5, t6, t7⟩; go_simp <;> rfl)) | (refine sch_skip rfl rfl ?_)); try simp only [Act.put, List.setIfInBounds_toArray, List.set_cons_zero, List.set_cons_succ]
   (refine sch_alone rfl (fun K hK => ?_); go_simp; refine hK.out _ _ ⟨X.cells, Y.cells⟩ ?_; clear hK K)
   try simp only [Act.put, List.setIfInBounds_toArray, List.set_cons_zero, List.set_cons_succ]
   repeat (first | (refine' sch_pure rfl rfl ?_ ?_; rotate_left; · (rintro w' ⟨⟨s0, s1, s2, s3, s4, s5, s6, s7⟩, t0, t1, t2, t3, t4, t5, t6, t7⟩; go_simp <;> rfl)) | (refine sch_skip rfl rfl ?_)); try simp only [Act.put, List.setIfInBounds_toArray, List.set_cons_zero, List.set_cons_succ]
   (refine sch_alone rfl (fun K hK => ?_); go_simp; refine hK.out _ _ ⟨X.cells, Y.cells⟩ ?_; clear hK K)
   try simp only [Act.put, List.setIfInBounds_toArray, List.set_cons_zero, List.set_cons_succ]
   repeat (first | (refine' sch_pure rfl rfl ?_ ?_; rotate_left; · (rintro w' ⟨⟨s0, s1, s2, s3, s4, s5, s6, s7⟩, t0, t1, t2, t3, t4, t5, t6, t7⟩; go_simp <;> rfl)) | (refine sch_skip rfl rfl ?_)); try simp only [Act.put, List.setIfInBounds_toArray, List.set_cons_zero, List.set_cons_succ]
   refine sch_last rfl (fun K hK => ?_)
   go_simp
   refine hK.out _ _ ?_
   clear hK K
   obtain ⟨q0, q1, q2, q3, q4, q5, q6, q7⟩ := X.cells
   obtain ⟨p0, p1, p2, p3, p4, p5, p6, p7⟩ := Y.cells
   go_wp2_with (first | (go_at_call 9; (with_reducible refine (live_calls _ (HG.out.below HB)).mono ?_); rintro e w1 ⟨rfl, hc⟩; skip))
   go_ret
   exact ⟨rfl, HB.trans (hc.mono HB.size)⟩
  | true =>
   rw [hy] at DT
   clear hx hy
   cases hA : stateB s with
   | false =>
    cases hB : stateB t with
    | false =>
     rw [hA, if_neg (by decide)] at DC
     rw [hB, if_neg (by decide)] at DD
     clear DP DQ DE DF PB PL PI hA hB
     go_enter Tryz.func5, Tryz.ntmps5
     go_wp2
     obtain ⟨wd, hwd⟩ : ∃ wd, ((w.alloc (.cells #[a0, a1, a2, a3, a4, a5, a6, a7] 32)).alloc (.cells #[b0, b1, b2, b3, b4, b5, b6, b7] 32)).drew = wd := ⟨_, rfl⟩
     have hdr : Below ((w.alloc (.cells #[a0, a1, a2, a3, a4, a5, a6, a7] 32)).alloc (.cells #[b0, b1, b2, b3, b4, b5, b6, b7] 32)).heap.size ((w.alloc (.cells #[a0, a1, a2, a3, a4, a5, a6, a7] 32)).alloc (.cells #[b0, b1, b2, b3, b4, b5, b6, b7] 32)) wd := hwd ▸ below_drew (Below.refl _ _)
     refine wp_region_sch (fun w' => (w'.cell? ⟨w.heap.size, 0, none⟩ = some a0 ∧ w'.cell? ⟨w.heap.size, 1, none⟩ = some a1 ∧ w'.cell? ⟨w.heap.size, 2, none⟩ = some a2 ∧ w'.cell? ⟨w.heap.size, 3, none⟩ = some a3 ∧ w'.cell? ⟨w.heap.size, 4, none⟩ = some a4 ∧ w'.cell? ⟨w.heap.size, 5, none⟩ = some a5 ∧ w'.cell? ⟨w.heap.size, 6, none⟩ = some a6 ∧ w'.cell? ⟨w.heap.size, 7, none⟩ = some a7) ∧ (w'.cell? ⟨w.heap.size + 1, 0, none⟩ = some b0 ∧ w'.cell? ⟨w.heap.size + 1, 1, none⟩ = some b1 ∧ w'.cell? ⟨w.heap.size + 1, 2, none⟩ = some b2 ∧ w'.cell? ⟨w.heap.size + 1, 3, none⟩ = some b3 ∧ w'.cell? ⟨w.heap.size + 1, 4, none⟩ = some b4 ∧ w'.cell? ⟨w.heap.size + 1, 5, none⟩ = some b5 ∧ w'.cell? ⟨w.heap.size + 1, 6, none⟩ = some b6 ∧ w'.cell? ⟨w.heap.size + 1, 7, none⟩ = some b7)) 17 [(false, 0), (true, 1), (false, 2), (false, 3), (false, 4), (true, 5), (false, 6), (false, 7), (false, 8), (false, 9), (false, 12), (true, 10), (true, 11), (true, 13), (true, 14), (false, 15), (false, 16)] (by kernel_rfl) (by kernel_rfl) (fun _ a d _ _ h => by cases d <;> exact h) wd hwd ⟨(X.on hdr).cells, (Y.on hdr).cells⟩ ?_
     replace X := X.on hdr
     replace Y := Y.on hdr
     replace HB := HB.trans (hdr.mono HB.size)
     clear hdr hwd
     clear q0 q1 q2 q3 q4 q5 q6 q7 p0 p1 p2 p3 p4 p5 p6 p7
     try dsimp only
     repeat (first | (refine' sch_pure rfl rfl ?_ ?_; rotate_left; · (rintro w' ⟨⟨s0, s1, s2, s3, s4, s5, s6, s7⟩, t0, t1, t2, t3, t4, t5, t6, t7⟩; go_simp <;> rfl)) | (refine sch_skip rfl rfl ?_)); try simp only [Act.put, List.setIfInBounds_toArray, List.set_cons_zero, List.set_cons_succ]
     (refine sch_alone rfl (fun K hK => ?_); go_simp; refine (DS.out _ X.row).mono ?_; rintro e w1 ⟨rfl, hc⟩; replace X := X.on hc; replace Y := Y.on hc; replace HB := HB.trans (hc.mono HB.size); clear hc; refine hK.out _ _ ⟨X.cells, Y.cells⟩ ?_; clear hK K)
     try simp only [Act.put, List.setIfInBounds_toArray, List.set_cons_zero, List.set_cons_succ]
     repeat (first | (refine' sch_pure rfl rfl ?_ ?_; rotate_left; · (rintro w' ⟨⟨s0, s1, s2, s3, s4, s5, s6, s7⟩, t0, t1, t2, t3, t4, t5, t6, t7⟩; go_simp <;> rfl)) | (refine sch_skip rfl rfl ?_)); try simp only [Act.put, List.setIfInBounds_toArray, List.set_cons_zero, List.set_cons_succ]
     (refine sch_alone rfl (fun K hK => ?_); go_simp; refine (DT.out _ Y.row).mono ?_; rintro e w1 ⟨rfl, hc⟩; replace X := X.on hc; replace Y := Y.on hc; replace HB := HB.trans (hc.mono HB.size); clear hc; refine hK.out _ _ ⟨X.cells, Y.cells⟩ ?_; clear hK K)
     try simp only [Act.put, List.setIfInBounds_toArray, List.set_cons_zero, List.set_cons_succ]
     repeat (first | (refine' sch_pure rfl rfl ?_ ?_; rotate_left; · (rintro w' ⟨⟨s0, s1, s2, s3, s4, s5, s6, s7⟩, t0, t1, t2, t3, t4, t5, t6, t7⟩; go_simp <;> rfl)) | (refine sch_skip rfl rfl ?_)); try simp only [Act.put, List.setIfInBounds_toArray, List.set_cons_zero, List.set_cons_succ]
     (refine sch_alone rfl (fun K hK => ?_); go_simp; refine (DC.out _ X.row).mono ?_; rintro e w1 ⟨rfl, hc⟩; replace X := X.on hc; replace Y := Y.on hc; replace HB := HB.trans (hc.mono HB.size); clear hc; refine hK.out _ _ ⟨X.cells, Y.cells⟩ ?_; clear hK K)
     try simp only [Act.put, List.setIfInBounds_toArray, List.set_cons_zero, List.set_cons_succ]
     repeat (first | (refine' sch_pure rfl rfl ?_ ?_; rotate_left; · (rintro w' ⟨⟨s0, s1, s2, s3, s4, s5, s6, s7⟩, t0, t1, t2, t3, t4, t5, t6, t7⟩; go_simp <;> rfl)) | (refine sch_skip rfl rfl ?_)); try simp only [Act.put, List.setIfInBounds_toArray, List.set_cons_zero, List.set_cons_succ]
     (refine sch_alone rfl (fun K hK => ?_); go_simp; refine (DN.out _ _).mono ?_; rintro e w1 ⟨rfl, hd⟩; have hc := hd.below; clear hd; replace X := X.on hc; replace Y := Y.on hc; replace HB := HB.trans (hc.mono HB.size); clear hc; refine hK.out _ _ ⟨X.cells, Y.cells⟩ ?_; clear hK K)
     try simp only [Act.put, List.setIfInBounds_toArray, List.set_cons_zero, List.set_cons_succ]
     repeat (first | (refine' sch_pure rfl rfl ?_ ?_; rotate_left; · (rintro w' ⟨⟨s0, s1, s2, s3, s4, s5, s6, s7⟩, t0, t1, t2, t3, t4, t5, t6, t7⟩; go_simp <;> rfl)) | (refine sch_skip rfl rfl ?_)); try simp only [Act.put, List.setIfInBounds_toArray, List.set_cons_zero, List.set_cons_succ]
     (refine sch_alone rfl (fun K hK => ?_); go_simp; refine (DD.out _ Y.row).mono ?_; rintro e w1 ⟨rfl, hc⟩; replace X := X.on hc; replace Y := Y.on hc; replace HB := HB.trans (hc.mono HB.size); clear hc; refine hK.out _ _ ⟨X.cells, Y.cells⟩ ?_; clear hK K)
     try simp only [Act.put, List.setIfInBounds_toArray, List.set_cons_zero, List.set_cons_succ]
     repeat (first | (refine' sch_pure rfl rfl ?_ ?_; rotate_left; · (rintro w' ⟨⟨s0, s1, s2, s3, s4, s5, s6, s7⟩, t0, t1, t2, t3, t4, t5, t6, t7⟩; go_simp <;> rfl)) | (refine sch_skip rfl rfl ?_)); try simp only [Act.put, List.setIfInBounds_toArray, List.set_cons_zero, List.set_cons_succ]
     (refine sch_alone rfl (fun K hK => ?_); go_simp; refine (DN.out _ _).mono ?_; rintro e w1 ⟨rfl, hd⟩; have hc := hd.below; clear hd; replace X := X.on hc; replace Y := Y.on hc; replace HB := HB.trans (hc.mono HB.size); clear hc; refine hK.out _ _ ⟨X.cells, Y.cells⟩ ?_; clear hK K)
     try simp only [Act.put, List.setIfInBounds_toArray, List.set_cons_zero, List.set_cons_succ]
     repeat (first | (refine' sch_pure rfl rfl ?_ ?_; rotate_left; · (rintro w' ⟨⟨s0, s1, s2, s3, s4, s5, s6, s7⟩, t0, t1, t2, t3, t4, t5, t6, t7⟩; go_simp <;> rfl)) | (refine sch_skip rfl rfl ?_)); try simp only [Act.put, List.setIfInBounds_toArray, List.set_cons_zero, List.set_cons_succ]
     refine sch_last rfl (fun K hK => ?_)
     go_simp
     refine hK.out _ _ ?_
     clear hK K
     obtain ⟨q0, q1, q2, q3, q4, q5, q6, q7⟩ := X.cells
     obtain ⟨p0, p1, p2, p3, p4, p5, p6, p7⟩ := Y.cells
     go_wp2_with (first | (go_at_call 9; (with_reducible refine (live_calls _ (HG.out.below HB)).mono ?_); rintro e w1 ⟨rfl, hc⟩; skip))
     go_ret
     exact ⟨rfl, HB.trans (hc.mono HB.size)⟩
    | true =>
     rw [hA, if_neg (by decide)] at DC
     rw [hB, if_pos rfl] at DD
     clear DP DQ DE DF PB PL PI hA hB
     go_enter Tryz.func5, Tryz.ntmps5
     go_wp2
     obtain ⟨wd, hwd⟩ : ∃ wd, ((w.alloc (.cells #[a0, a1, a2, a3, a4, a5, a6, a7] 32)).alloc (.cells #[b0, b1, b2, b3, b4, b5, b6, b7] 32)).drew = wd := ⟨_, rfl⟩
     have hdr : Below ((w.alloc (.cells #[a0, a1, a2, a3, a4, a5, a6, a7] 32)).alloc (.cells #[b0, b1, b2, b3, b4, b5, b6, b7] 32)).heap.size ((w.alloc (.cells #[a0, a1, a2, a3, a4, a5, a6, a7] 32)).alloc (.cells #[b0, b1, b2, b3, b4, b5, b6, b7] 32)) wd := hwd ▸ below_drew (Below.refl _ _)
     refine wp_region_sch (fun w' => (w'.cell? ⟨w.heap.size, 0, none⟩ = some a0 ∧ w'.cell? ⟨w.heap.size, 1, none⟩ = some a1 ∧ w'.cell? ⟨w.heap.size, 2, none⟩ = some a2 ∧ w'.cell? ⟨w.heap.size, 3, none⟩ = some a3 ∧ w'.cell? ⟨w.heap.size, 4, none⟩ = some a4 ∧ w'.cell? ⟨w.heap.size, 5, none⟩ = some a5 ∧ w'.cell? ⟨w.heap.size, 6, none⟩ = some a6 ∧ w'.cell? ⟨w.heap.size, 7, none⟩ = some a7) ∧ (w'.cell? ⟨w.heap.size + 1, 0, none⟩ = some b0 ∧ w'.cell? ⟨w.heap.size + 1, 1, none⟩ = some b1 ∧ w'.cell? ⟨w.heap.size + 1, 2, none⟩ = some b2 ∧ w'.cell? ⟨w.heap.size + 1, 3, none⟩ = some b3 ∧ w'.cell? ⟨w.heap.size + 1, 4, none⟩ = some b4 ∧ w'.cell? ⟨w.heap.size + 1, 5, none⟩ = some b5 ∧ w'.cell? ⟨w.heap.size + 1, 6, none⟩ = some b6 ∧ w'.cell? ⟨w.heap.size + 1, 7, none⟩ = some b7)) 17 [(false, 0), (true, 1), (false, 2), (false, 3), (false, 4), (true, 5), (false, 6), (false, 7), (false, 8), (false, 9), (false, 12), (true, 10), (true, 11), (true, 13), (true, 14), (false, 15), (false, 16)] (by kernel_rfl) (by kernel_rfl) (fun _ a d _ _ h => by cases d <;> exact h) wd hwd ⟨(X.on hdr).cells, (Y.on hdr).cells⟩ ?_
     replace X := X.on hdr
     replace Y := Y.on hdr
     replace HB := HB.trans (hdr.mono HB.size)
     clear hdr hwd
     clear q0 q1 q2 q3 q4 q5 q6 q7 p0 p1 p2 p3 p4 p5 p6 p7
     try dsimp only
     repeat (first | (refine' sch_pure rfl rfl ?_ ?_; rotate_left; · (rintro w' ⟨⟨s0, s1, s2, s3, s4, s5, s6, s7⟩, t0, t1, t2, t3, t4, t5, t6, t7⟩; go_simp <;> rfl)) | (refine sch_skip rfl rfl ?_)); try simp only [Act.put, List.setIfInBounds_toArray, List.set_cons_zero, List.set_cons_succ]
     (refine sch_alone rfl (fun K hK => ?_); go_simp; refine (DS.out _ X.row).mono ?_; rintro e w1 ⟨rfl, hc⟩; replace X := X.on hc; replace Y := Y.on hc; replace HB := HB.trans (hc.mono HB.size); clear hc; refine hK.out _ _ ⟨X.cells, Y.cells⟩ ?_; clear hK K)
     try simp only [Act.put, List.setIfInBounds_toArray, List.set_cons_zero, List.set_cons_succ]
     repeat (first | (refine' sch_pure rfl rfl ?_ ?_; rotate_left; · (rintro w' ⟨⟨s0, s1, s2, s3, s4, s5, s6, s7⟩, t0, t1, t2, t3, t4, t5, t6, t7⟩; go_simp <;> rfl)) | (refine sch_skip rfl rfl ?_)); try simp only [Act.put, List.setIfInBounds_toArray, List.set_cons_zero, List.set_cons_succ]
     (refine sch_alone rfl (fun K hK => ?_); go_simp; refine (DT.out _ Y.row).mono ?_; rintro e w1 ⟨rfl, hc⟩; replace X := X.on hc; replace Y := Y.on hc; replace HB := HB.trans (hc.mono HB.size); clear hc; refine hK.out _ _ ⟨X.cells, Y.cells⟩ ?_; clear hK K)
     try simp only [Act.put, List.setIfInBounds_toArray, List.set_cons_zero, List.set_cons_succ]
     repeat (first | (refine' sch_pure rfl rfl ?_ ?_; rotate_left; · (rintro w' ⟨⟨s0, s1, s2, s3, s4, s5, s6, s7⟩, t0, t1, t2, t3, t4, t5, t6, t7⟩; go_simp <;> rfl)) | (refine sch_skip rfl rfl ?_)); try simp only [Act.put, List.setIfInBounds_toArray, List.set_cons_zero, List.set_cons_succ]
     (refine sch_alone rfl (fun K hK => ?_); go_simp; refine (DC.out _ X.row).mono ?_; rintro e w1 ⟨rfl, hc⟩; replace X := X.on hc; replace Y := Y.on hc; replace HB := HB.trans (hc.mono HB.size); clear hc; refine hK.out _ _ ⟨X.cells, Y.cells⟩ ?_; clear hK K)
     try simp only [Act.put, List.setIfInBounds_toArray, List.set_cons_zero, List.set_cons_succ]
     repeat (first | (refine' sch_pure rfl rfl ?_ ?_; rotate_left; · (rintro w' ⟨⟨s0, s1, s2, s3, s4, s5, s6, s7⟩, t0, t1, t2, t3, t4, t5, t6, t7⟩; go_simp <;> rfl)) | (refine sch_skip rfl rfl ?_)); try simp only [Act.put, List.setIfInBounds_toArray, List.set_cons_zero, List.set_cons_succ]
     (refine sch_alone rfl (fun K hK => ?_); go_simp; refine (DN.out _ _).mono ?_; rintro e w1 ⟨rfl, hd⟩; have hc := hd.below; clear hd; replace X := X.on hc; replace Y := Y.on hc; replace HB := HB.trans (hc.mono HB.size); clear hc; refine hK.out _ _ ⟨X.cells, Y.cells⟩ ?_; clear hK K)
     try simp only [Act.put, List.setIfInBounds_toArray, List.set_cons_zero, List.set_cons_succ]
     repeat (first | (refine' sch_pure rfl rfl ?_ ?_; rotate_left; · (rintro w' ⟨⟨s0, s1, s2, s3, s4, s5, s6, s7⟩, t0, t1, t2, t3, t4, t5, t6, t7⟩; go_simp <;> rfl)) | (refine sch_skip rfl rfl ?_)); try simp only [Act.put, List.setIfInBounds_toArray, List.set_cons_zero, List.set_cons_succ]
     (refine sch_alone rfl (fun K hK => ?_); go_simp; refine (DD.out _ Y.row).mono ?_; rintro e w1 ⟨rfl, hc⟩; replace X := X.on hc; replace Y := Y.on hc; replace HB := HB.trans (hc.mono HB.size); clear hc; refine hK.out _ _ ⟨X.cells, Y.cells⟩ ?_; clear hK K)
     try simp only [Act.put, List.setIfInBounds_toArray, List.set_cons_zero, List.set_cons_succ]
     repeat (first | (refine' sch_pure rfl rfl ?_ ?_; rotate_left; · (rintro w' ⟨⟨s0, s1, s2, s3, s4, s5, s6, s7⟩, t0, t1, t2, t3, t4, t5, t6, t7⟩; go_simp <;> rfl)) | (refine sch_skip rfl rfl ?_)); try simp only [Act.put, List.setIfInBounds_toArray, List.set_cons_zero, List.set_cons_succ]
     (refine sch_alone rfl (fun K hK => ?_); go_simp; refine (DN.out _ _).mono ?_; rintro e w1 ⟨rfl, hd⟩; have hc := hd.below; clear hd; replace X := X.on hc; replace Y := Y.on hc; replace HB := HB.trans (hc.mono HB.size); clear hc; refine hK.out _ _ ⟨X.cells, Y.cells⟩ ?_; clear hK K)
     try simp only [Act.put, List.setIfInBounds_toArray, List.set_cons_zero, List.set_cons_succ]
     repeat (first | (refine' sch_pure rfl rfl ?_ ?_; rotate_left; · (rintro w' ⟨⟨s0, s1, s2, s3, s4, s5, s6, s7⟩, t0, t1, t2, t3, t4, t5, t6, t7⟩; go_simp <;> rfl)) | (refine sch_skip rfl rfl ?_)); try simp only [Act.put, List.setIfInBounds_toArray, List.set_cons_zero, List.set_cons_succ]
     refine sch_last rfl (fun K hK => ?_)
     go_simp
     refine hK.out _ _ ?_
     clear hK K
     obtain ⟨q0, q1, q2, q3, q4, q5, q6, q7⟩ := X.cells
     obtain ⟨p0, p1, p2, p3, p4, p5, p6, p7⟩ := Y.cells
     go_wp2_with (first | (go_at_call 9; (with_reducible refine (live_calls _ (HG.out.below HB)).mono ?_); rintro e w1 ⟨rfl, hc⟩; skip))
     go_ret
     exact ⟨rfl, HB.trans (hc.mono HB.size)⟩
   | true =>
    cases hB : stateB t with
    | false =>
     rw [hA, if_pos rfl] at DC
     rw [hB, if_neg (by decide)] at DD
     clear DP DQ DE DF PB PL PI hA hB
     go_enter Tryz.func5, Tryz.ntmps5
     go_wp2
     obtain ⟨wd, hwd⟩ : ∃ wd, ((w.alloc (.cells #[a0, a1, a2, a3, a4, a5, a6, a7] 32)).alloc (.cells #[b0, b1, b2, b3, b4, b5, b6, b7] 32)).drew = wd := ⟨_, rfl⟩
     have hdr : Below ((w.alloc (.cells #[a0, a1, a2, a3, a4, a5, a6, a7] 32)).alloc (.cells #[b0, b1, b2, b3, b4, b5, b6, b7] 32)).heap.size ((w.alloc (.cells #[a0, a1, a2, a3, a4, a5, a6, a7] 32)).alloc (.cells #[b0, b1, b2, b3, b4, b5, b6, b7] 32)) wd := hwd ▸ below_drew (Below.refl _ _)
     refine wp_region_sch (fun w' => (w'.cell? ⟨w.heap.size, 0, none⟩ = some a0 ∧ w'.cell? ⟨w.heap.size, 1, none⟩ = some a1 ∧ w'.cell? ⟨w.heap.size, 2, none⟩ = some a2 ∧ w'.cell? ⟨w.heap.size, 3, none⟩ = some a3 ∧ w'.cell? ⟨w.heap.size, 4, none⟩ = some a4 ∧ w'.cell? ⟨w.heap.size, 5, none⟩ = some a5 ∧ w'.cell? ⟨w.heap.size, 6, none⟩ = some a6 ∧ w'.cell? ⟨w.heap.size, 7, none⟩ = some a7) ∧ (w'.cell? ⟨w.heap.size + 1, 0, none⟩ = some b0 ∧ w'.cell? ⟨w.heap.size + 1, 1, none⟩ = some b1 ∧ w'.cell? ⟨w.heap.size + 1, 2, none⟩ = some b2 ∧ w'.cell? ⟨w.heap.size + 1, 3, none⟩ = some b3 ∧ w'.cell? ⟨w.heap.size + 1, 4, none⟩ = some b4 ∧ w'.cell? ⟨w.heap.size + 1, 5, none⟩ = some b5 ∧ w'.cell? ⟨w.heap.size + 1, 6, none⟩ = some b6 ∧ w'.cell? ⟨w.heap.size + 1, 7, none⟩ = some b7)) 17 [(false, 0), (true, 1), (false, 2), (false, 3), (false, 4), (true, 5), (false, 6), (false, 7), (false, 8), (false, 9), (false, 12), (true, 10), (true, 11), (true, 13), (true, 14), (false, 15), (false, 16)] (by kernel_rfl) (by kernel_rfl) (fun _ a d _ _ h => by cases d <;> exact h) wd hwd ⟨(X.on hdr).cells, (Y.on hdr).cells⟩ ?_
     replace X := X.on hdr
     replace Y := Y.on hdr
     replace HB := HB.trans (hdr.mono HB.size)
     clear hdr hwd
     clear q0 q1 q2 q3 q4 q5 q6 q7 p0 p1 p2 p3 p4 p5 p6 p7
     try dsimp only
     repeat (first | (refine' sch_pure rfl rfl ?_ ?_; rotate_left; · (rintro w' ⟨⟨s0, s1, s2, s3, s4, s5, s6, s7⟩, t0, t1, t2, t3, t4, t5, t6, t7⟩; go_simp <;> rfl)) | (refine sch_skip rfl rfl ?_)); try simp only [Act.put, List.setIfInBounds_toArray, List.set_cons_zero, List.set_cons_succ]
     (refine sch_alone rfl (fun K hK => ?_); go_simp; refine (DS.out _ X.row).mono ?_; rintro e w1 ⟨rfl, hc⟩; replace X := X.on hc; replace Y := Y.on hc; replace HB := HB.trans (hc.mono HB.size); clear hc; refine hK.out _ _ ⟨X.cells, Y.cells⟩ ?_; clear hK K)
     try simp only [Act.put, List.setIfInBounds_toArray, List.set_cons_zero, List.set_cons_succ]
     repeat (first | (refine' sch_pure rfl rfl ?_ ?_; rotate_left; · (rintro w' ⟨⟨s0, s1, s2, s3, s4, s5, s6, s7⟩, t0, t1, t2, t3, t4, t5, t6, t7⟩; go_simp <;> rfl)) | (refine sch_skip rfl rfl ?_)); try simp only [Act.put, List.setIfInBounds_toArray, List.set_cons_zero, List.set_cons_succ]
     (refine sch_alone rfl (fun K hK => ?_); go_simp; refine (DT.out _ Y.row).mono ?_; rintro e w1 ⟨rfl, hc⟩; replace X := X.on hc; replace Y := Y.on hc; replace HB := HB.trans (hc.mono HB.size); clear hc; refine hK.out _ _ ⟨X.cells, Y.cells⟩ ?_; clear hK K)
     try simp only [Act.put, List.setIfInBounds_toArray, List.set_cons_zero, List.set_cons_succ]
     repeat (first | (refine' sch_pure rfl rfl ?_ ?_; rotate_left; · (rintro w' ⟨⟨s0, s1, s2, s3, s4, s5, s6, s7⟩, t0, t1, t2, t3, t4, t5, t6, t7⟩; go_simp <;> rfl)) | (refine sch_skip rfl rfl ?_)); try simp only [Act.put, List.setIfInBounds_toArray, List.set_cons_zero, List.set_cons_succ]
     (refine sch_alone rfl (fun K hK => ?_); go_simp; refine (DC.out _ X.row).mono ?_; rintro e w1 ⟨rfl, hc⟩; replace X := X.on hc; replace Y := Y.on hc; replace HB := HB.trans (hc.mono HB.size); clear hc; refine hK.out _ _ ⟨X.cells, Y.cells⟩ ?_; clear hK K)
     try simp only [Act.put, List.setIfInBounds_toArray, List.set_cons_zero, List.set_cons_succ]
     repeat (first | (refine' sch_pure rfl rfl ?_ ?_; rotate_left; · (rintro w' ⟨⟨s0, s1, s2, s3, s4, s5, s6, s7⟩, t0, t1, t2, t3, t4, t5, t6, t7⟩; go_simp <;> rfl)) | (refine sch_skip rfl rfl ?_)); try simp only [Act.put, List.setIfInBounds_toArray, List.set_cons_zero, List.set_cons_succ]
     (refine sch_alone rfl (fun K hK => ?_); go_simp; refine (DN.out _ _).mono ?_; rintro e w1 ⟨rfl, hd⟩; have hc := hd.below; clear hd; replace X := X.on hc; replace Y := Y.on hc; replace HB := HB.trans (hc.mono HB.size); clear hc; refine hK.out _ _ ⟨X.cells, Y.cells⟩ ?_; clear hK K)
     try simp only [Act.put, List.setIfInBounds_toArray, List.set_cons_zero, List.set_cons_succ]
     repeat (first | (refine' sch_pure rfl rfl ?_ ?_; rotate_left; · (rintro w' ⟨⟨s0, s1, s2, s3, s4, s5, s6, s7⟩, t0, t1, t2, t3, t4, t5, t6, t7⟩; go_simp <;> rfl)) | (refine sch_skip rfl rfl ?_)); try simp only [Act.put, List.setIfInBounds_toArray, List.set_cons_zero, List.set_cons_succ]
     (refine sch_alone rfl (fun K hK => ?_); go_simp; refine (DD.out _ Y.row).mono ?_; rintro e w1 ⟨rfl, hc⟩; replace X := X.on hc; replace Y := Y.on hc; replace HB := HB.trans (hc.mono HB.size); clear hc; refine hK.out _ _ ⟨X.cells, Y.cells⟩ ?_; clear hK K)
     try simp only [Act.put, List.setIfInBounds_toArray, List.set_cons_zero, List.set_cons_succ]
     repeat (first | (refine' sch_pure rfl rfl ?_ ?_; rotate_left; · (rintro w' ⟨⟨s0, s1, s2, s3, s4, s5, s6, s7⟩, t0, t1, t2, t3, t4, t5, t6, t7⟩; go_simp <;> rfl)) | (refine sch_skip rfl rfl ?_)); try simp only [Act.put, List.setIfInBounds_toArray, List.set_cons_zero, List.set_cons_succ]
     (refine sch_alone rfl (fun K hK => ?_); go_simp; refine (DN.out _ _).mono ?_; rintro e w1 ⟨rfl, hd⟩; have hc := hd.below; clear hd; replace X := X.on hc; replace Y := Y.on hc; replace HB := HB.trans (hc.mono HB.size); clear hc; refine hK.out _ _ ⟨X.cells, Y.cells⟩ ?_; clear hK K)
     try simp only [Act.put, List.setIfInBounds_toArray, List.set_cons_zero, List.set_cons_succ]
     repeat (first | (refine' sch_pure rfl rfl ?_ ?_; rotate_left; · (rintro w' ⟨⟨s0, s1, s2, s3, s4, s5, s6, s7⟩, t0, t1, t2, t3, t4, t5, t6, t7⟩; go_simp <;> rfl)) | (refine sch_skip rfl rfl ?_)); try simp only [Act.put, List.setIfInBounds_toArray, List.set_cons_zero, List.set_cons_succ]
     refine sch_last rfl (fun K hK => ?_)
     go_simp
     refine hK.out _ _ ?_
     clear hK K
     obtain ⟨q0, q1, q2, q3, q4, q5, q6, q7⟩ := X.cells
     obtain ⟨p0, p1, p2, p3, p4, p5, p6, p7⟩ := Y.cells
     go_wp2_with (first | (go_at_call 9; (with_reducible refine (live_calls _ (HG.out.below HB)).mono ?_); rintro e w1 ⟨rfl, hc⟩; skip))
     go_ret
     exact ⟨rfl, HB.trans (hc.mono HB.size)⟩
    | true =>
     rw [hA, if_pos rfl] at DC
     rw [hB, if_pos rfl] at DD
     have PE := PI hA hB
     unfold PutPost at DP DQ
     rw [hA, if_pos rfl, if_pos rfl] at DP
     rw [hB, if_pos rfl, if_pos rfl] at DQ
     have DA := Lib.hid (fun (W : World) (g : GL W) => parse_calls (putT s) W (GLB.of g))
     unfold ParsePost at DA
     obtain ⟨q, hq⟩ : ∃ q, decide (s = t) = q := ⟨_, rfl⟩
     rw [hq] at PE DE
     by_cases hb : ((putT s).size : Int) > 262144
     ·have hl := PL hb
      have hd0 : decide (((putT s).size : Int) ≤ 262144) = false := decide_eq_false (by omega)
      have hd1 : decide (((putT s).size : Int) > 262144) = true := decide_eq_true hb
      rw [hl] at DA
      clear hl PB PL PI DF
      generalize (parseI (putT s)).1 = u at *
      generalize putT s = x at *
      generalize putT t = y at *
      clear hA hB hq
      cases q
      ·go_enter Tryz.func5, Tryz.ntmps5
       go_wp2
       obtain ⟨wd, hwd⟩ : ∃ wd, ((w.alloc (.cells #[a0, a1, a2, a3, a4, a5, a6, a7] 32)).alloc (.cells #[b0, b1, b2, b3, b4, b5, b6, b7] 32)).drew = wd := ⟨_, rfl⟩
       have hdr : Below ((w.alloc (.cells #[a0, a1, a2, a3, a4, a5, a6, a7] 32)).alloc (.cells #[b0, b1, b2, b3, b4, b5, b6, b7] 32)).heap.size ((w.alloc (.cells #[a0, a1, a2, a3, a4, a5, a6, a7] 32)).alloc (.cells #[b0, b1, b2, b3, b4, b5, b6, b7] 32)) wd := hwd ▸ below_drew (Below.refl _ _)
       refine wp_region_sch (fun w' => (w'.cell? ⟨w.heap.size, 0, none⟩ = some a0 ∧ w'.cell? ⟨w.heap.size, 1, none⟩ = some a1 ∧ w'.cell? ⟨w.heap.size, 2, none⟩ = some a2 ∧ w'.cell? ⟨w.heap.size, 3, none⟩ = some a3 ∧ w'.cell? ⟨w.heap.size, 4, none⟩ = some a4 ∧ w'.cell? ⟨w.heap.size, 5, none⟩ = some a5 ∧ w'.cell? ⟨w.heap.size, 6, none⟩ = some a6 ∧ w'.cell? ⟨w.heap.size, 7, none⟩ = some a7) ∧ (w'.cell? ⟨w.heap.size + 1, 0, none⟩ = some b0 ∧ w'.cell? ⟨w.heap.size + 1, 1, none⟩ = some b1 ∧ w'.cell? ⟨w.heap.size + 1, 2, none⟩ = some b2 ∧ w'.cell? ⟨w.heap.size + 1, 3, none⟩ = some b3 ∧ w'.cell? ⟨w.heap.size + 1, 4, none⟩ = some b4 ∧ w'.cell? ⟨w.heap.size + 1, 5, none⟩ = some b5 ∧ w'.cell? ⟨w.heap.size + 1, 6, none⟩ = some b6 ∧ w'.cell? ⟨w.heap.size + 1, 7, none⟩ = some b7)) 17 [(false, 0), (true, 1), (false, 2), (false, 3), (false, 4), (true, 5), (false, 6), (false, 7), (false, 8), (false, 9), (false, 12), (true, 10), (true, 11), (true, 13), (true, 14), (false, 15), (false, 16)] (by kernel_rfl) (by kernel_rfl) (fun _ a d _ _ h => by cases d <;> exact h) wd hwd ⟨(X.on hdr).cells, (Y.on hdr).cells⟩ ?_
       replace X := X.on hdr
       replace Y := Y.on hdr
       replace HB := HB.trans (hdr.mono HB.size)
       clear hdr hwd
       clear q0 q1 q2 q3 q4 q5 q6 q7 p0 p1 p2 p3 p4 p5 p6 p7
       try dsimp only
       repeat (first | (refine' sch_pure rfl rfl ?_ ?_; rotate_left; · (rintro w' ⟨⟨s0, s1, s2, s3, s4, s5, s6, s7⟩, t0, t1, t2, t3, t4, t5, t6, t7⟩; go_simp <;> rfl)) | (refine sch_skip rfl rfl ?_)); try simp only [Act.put, List.setIfInBounds_toArray, List.set_cons_zero, List.set_cons_succ]
       (refine sch_alone rfl (fun K hK => ?_); go_simp; refine (DS.out _ X.row).mono ?_; rintro e w1 ⟨rfl, hc⟩; replace X := X.on hc; replace Y := Y.on hc; replace HB := HB.trans (hc.mono HB.size); clear hc; refine hK.out _ _ ⟨X.cells, Y.cells⟩ ?_; clear hK K)
       try simp only [Act.put, List.setIfInBounds_toArray, List.set_cons_zero, List.set_cons_succ]
       repeat (first | (refine' sch_pure rfl rfl ?_ ?_; rotate_left; · (rintro w' ⟨⟨s0, s1, s2, s3, s4, s5, s6, s7⟩, t0, t1, t2, t3, t4, t5, t6, t7⟩; go_simp <;> rfl)) | (refine sch_skip rfl rfl ?_)); try simp only [Act.put, List.setIfInBounds_toArray, List.set_cons_zero, List.set_cons_succ]
       (refine sch_alone rfl (fun K hK => ?_); go_simp; refine (DT.out _ Y.row).mono ?_; rintro e w1 ⟨rfl, hc⟩; replace X := X.on hc; replace Y := Y.on hc; replace HB := HB.trans (hc.mono HB.size); clear hc; refine hK.out _ _ ⟨X.cells, Y.cells⟩ ?_; clear hK K)
       try simp only [Act.put, List.setIfInBounds_toArray, List.set_cons_zero, List.set_cons_succ]
       repeat (first | (refine' sch_pure rfl rfl ?_ ?_; rotate_left; · (rintro w' ⟨⟨s0, s1, s2, s3, s4, s5, s6, s7⟩, t0, t1, t2, t3, t4, t5, t6, t7⟩; go_simp <;> rfl)) | (refine sch_skip rfl rfl ?_)); try simp only [Act.put, List.setIfInBounds_toArray, List.set_cons_zero, List.set_cons_succ]
       (refine sch_alone rfl (fun K hK => ?_); go_simp; refine (DC.out _ X.row).mono ?_; rintro e w1 ⟨rfl, hc⟩; replace X := X.on hc; replace Y := Y.on hc; replace HB := HB.trans (hc.mono HB.size); clear hc; refine hK.out _ _ ⟨X.cells, Y.cells⟩ ?_; clear hK K)
       try simp only [Act.put, List.setIfInBounds_toArray, List.set_cons_zero, List.set_cons_succ]
       repeat (first | (refine' sch_pure rfl rfl ?_ ?_; rotate_left; · (rintro w' ⟨⟨s0, s1, s2, s3, s4, s5, s6, s7⟩, t0, t1, t2, t3, t4, t5, t6, t7⟩; go_simp <;> rfl)) | (refine sch_skip rfl rfl ?_)); try simp only [Act.put, List.setIfInBounds_toArray, List.set_cons_zero, List.set_cons_succ]
       (refine sch_alone rfl (fun K hK => ?_); go_simp; refine (DN.out _ _).mono ?_; rintro e w1 ⟨rfl, hd⟩; have hc := hd.below; clear hd; replace X := X.on hc; replace Y := Y.on hc; replace HB := HB.trans (hc.mono HB.size); clear hc; refine hK.out _ _ ⟨X.cells, Y.cells⟩ ?_; clear hK K)
       try simp only [Act.put, List.setIfInBounds_toArray, List.set_cons_zero, List.set_cons_succ]
       repeat (first | (refine' sch_pure rfl rfl ?_ ?_; rotate_left; · (rintro w' ⟨⟨s0, s1, s2, s3, s4, s5, s6, s7⟩, t0, t1, t2, t3, t4, t5, t6, t7⟩; go_simp <;> rfl)) | (refine sch_skip rfl rfl ?_)); try simp only [Act.put, List.setIfInBounds_toArray, List.set_cons_zero, List.set_cons_succ]
       (refine sch_alone rfl (fun K hK => ?_); go_simp; refine (DD.out _ Y.row).mono ?_; rintro e w1 ⟨rfl, hc⟩; replace X := X.on hc; replace Y := Y.on hc; replace HB := HB.trans (hc.mono HB.size); clear hc; refine hK.out _ _ ⟨X.cells, Y.cells⟩ ?_; clear hK K)
       try simp only [Act.put, List.setIfInBounds_toArray, List.set_cons_zero, List.set_cons_succ]
       repeat (first | (refine' sch_pure rfl rfl ?_ ?_; rotate_left; · (rintro w' ⟨⟨s0, s1, s2, s3, s4, s5, s6, s7⟩, t0, t1, t2, t3, t4, t5, t6, t7⟩; go_simp <;> rfl)) | (refine sch_skip rfl rfl ?_)); try simp only [Act.put, List.setIfInBounds_toArray, List.set_cons_zero, List.set_cons_succ]
       (refine sch_alone rfl (fun K hK => ?_); go_simp; refine (DN.out _ _).mono ?_; rintro e w1 ⟨rfl, hd⟩; have hc := hd.below; clear hd; replace X := X.on hc; replace Y := Y.on hc; replace HB := HB.trans (hc.mono HB.size); clear hc; refine hK.out _ _ ⟨X.cells, Y.cells⟩ ?_; clear hK K)
       try simp only [Act.put, List.setIfInBounds_toArray, List.set_cons_zero, List.set_cons_succ]
       repeat (first | (refine' sch_pure rfl rfl ?_ ?_; rotate_left; · (rintro w' ⟨⟨s0, s1, s2, s3, s4, s5, s6, s7⟩, t0, t1, t2, t3, t4, t5, t6, t7⟩; go_simp <;> rfl)) | (refine sch_skip rfl rfl ?_)); try simp only [Act.put, List.setIfInBounds_toArray, List.set_cons_zero, List.set_cons_succ]
       refine sch_last rfl (fun K hK => ?_)
       go_simp
       refine hK.out _ _ ?_
       clear hK K
       obtain ⟨q0, q1, q2, q3, q4, q5, q6, q7⟩ := X.cells
       obtain ⟨p0, p1, p2, p3, p4, p5, p6, p7⟩ := Y.cells
       go_wp2_with (first | (first | (go_at_call 12; (with_reducible refine (DN.out _ _).mono ?_); rintro e w1 ⟨rfl, hd⟩; have hc := hd.below; clear hd; replace X := X.on hc; replace Y := Y.on hc; replace Z := Z.on hc; clear q0 q1 q2 q3 q4 q5 q6 q7 p0 p1 p2 p3 p4 p5 p6 p7; clear r0 r1 r2 r3 r4 r5 r6 r7; obtain ⟨q0, q1, q2, q3, q4, q5, q6, q7⟩ := X.cells; obtain ⟨p0, p1, p2, p3, p4, p5, p6, p7⟩ := Y.cells; obtain ⟨r0, r1, r2, r3, r4, r5, r6, r7⟩ := Z.cells; replace HB := HB.trans (hc.mono HB.size); clear hc) | (go_at_call 12; (with_reducible refine (DN.out _ _).mono ?_); rintro e w1 ⟨rfl, hd⟩; have hc := hd.below; clear hd; replace X := X.on hc; replace Y := Y.on hc; clear q0 q1 q2 q3 q4 q5 q6 q7 p0 p1 p2 p3 p4 p5 p6 p7; obtain ⟨q0, q1, q2, q3, q4, q5, q6, q7⟩ := X.cells; obtain ⟨p0, p1, p2, p3, p4, p5, p6, p7⟩ := Y.cells; replace HB := HB.trans (hc.mono HB.size); clear hc)) | (go_at_call 10; (with_reducible refine (DP.out _ X.row (HG.out.below HB)).mono ?_); rintro e w1 ⟨rfl, hc⟩; replace X := X.on hc; replace Y := Y.on hc; clear q0 q1 q2 q3 q4 q5 q6 q7 p0 p1 p2 p3 p4 p5 p6 p7; obtain ⟨q0, q1, q2, q3, q4, q5, q6, q7⟩ := X.cells; obtain ⟨p0, p1, p2, p3, p4, p5, p6, p7⟩ := Y.cells; replace HB := HB.trans (hc.mono HB.size); clear hc) | (go_at_call 10; (with_reducible refine (DQ.out _ Y.row (HG.out.below HB)).mono ?_); rintro e w1 ⟨rfl, hc⟩; replace X := X.on hc; replace Y := Y.on hc; clear q0 q1 q2 q3 q4 q5 q6 q7 p0 p1 p2 p3 p4 p5 p6 p7; obtain ⟨q0, q1, q2, q3, q4, q5, q6, q7⟩ := X.cells; obtain ⟨p0, p1, p2, p3, p4, p5, p6, p7⟩ := Y.cells; replace HB := HB.trans (hc.mono HB.size); clear hc) | (go_at_call 15; (with_reducible refine (DA.out _ (HG.out.below HB)).mono ?_); rintro e w1 ⟨h3, rfl, hr3, hc⟩; obtain ⟨v3, hv3, ha3⟩ := hr3.sv; obtain ⟨B0, B1, B2, B3, B4, B5, B6, B7, e0, e1, e2, e3, e4, e5, e6, e7⟩ := v3; subst hv3; replace X := X.on hc; replace Y := Y.on hc; clear q0 q1 q2 q3 q4 q5 q6 q7 p0 p1 p2 p3 p4 p5 p6 p7; obtain ⟨q0, q1, q2, q3, q4, q5, q6, q7⟩ := X.cells; obtain ⟨p0, p1, p2, p3, p4, p5, p6, p7⟩ := Y.cells; replace HB := HB.trans (hc.mono HB.size); clear hc; have Z := Bx.make ha3 #[.slice B0 u.th.length e0, .slice B1 u.fr.length e1, .slice B2 u.no.length e2, .slice B3 u.tr.length e3, .slice B4 u.po.length e4, .slice B5 u.li.length e5, .slice B6 u.ro.length e6, .slice B7 u.sw.length e7]; have hc := (Below.refl w1.heap.size w1).alloc (Nat.le_refl _) (.cells #[.slice B0 u.th.length e0, .slice B1 u.fr.length e1, .slice B2 u.no.length e2, .slice B3 u.tr.length e3, .slice B4 u.po.length e4, .slice B5 u.li.length e5, .slice B6 u.ro.length e6, .slice B7 u.sw.length e7] 32); replace X := X.on hc; replace Y := Y.on hc; clear q0 q1 q2 q3 q4 q5 q6 q7 p0 p1 p2 p3 p4 p5 p6 p7; obtain ⟨q0, q1, q2, q3, q4, q5, q6, q7⟩ := X.cells; obtain ⟨p0, p1, p2, p3, p4, p5, p6, p7⟩ := Y.cells; replace HB := HB.trans (hc.mono HB.size); clear hc; obtain ⟨r0, r1, r2, r3, r4, r5, r6, r7⟩ := Z.cells) | (go_at_call 17; (with_reducible refine (DE.out _ X.row Y.row).mono ?_); rintro e w1 ⟨rfl, hc⟩; replace X := X.on hc; replace Y := Y.on hc; replace Z := Z.on hc; clear q0 q1 q2 q3 q4 q5 q6 q7 p0 p1 p2 p3 p4 p5 p6 p7; clear r0 r1 r2 r3 r4 r5 r6 r7; obtain ⟨q0, q1, q2, q3, q4, q5, q6, q7⟩ := X.cells; obtain ⟨p0, p1, p2, p3, p4, p5, p6, p7⟩ := Y.cells; obtain ⟨r0, r1, r2, r3, r4, r5, r6, r7⟩ := Z.cells; replace HB := HB.trans (hc.mono HB.size); clear hc) | (go_at_call 9; (with_reducible refine (live_calls _ (HG.out.below HB)).mono ?_); rintro e w1 ⟨rfl, hc⟩; skip))
       go_ret
       exact ⟨rfl, HB.trans (hc.mono HB.size)⟩
      ·go_enter Tryz.func5, Tryz.ntmps5
       go_wp2
       obtain ⟨wd, hwd⟩ : ∃ wd, ((w.alloc (.cells #[a0, a1, a2, a3, a4, a5, a6, a7] 32)).alloc (.cells #[b0, b1, b2, b3, b4, b5, b6, b7] 32)).drew = wd := ⟨_, rfl⟩
       have hdr : Below ((w.alloc (.cells #[a0, a1, a2, a3, a4, a5, a6, a7] 32)).alloc (.cells #[b0, b1, b2, b3, b4, b5, b6, b7] 32)).heap.size ((w.alloc (.cells #[a0, a1, a2, a3, a4, a5, a6, a7] 32)).alloc (.cells #[b0, b1, b2, b3, b4, b5, b6, b7] 32)) wd := hwd ▸ below_drew (Below.refl _ _)
       refine wp_region_sch (fun w' => (w'.cell? ⟨w.heap.size, 0, none⟩ = some a0 ∧ w'.cell? ⟨w.heap.size, 1, none⟩ = some a1 ∧ w'.cell? ⟨w.heap.size, 2, none⟩ = some a2 ∧ w'.cell? ⟨w.heap.size, 3, none⟩ = some a3 ∧ w'.cell? ⟨w.heap.size, 4, none⟩ = some a4 ∧ w'.cell? ⟨w.heap.size, 5, none⟩ = some a5 ∧ w'.cell? ⟨w.heap.size, 6, none⟩ = some a6 ∧ w'.cell? ⟨w.heap.size, 7, none⟩ = some a7) ∧ (w'.cell? ⟨w.heap.size + 1, 0, none⟩ = some b0 ∧ w'.cell? ⟨w.heap.size + 1, 1, none⟩ = some b1 ∧ w'.cell? ⟨w.heap.size + 1, 2, none⟩ = some b2 ∧ w'.cell? ⟨w.heap.size + 1, 3, none⟩ = some b3 ∧ w'.cell? ⟨w.heap.size + 1, 4, none⟩ = some b4 ∧ w'.cell? ⟨w.heap.size + 1, 5, none⟩ = some b5 ∧ w'.cell? ⟨w.heap.size + 1, 6, none⟩ = some b6 ∧ w'.cell? ⟨w.heap.size + 1, 7, none⟩ = some b7)) 17 [(false, 0), (true, 1), (false, 2), (false, 3), (false, 4), (true, 5), (false, 6), (false, 7), (false, 8), (false, 9), (false, 12), (true, 10), (true, 11), (true, 13), (true, 14), (false, 15), (false, 16)] (by kernel_rfl) (by kernel_rfl) (fun _ a d _ _ h => by cases d <;> exact h) wd hwd ⟨(X.on hdr).cells, (Y.on hdr).cells⟩ ?_
       replace X := X.on hdr
       replace Y := Y.on hdr
       replace HB := HB.trans (hdr.mono HB.size)
       clear hdr hwd
       clear q0 q1 q2 q3 q4 q5 q6 q7 p0 p1 p2 p3 p4 p5 p6 p7
       try dsimp only
       repeat (first | (refine' sch_pure rfl rfl ?_ ?_; rotate_left; · (rintro w' ⟨⟨s0, s1, s2, s3, s4, s5, s6, s7⟩, t0, t1, t2, t3, t4, t5, t6, t7⟩; go_simp <;> rfl)) | (refine sch_skip rfl rfl ?_)); try simp only [Act.put, List.setIfInBounds_toArray, List.set_cons_zero, List.set_cons_succ]
       (refine sch_alone rfl (fun K hK => ?_); go_simp; refine (DS.out _ X.row).mono ?_; rintro e w1 ⟨rfl, hc⟩; replace X := X.on hc; replace Y := Y.on hc; replace HB := HB.trans (hc.mono HB.size); clear hc; refine hK.out _ _ ⟨X.cells, Y.cells⟩ ?_; clear hK K)
       try simp only [Act.put, List.setIfInBounds_toArray, List.set_cons_zero, List.set_cons_succ]
       repeat (first | (refine' sch_pure rfl rfl ?_ ?_; rotate_left; · (rintro w' ⟨⟨s0, s1, s2, s3, s4, s5, s6, s7⟩, t0, t1, t2, t3, t4, t5, t6, t7⟩; go_simp <;> rfl)) | (refine sch_skip rfl rfl ?_)); try simp only [Act.put, List.setIfInBounds_toArray, List.set_cons_zero, List.set_cons_succ]
       (refine sch_alone rfl (fun K hK => ?_); go_simp; refine (DT.out _ Y.row).mono ?_; rintro e w1 ⟨rfl, hc⟩; replace X := X.on hc; replace Y := Y.on hc; replace HB := HB.trans (hc.mono HB.size); clear hc; refine hK.out _ _ ⟨X.cells, Y.cells⟩ ?_; clear hK K)
       try simp only [Act.put, List.setIfInBounds_toArray, List.set_cons_zero, List.set_cons_succ]
       repeat (first | (refine' sch_pure rfl rfl ?_ ?_; rotate_left; · (rintro w' ⟨⟨s0, s1, s2, s3, s4, s5, s6, s7⟩, t0, t1, t2, t3, t4, t5, t6, t7⟩; go_simp <;> rfl)) | (refine sch_skip rfl rfl ?_)); try simp only [Act.put, List.setIfInBounds_toArray, List.set_cons_zero, List.set_cons_succ]
       (refine sch_alone rfl (fun K hK => ?_); go_simp; refine (DC.out _ X.row).mono ?_; rintro e w1 ⟨rfl, hc⟩; replace X := X.on hc; replace Y := Y.on hc; replace HB := HB.trans (hc.mono HB.size); clear hc; refine hK.out _ _ ⟨X.cells, Y.cells⟩ ?_; clear hK K)
       try simp only [Act.put, List.setIfInBounds_toArray, List.set_cons_zero, List.set_cons_succ]
       repeat (first | (refine' sch_pure rfl rfl ?_ ?_; rotate_left; · (rintro w' ⟨⟨s0, s1, s2, s3, s4, s5, s6, s7⟩, t0, t1, t2, t3, t4, t5, t6, t7⟩; go_simp <;> rfl)) | (refine sch_skip rfl rfl ?_)); try simp only [Act.put, List.setIfInBounds_toArray, List.set_cons_zero, List.set_cons_succ]
       (refine sch_alone rfl (fun K hK => ?_); go_simp; refine (DN.out _ _).mono ?_; rintro e w1 ⟨rfl, hd⟩; have hc := hd.below; clear hd; replace X := X.on hc; replace Y := Y.on hc; replace HB := HB.trans (hc.mono HB.size); clear hc; refine hK.out _ _ ⟨X.cells, Y.cells⟩ ?_; clear hK K)
       try simp only [Act.put, List.setIfInBounds_toArray, List.set_cons_zero, List.set_cons_succ]
       repeat (first | (refine' sch_pure rfl rfl ?_ ?_; rotate_left; · (rintro w' ⟨⟨s0, s1, s2, s3, s4, s5, s6, s7⟩, t0, t1, t2, t3, t4, t5, t6, t7⟩; go_simp <;> rfl)) | (refine sch_skip rfl rfl ?_)); try simp only [Act.put, List.setIfInBounds_toArray, List.set_cons_zero, List.set_cons_succ]
       (refine sch_alone rfl (fun K hK => ?_); go_simp; refine (DD.out _ Y.row).mono ?_; rintro e w1 ⟨rfl, hc⟩; replace X := X.on hc; replace Y := Y.on hc; replace HB := HB.trans (hc.mono HB.size); clear hc; refine hK.out _ _ ⟨X.cells, Y.cells⟩ ?_; clear hK K)
       try simp only [Act.put, List.setIfInBounds_toArray, List.set_cons_zero, List.set_cons_succ]
       repeat (first | (refine' sch_pure rfl rfl ?_ ?_; rotate_left; · (rintro w' ⟨⟨s0, s1, s2, s3, s4, s5, s6, s7⟩, t0, t1, t2, t3, t4, t5, t6, t7⟩; go_simp <;> rfl)) | (refine sch_skip rfl rfl ?_)); try simp only [Act.put, List.setIfInBounds_toArray, List.set_cons_zero, List.set_cons_succ]
       (refine sch_alone rfl (fun K hK => ?_); go_simp; refine (DN.out _ _).mono ?_; rintro e w1 ⟨rfl, hd⟩; have hc := hd.below; clear hd; replace X := X.on hc; replace Y := Y.on hc; replace HB := HB.trans (hc.mono HB.size); clear hc; refine hK.out _ _ ⟨X.cells, Y.cells⟩ ?_; clear hK K)
       try simp only [Act.put, List.setIfInBounds_toArray, List.set_cons_zero, List.set_cons_succ]
       repeat (first | (refine' sch_pure rfl rfl ?_ ?_; rotate_left; · (rintro w' ⟨⟨s0, s1, s2, s3, s4, s5, s6, s7⟩, t0, t1, t2, t3, t4, t5, t6, t7⟩; go_simp <;> rfl)) | (refine sch_skip rfl rfl ?_)); try simp only [Act.put, List.setIfInBounds_toArray, List.set_cons_zero, List.set_cons_succ]
       refine sch_last rfl (fun K hK => ?_)
       go_simp
       refine hK.out _ _ ?_
       clear hK K
       obtain ⟨q0, q1, q2, q3, q4, q5, q6, q7⟩ := X.cells
       obtain ⟨p0, p1, p2, p3, p4, p5, p6, p7⟩ := Y.cells
       go_wp2_with (first | (first | (go_at_call 12; (with_reducible refine (DN.out _ _).mono ?_); rintro e w1 ⟨rfl, hd⟩; have hc := hd.below; clear hd; replace X := X.on hc; replace Y := Y.on hc; replace Z := Z.on hc; clear q0 q1 q2 q3 q4 q5 q6 q7 p0 p1 p2 p3 p4 p5 p6 p7; clear r0 r1 r2 r3 r4 r5 r6 r7; obtain ⟨q0, q1, q2, q3, q4, q5, q6, q7⟩ := X.cells; obtain ⟨p0, p1, p2, p3, p4, p5, p6, p7⟩ := Y.cells; obtain ⟨r0, r1, r2, r3, r4, r5, r6, r7⟩ := Z.cells; replace HB := HB.trans (hc.mono HB.size); clear hc) | (go_at_call 12; (with_reducible refine (DN.out _ _).mono ?_); rintro e w1 ⟨rfl, hd⟩; have hc := hd.below; clear hd; replace X := X.on hc; replace Y := Y.on hc; clear q0 q1 q2 q3 q4 q5 q6 q7 p0 p1 p2 p3 p4 p5 p6 p7; obtain ⟨q0, q1, q2, q3, q4, q5, q6, q7⟩ := X.cells; obtain ⟨p0, p1, p2, p3, p4, p5, p6, p7⟩ := Y.cells; replace HB := HB.trans (hc.mono HB.size); clear hc)) | (go_at_call 10; (with_reducible refine (DP.out _ X.row (HG.out.below HB)).mono ?_); rintro e w1 ⟨rfl, hc⟩; replace X := X.on hc; replace Y := Y.on hc; clear q0 q1 q2 q3 q4 q5 q6 q7 p0 p1 p2 p3 p4 p5 p6 p7; obtain ⟨q0, q1, q2, q3, q4, q5, q6, q7⟩ := X.cells; obtain ⟨p0, p1, p2, p3, p4, p5, p6, p7⟩ := Y.cells; replace HB := HB.trans (hc.mono HB.size); clear hc) | (go_at_call 10; (with_reducible refine (DQ.out _ Y.row (HG.out.below HB)).mono ?_); rintro e w1 ⟨rfl, hc⟩; replace X := X.on hc; replace Y := Y.on hc; clear q0 q1 q2 q3 q4 q5 q6 q7 p0 p1 p2 p3 p4 p5 p6 p7; obtain ⟨q0, q1, q2, q3, q4, q5, q6, q7⟩ := X.cells; obtain ⟨p0, p1, p2, p3, p4, p5, p6, p7⟩ := Y.cells; replace HB := HB.trans (hc.mono HB.size); clear hc) | (go_at_call 15; (with_reducible refine (DA.out _ (HG.out.below HB)).mono ?_); rintro e w1 ⟨h3, rfl, hr3, hc⟩; obtain ⟨v3, hv3, ha3⟩ := hr3.sv; obtain ⟨B0, B1, B2, B3, B4, B5, B6, B7, e0, e1, e2, e3, e4, e5, e6, e7⟩ := v3; subst hv3; replace X := X.on hc; replace Y := Y.on hc; clear q0 q1 q2 q3 q4 q5 q6 q7 p0 p1 p2 p3 p4 p5 p6 p7; obtain ⟨q0, q1, q2, q3, q4, q5, q6, q7⟩ := X.cells; obtain ⟨p0, p1, p2, p3, p4, p5, p6, p7⟩ := Y.cells; replace HB := HB.trans (hc.mono HB.size); clear hc; have Z := Bx.make ha3 #[.slice B0 u.th.length e0, .slice B1 u.fr.length e1, .slice B2 u.no.length e2, .slice B3 u.tr.length e3, .slice B4 u.po.length e4, .slice B5 u.li.length e5, .slice B6 u.ro.length e6, .slice B7 u.sw.length e7]; have hc := (Below.refl w1.heap.size w1).alloc (Nat.le_refl _) (.cells #[.slice B0 u.th.length e0, .slice B1 u.fr.length e1, .slice B2 u.no.length e2, .slice B3 u.tr.length e3, .slice B4 u.po.length e4, .slice B5 u.li.length e5, .slice B6 u.ro.length e6, .slice B7 u.sw.length e7] 32); replace X := X.on hc; replace Y := Y.on hc; clear q0 q1 q2 q3 q4 q5 q6 q7 p0 p1 p2 p3 p4 p5 p6 p7; obtain ⟨q0, q1, q2, q3, q4, q5, q6, q7⟩ := X.cells; obtain ⟨p0, p1, p2, p3, p4, p5, p6, p7⟩ := Y.cells; replace HB := HB.trans (hc.mono HB.size); clear hc; obtain ⟨r0, r1, r2, r3, r4, r5, r6, r7⟩ := Z.cells) | (go_at_call 17; (with_reducible refine (DE.out _ X.row Y.row).mono ?_); rintro e w1 ⟨rfl, hc⟩; replace X := X.on hc; replace Y := Y.on hc; replace Z := Z.on hc; clear q0 q1 q2 q3 q4 q5 q6 q7 p0 p1 p2 p3 p4 p5 p6 p7; clear r0 r1 r2 r3 r4 r5 r6 r7; obtain ⟨q0, q1, q2, q3, q4, q5, q6, q7⟩ := X.cells; obtain ⟨p0, p1, p2, p3, p4, p5, p6, p7⟩ := Y.cells; obtain ⟨r0, r1, r2, r3, r4, r5, r6, r7⟩ := Z.cells; replace HB := HB.trans (hc.mono HB.size); clear hc) | (go_at_call 9; (with_reducible refine (live_calls _ (HG.out.below HB)).mono ?_); rintro e w1 ⟨rfl, hc⟩; skip))
       go_ret
       exact ⟨rfl, HB.trans (hc.mono HB.size)⟩
     ·have hl := PB hA hb
      have hd0 : decide (((putT s).size : Int) ≤ 262144) = true := decide_eq_true (by omega)
      have hd1 : decide (((putT s).size : Int) > 262144) = false := decide_eq_false hb
      rw [hl] at DA
      replace DF := Lib.hid (fun k W A A' => (decide_eq_true (rfl : s = s)) ▸ DF.out k s W A A')
      clear hl PB PL PI
      obtain ⟨u, hu⟩ : ∃ u, u = s := ⟨_, rfl⟩
      generalize putT s = x at *
      generalize putT t = y at *
      clear hA hB hq
      cases q
      ·go_enter Tryz.func5, Tryz.ntmps5
       go_wp2
       obtain ⟨wd, hwd⟩ : ∃ wd, ((w.alloc (.cells #[a0, a1, a2, a3, a4, a5, a6, a7] 32)).alloc (.cells #[b0, b1, b2, b3, b4, b5, b6, b7] 32)).drew = wd := ⟨_, rfl⟩
       have hdr : Below ((w.alloc (.cells #[a0, a1, a2, a3, a4, a5, a6, a7] 32)).alloc (.cells #[b0, b1, b2, b3, b4, b5, b6, b7] 32)).heap.size ((w.alloc (.cells #[a0, a1, a2, a3, a4, a5, a6, a7] 32)).alloc (.cells #[b0, b1, b2, b3, b4, b5, b6, b7] 32)) wd := hwd ▸ below_drew (Below.refl _ _)
       refine wp_region_sch (fun w' => (w'.cell? ⟨w.heap.size, 0, none⟩ = some a0 ∧ w'.cell? ⟨w.heap.size, 1, none⟩ = some a1 ∧ w'.cell? ⟨w.heap.size, 2, none⟩ = some a2 ∧ w'.cell? ⟨w.heap.size, 3, none⟩ = some a3 ∧ w'.cell? ⟨w.heap.size, 4, none⟩ = some a4 ∧ w'.cell? ⟨w.heap.size, 5, none⟩ = some a5 ∧ w'.cell? ⟨w.heap.size, 6, none⟩ = some a6 ∧ w'.cell? ⟨w.heap.size, 7, none⟩ = some a7) ∧ (w'.cell? ⟨w.heap.size + 1, 0, none⟩ = some b0 ∧ w'.cell? ⟨w.heap.size + 1, 1, none⟩ = some b1 ∧ w'.cell? ⟨w.heap.size + 1, 2, none⟩ = some b2 ∧ w'.cell? ⟨w.heap.size + 1, 3, none⟩ = some b3 ∧ w'.cell? ⟨w.heap.size + 1, 4, none⟩ = some b4 ∧ w'.cell? ⟨w.heap.size + 1, 5, none⟩ = some b5 ∧ w'.cell? ⟨w.heap.size + 1, 6, none⟩ = some b6 ∧ w'.cell? ⟨w.heap.size + 1, 7, none⟩ = some b7)) 17 [(false, 0), (true, 1), (false, 2), (false, 3), (false, 4), (true, 5), (false, 6), (false, 7), (false, 8), (false, 9), (false, 12), (true, 10), (true, 11), (true, 13), (true, 14), (false, 15), (false, 16)] (by kernel_rfl) (by kernel_rfl) (fun _ a d _ _ h => by cases d <;> exact h) wd hwd ⟨(X.on hdr).cells, (Y.on hdr).cells⟩ ?_
       replace X := X.on hdr
       replace Y := Y.on hdr
       replace HB := HB.trans (hdr.mono HB.size)
       clear hdr hwd
       clear q0 q1 q2 q3 q4 q5 q6 q7 p0 p1 p2 p3 p4 p5 p6 p7
       try dsimp only
       repeat (first | (refine' sch_pure rfl rfl ?_ ?_; rotate_left; · (rintro w' ⟨⟨s0, s1, s2, s3, s4, s5, s6, s7⟩, t0, t1, t2, t3, t4, t5, t6, t7⟩; go_simp <;> rfl)) | (refine sch_skip rfl rfl ?_)); try simp only [Act.put, List.setIfInBounds_toArray, List.set_cons_zero, List.set_cons_succ]
       (refine sch_alone rfl (fun K hK => ?_); go_simp; refine (DS.out _ X.row).mono ?_; rintro e w1 ⟨rfl, hc⟩; replace X := X.on hc; replace Y := Y.on hc; replace HB := HB.trans (hc.mono HB.size); clear hc; refine hK.out _ _ ⟨X.cells, Y.cells⟩ ?_; clear hK K)
       try simp only [Act.put, List.setIfInBounds_toArray, List.set_cons_zero, List.set_cons_succ]
       repeat (first | (refine' sch_pure rfl rfl ?_ ?_; rotate_left; · (rintro w' ⟨⟨s0, s1, s2, s3, s4, s5, s6, s7⟩, t0, t1, t2, t3, t4, t5, t6, t7⟩; go_simp <;> rfl)) | (refine sch_skip rfl rfl ?_)); try simp only [Act.put, List.setIfInBounds_toArray, List.set_cons_zero, List.set_cons_succ]
       (refine sch_alone rfl (fun K hK => ?_); go_simp; refine (DT.out _ Y.row).mono ?_; rintro e w1 ⟨rfl, hc⟩; replace X := X.on hc; replace Y := Y.on hc; replace HB := HB.trans (hc.mono HB.size); clear hc; refine hK.out _ _ ⟨X.cells, Y.cells⟩ ?_; clear hK K)
       try simp only [Act.put, List.setIfInBounds_toArray, List.set_cons_zero, List.set_cons_succ]
       repeat (first | (refine' sch_pure rfl rfl ?_ ?_; rotate_left; · (rintro w' ⟨⟨s0, s1, s2, s3, s4, s5, s6, s7⟩, t0, t1, t2, t3, t4, t5, t6, t7⟩; go_simp <;> rfl)) | (refine sch_skip rfl rfl ?_)); try simp only [Act.put, List.setIfInBounds_toArray, List.set_cons_zero, List.set_cons_succ]
       (refine sch_alone rfl (fun K hK => ?_); go_simp; refine (DC.out _ X.row).mono ?_; rintro e w1 ⟨rfl, hc⟩; replace X := X.on hc; replace Y := Y.on hc; replace HB := HB.trans (hc.mono HB.size); clear hc; refine hK.out _ _ ⟨X.cells, Y.cells⟩ ?_; clear hK K)
       try simp only [Act.put, List.setIfInBounds_toArray, List.set_cons_zero, List.set_cons_succ]
       repeat (first | (refine' sch_pure rfl rfl ?_ ?_; rotate_left; · (rintro w' ⟨⟨s0, s1, s2, s3, s4, s5, s6, s7⟩, t0, t1, t2, t3, t4, t5, t6, t7⟩; go_simp <;> rfl)) | (refine sch_skip rfl rfl ?_)); try simp only [Act.put, List.setIfInBounds_toArray, List.set_cons_zero, List.set_cons_succ]
       (refine sch_alone rfl (fun K hK => ?_); go_simp; refine (DN.out _ _).mono ?_; rintro e w1 ⟨rfl, hd⟩; have hc := hd.below; clear hd; replace X := X.on hc; replace Y := Y.on hc; replace HB := HB.trans (hc.mono HB.size); clear hc; refine hK.out _ _ ⟨X.cells, Y.cells⟩ ?_; clear hK K)
       try simp only [Act.put, List.setIfInBounds_toArray, List.set_cons_zero, List.set_cons_succ]
       repeat (first | (refine' sch_pure rfl rfl ?_ ?_; rotate_left; · (rintro w' ⟨⟨s0, s1, s2, s3, s4, s5, s6, s7⟩, t0, t1, t2, t3, t4, t5, t6, t7⟩; go_simp <;> rfl)) | (refine sch_skip rfl rfl ?_)); try simp only [Act.put, List.setIfInBounds_toArray, List.set_cons_zero, List.set_cons_succ]
       (refine sch_alone rfl (fun K hK => ?_); go_simp; refine (DD.out _ Y.row).mono ?_; rintro e w1 ⟨rfl, hc⟩; replace X := X.on hc; replace Y := Y.on hc; replace HB := HB.trans (hc.mono HB.size); clear hc; refine hK.out _ _ ⟨X.cells, Y.cells⟩ ?_; clear hK K)
       try simp only [Act.put, List.setIfInBounds_toArray, List.set_cons_zero, List.set_cons_succ]
       repeat (first | (refine' sch_pure rfl rfl ?_ ?_; rotate_left; · (rintro w' ⟨⟨s0, s1, s2, s3, s4, s5, s6, s7⟩, t0, t1, t2, t3, t4, t5, t6, t7⟩; go_simp <;> rfl)) | (refine sch_skip rfl rfl ?_)); try simp only [Act.put, List.setIfInBounds_toArray, List.set_cons_zero, List.set_cons_succ]
       (refine sch_alone rfl (fun K hK => ?_); go_simp; refine (DN.out _ _).mono ?_; rintro e w1 ⟨rfl, hd⟩; have hc := hd.below; clear hd; replace X := X.on hc; replace Y := Y.on hc; replace HB := HB.trans (hc.mono HB.size); clear hc; refine hK.out _ _ ⟨X.cells, Y.cells⟩ ?_; clear hK K)
       try simp only [Act.put, List.setIfInBounds_toArray, List.set_cons_zero, List.set_cons_succ]
       repeat (first | (refine' sch_pure rfl rfl ?_ ?_; rotate_left; · (rintro w' ⟨⟨s0, s1, s2, s3, s4, s5, s6, s7⟩, t0, t1, t2, t3, t4, t5, t6, t7⟩; go_simp <;> rfl)) | (refine sch_skip rfl rfl ?_)); try simp only [Act.put, List.setIfInBounds_toArray, List.set_cons_zero, List.set_cons_succ]
       refine sch_last rfl (fun K hK => ?_)
       go_simp
       refine hK.out _ _ ?_
       clear hK K
       obtain ⟨q0, q1, q2, q3, q4, q5, q6, q7⟩ := X.cells
       obtain ⟨p0, p1, p2, p3, p4, p5, p6, p7⟩ := Y.cells
       go_wp2_with (first | (first | (go_at_call 12; (with_reducible refine (DN.out _ _).mono ?_); rintro e w1 ⟨rfl, hd⟩; have hc := hd.below; clear hd; replace X := X.on hc; replace Y := Y.on hc; replace Z := Z.on hc; clear q0 q1 q2 q3 q4 q5 q6 q7 p0 p1 p2 p3 p4 p5 p6 p7; clear r0 r1 r2 r3 r4 r5 r6 r7; obtain ⟨q0, q1, q2, q3, q4, q5, q6, q7⟩ := X.cells; obtain ⟨p0, p1, p2, p3, p4, p5, p6, p7⟩ := Y.cells; obtain ⟨r0, r1, r2, r3, r4, r5, r6, r7⟩ := Z.cells; replace HB := HB.trans (hc.mono HB.size); clear hc) | (go_at_call 12; (with_reducible refine (DN.out _ _).mono ?_); rintro e w1 ⟨rfl, hd⟩; have hc := hd.below; clear hd; replace X := X.on hc; replace Y := Y.on hc; clear q0 q1 q2 q3 q4 q5 q6 q7 p0 p1 p2 p3 p4 p5 p6 p7; obtain ⟨q0, q1, q2, q3, q4, q5, q6, q7⟩ := X.cells; obtain ⟨p0, p1, p2, p3, p4, p5, p6, p7⟩ := Y.cells; replace HB := HB.trans (hc.mono HB.size); clear hc)) | (go_at_call 10; (with_reducible refine (DP.out _ X.row (HG.out.below HB)).mono ?_); rintro e w1 ⟨rfl, hc⟩; replace X := X.on hc; replace Y := Y.on hc; clear q0 q1 q2 q3 q4 q5 q6 q7 p0 p1 p2 p3 p4 p5 p6 p7; obtain ⟨q0, q1, q2, q3, q4, q5, q6, q7⟩ := X.cells; obtain ⟨p0, p1, p2, p3, p4, p5, p6, p7⟩ := Y.cells; replace HB := HB.trans (hc.mono HB.size); clear hc) | (go_at_call 10; (with_reducible refine (DQ.out _ Y.row (HG.out.below HB)).mono ?_); rintro e w1 ⟨rfl, hc⟩; replace X := X.on hc; replace Y := Y.on hc; clear q0 q1 q2 q3 q4 q5 q6 q7 p0 p1 p2 p3 p4 p5 p6 p7; obtain ⟨q0, q1, q2, q3, q4, q5, q6, q7⟩ := X.cells; obtain ⟨p0, p1, p2, p3, p4, p5, p6, p7⟩ := Y.cells; replace HB := HB.trans (hc.mono HB.size); clear hc) | (go_at_call 15; (with_reducible refine (DA.out _ (HG.out.below HB)).mono ?_); rintro e w1 ⟨h3, rfl, hr3, hc⟩; obtain ⟨v3, hv3, ha3⟩ := hr3.sv; obtain ⟨B0, B1, B2, B3, B4, B5, B6, B7, e0, e1, e2, e3, e4, e5, e6, e7⟩ := v3; subst hv3; replace X := X.on hc; replace Y := Y.on hc; clear q0 q1 q2 q3 q4 q5 q6 q7 p0 p1 p2 p3 p4 p5 p6 p7; obtain ⟨q0, q1, q2, q3, q4, q5, q6, q7⟩ := X.cells; obtain ⟨p0, p1, p2, p3, p4, p5, p6, p7⟩ := Y.cells; replace HB := HB.trans (hc.mono HB.size); clear hc; have Z := Bx.make ha3 #[.slice B0 s.th.length e0, .slice B1 s.fr.length e1, .slice B2 s.no.length e2, .slice B3 s.tr.length e3, .slice B4 s.po.length e4, .slice B5 s.li.length e5, .slice B6 s.ro.length e6, .slice B7 s.sw.length e7]; have hc := (Below.refl w1.heap.size w1).alloc (Nat.le_refl _) (.cells #[.slice B0 s.th.length e0, .slice B1 s.fr.length e1, .slice B2 s.no.length e2, .slice B3 s.tr.length e3, .slice B4 s.po.length e4, .slice B5 s.li.length e5, .slice B6 s.ro.length e6, .slice B7 s.sw.length e7] 32); replace X := X.on hc; replace Y := Y.on hc; clear q0 q1 q2 q3 q4 q5 q6 q7 p0 p1 p2 p3 p4 p5 p6 p7; obtain ⟨q0, q1, q2, q3, q4, q5, q6, q7⟩ := X.cells; obtain ⟨p0, p1, p2, p3, p4, p5, p6, p7⟩ := Y.cells; replace HB := HB.trans (hc.mono HB.size); clear hc; obtain ⟨r0, r1, r2, r3, r4, r5, r6, r7⟩ := Z.cells) | (go_at_call 17; (with_reducible refine (DE.out _ X.row Y.row).mono ?_); rintro e w1 ⟨rfl, hc⟩; replace X := X.on hc; replace Y := Y.on hc; replace Z := Z.on hc; clear q0 q1 q2 q3 q4 q5 q6 q7 p0 p1 p2 p3 p4 p5 p6 p7; clear r0 r1 r2 r3 r4 r5 r6 r7; obtain ⟨q0, q1, q2, q3, q4, q5, q6, q7⟩ := X.cells; obtain ⟨p0, p1, p2, p3, p4, p5, p6, p7⟩ := Y.cells; obtain ⟨r0, r1, r2, r3, r4, r5, r6, r7⟩ := Z.cells; replace HB := HB.trans (hc.mono HB.size); clear hc) | (go_at_call 17; (with_reducible refine (DF.out _ _ X.row Z.row).mono ?_); rintro e w1 ⟨rfl, hc⟩; replace X := X.on hc; replace Y := Y.on hc; replace Z := Z.on hc; clear q0 q1 q2 q3 q4 q5 q6 q7 p0 p1 p2 p3 p4 p5 p6 p7; clear r0 r1 r2 r3 r4 r5 r6 r7; obtain ⟨q0, q1, q2, q3, q4, q5, q6, q7⟩ := X.cells; obtain ⟨p0, p1, p2, p3, p4, p5, p6, p7⟩ := Y.cells; obtain ⟨r0, r1, r2, r3, r4, r5, r6, r7⟩ := Z.cells; replace HB := HB.trans (hc.mono HB.size); clear hc) | (go_at_call 9; (with_reducible refine (live_calls _ (HG.out.below HB)).mono ?_); rintro e w1 ⟨rfl, hc⟩; skip))
       go_ret
       exact ⟨rfl, HB.trans (hc.mono HB.size)⟩
      ·go_enter Tryz.func5, Tryz.ntmps5
       go_wp2
       obtain ⟨wd, hwd⟩ : ∃ wd, ((w.alloc (.cells #[a0, a1, a2, a3, a4, a5, a6, a7] 32)).alloc (.cells #[b0, b1, b2, b3, b4, b5, b6, b7] 32)).drew = wd := ⟨_, rfl⟩
       have hdr : Below ((w.alloc (.cells #[a0, a1, a2, a3, a4, a5, a6, a7] 32)).alloc (.cells #[b0, b1, b2, b3, b4, b5, b6, b7] 32)).heap.size ((w.alloc (.cells #[a0, a1, a2, a3, a4, a5, a6, a7] 32)).alloc (.cells #[b0, b1, b2, b3, b4, b5, b6, b7] 32)) wd := hwd ▸ below_drew (Below.refl _ _)
       refine wp_region_sch (fun w' => (w'.cell? ⟨w.heap.size, 0, none⟩ = some a0 ∧ w'.cell? ⟨w.heap.size, 1, none⟩ = some a1 ∧ w'.cell? ⟨w.heap.size, 2, none⟩ = some a2 ∧ w'.cell? ⟨w.heap.size, 3, none⟩ = some a3 ∧ w'.cell? ⟨w.heap.size, 4, none⟩ = some a4 ∧ w'.cell? ⟨w.heap.size, 5, none⟩ = some a5 ∧ w'.cell? ⟨w.heap.size, 6, none⟩ = some a6 ∧ w'.cell? ⟨w.heap.size, 7, none⟩ = some a7) ∧ (w'.cell? ⟨w.heap.size + 1, 0, none⟩ = some b0 ∧ w'.cell? ⟨w.heap.size + 1, 1, none⟩ = some b1 ∧ w'.cell? ⟨w.heap.size + 1, 2, none⟩ = some b2 ∧ w'.cell? ⟨w.heap.size + 1, 3, none⟩ = some b3 ∧ w'.cell? ⟨w.heap.size + 1, 4, none⟩ = some b4 ∧ w'.cell? ⟨w.heap.size + 1, 5, none⟩ = some b5 ∧ w'.cell? ⟨w.heap.size + 1, 6, none⟩ = some b6 ∧ w'.cell? ⟨w.heap.size + 1, 7, none⟩ = some b7)) 17 [(false, 0), (true, 1), (false, 2), (false, 3), (false, 4), (true, 5), (false, 6), (false, 7), (false, 8), (false, 9), (false, 12), (true, 10), (true, 11), (true, 13), (true, 14), (false, 15), (false, 16)] (by kernel_rfl) (by kernel_rfl) (fun _ a d _ _ h => by cases d <;> exact h) wd hwd ⟨(X.on hdr).cells, (Y.on hdr).cells⟩ ?_
       replace X := X.on hdr
       replace Y := Y.on hdr
       replace HB := HB.trans (hdr.mono HB.size)
       clear hdr hwd
       clear q0 q1 q2 q3 q4 q5 q6 q7 p0 p1 p2 p3 p4 p5 p6 p7
       try dsimp only
       repeat (first | (refine' sch_pure rfl rfl ?_ ?_; rotate_left; · (rintro w' ⟨⟨s0, s1, s2, s3, s4, s5, s6, s7⟩, t0, t1, t2, t3, t4, t5, t6, t7⟩; go_simp <;> rfl)) | (refine sch_skip rfl rfl ?_)); try simp only [Act.put, List.setIfInBounds_toArray, List.set_cons_zero, List.set_cons_succ]
       (refine sch_alone rfl (fun K hK => ?_); go_simp; refine (DS.out _ X.row).mono ?_; rintro e w1 ⟨rfl, hc⟩; replace X := X.on hc; replace Y := Y.on hc; replace HB := HB.trans (hc.mono HB.size); clear hc; refine hK.out _ _ ⟨X.cells, Y.cells⟩ ?_; clear hK K)
       try simp only [Act.put, List.setIfInBounds_toArray, List.set_cons_zero, List.set_cons_succ]
       repeat (first | (refine' sch_pure rfl rfl ?_ ?_; rotate_left; · (rintro w' ⟨⟨s0, s1, s2, s3, s4, s5, s6, s7⟩, t0, t1, t2, t3, t4, t5, t6, t7⟩; go_simp <;> rfl)) | (refine sch_skip rfl rfl ?_)); try simp only [Act.put, List.setIfInBounds_toArray, List.set_cons_zero, List.set_cons_succ]
       (refine sch_alone rfl (fun K hK => ?_); go_simp; refine (DT.out _ Y.row).mono ?_; rintro e w1 ⟨rfl, hc⟩; replace X := X.on hc; replace Y := Y.on hc; replace HB := HB.trans (hc.mono HB.size); clear hc; refine hK.out _ _ ⟨X.cells, Y.cells⟩ ?_; clear hK K)
       try simp only [Act.put, List.setIfInBounds_toArray, List.set_cons_zero, List.set_cons_succ]
       repeat (first | (refine' sch_pure rfl rfl ?_ ?_; rotate_left; · (rintro w' ⟨⟨s0, s1, s2, s3, s4, s5, s6, s7⟩, t0, t1, t2, t3, t4, t5, t6, t7⟩; go_simp <;> rfl)) | (refine sch_skip rfl rfl ?_)); try simp only [Act.put, List.setIfInBounds_toArray, List.set_cons_zero, List.set_cons_succ]
       (refine sch_alone rfl (fun K hK => ?_); go_simp; refine (DC.out _ X.row).mono ?_; rintro e w1 ⟨rfl, hc⟩; replace X := X.on hc; replace Y := Y.on hc; replace HB := HB.trans (hc.mono HB.size); clear hc; refine hK.out _ _ ⟨X.cells, Y.cells⟩ ?_; clear hK K)
       try simp only [Act.put, List.setIfInBounds_toArray, List.set_cons_zero, List.set_cons_succ]
       repeat (first | (refine' sch_pure rfl rfl ?_ ?_; rotate_left; · (rintro w' ⟨⟨s0, s1, s2, s3, s4, s5, s6, s7⟩, t0, t1, t2, t3, t4, t5, t6, t7⟩; go_simp <;> rfl)) | (refine sch_skip rfl rfl ?_)); try simp only [Act.put, List.setIfInBounds_toArray, List.set_cons_zero, List.set_cons_succ]
       (refine sch_alone rfl (fun K hK => ?_); go_simp; refine (DN.out _ _).mono ?_; rintro e w1 ⟨rfl, hd⟩; have hc := hd.below; clear hd; replace X := X.on hc; replace Y := Y.on hc; replace HB := HB.trans (hc.mono HB.size); clear hc; refine hK.out _ _ ⟨X.cells, Y.cells⟩ ?_; clear hK K)
       try simp only [Act.put, List.setIfInBounds_toArray, List.set_cons_zero, List.set_cons_succ]
       repeat (first | (refine' sch_pure rfl rfl ?_ ?_; rotate_left; · (rintro w' ⟨⟨s0, s1, s2, s3, s4, s5, s6, s7⟩, t0, t1, t2, t3, t4, t5, t6, t7⟩; go_simp <;> rfl)) | (refine sch_skip rfl rfl ?_)); try simp only [Act.put, List.setIfInBounds_toArray, List.set_cons_zero, List.set_cons_succ]
       (refine sch_alone rfl (fun K hK => ?_); go_simp; refine (DD.out _ Y.row).mono ?_; rintro e w1 ⟨rfl, hc⟩; replace X := X.on hc; replace Y := Y.on hc; replace HB := HB.trans (hc.mono HB.size); clear hc; refine hK.out _ _ ⟨X.cells, Y.cells⟩ ?_; clear hK K)
       try simp only [Act.put, List.setIfInBounds_toArray, List.set_cons_zero, List.set_cons_succ]
       repeat (first | (refine' sch_pure rfl rfl ?_ ?_; rotate_left; · (rintro w' ⟨⟨s0, s1, s2, s3, s4, s5, s6, s7⟩, t0, t1, t2, t3, t4, t5, t6, t7⟩; go_simp <;> rfl)) | (refine sch_skip rfl rfl ?_)); try simp only [Act.put, List.setIfInBounds_toArray, List.set_cons_zero, List.set_cons_succ]
       (refine sch_alone rfl (fun K hK => ?_); go_simp; refine (DN.out _ _).mono ?_; rintro e w1 ⟨rfl, hd⟩; have hc := hd.below; clear hd; replace X := X.on hc; replace Y := Y.on hc; replace HB := HB.trans (hc.mono HB.size); clear hc; refine hK.out _ _ ⟨X.cells, Y.cells⟩ ?_; clear hK K)
       try simp only [Act.put, List.setIfInBounds_toArray, List.set_cons_zero, List.set_cons_succ]
       repeat (first | (refine' sch_pure rfl rfl ?_ ?_; rotate_left; · (rintro w' ⟨⟨s0, s1, s2, s3, s4, s5, s6, s7⟩, t0, t1, t2, t3, t4, t5, t6, t7⟩; go_simp <;> rfl)) | (refine sch_skip rfl rfl ?_)); try simp only [Act.put, List.setIfInBounds_toArray, List.set_cons_zero, List.set_cons_succ]
       refine sch_last rfl (fun K hK => ?_)
       go_simp
       refine hK.out _ _ ?_
       clear hK K
       obtain ⟨q0, q1, q2, q3, q4, q5, q6, q7⟩ := X.cells
       obtain ⟨p0, p1, p2, p3, p4, p5, p6, p7⟩ := Y.cells
       go_wp2_with (first | (first | (go_at_call 12; (with_reducible refine (DN.out _ _).mono ?_); rintro e w1 ⟨rfl, hd⟩; have hc := hd.below; clear hd; replace X := X.on hc; replace Y := Y.on hc; replace Z := Z.on hc; clear q0 q1 q2 q3 q4 q5 q6 q7 p0 p1 p2 p3 p4 p5 p6 p7; clear r0 r1 r2 r3 r4 r5 r6 r7; obtain ⟨q0, q1, q2, q3, q4, q5, q6, q7⟩ := X.cells; obtain ⟨p0, p1, p2, p3, p4, p5, p6, p7⟩ := Y.cells; obtain ⟨r0, r1, r2, r3, r4, r5, r6, r7⟩ := Z.cells; replace HB := HB.trans (hc.mono HB.size); clear hc) | (go_at_call 12; (with_reducible refine (DN.out _ _).mono ?_); rintro e w1 ⟨rfl, hd⟩; have hc := hd.below; clear hd; replace X := X.on hc; replace Y := Y.on hc; clear q0 q1 q2 q3 q4 q5 q6 q7 p0 p1 p2 p3 p4 p5 p6 p7; obtain ⟨q0, q1, q2, q3, q4, q5, q6, q7⟩ := X.cells; obtain ⟨p0, p1, p2, p3, p4, p5, p6, p7⟩ := Y.cells; replace HB := HB.trans (hc.mono HB.size); clear hc)) | (go_at_call 10; (with_reducible refine (DP.out _ X.row (HG.out.below HB)).mono ?_); rintro e w1 ⟨rfl, hc⟩; replace X := X.on hc; replace Y := Y.on hc; clear q0 q1 q2 q3 q4 q5 q6 q7 p0 p1 p2 p3 p4 p5 p6 p7; obtain ⟨q0, q1, q2, q3, q4, q5, q6, q7⟩ := X.cells; obtain ⟨p0, p1, p2, p3, p4, p5, p6, p7⟩ := Y.cells; replace HB := HB.trans (hc.mono HB.size); clear hc) | (go_at_call 10; (with_reducible refine (DQ.out _ Y.row (HG.out.below HB)).mono ?_); rintro e w1 ⟨rfl, hc⟩; replace X := X.on hc; replace Y := Y.on hc; clear q0 q1 q2 q3 q4 q5 q6 q7 p0 p1 p2 p3 p4 p5 p6 p7; obtain ⟨q0, q1, q2, q3, q4, q5, q6, q7⟩ := X.cells; obtain ⟨p0, p1, p2, p3, p4, p5, p6, p7⟩ := Y.cells; replace HB := HB.trans (hc.mono HB.size); clear hc) | (go_at_call 15; (with_reducible refine (DA.out _ (HG.out.below HB)).mono ?_); rintro e w1 ⟨h3, rfl, hr3, hc⟩; obtain ⟨v3, hv3, ha3⟩ := hr3.sv; obtain ⟨B0, B1, B2, B3, B4, B5, B6, B7, e0, e1, e2, e3, e4, e5, e6, e7⟩ := v3; subst hv3; replace X := X.on hc; replace Y := Y.on hc; clear q0 q1 q2 q3 q4 q5 q6 q7 p0 p1 p2 p3 p4 p5 p6 p7; obtain ⟨q0, q1, q2, q3, q4, q5, q6, q7⟩ := X.cells; obtain ⟨p0, p1, p2, p3, p4, p5, p6, p7⟩ := Y.cells; replace HB := HB.trans (hc.mono HB.size); clear hc; have Z := Bx.make ha3 #[.slice B0 s.th.length e0, .slice B1 s.fr.length e1, .slice B2 s.no.length e2, .slice B3 s.tr.length e3, .slice B4 s.po.length e4, .slice B5 s.li.length e5, .slice B6 s.ro.length e6, .slice B7 s.sw.length e7]; have hc := (Below.refl w1.heap.size w1).alloc (Nat.le_refl _) (.cells #[.slice B0 s.th.length e0, .slice B1 s.fr.length e1, .slice B2 s.no.length e2, .slice B3 s.tr.length e3, .slice B4 s.po.length e4, .slice B5 s.li.length e5, .slice B6 s.ro.length e6, .slice B7 s.sw.length e7] 32); replace X := X.on hc; replace Y := Y.on hc; clear q0 q1 q2 q3 q4 q5 q6 q7 p0 p1 p2 p3 p4 p5 p6 p7; obtain ⟨q0, q1, q2, q3, q4, q5, q6, q7⟩ := X.cells; obtain ⟨p0, p1, p2, p3, p4, p5, p6, p7⟩ := Y.cells; replace HB := HB.trans (hc.mono HB.size); clear hc; obtain ⟨r0, r1, r2, r3, r4, r5, r6, r7⟩ := Z.cells) | (go_at_call 17; (with_reducible refine (DE.out _ X.row Y.row).mono ?_); rintro e w1 ⟨rfl, hc⟩; replace X := X.on hc; replace Y := Y.on hc; replace Z := Z.on hc; clear q0 q1 q2 q3 q4 q5 q6 q7 p0 p1 p2 p3 p4 p5 p6 p7; clear r0 r1 r2 r3 r4 r5 r6 r7; obtain ⟨q0, q1, q2, q3, q4, q5, q6, q7⟩ := X.cells; obtain ⟨p0, p1, p2, p3, p4, p5, p6, p7⟩ := Y.cells; obtain ⟨r0, r1, r2, r3, r4, r5, r6, r7⟩ := Z.cells; replace HB := HB.trans (hc.mono HB.size); clear hc) | (go_at_call 17; (with_reducible refine (DF.out _ _ X.row Z.row).mono ?_); rintro e w1 ⟨rfl, hc⟩; replace X := X.on hc; replace Y := Y.on hc; replace Z := Z.on hc; clear q0 q1 q2 q3 q4 q5 q6 q7 p0 p1 p2 p3 p4 p5 p6 p7; clear r0 r1 r2 r3 r4 r5 r6 r7; obtain ⟨q0, q1, q2, q3, q4, q5, q6, q7⟩ := X.cells; obtain ⟨p0, p1, p2, p3, p4, p5, p6, p7⟩ := Y.cells; obtain ⟨r0, r1, r2, r3, r4, r5, r6, r7⟩ := Z.cells; replace HB := HB.trans (hc.mono HB.size); clear hc) | (go_at_call 9; (with_reducible refine (live_calls _ (HG.out.below HB)).mono ?_); rintro e w1 ⟨rfl, hc⟩; skip))
       go_ret
       exact ⟨rfl, HB.trans (hc.mono HB.size)⟩
end Go.Proofs.YtmcjccigglekpaaGreatDoor.Given
namespace Go.Proofs.YtmcjccigglekpaaGreatDoor.Given
open Go Go.RowKit Go.Proofs Go.Shelf

theorem star : "*" ++ "errors.errorString" = "*errors.errorString" := by decide
theorem rowErr (u : TypeId) (h : Tryz.prog.typeName? 3 u = some "*errors.errorString") : u = 313 :=
  typeName_ptr_named (P := Tryz.prog) (nm := "errors.errorString") (by rw [star]; kernel_rfl) (by kernel_rfl) (by decide) u (by rw [star]; exact h)
theorem errcell {n : String} {text : List UInt8} {r : List (String × DataW Unit)} {W : World} {g : Nat} (h : laidMet Tryz.prog ((n, .iface "*errors.errorString" (.ptr (.agg [.lit (.string text)]))) :: r) W)
    (hg : Tryz.prog.globalNamed n = some g) (ht : (Tryz.prog.globals[g]?).map (·.type) = some 137) : ErrCell W g := by
  obtain ⟨a0, s0, hv0, _, _, _⟩ := laid_sentinel h hg ht Tryz.underlying137 rowErr Tryz.underlying313 Tryz.underlying315 rfl rfl Tryz.underlying9 (by kernel_rfl) (by kernel_rfl)
  exact ⟨_, by have h0 := World.var?_cell hg hv0 0; simpa using h0, Or.inr ⟨_, _, rfl⟩⟩
theorem pow_eq {H : Type} : (Rows.laid_internal_strconv_uint64pow10 : DataW H) = Lib.tabData .u64 Lib.pow10Tab := rfl
theorem tab_of_laid {W : World} {r : List (String × DataW Unit)} (h : laidMet Tryz.prog (("internal/strconv.uint64pow10", Rows.laid_internal_strconv_uint64pow10) :: r) W) : Lib.TabIs Tryz.prog W "internal/strconv.uint64pow10" .u64 Lib.pow10Tab := by
  obtain ⟨ps, h0, _⟩ := h
  obtain ⟨g, t, cs, fuel, p, q, hg, ht, hvar, hd, _, _⟩ := h0
  have e0 : some g = some 0 := hg.symm.trans (by kernel_rfl)
  obtain rfl := Option.some.inj e0
  have e1 : some t = some 277 := ht.symm.trans (by kernel_rfl)
  obtain rfl := Option.some.inj e1
  have hd' : DataW.trod _ Tryz.prog W _ _ _ fuel 277 cs.toList = some (Lib.tabData .u64 Lib.pow10Tab, p) := hd
  have hc := Lib.cells_of_tab Tryz.underlying277 Tryz.underlying88 (by kernel_rfl) (by kernel_rfl) hd'
  unfold Lib.TabIs
  rw [hvar, ← hc]
theorem GL_of_laid {W : World} (h : laidMet Tryz.prog Rows.imageLongRow.laid W) (hs : W.ShapedOpen Tryz.prog) : GL W :=
  ⟨tab_of_laid h.tail.tail, errcell h.tail.tail.tail.tail.tail (by kernel_rfl) (by kernel_rfl), errcell h.tail.tail.tail.tail (by kernel_rfl) (by kernel_rfl),
   cell_of_shapedOpen_int (zero := #[.int .i64 0]) (t := 3) hs (by decide) (by kernel_rfl) rfl (by kernel_rfl) (by kernel_rfl) Tryz.underlying3⟩

/-- A row over listed variables and the world's shape. -/
theorem lift_shaped {H : Type} {enc : TypeId × Value → H} {C : Checked} {os : Os} {f : FuncId} {fn : Func} {s : ChangeSpec} {laid : List (String × DataW Unit)}
    (own : ownKnob C.prog.godebug = none) (started : os.Started) (noInit : C.prog.inits.idxOf? f = none) (hfn : C.prog.funcs[f]? = some fn) (args0 : Array Value)
    (hsh : ((World.laidAll C.prog os laid).forCall (fun _ _ => 0) ⟨#[], args0, []⟩).Shaped C.prog)
    (hok : Input.okWideB C.prog ((World.laidAll C.prog os laid).forCall (fun _ _ => 0) ⟨#[], args0, []⟩) f ⟨#[], args0, []⟩ = true)
    (hpre : s.preB enc C.prog fn [] false ((World.laidAll C.prog os laid).forCall (fun _ _ => 0) ⟨#[], args0, []⟩).memory args0 8 = true)
    (hsz : s.sizedB enc C.prog fn false ((World.laidAll C.prog os laid).forCall (fun _ _ => 0) ⟨#[], args0, []⟩).memory args0 8 = true)
    (hx : laidMet C.prog laid ((World.laidAll C.prog os laid).forCall (fun _ _ => 0) ⟨#[], args0, []⟩).memory)
    (main : ∀ (W : World) (base : Nat) (args : Array Value) (ds gs : List (DataW H)) (before : List MemPlace),
      (∀ (j : Nat) t v, fn.params[j]? = some t → args[j]? = some v → Value.okWide C.prog W .any base t v) →
      DataW.Whole enc C.prog fn.params.toList s.vars false W args.toList ds gs before →
      (DataW.weightsEach C.prog (fn.params.toList ++ s.plain.varTypes C.prog) (ds ++ gs)).all (· ≤ reachBytes) = true →
      laidMet C.prog laid W → W.ShapedOpen C.prog →
      Calls C.prog f args W fun e W' => ∃ v, e = .returned v ∧ s.post enc C.prog fn false true false false W args v W') :
    ReturnsInHanded {} C os f .any (fun w args => (s.pre enc C.prog fn [] false w args ∧ laidMet C.prog laid w) ∧ sizedMet enc C.prog fn (OpenSpec.ofChange s) false w args) (s.post enc C.prog fn false true false false) := by
  refine returnsInHanded_of_calls own started noInit (ChangeSpec.witness_shaped (enc := enc) (C := C) (os := os) (X := fun w _ => laidMet C.prog laid w) false (World.laidAll C.prog os laid) args0 8 (World.laidAll_os _ _ _) hsh hok hpre hsz hx) ?_
  intro w tape i _ hshape _ hin hp _
  obtain ⟨_, _, _, fn1, hfn1, _, _, _, _, hval⟩ := hin
  obtain rfl := Option.some.inj (hfn1.symm.trans hfn)
  obtain ⟨⟨⟨ds, gs, before, hw, _⟩, hl⟩, hz⟩ := hp
  have hl1 : laidMet C.prog laid (w.forCall tape i) := hl.of_heap (by rfl)
  refine (main (w.forCall tape i) w.heap.size i.args ds gs before hval (DataW.Whole.of_heap (w' := w.forCall tape i) (by rfl) hw) (hz.weights hw) hl1 hshape).mono ?_
  rintro e W1 ⟨v, rfl, hpost⟩
  exact ChangeSpec.post_blind hpost
set_option maxRecDepth 1000000 in
theorem laid_shaped (os : Os) (args : Array Value) : ((World.laidAll Tryz.prog os Rows.imageLongRow.laid).forCall (fun _ _ => 0) ⟨#[], args, []⟩).Shaped Tryz.prog :=
  World.shaped_of_ZipB (by kernel_rfl) (by kernel_rfl)
set_option maxRecDepth 1000000 in
theorem laid_met (os : Os) (args : Array Value) : laidMet Tryz.prog Rows.imageLongRow.laid ((World.laidAll Tryz.prog os Rows.imageLongRow.laid).forCall (fun _ _ => 0) ⟨#[], args, []⟩).memory :=
  laidMet_laidAll _ (by kernel_rfl) (by kernel_rfl)
end Go.Proofs.YtmcjccigglekpaaGreatDoor.Given
namespace Go.Proofs.YtmcjccigglekpaaGreatDoor.Opens
open Go Go.RowKit Go.Proofs.YtmcjccigglekpaaGreatDoorW.PrintWords

theorem mapM_map {α β : Type} (f : α → Option β) : ∀ (l : List α) (xs : List β), l.mapM f = some xs → l.map f = xs.map some := by
 intro l
 induction l with
 | nil => intro xs h; simp at h; subst h; rfl
 | cons a l ih =>
  intro xs h
  simp only [List.mapM_cons, Option.bind_eq_bind, Option.bind_eq_some_iff, Option.pure_def, Option.some.injEq] at h
  obtain ⟨y, hy, ys, hys, rfl⟩ := h
  simp [hy, ih ys hys]
theorem mapM_range {β : Type} {f : Nat → Option β} {n : Nat} {xs : List β} (h : (List.range n).mapM f = some xs) : xs.length = n ∧ ∀ i, i < n → ∃ y, xs[i]? = some y ∧ f i = some y := by
 have hm := mapM_map _ _ _ h
 have hl : xs.length = n := by have := congrArg List.length hm; simp at this; exact this.symm
 refine ⟨hl, fun i hi => ?_⟩
 have hi' := congrArg (fun l => l[i]?) hm
 simp only [List.getElem?_map, List.getElem?_range hi, Option.map_some] at hi'
 cases hx : xs[i]? with
 | none => rw [hx] at hi'; simp at hi'
 | some y =>
  rw [hx, Option.map_some, Option.some.injEq] at hi'
  exact ⟨y, rfl, hi'⟩

/-- A value of type t that reads as data is told by d, in the world as it is; wf is what its numbers' ranges say. -/
def Opens {α : Type} (P : Program) (t : TypeId) (d : Kd α) (wf : α → Prop) : Prop :=
 ∀ {H : Type} (enc : TypeId × Value → H) (w : World) (base : Nat) (sp : Nat → Bool) (held : Bool) (fuel : Nat) (cs : List Value) (y : DataW H × List MemPlace),
  DataW.trod enc P w base sp held fuel t cs = some y → ∃ x, d.K w x cs ∧ wf x

variable {P : Program}

theorem opens_int {t : TypeId} {k : IntKind} (ht : P.underlying t = some (.int k)) : Opens P t (Kd.int k) (fun n => (Lit.int k n).wf = true) := by
 intro H enc w base sp held fuel cs y h
 cases fuel with
 | zero => simp [DataW.trod] at h
 | succ fuel =>
  rcases cs with _ | ⟨c, _ | ⟨c2, cs⟩⟩
  ·simp [DataW.trod, ht] at h
  ·cases c <;> simp [DataW.trod, ht] at h
   rename_i k' n
   obtain ⟨⟨rfl, hw⟩, rfl⟩ := h
   exact ⟨n, rfl, hw⟩
  ·simp [DataW.trod, ht] at h
theorem opens_bool {t : TypeId} (ht : P.underlying t = some .bool) : Opens P t Kd.bool (fun _ => True) := by
 intro H enc w base sp held fuel cs y h
 cases fuel with
 | zero => simp [DataW.trod] at h
 | succ fuel =>
  rcases cs with _ | ⟨c, _ | ⟨c2, cs⟩⟩
  ·simp [DataW.trod, ht] at h
  ·cases c <;> simp [DataW.trod, ht] at h
   rename_i b
   exact ⟨b, rfl, trivial⟩
  ·simp [DataW.trod, ht] at h
theorem opens_string {t : TypeId} (ht : P.underlying t = some .string) : Opens P t Kd.string (fun s => s.size ≤ maxLen) := by
 intro H enc w base sp held fuel cs y h
 cases fuel with
 | zero => simp [DataW.trod] at h
 | succ fuel =>
  rcases cs with _ | ⟨c, _ | ⟨c2, cs⟩⟩
  ·simp [DataW.trod, ht] at h
  ·cases c <;> simp [DataW.trod, ht] at h
   rename_i s
   exact ⟨s, rfl, h.1⟩
  ·simp [DataW.trod, ht] at h

theorem cells_get {w : World} {base : Nat} {a : Addr} {n : Nat} {cs : List Value} (h : w.cells? base a n = some cs) : cs.length = n ∧ ∀ i u, cs[i]? = some u → w.cell? (a.add i) = some u := by
 unfold World.cells? at h
 split at h
 ·obtain ⟨hl, hg⟩ := mapM_range h
  refine ⟨hl, fun i u hu => ?_⟩
  have hi : i < n := by rw [← hl]; exact (List.getElem?_eq_some_iff.1 hu).1
  obtain ⟨y, h1, h2⟩ := hg i hi
  rw [hu, Option.some.injEq] at h1
  rw [h2, h1]
 ·cases h

theorem opens_slice {α : Type} {t e : TypeId} {d : Kd α} {wf : α → Prop} (ht : P.underlying t = some (.slice e)) (hs : P.cellsOf e = d.sz) (he : Opens P e d wf) :
  Opens P t (Kd.slice e d) (fun xs => ∀ x ∈ xs, wf x) := by
 intro H enc w base sp held fuel cs y h
 cases fuel with
 | zero => simp [DataW.trod] at h
 | succ fuel =>
  have nil : ∃ x : List α, (Kd.slice e d).K w x [.slice none 0 0] ∧ ∀ z ∈ x, wf z := ⟨[], ⟨none, 0, rfl, Nat.le_refl _, rfl, by simp, fun h => absurd h (Nat.lt_irrefl 0)⟩, fun z hz => by cases hz⟩
  rcases cs with _ | ⟨c, _ | ⟨c2, cs⟩⟩
  ·simp [DataW.trod, ht] at h
  ·cases c <;> simp only [DataW.trod, ht] at h
   all_goals try (cases h; done)
   rename_i ad len cap
   cases ad with
   | none =>
    cases len with
    | zero =>
     cases cap with
     | zero => exact nil
     | succ _ => simp at h
    | succ _ => simp at h
   | some a =>
    simp only [hs] at h
    split at h
    ·rename_i hb
     obtain ⟨elems, hel, h2⟩ := Option.bind_eq_some_iff.1 h
     obtain ⟨hlen, hg⟩ := mapM_range hel
     have each : ∀ i : Fin len, ∃ x : α, ∃ c : List Value, c.length = d.sz ∧ d.K w x c ∧ wf x ∧ ∀ j u, c[j]? = some u → w.cell? ((a.add (i.val * d.sz)).add j) = some u := fun i => by
      obtain ⟨y, _, hy⟩ := hg i.val i.isLt
      obtain ⟨c, hc, hd⟩ := Option.bind_eq_some_iff.1 hy
      obtain ⟨x, hx, hw⟩ := he enc w base sp held fuel c y hd
      obtain ⟨h3, h4⟩ := cells_get hc
      exact ⟨x, c, h3, hx, hw, h4⟩
     obtain ⟨f, hf⟩ := Classical.axiomOfChoice each
     refine ⟨List.ofFn f, ⟨some a, cap, by rw [List.length_ofFn], by rw [List.length_ofFn]; exact hb.2.1, rfl, ?_, fun _ => ⟨a, rfl, fun j p hp => ?_⟩⟩, fun x hx => ?_⟩
     ·rw [List.length_ofFn]
      have := hb.2.1
      have := hb.2.2
      unfold maxLen at this
      omega
     ·have hj : j < len := by have := (List.getElem?_eq_some_iff.1 hp).1; rwa [List.length_ofFn] at this
      obtain ⟨c, h3, h4, _, h5⟩ := hf ⟨j, hj⟩
      rw [List.getElem?_ofFn, dif_pos hj, Option.some.injEq] at hp
      subst hp
      exact ⟨c, h3, h4, fun i u hu => by rw [← Addr.add_add]; exact h5 i u hu⟩
     ·obtain ⟨i, rfl⟩ := List.mem_ofFn.1 hx
      obtain ⟨c, _, _, hw, _⟩ := hf i
      exact hw
    ·cases h
  ·simp [DataW.trod, ht] at h

/-- The fields from offset o on. -/
def OpensF {α : Type} (P : Program) (fs : List Field) (o total : Nat) (d : Kd α) (wf : α → Prop) : Prop :=
 ∀ {H : Type} (enc : TypeId × Value → H) (w : World) (base : Nat) (sp : Nat → Bool) (held : Bool) (fuel : Nat) (cs : List Value) (ys : List (DataW H × List MemPlace)), cs.length = total →
  (fs.mapM fun f => DataW.trod enc P w base sp held fuel f.type ((cs.drop f.offset).take (P.cellsOf f.type))) = some ys → ∃ x, d.K w x (cs.drop o) ∧ wf x
theorem opensF_last {α : Type} {f : Field} {o total : Nat} {d : Kd α} {wf : α → Prop} (hf : Opens P f.type d wf) (hn : P.cellsOf f.type = total - o) (ho : f.offset = o) : OpensF P [f] o total d wf := by
 intro H enc w base sp held fuel cs ys hl h
 simp only [List.mapM_cons, List.mapM_nil, Option.bind_eq_bind, Option.bind_eq_some_iff, Option.pure_def, Option.some.injEq] at h
 obtain ⟨y, hy, _⟩ := h
 rw [ho, hn, List.take_of_length_le (by rw [List.length_drop, hl]; exact Nat.le_refl _)] at hy
 exact hf enc w base sp held fuel _ y hy
theorem opensF_cons {α β : Type} {f : Field} {fs : List Field} {o o2 total : Nat} {d : Kd α} {d2 : Kd β} {wf : α → Prop} {wf2 : β → Prop} (hf : Opens P f.type d wf) (hn : P.cellsOf f.type = o2 - o) (ho : f.offset = o) (hle : o ≤ o2) (hr : OpensF P fs o2 total d2 wf2) :
  OpensF P (f :: fs) o total (Kd.pair d d2) (fun x => wf x.1 ∧ wf2 x.2) := by
 intro H enc w base sp held fuel cs ys hl h
 simp only [List.mapM_cons, Option.bind_eq_bind, Option.bind_eq_some_iff, Option.pure_def, Option.some.injEq] at h
 obtain ⟨y, hy, zs, hz, _⟩ := h
 rw [ho, hn] at hy
 obtain ⟨x, hx, hw⟩ := hf enc w base sp held fuel _ y hy
 obtain ⟨x2, hx2, hw2⟩ := hr enc w base sp held fuel cs zs hl hz
 refine ⟨(x, x2), ⟨(cs.drop o).take (o2 - o), cs.drop o2, ?_, hx, hx2⟩, hw, hw2⟩
 have := List.take_append_drop (o2 - o) (cs.drop o)
 rw [List.drop_drop, show o + (o2 - o) = o2 from by omega] at this
 exact this.symm
theorem opens_struct {α β : Type} {t : TypeId} {fs : Array Field} {total : Nat} {d : Kd β} {wf : β → Prop} (f : α → β) (g : β → α) (hfg : ∀ x, f (g x) = x) (ht : P.underlying t = some (.struct fs)) (hct : P.cellsOf t = total)
  (h : OpensF P fs.toList 0 total d wf) : Opens P t (Kd.iso d f) (fun x => wf (f x)) := by
 intro H enc w base sp held fuel cs y hy
 cases fuel with
 | zero => simp [DataW.trod] at hy
 | succ fuel =>
  simp only [DataW.trod, ht, hct] at hy
  split at hy
  ·rename_i hl
   obtain ⟨ys, h1, _⟩ := Option.map_eq_some_iff.1 hy
   obtain ⟨x, hx, hw⟩ := h enc w base sp held fuel cs ys hl h1
   refine ⟨g x, ?_, by show wf (f (g x)); rw [hfg]; exact hw⟩
   show d.K w (f (g x)) cs
   rw [hfg]
   exact hx
  ·cases hy
end Go.Proofs.YtmcjccigglekpaaGreatDoor.Opens
