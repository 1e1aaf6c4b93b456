/- garrisonref15.Is at this program: what the call answers. Printed by wip/call/gencall.py: each kind's tests are decided one by one, a walk a leaf. -/
import Derived.Test.YtikbldmlfjckkaaCallOk
import Derived.Lib.Hide
import Derived.Handy
import Derived.RegionTactic
import Derived.BigRegion
namespace Go.Proofs.Ytikbldmlfjckkaa.Given
open Go Go.RowKit Go.Proofs Go.Proofs.YtikbldmlfjckkaaW.PrintWords Go.Proofs.YtikbldmlfjckkaaW.PrintLast Go.Proofs.YtikbldmlfjckkaaW.PrintMore Go.Proofs.Ytikbldmlfjckkaa.P Go.Proofs.Ytikbldmlfjckkaa.Plain

theorem callEqR (d : Nat) (w : World) (x0 y0 : Int) (x1 y1 : Int) (x2 y2 : Int) (x3 y3 : Int) (x4 y4 : Int) (x5 y5 : Int) (x6 y6 : Int) (x7 y7 : Int) :
    (Op.equalIn (d + 2) 24 (.agg #[.int .i64 x0, .int .u64 x1, .int .u64 x2, .int .i64 x3, .int .i64 x4, .int .i64 x5, .int .i64 x6, .int .i64 x7]) (.agg #[.int .i64 y0, .int .u64 y1, .int .u64 y2, .int .i64 y3, .int .i64 y4, .int .i64 y5, .int .i64 y6, .int .i64 y7])).run Try.prog w = .ok (x0 == y0 && (x1 == y1 && (x2 == y2 && (x3 == y3 && (x4 == y4 && (x5 == y5 && (x6 == y6 && (x7 == y7)))))))) w := by
  refine eqA_of Try.underlying24 (by kernel_rfl) ?_
  refine eqf_cons (by rfl) (by go_simp; rfl) (by go_simp; rfl) (by go_simp) ?_
  refine eqf_cons (by rfl) (by go_simp; rfl) (by go_simp; rfl) (by go_simp) ?_
  refine eqf_cons (by rfl) (by go_simp; rfl) (by go_simp; rfl) (by go_simp) ?_
  refine eqf_cons (by rfl) (by go_simp; rfl) (by go_simp; rfl) (by go_simp) ?_
  refine eqf_cons (by rfl) (by go_simp; rfl) (by go_simp; rfl) (by go_simp) ?_
  refine eqf_cons (by rfl) (by go_simp; rfl) (by go_simp; rfl) (by go_simp) ?_
  refine eqf_cons (by rfl) (by go_simp; rfl) (by go_simp; rfl) (by go_simp) ?_
  exact eqf_last (by rfl) (by go_simp; rfl) (by go_simp; rfl) (by go_simp)
attribute [local go_sem high] callEqR
theorem bcellR {W w1 : World} (hb : Below W.heap.size W w1) : (∀ b o, b < W.heap.size → w1.cell? ⟨b, o, none⟩ = W.cell? ⟨b, o, none⟩) ∧ (∀ b o, b < W.heap.size → w1.frozen? ⟨b, o, none⟩ = W.frozen? ⟨b, o, none⟩) :=
  ⟨fun b o h => hb.cell (p := ⟨b, o, none⟩) h, fun b o h => hb.frozen (p := ⟨b, o, none⟩) h⟩

def garrisonref15_Is.f (kd a b r bd ty sz v : Int) : Option Bool := if wfc a b r then some (callOk kd a b r bd ty sz v) else none
theorem refRights_any (r : Int) (w : World) : Calls Try.prog 28 #[.int .i64 r] w fun e w' => e = .returned (.bool (rightsB r)) ∧ w = w' := by
  unfold rightsB
  by_cases h0 : 0 ≤ r
  · have b0 : decide (0 ≤ r) = true := decide_eq_true h0
    by_cases h1 : r ≤ 15
    · have b1 : decide (r ≤ 15) = true := decide_eq_true h1
      rw [decide_eq_true (show 0 ≤ r ∧ r ≤ 15 from ⟨h0, h1⟩)]
      go_enter Try.func28, Try.ntmps28
      go_wp2
      go_ret
      exact ⟨rfl, rfl⟩
    · have b1 : decide (r ≤ 15) = false := decide_eq_false h1
      rw [decide_eq_false (show ¬ (0 ≤ r ∧ r ≤ 15) from fun h => h1 h.2)]
      go_enter Try.func28, Try.ntmps28
      go_wp2
      go_ret
      exact ⟨rfl, rfl⟩
  · have b0 : decide (0 ≤ r) = false := decide_eq_false h0
    rw [decide_eq_false (show ¬ (0 ≤ r ∧ r ≤ 15) from fun h => h0 h.1)]
    go_enter Try.func28, Try.ntmps28
    go_wp2
    go_ret
    exact ⟨rfl, rfl⟩

set_option maxRecDepth 100000 in
set_option maxHeartbeats 4000000 in
theorem ref_1 (a b r bd ty sz v : Int) (ka kb kr : Bool) (res : Bool) (w : World) (Ca : Hid (∀ W, Calls Try.prog 27 #[.int .u64 a] W fun e w' => e = .returned (.bool ka) ∧ Below W.heap.size W w')) (Cb : Hid (∀ W, Calls Try.prog 27 #[.int .u64 b] W fun e w' => e = .returned (.bool kb) ∧ Below W.heap.size W w')) (Cr : Hid (∀ W, Calls Try.prog 28 #[.int .i64 r] W fun e w' => e = .returned (.bool kr) ∧ W = w')) (HR : Hid (res = (ka && (kb && (kr && (decide (0 ≤ bd) && (decide (bd ≤ 65535) && (ty == 0 && (sz == 0 && v == 0))))))))) :
    Calls Try.prog 15 #[.agg #[.int .i64 1, .int .u64 a, .int .u64 b, .int .i64 r, .int .i64 bd, .int .i64 ty, .int .i64 sz, .int .i64 v]] w fun e w' => e = .returned (.bool res) ∧ Below w.heap.size w w' := by
  have _c := Cr
  have _d := Cb
  clear _c _d
  go_enter Try.func15, Try.ntmps15
  go_wp2_with (first | (go_at_call 28; (with_reducible refine (Cr.out _).mono ?_); rintro e w3 ⟨rfl, rfl⟩) | (go_at_call 27; first | ((with_reducible refine (Ca.out _).mono ?_); clear Ca; rintro e w1 ⟨rfl, hb⟩; have HB1 := Aside0.mk (below_step (show Below w.heap.size w _ by go_grown) hb); obtain ⟨hc, hf⟩ := bcellR hb; have hz0 : w.heap.size < w1.heap.size := (by have h_ := hb.size; simp at h_; omega); clear hb) | ((with_reducible refine (Cb.out _).mono ?_); clear Cb; rintro e w2 ⟨rfl, hb⟩; have HB2 := Aside0.mk (below_step (show Below w.heap.size w _ by (have hB1 := HB1.out; have hZ : w.heap.size ≤ w1.heap.size := (by omega); go_grown)) hb); obtain ⟨hc2, hf2⟩ := bcellR hb; have hz2 : w.heap.size < w2.heap.size := (by have h_ := hb.size; simp at h_; omega); clear hb)))
  all_goals (try (go_region; all_goals go_wp2_with (first | (go_at_call 28; (with_reducible refine (Cr.out _).mono ?_); rintro e w3 ⟨rfl, rfl⟩) | (go_at_call 27; first | ((with_reducible refine (Ca.out _).mono ?_); clear Ca; rintro e w1 ⟨rfl, hb⟩; have HB1 := Aside0.mk (below_step (show Below w.heap.size w _ by go_grown) hb); obtain ⟨hc, hf⟩ := bcellR hb; have hz0 : w.heap.size < w1.heap.size := (by have h_ := hb.size; simp at h_; omega); clear hb) | ((with_reducible refine (Cb.out _).mono ?_); clear Cb; rintro e w2 ⟨rfl, hb⟩; have HB2 := Aside0.mk (below_step (show Below w.heap.size w _ by (have hB1 := HB1.out; have hZ : w.heap.size ≤ w1.heap.size := (by omega); go_grown)) hb); obtain ⟨hc2, hf2⟩ := bcellR hb; have hz2 : w.heap.size < w2.heap.size := (by have h_ := hb.size; simp at h_; omega); clear hb)))))
  all_goals
    go_ret
    refine ⟨?_, ?_⟩
    · clear Cr
      (try clear hc hf)
      (try clear hc2 hf2)
      have h_ := HR.out
      clear HR
      rw [h_]
      clear h_
      first
        | (simp_all; done)
        | (simp_all <;> omega)
    · have hB1 := HB1.out
      (try (have hB2 := HB2.out; clear HB2))
      have hZ : w.heap.size ≤ w1.heap.size := by omega
      (try (have hZ2 : w.heap.size ≤ w2.heap.size := by omega))
      clear HB1 HR
      go_grown

set_option maxRecDepth 100000 in
set_option maxHeartbeats 4000000 in
theorem ref_2 (a b r bd ty sz v : Int) (ka kb kr : Bool) (res : Bool) (w : World) (Ca : Hid (∀ W, Calls Try.prog 27 #[.int .u64 a] W fun e w' => e = .returned (.bool ka) ∧ Below W.heap.size W w')) (Cb : Hid (∀ W, Calls Try.prog 27 #[.int .u64 b] W fun e w' => e = .returned (.bool kb) ∧ Below W.heap.size W w')) (Cr : Hid (∀ W, Calls Try.prog 28 #[.int .i64 r] W fun e w' => e = .returned (.bool kr) ∧ W = w')) (HR : Hid (res = (ka && (kb && (r == 0 && (bd == 0 && (ty == 0 && (sz == 0 && v == 0)))))))) :
    Calls Try.prog 15 #[.agg #[.int .i64 2, .int .u64 a, .int .u64 b, .int .i64 r, .int .i64 bd, .int .i64 ty, .int .i64 sz, .int .i64 v]] w fun e w' => e = .returned (.bool res) ∧ Below w.heap.size w w' := by
  have _c := Cr
  have _d := Cb
  clear _c _d
  go_enter Try.func15, Try.ntmps15
  go_wp2_with (first | (go_at_call 28; (with_reducible refine (Cr.out _).mono ?_); rintro e w3 ⟨rfl, rfl⟩) | (go_at_call 27; first | ((with_reducible refine (Ca.out _).mono ?_); clear Ca; rintro e w1 ⟨rfl, hb⟩; have HB1 := Aside0.mk (below_step (show Below w.heap.size w _ by go_grown) hb); obtain ⟨hc, hf⟩ := bcellR hb; have hz0 : w.heap.size < w1.heap.size := (by have h_ := hb.size; simp at h_; omega); clear hb) | ((with_reducible refine (Cb.out _).mono ?_); clear Cb; rintro e w2 ⟨rfl, hb⟩; have HB2 := Aside0.mk (below_step (show Below w.heap.size w _ by (have hB1 := HB1.out; have hZ : w.heap.size ≤ w1.heap.size := (by omega); go_grown)) hb); obtain ⟨hc2, hf2⟩ := bcellR hb; have hz2 : w.heap.size < w2.heap.size := (by have h_ := hb.size; simp at h_; omega); clear hb)))
  all_goals
    go_ret
    refine ⟨?_, ?_⟩
    · clear Cr
      (try clear hc hf)
      (try clear hc2 hf2)
      have h_ := HR.out
      clear HR
      rw [h_]
      clear h_
      first
        | (simp_all; done)
        | (simp_all <;> omega)
    · have hB1 := HB1.out
      (try (have hB2 := HB2.out; clear HB2))
      have hZ : w.heap.size ≤ w1.heap.size := by omega
      (try (have hZ2 : w.heap.size ≤ w2.heap.size := by omega))
      clear HB1 HR
      go_grown

set_option maxRecDepth 100000 in
set_option maxHeartbeats 4000000 in
theorem ref_5 (a b r bd ty sz v : Int) (ka kb kr : Bool) (res : Bool) (w : World) (Ca : Hid (∀ W, Calls Try.prog 27 #[.int .u64 a] W fun e w' => e = .returned (.bool ka) ∧ Below W.heap.size W w')) (Cb : Hid (∀ W, Calls Try.prog 27 #[.int .u64 b] W fun e w' => e = .returned (.bool kb) ∧ Below W.heap.size W w')) (Cr : Hid (∀ W, Calls Try.prog 28 #[.int .i64 r] W fun e w' => e = .returned (.bool kr) ∧ W = w')) (HR : Hid (res = (ka && (decide (1 ≤ ty) && (decide (ty ≤ 5) && (decide (0 ≤ sz) && (decide (sz ≤ 1048576) && (kb && (r == 0 && (bd == 0 && v == 0)))))))))) :
    Calls Try.prog 15 #[.agg #[.int .i64 5, .int .u64 a, .int .u64 b, .int .i64 r, .int .i64 bd, .int .i64 ty, .int .i64 sz, .int .i64 v]] w fun e w' => e = .returned (.bool res) ∧ Below w.heap.size w w' := by
  have _c := Cr
  have _d := Cb
  clear _c _d
  go_enter Try.func15, Try.ntmps15
  go_wp2_with (first | (go_at_call 28; (with_reducible refine (Cr.out _).mono ?_); rintro e w3 ⟨rfl, rfl⟩) | (go_at_call 27; first | ((with_reducible refine (Ca.out _).mono ?_); clear Ca; rintro e w1 ⟨rfl, hb⟩; have HB1 := Aside0.mk (below_step (show Below w.heap.size w _ by go_grown) hb); obtain ⟨hc, hf⟩ := bcellR hb; have hz0 : w.heap.size < w1.heap.size := (by have h_ := hb.size; simp at h_; omega); clear hb) | ((with_reducible refine (Cb.out _).mono ?_); clear Cb; rintro e w2 ⟨rfl, hb⟩; have HB2 := Aside0.mk (below_step (show Below w.heap.size w _ by (have hB1 := HB1.out; have hZ : w.heap.size ≤ w1.heap.size := (by omega); go_grown)) hb); obtain ⟨hc2, hf2⟩ := bcellR hb; have hz2 : w.heap.size < w2.heap.size := (by have h_ := hb.size; simp at h_; omega); clear hb)))
  all_goals (try (go_region; all_goals go_wp2_with (first | (go_at_call 28; (with_reducible refine (Cr.out _).mono ?_); rintro e w3 ⟨rfl, rfl⟩) | (go_at_call 27; first | ((with_reducible refine (Ca.out _).mono ?_); clear Ca; rintro e w1 ⟨rfl, hb⟩; have HB1 := Aside0.mk (below_step (show Below w.heap.size w _ by go_grown) hb); obtain ⟨hc, hf⟩ := bcellR hb; have hz0 : w.heap.size < w1.heap.size := (by have h_ := hb.size; simp at h_; omega); clear hb) | ((with_reducible refine (Cb.out _).mono ?_); clear Cb; rintro e w2 ⟨rfl, hb⟩; have HB2 := Aside0.mk (below_step (show Below w.heap.size w _ by (have hB1 := HB1.out; have hZ : w.heap.size ≤ w1.heap.size := (by omega); go_grown)) hb); obtain ⟨hc2, hf2⟩ := bcellR hb; have hz2 : w.heap.size < w2.heap.size := (by have h_ := hb.size; simp at h_; omega); clear hb)))))
  all_goals
    go_ret
    refine ⟨?_, ?_⟩
    · clear Cr
      (try clear hc hf)
      (try clear hc2 hf2)
      have h_ := HR.out
      clear HR
      rw [h_]
      clear h_
      first
        | (simp_all; done)
        | (simp_all <;> omega)
    · have hB1 := HB1.out
      (try (have hB2 := HB2.out; clear HB2))
      have hZ : w.heap.size ≤ w1.heap.size := by omega
      (try (have hZ2 : w.heap.size ≤ w2.heap.size := by omega))
      clear HB1 HR
      go_grown

set_option maxRecDepth 100000 in
set_option maxHeartbeats 4000000 in
theorem ref_7 (a b r bd ty sz v : Int) (ka kb kr : Bool) (res : Bool) (w : World) (Ca : Hid (∀ W, Calls Try.prog 27 #[.int .u64 a] W fun e w' => e = .returned (.bool ka) ∧ Below W.heap.size W w')) (Cb : Hid (∀ W, Calls Try.prog 27 #[.int .u64 b] W fun e w' => e = .returned (.bool kb) ∧ Below W.heap.size W w')) (Cr : Hid (∀ W, Calls Try.prog 28 #[.int .i64 r] W fun e w' => e = .returned (.bool kr) ∧ W = w')) (HR : Hid (res = (ka && (b == 0 && (r == 0 && (bd == 0 && (ty == 0 && sz == 0))))))) :
    Calls Try.prog 15 #[.agg #[.int .i64 7, .int .u64 a, .int .u64 b, .int .i64 r, .int .i64 bd, .int .i64 ty, .int .i64 sz, .int .i64 v]] w fun e w' => e = .returned (.bool res) ∧ Below w.heap.size w w' := by
  have _c := Cr
  have _d := Cb
  clear _c _d
  go_enter Try.func15, Try.ntmps15
  go_wp2_with (first | (go_at_call 28; (with_reducible refine (Cr.out _).mono ?_); rintro e w3 ⟨rfl, rfl⟩) | (go_at_call 27; first | ((with_reducible refine (Ca.out _).mono ?_); clear Ca; rintro e w1 ⟨rfl, hb⟩; have HB1 := Aside0.mk (below_step (show Below w.heap.size w _ by go_grown) hb); obtain ⟨hc, hf⟩ := bcellR hb; have hz0 : w.heap.size < w1.heap.size := (by have h_ := hb.size; simp at h_; omega); clear hb) | ((with_reducible refine (Cb.out _).mono ?_); clear Cb; rintro e w2 ⟨rfl, hb⟩; have HB2 := Aside0.mk (below_step (show Below w.heap.size w _ by (have hB1 := HB1.out; have hZ : w.heap.size ≤ w1.heap.size := (by omega); go_grown)) hb); obtain ⟨hc2, hf2⟩ := bcellR hb; have hz2 : w.heap.size < w2.heap.size := (by have h_ := hb.size; simp at h_; omega); clear hb)))
  all_goals
    go_ret
    refine ⟨?_, ?_⟩
    · clear Cr
      (try clear hc hf)
      (try clear hc2 hf2)
      have h_ := HR.out
      clear HR
      rw [h_]
      clear h_
      first
        | (simp_all; done)
        | (simp_all <;> omega)
    · have hB1 := HB1.out
      (try (have hB2 := HB2.out; clear HB2))
      have hZ : w.heap.size ≤ w1.heap.size := by omega
      (try (have hZ2 : w.heap.size ≤ w2.heap.size := by omega))
      clear HB1 HR
      go_grown

set_option maxRecDepth 100000 in
set_option maxHeartbeats 4000000 in
theorem ref_8 (a b r bd ty sz v : Int) (ka kb kr : Bool) (res : Bool) (w : World) (Ca : Hid (∀ W, Calls Try.prog 27 #[.int .u64 a] W fun e w' => e = .returned (.bool ka) ∧ Below W.heap.size W w')) (Cb : Hid (∀ W, Calls Try.prog 27 #[.int .u64 b] W fun e w' => e = .returned (.bool kb) ∧ Below W.heap.size W w')) (Cr : Hid (∀ W, Calls Try.prog 28 #[.int .i64 r] W fun e w' => e = .returned (.bool kr) ∧ W = w')) (HR : Hid (res = (ka && ((b == 0 || kb) && (r == 0 && (bd == 0 && (ty == 0 && sz == 0))))))) :
    Calls Try.prog 15 #[.agg #[.int .i64 8, .int .u64 a, .int .u64 b, .int .i64 r, .int .i64 bd, .int .i64 ty, .int .i64 sz, .int .i64 v]] w fun e w' => e = .returned (.bool res) ∧ Below w.heap.size w w' := by
  have _c := Cr
  have _d := Cb
  clear _c _d
  go_enter Try.func15, Try.ntmps15
  go_wp2_with (first | (go_at_call 28; (with_reducible refine (Cr.out _).mono ?_); rintro e w3 ⟨rfl, rfl⟩) | (go_at_call 27; first | ((with_reducible refine (Ca.out _).mono ?_); clear Ca; rintro e w1 ⟨rfl, hb⟩; have HB1 := Aside0.mk (below_step (show Below w.heap.size w _ by go_grown) hb); obtain ⟨hc, hf⟩ := bcellR hb; have hz0 : w.heap.size < w1.heap.size := (by have h_ := hb.size; simp at h_; omega); clear hb) | ((with_reducible refine (Cb.out _).mono ?_); clear Cb; rintro e w2 ⟨rfl, hb⟩; have HB2 := Aside0.mk (below_step (show Below w.heap.size w _ by (have hB1 := HB1.out; have hZ : w.heap.size ≤ w1.heap.size := (by omega); go_grown)) hb); obtain ⟨hc2, hf2⟩ := bcellR hb; have hz2 : w.heap.size < w2.heap.size := (by have h_ := hb.size; simp at h_; omega); clear hb)))
  all_goals (try (go_region; all_goals go_wp2_with (first | (go_at_call 28; (with_reducible refine (Cr.out _).mono ?_); rintro e w3 ⟨rfl, rfl⟩) | (go_at_call 27; first | ((with_reducible refine (Ca.out _).mono ?_); clear Ca; rintro e w1 ⟨rfl, hb⟩; have HB1 := Aside0.mk (below_step (show Below w.heap.size w _ by go_grown) hb); obtain ⟨hc, hf⟩ := bcellR hb; have hz0 : w.heap.size < w1.heap.size := (by have h_ := hb.size; simp at h_; omega); clear hb) | ((with_reducible refine (Cb.out _).mono ?_); clear Cb; rintro e w2 ⟨rfl, hb⟩; have HB2 := Aside0.mk (below_step (show Below w.heap.size w _ by (have hB1 := HB1.out; have hZ : w.heap.size ≤ w1.heap.size := (by omega); go_grown)) hb); obtain ⟨hc2, hf2⟩ := bcellR hb; have hz2 : w.heap.size < w2.heap.size := (by have h_ := hb.size; simp at h_; omega); clear hb)))))
  all_goals
    go_ret
    refine ⟨?_, ?_⟩
    · clear Cr
      (try clear hc hf)
      (try clear hc2 hf2)
      have h_ := HR.out
      clear HR
      rw [h_]
      clear h_
      first
        | (simp_all; done)
        | (simp_all <;> omega)
    · have hB1 := HB1.out
      (try (have hB2 := HB2.out; clear HB2))
      have hZ : w.heap.size ≤ w1.heap.size := by omega
      (try (have hZ2 : w.heap.size ≤ w2.heap.size := by omega))
      clear HB1 HR
      go_grown

set_option maxRecDepth 100000 in
set_option maxHeartbeats 4000000 in
theorem ref_9 (a b r bd ty sz v : Int) (ka kb kr : Bool) (res : Bool) (w : World) (Ca : Hid (∀ W, Calls Try.prog 27 #[.int .u64 a] W fun e w' => e = .returned (.bool ka) ∧ Below W.heap.size W w')) (Cb : Hid (∀ W, Calls Try.prog 27 #[.int .u64 b] W fun e w' => e = .returned (.bool kb) ∧ Below W.heap.size W w')) (Cr : Hid (∀ W, Calls Try.prog 28 #[.int .i64 r] W fun e w' => e = .returned (.bool kr) ∧ W = w')) (HR : Hid (res = (ka && ((b == 0 || kb) && (r == 0 && (bd == 0 && (ty == 0 && (sz == 0 && v == 0)))))))) :
    Calls Try.prog 15 #[.agg #[.int .i64 9, .int .u64 a, .int .u64 b, .int .i64 r, .int .i64 bd, .int .i64 ty, .int .i64 sz, .int .i64 v]] w fun e w' => e = .returned (.bool res) ∧ Below w.heap.size w w' := by
  have _c := Cr
  have _d := Cb
  clear _c _d
  go_enter Try.func15, Try.ntmps15
  go_wp2_with (first | (go_at_call 28; (with_reducible refine (Cr.out _).mono ?_); rintro e w3 ⟨rfl, rfl⟩) | (go_at_call 27; first | ((with_reducible refine (Ca.out _).mono ?_); clear Ca; rintro e w1 ⟨rfl, hb⟩; have HB1 := Aside0.mk (below_step (show Below w.heap.size w _ by go_grown) hb); obtain ⟨hc, hf⟩ := bcellR hb; have hz0 : w.heap.size < w1.heap.size := (by have h_ := hb.size; simp at h_; omega); clear hb) | ((with_reducible refine (Cb.out _).mono ?_); clear Cb; rintro e w2 ⟨rfl, hb⟩; have HB2 := Aside0.mk (below_step (show Below w.heap.size w _ by (have hB1 := HB1.out; have hZ : w.heap.size ≤ w1.heap.size := (by omega); go_grown)) hb); obtain ⟨hc2, hf2⟩ := bcellR hb; have hz2 : w.heap.size < w2.heap.size := (by have h_ := hb.size; simp at h_; omega); clear hb)))
  all_goals
    go_ret
    refine ⟨?_, ?_⟩
    · clear Cr
      (try clear hc hf)
      (try clear hc2 hf2)
      have h_ := HR.out
      clear HR
      rw [h_]
      clear h_
      first
        | (simp_all; done)
        | (simp_all <;> omega)
    · have hB1 := HB1.out
      (try (have hB2 := HB2.out; clear HB2))
      have hZ : w.heap.size ≤ w1.heap.size := by omega
      (try (have hZ2 : w.heap.size ≤ w2.heap.size := by omega))
      clear HB1 HR
      go_grown

set_option maxRecDepth 100000 in
set_option maxHeartbeats 4000000 in
theorem ref_o (kd : Int) (h1 : decide (kd < 1) = false) (h2 : decide (12 < kd) = false) (n1 : (kd == 1) = false) (n2 : (kd == 2) = false) (n5 : (kd == 5) = false) (n7 : (kd == 7) = false) (n8 : (kd == 8) = false) (n9 : (kd == 9) = false) (a b r bd ty sz v : Int) (ka kb kr : Bool) (res : Bool) (w : World) (Ca : Hid (∀ W, Calls Try.prog 27 #[.int .u64 a] W fun e w' => e = .returned (.bool ka) ∧ Below W.heap.size W w')) (Cb : Hid (∀ W, Calls Try.prog 27 #[.int .u64 b] W fun e w' => e = .returned (.bool kb) ∧ Below W.heap.size W w')) (Cr : Hid (∀ W, Calls Try.prog 28 #[.int .i64 r] W fun e w' => e = .returned (.bool kr) ∧ W = w')) (HR : Hid (res = (ka && (b == 0 && (r == 0 && (bd == 0 && (ty == 0 && (sz == 0 && v == 0)))))))) :
    Calls Try.prog 15 #[.agg #[.int .i64 kd, .int .u64 a, .int .u64 b, .int .i64 r, .int .i64 bd, .int .i64 ty, .int .i64 sz, .int .i64 v]] w fun e w' => e = .returned (.bool res) ∧ Below w.heap.size w w' := by
  have _c := Cr
  have _d := Cb
  clear _c _d
  go_enter Try.func15, Try.ntmps15
  go_wp2_with (first | (go_at_call 28; (with_reducible refine (Cr.out _).mono ?_); rintro e w3 ⟨rfl, rfl⟩) | (go_at_call 27; first | ((with_reducible refine (Ca.out _).mono ?_); clear Ca; rintro e w1 ⟨rfl, hb⟩; have HB1 := Aside0.mk (below_step (show Below w.heap.size w _ by go_grown) hb); obtain ⟨hc, hf⟩ := bcellR hb; have hz0 : w.heap.size < w1.heap.size := (by have h_ := hb.size; simp at h_; omega); clear hb) | ((with_reducible refine (Cb.out _).mono ?_); clear Cb; rintro e w2 ⟨rfl, hb⟩; have HB2 := Aside0.mk (below_step (show Below w.heap.size w _ by (have hB1 := HB1.out; have hZ : w.heap.size ≤ w1.heap.size := (by omega); go_grown)) hb); obtain ⟨hc2, hf2⟩ := bcellR hb; have hz2 : w.heap.size < w2.heap.size := (by have h_ := hb.size; simp at h_; omega); clear hb)))
  all_goals
    go_ret
    refine ⟨?_, ?_⟩
    · clear Cr
      (try clear hc hf)
      (try clear hc2 hf2)
      have h_ := HR.out
      clear HR
      rw [h_]
      clear h_
      first
        | (simp_all; done)
        | (simp_all <;> omega)
    · have hB1 := HB1.out
      (try (have hB2 := HB2.out; clear HB2))
      have hZ : w.heap.size ≤ w1.heap.size := by omega
      (try (have hZ2 : w.heap.size ≤ w2.heap.size := by omega))
      clear HB1 HR
      go_grown

set_option maxRecDepth 100000 in
set_option maxHeartbeats 1000000 in
theorem ref_lo (kd : Int) (h1 : decide (kd < 1) = true) (a b r bd ty sz v : Int) (w : World) :
    Calls Try.prog 15 #[.agg #[.int .i64 kd, .int .u64 a, .int .u64 b, .int .i64 r, .int .i64 bd, .int .i64 ty, .int .i64 sz, .int .i64 v]] w fun e w' => e = .returned (.bool false) ∧ Below w.heap.size w w' := by
  go_enter Try.func15, Try.ntmps15
  go_wp2_with (fail)
  go_ret
  exact ⟨rfl, by go_grown⟩
set_option maxRecDepth 100000 in
set_option maxHeartbeats 1000000 in
theorem ref_hi (kd : Int) (h1 : decide (kd < 1) = false) (h2 : decide (12 < kd) = true) (a b r bd ty sz v : Int) (w : World) :
    Calls Try.prog 15 #[.agg #[.int .i64 kd, .int .u64 a, .int .u64 b, .int .i64 r, .int .i64 bd, .int .i64 ty, .int .i64 sz, .int .i64 v]] w fun e w' => e = .returned (.bool false) ∧ Below w.heap.size w w' := by
  go_enter Try.func15, Try.ntmps15
  go_wp2_with (fail)
  go_ret
  exact ⟨rfl, by go_grown⟩
theorem rcallOk_1 (a b r bd ty sz v : Int) : callOk 1 a b r bd ty sz v = (addrB a && (addrB b && (rightsB r && (decide (0 ≤ bd) && (decide (bd ≤ 65535) && (ty == 0 && (sz == 0 && v == 0))))))) := rfl
theorem rcallOk_2 (a b r bd ty sz v : Int) : callOk 2 a b r bd ty sz v = (addrB a && (addrB b && (r == 0 && (bd == 0 && (ty == 0 && (sz == 0 && v == 0)))))) := rfl
theorem rcallOk_5 (a b r bd ty sz v : Int) : callOk 5 a b r bd ty sz v = (addrB a && (decide (1 ≤ ty) && (decide (ty ≤ 5) && (decide (0 ≤ sz) && (decide (sz ≤ 1048576) && (addrB b && (r == 0 && (bd == 0 && v == 0)))))))) := rfl
theorem rcallOk_7 (a b r bd ty sz v : Int) : callOk 7 a b r bd ty sz v = (addrB a && (b == 0 && (r == 0 && (bd == 0 && (ty == 0 && sz == 0))))) := rfl
theorem rcallOk_8 (a b r bd ty sz v : Int) : callOk 8 a b r bd ty sz v = (addrB a && ((b == 0 || addrB b) && (r == 0 && (bd == 0 && (ty == 0 && sz == 0))))) := rfl
theorem rcallOk_9 (a b r bd ty sz v : Int) : callOk 9 a b r bd ty sz v = (addrB a && ((b == 0 || addrB b) && (r == 0 && (bd == 0 && (ty == 0 && (sz == 0 && v == 0)))))) := rfl
theorem rcallOk_o {kd : Int} (h1 : decide (1 ≤ kd) = true) (h2 : decide (kd ≤ 12) = true) (n1 : kd ≠ 1) (n2 : kd ≠ 2) (n5 : kd ≠ 5) (n7 : kd ≠ 7) (n8 : kd ≠ 8) (n9 : kd ≠ 9) (a b r bd ty sz v : Int) : callOk kd a b r bd ty sz v = (addrB a && (b == 0 && (r == 0 && (bd == 0 && (ty == 0 && (sz == 0 && v == 0)))))) := by
  unfold callOk kindB
  rw [h1, h2, if_neg n1, if_neg n2, if_neg n5, if_neg n7, if_neg n8, if_neg n9]
  rfl
theorem garrisonref15_Is.calls (kd a b r bd ty sz v : Int) (res : Bool) (w : World) (h : garrisonref15_Is.f kd a b r bd ty sz v = some res) :
    Calls Try.prog 15 #[.agg #[.int .i64 kd, .int .u64 a, .int .u64 b, .int .i64 r, .int .i64 bd, .int .i64 ty, .int .i64 sz, .int .i64 v]] w fun e w' => e = .returned (.bool res) ∧ Below w.heap.size w w' := by
  unfold garrisonref15_Is.f at h
  by_cases hw : wfc a b r
  · rw [if_pos hw] at h
    obtain ⟨⟨ha0, ha1⟩, ⟨hb0, hb1⟩, hr0, hr1⟩ := hw
    have hres := (Option.some.inj h).symm
    have Ca := Lib.hid (Ra_of ha0 ha1)
    have Cb := Lib.hid (Ra_of hb0 hb1)
    have Cr := Lib.hid (refRights_any r)
    clear h ha0 ha1 hb0 hb1 hr0 hr1
    by_cases k1 : kd = 1
    · subst k1; exact ref_1 a b r bd ty sz v _ _ _ res w Ca Cb Cr (Lib.hid (by rw [hres, rcallOk_1]))
    by_cases k2 : kd = 2
    · subst k2; exact ref_2 a b r bd ty sz v _ _ _ res w Ca Cb Cr (Lib.hid (by rw [hres, rcallOk_2]))
    by_cases k5 : kd = 5
    · subst k5; exact ref_5 a b r bd ty sz v _ _ _ res w Ca Cb Cr (Lib.hid (by rw [hres, rcallOk_5]))
    by_cases k7 : kd = 7
    · subst k7; exact ref_7 a b r bd ty sz v _ _ _ res w Ca Cb Cr (Lib.hid (by rw [hres, rcallOk_7]))
    by_cases k8 : kd = 8
    · subst k8; exact ref_8 a b r bd ty sz v _ _ _ res w Ca Cb Cr (Lib.hid (by rw [hres, rcallOk_8]))
    by_cases k9 : kd = 9
    · subst k9; exact ref_9 a b r bd ty sz v _ _ _ res w Ca Cb Cr (Lib.hid (by rw [hres, rcallOk_9]))
    have n : ∀ x : Int, kd ≠ x → (kd == x) = false := fun x h => beq_eq_false_iff_ne.mpr h
    by_cases h1 : kd < 1
    · have e : callOk kd a b r bd ty sz v = false := by unfold callOk; rw [decide_eq_false (show ¬ 1 ≤ kd by omega)]; rfl
      rw [e] at hres
      subst hres
      exact ref_lo kd (decide_eq_true h1) a b r bd ty sz v w
    · by_cases h2 : 12 < kd
      · have e : callOk kd a b r bd ty sz v = false := by unfold callOk; rw [decide_eq_true (show 1 ≤ kd by omega), decide_eq_false (show ¬ kd ≤ 12 by omega)]; rfl
        rw [e] at hres
        subst hres
        exact ref_hi kd (decide_eq_false h1) (decide_eq_true h2) a b r bd ty sz v w
      · exact ref_o kd (decide_eq_false h1) (decide_eq_false h2) (n _ k1) (n _ k2) (n _ k5) (n _ k7) (n _ k8) (n _ k9) a b r bd ty sz v _ _ _ res w Ca Cb Cr (Lib.hid (by rw [hres, rcallOk_o (decide_eq_true (by omega)) (decide_eq_true (by omega)) k1 k2 k5 k7 k8 k9]))
  · rw [if_neg hw] at h
    cases h
end Go.Proofs.Ytikbldmlfjckkaa.Given
