/- call.Check at this program: what the call answers. Printed by wip/call/gencall.py: each kind's tests are decided one by one, a walk a leaf. -/
import Derived.Test.YtikbldmlfjckkaaCallOk
import Derived.Lib.Hide
import Derived.Handy
namespace Go.Proofs.Ytikbldmlfjckkaa.Given
open Go Go.RowKit Go.Proofs Go.Proofs.YtikbldmlfjckkaaW.PrintWords Go.Proofs.YtikbldmlfjckkaaW.PrintLast Go.Proofs.YtikbldmlfjckkaaW.PrintMore Go.Proofs.Ytikbldmlfjckkaa.P Go.Proofs.Ytikbldmlfjckkaa.Plain

theorem callEq (d : Nat) (w : World) (x0 y0 : Int) (x1 y1 : Int) (x2 y2 : Int) (x3 y3 : Int) (x4 y4 : Int) (x5 y5 : Int) (x6 y6 : Int) (x7 y7 : Int) :
    (Op.equalIn (d + 2) 24 (.agg #[.int .i64 x0, .int .u64 x1, .int .u64 x2, .int .i64 x3, .int .i64 x4, .int .i64 x5, .int .i64 x6, .int .i64 x7]) (.agg #[.int .i64 y0, .int .u64 y1, .int .u64 y2, .int .i64 y3, .int .i64 y4, .int .i64 y5, .int .i64 y6, .int .i64 y7])).run Try.prog w = .ok (x0 == y0 && (x1 == y1 && (x2 == y2 && (x3 == y3 && (x4 == y4 && (x5 == y5 && (x6 == y6 && (x7 == y7)))))))) w := by
  refine eqA_of Try.underlying24 (by kernel_rfl) ?_
  refine eqf_cons (by rfl) (by go_simp; rfl) (by go_simp; rfl) (by go_simp) ?_
  refine eqf_cons (by rfl) (by go_simp; rfl) (by go_simp; rfl) (by go_simp) ?_
  refine eqf_cons (by rfl) (by go_simp; rfl) (by go_simp; rfl) (by go_simp) ?_
  refine eqf_cons (by rfl) (by go_simp; rfl) (by go_simp; rfl) (by go_simp) ?_
  refine eqf_cons (by rfl) (by go_simp; rfl) (by go_simp; rfl) (by go_simp) ?_
  refine eqf_cons (by rfl) (by go_simp; rfl) (by go_simp; rfl) (by go_simp) ?_
  refine eqf_cons (by rfl) (by go_simp; rfl) (by go_simp; rfl) (by go_simp) ?_
  exact eqf_last (by rfl) (by go_simp; rfl) (by go_simp; rfl) (by go_simp)
attribute [local go_sem high] callEq
theorem bcell {W w1 : World} (hb : Below W.heap.size W w1) : (∀ b o, b < W.heap.size → w1.cell? ⟨b, o, none⟩ = W.cell? ⟨b, o, none⟩) ∧ (∀ b o, b < W.heap.size → w1.frozen? ⟨b, o, none⟩ = W.frozen? ⟨b, o, none⟩) :=
  ⟨fun b o h => hb.cell (p := ⟨b, o, none⟩) h, fun b o h => hb.frozen (p := ⟨b, o, none⟩) h⟩

def call_Check.f (kd a b r bd ty sz v : Int) : Option Int := if wfc a b r then some (if callOk kd a b r bd ty sz v = true then 0 else 150) else none
theorem rightsIs_any {r : Int} (h0 : -9223372036854775808 ≤ r) (h1 : r ≤ 9223372036854775807) (w : World) : Calls Try.prog 26 #[.int .i64 r] w fun e w' => e = .returned (.bool (rightsB r)) ∧ w = w' := by
  have e := i64_andNot15 h0 h1
  generalize rightsB r = q at *
  clear h0 h1
  subst e
  go_enter Try.func26, Try.ntmps26
  go_wp2
  go_ret
  exact ⟨rfl, rfl⟩

set_option maxRecDepth 100000 in
set_option maxHeartbeats 4000000 in
theorem chk_1 (a b r bd ty sz v : Int) (ka kb kr : Bool) (res : Int) (w : World) (Ca : Hid (∀ W, Calls Try.prog 25 #[.int .u64 a] W fun e w' => e = .returned (.bool ka) ∧ Below W.heap.size W w')) (Cb : Hid (∀ W, Calls Try.prog 25 #[.int .u64 b] W fun e w' => e = .returned (.bool kb) ∧ Below W.heap.size W w')) (Cr : Hid (∀ W, Calls Try.prog 26 #[.int .i64 r] W fun e w' => e = .returned (.bool kr) ∧ W = w')) (HR : Hid (res = if (ka && (kb && (kr && (decide (0 ≤ bd) && (decide (bd ≤ 65535) && (ty == 0 && (sz == 0 && v == 0))))))) = true then 0 else 150)) :
    Calls Try.prog 14 #[.agg #[.int .i64 1, .int .u64 a, .int .u64 b, .int .i64 r, .int .i64 bd, .int .i64 ty, .int .i64 sz, .int .i64 v]] w fun e w' => e = .returned (.int .i64 res) ∧ Below w.heap.size w w' := by
  have _c := Cr
  have _d := Cb
  clear _c _d
  go_enter Try.func14, Try.ntmps14
  go_wp2_with (first | (go_at_call 26; (with_reducible refine (Cr.out _).mono ?_); rintro e w3 ⟨rfl, rfl⟩) | (go_at_call 25; first | ((with_reducible refine (Ca.out _).mono ?_); clear Ca; rintro e w1 ⟨rfl, hb⟩; have HB1 := Aside0.mk (below_step (show Below w.heap.size w _ by go_grown) hb); obtain ⟨hc, hf⟩ := bcell hb; have hz1 : w.heap.size + 1 < w1.heap.size := (by have h_ := hb.size; simp at h_; omega); have hz0 : w.heap.size < w1.heap.size := (by omega); clear hb) | ((with_reducible refine (Cb.out _).mono ?_); clear Cb; rintro e w2 ⟨rfl, hb⟩; have HB2 := Aside0.mk (below_step (show Below w.heap.size w _ by (have hB1 := HB1.out; go_grown)) hb); obtain ⟨hc2, hf2⟩ := bcell hb; clear hb)))
  all_goals
    go_ret
    refine ⟨?_, ?_⟩
    · clear Cr
      (try clear hc hf)
      (try clear hc2 hf2)
      have h_ := HR.out
      clear HR
      rw [h_]
      first
        | (split <;> simp_all; done)
        | (split <;> simp_all <;> omega)
    · have hB1 := HB1.out
      (try (have hB2 := HB2.out; clear HB2))
      clear HB1 HR
      go_grown

set_option maxRecDepth 100000 in
set_option maxHeartbeats 4000000 in
theorem chk_2 (a b r bd ty sz v : Int) (ka kb kr : Bool) (res : Int) (w : World) (Ca : Hid (∀ W, Calls Try.prog 25 #[.int .u64 a] W fun e w' => e = .returned (.bool ka) ∧ Below W.heap.size W w')) (Cb : Hid (∀ W, Calls Try.prog 25 #[.int .u64 b] W fun e w' => e = .returned (.bool kb) ∧ Below W.heap.size W w')) (Cr : Hid (∀ W, Calls Try.prog 26 #[.int .i64 r] W fun e w' => e = .returned (.bool kr) ∧ W = w')) (HR : Hid (res = if (ka && (kb && (r == 0 && (bd == 0 && (ty == 0 && (sz == 0 && v == 0)))))) = true then 0 else 150)) :
    Calls Try.prog 14 #[.agg #[.int .i64 2, .int .u64 a, .int .u64 b, .int .i64 r, .int .i64 bd, .int .i64 ty, .int .i64 sz, .int .i64 v]] w fun e w' => e = .returned (.int .i64 res) ∧ Below w.heap.size w w' := by
  have _c := Cr
  have _d := Cb
  clear _c _d
  go_enter Try.func14, Try.ntmps14
  go_wp2_with (first | (go_at_call 26; (with_reducible refine (Cr.out _).mono ?_); rintro e w3 ⟨rfl, rfl⟩) | (go_at_call 25; first | ((with_reducible refine (Ca.out _).mono ?_); clear Ca; rintro e w1 ⟨rfl, hb⟩; have HB1 := Aside0.mk (below_step (show Below w.heap.size w _ by go_grown) hb); obtain ⟨hc, hf⟩ := bcell hb; have hz1 : w.heap.size + 1 < w1.heap.size := (by have h_ := hb.size; simp at h_; omega); have hz0 : w.heap.size < w1.heap.size := (by omega); clear hb) | ((with_reducible refine (Cb.out _).mono ?_); clear Cb; rintro e w2 ⟨rfl, hb⟩; have HB2 := Aside0.mk (below_step (show Below w.heap.size w _ by (have hB1 := HB1.out; go_grown)) hb); obtain ⟨hc2, hf2⟩ := bcell hb; clear hb)))
  all_goals
    go_ret
    refine ⟨?_, ?_⟩
    · clear Cr
      (try clear hc hf)
      (try clear hc2 hf2)
      have h_ := HR.out
      clear HR
      rw [h_]
      first
        | (split <;> simp_all; done)
        | (split <;> simp_all <;> omega)
    · have hB1 := HB1.out
      (try (have hB2 := HB2.out; clear HB2))
      clear HB1 HR
      go_grown

set_option maxRecDepth 100000 in
set_option maxHeartbeats 4000000 in
theorem chk_5 (a b r bd ty sz v : Int) (ka kb kr : Bool) (res : Int) (w : World) (Ca : Hid (∀ W, Calls Try.prog 25 #[.int .u64 a] W fun e w' => e = .returned (.bool ka) ∧ Below W.heap.size W w')) (Cb : Hid (∀ W, Calls Try.prog 25 #[.int .u64 b] W fun e w' => e = .returned (.bool kb) ∧ Below W.heap.size W w')) (Cr : Hid (∀ W, Calls Try.prog 26 #[.int .i64 r] W fun e w' => e = .returned (.bool kr) ∧ W = w')) (HR : Hid (res = if (ka && (decide (1 ≤ ty) && (decide (ty ≤ 5) && (decide (0 ≤ sz) && (decide (sz ≤ 1048576) && (kb && (r == 0 && (bd == 0 && v == 0)))))))) = true then 0 else 150)) :
    Calls Try.prog 14 #[.agg #[.int .i64 5, .int .u64 a, .int .u64 b, .int .i64 r, .int .i64 bd, .int .i64 ty, .int .i64 sz, .int .i64 v]] w fun e w' => e = .returned (.int .i64 res) ∧ Below w.heap.size w w' := by
  have _c := Cr
  have _d := Cb
  clear _c _d
  go_enter Try.func14, Try.ntmps14
  go_wp2_with (first | (go_at_call 26; (with_reducible refine (Cr.out _).mono ?_); rintro e w3 ⟨rfl, rfl⟩) | (go_at_call 25; first | ((with_reducible refine (Ca.out _).mono ?_); clear Ca; rintro e w1 ⟨rfl, hb⟩; have HB1 := Aside0.mk (below_step (show Below w.heap.size w _ by go_grown) hb); obtain ⟨hc, hf⟩ := bcell hb; have hz1 : w.heap.size + 1 < w1.heap.size := (by have h_ := hb.size; simp at h_; omega); have hz0 : w.heap.size < w1.heap.size := (by omega); clear hb) | ((with_reducible refine (Cb.out _).mono ?_); clear Cb; rintro e w2 ⟨rfl, hb⟩; have HB2 := Aside0.mk (below_step (show Below w.heap.size w _ by (have hB1 := HB1.out; go_grown)) hb); obtain ⟨hc2, hf2⟩ := bcell hb; clear hb)))
  all_goals
    go_ret
    refine ⟨?_, ?_⟩
    · clear Cr
      (try clear hc hf)
      (try clear hc2 hf2)
      have h_ := HR.out
      clear HR
      rw [h_]
      first
        | (split <;> simp_all; done)
        | (split <;> simp_all <;> omega)
    · have hB1 := HB1.out
      (try (have hB2 := HB2.out; clear HB2))
      clear HB1 HR
      go_grown

set_option maxRecDepth 100000 in
set_option maxHeartbeats 4000000 in
theorem chk_7 (a b r bd ty sz v : Int) (ka kb kr : Bool) (res : Int) (w : World) (Ca : Hid (∀ W, Calls Try.prog 25 #[.int .u64 a] W fun e w' => e = .returned (.bool ka) ∧ Below W.heap.size W w')) (Cb : Hid (∀ W, Calls Try.prog 25 #[.int .u64 b] W fun e w' => e = .returned (.bool kb) ∧ Below W.heap.size W w')) (Cr : Hid (∀ W, Calls Try.prog 26 #[.int .i64 r] W fun e w' => e = .returned (.bool kr) ∧ W = w')) (HR : Hid (res = if (ka && (b == 0 && (r == 0 && (bd == 0 && (ty == 0 && sz == 0))))) = true then 0 else 150)) :
    Calls Try.prog 14 #[.agg #[.int .i64 7, .int .u64 a, .int .u64 b, .int .i64 r, .int .i64 bd, .int .i64 ty, .int .i64 sz, .int .i64 v]] w fun e w' => e = .returned (.int .i64 res) ∧ Below w.heap.size w w' := by
  have _c := Cr
  have _d := Cb
  clear _c _d
  go_enter Try.func14, Try.ntmps14
  go_wp2_with (first | (go_at_call 26; (with_reducible refine (Cr.out _).mono ?_); rintro e w3 ⟨rfl, rfl⟩) | (go_at_call 25; first | ((with_reducible refine (Ca.out _).mono ?_); clear Ca; rintro e w1 ⟨rfl, hb⟩; have HB1 := Aside0.mk (below_step (show Below w.heap.size w _ by go_grown) hb); obtain ⟨hc, hf⟩ := bcell hb; have hz1 : w.heap.size + 1 < w1.heap.size := (by have h_ := hb.size; simp at h_; omega); have hz0 : w.heap.size < w1.heap.size := (by omega); clear hb) | ((with_reducible refine (Cb.out _).mono ?_); clear Cb; rintro e w2 ⟨rfl, hb⟩; have HB2 := Aside0.mk (below_step (show Below w.heap.size w _ by (have hB1 := HB1.out; go_grown)) hb); obtain ⟨hc2, hf2⟩ := bcell hb; clear hb)))
  all_goals
    go_ret
    refine ⟨?_, ?_⟩
    · clear Cr
      (try clear hc hf)
      (try clear hc2 hf2)
      have h_ := HR.out
      clear HR
      rw [h_]
      first
        | (split <;> simp_all; done)
        | (split <;> simp_all <;> omega)
    · have hB1 := HB1.out
      (try (have hB2 := HB2.out; clear HB2))
      clear HB1 HR
      go_grown

set_option maxRecDepth 100000 in
set_option maxHeartbeats 4000000 in
theorem chk_8 (a b r bd ty sz v : Int) (ka kb kr : Bool) (res : Int) (w : World) (Ca : Hid (∀ W, Calls Try.prog 25 #[.int .u64 a] W fun e w' => e = .returned (.bool ka) ∧ Below W.heap.size W w')) (Cb : Hid (∀ W, Calls Try.prog 25 #[.int .u64 b] W fun e w' => e = .returned (.bool kb) ∧ Below W.heap.size W w')) (Cr : Hid (∀ W, Calls Try.prog 26 #[.int .i64 r] W fun e w' => e = .returned (.bool kr) ∧ W = w')) (HR : Hid (res = if (ka && ((b == 0 || kb) && (r == 0 && (bd == 0 && (ty == 0 && sz == 0))))) = true then 0 else 150)) :
    Calls Try.prog 14 #[.agg #[.int .i64 8, .int .u64 a, .int .u64 b, .int .i64 r, .int .i64 bd, .int .i64 ty, .int .i64 sz, .int .i64 v]] w fun e w' => e = .returned (.int .i64 res) ∧ Below w.heap.size w w' := by
  have _c := Cr
  have _d := Cb
  clear _c _d
  go_enter Try.func14, Try.ntmps14
  go_wp2_with (first | (go_at_call 26; (with_reducible refine (Cr.out _).mono ?_); rintro e w3 ⟨rfl, rfl⟩) | (go_at_call 25; first | ((with_reducible refine (Ca.out _).mono ?_); clear Ca; rintro e w1 ⟨rfl, hb⟩; have HB1 := Aside0.mk (below_step (show Below w.heap.size w _ by go_grown) hb); obtain ⟨hc, hf⟩ := bcell hb; have hz1 : w.heap.size + 1 < w1.heap.size := (by have h_ := hb.size; simp at h_; omega); have hz0 : w.heap.size < w1.heap.size := (by omega); clear hb) | ((with_reducible refine (Cb.out _).mono ?_); clear Cb; rintro e w2 ⟨rfl, hb⟩; have HB2 := Aside0.mk (below_step (show Below w.heap.size w _ by (have hB1 := HB1.out; go_grown)) hb); obtain ⟨hc2, hf2⟩ := bcell hb; clear hb)))
  all_goals
    go_ret
    refine ⟨?_, ?_⟩
    · clear Cr
      (try clear hc hf)
      (try clear hc2 hf2)
      have h_ := HR.out
      clear HR
      rw [h_]
      first
        | (split <;> simp_all; done)
        | (split <;> simp_all <;> omega)
    · have hB1 := HB1.out
      (try (have hB2 := HB2.out; clear HB2))
      clear HB1 HR
      go_grown

set_option maxRecDepth 100000 in
set_option maxHeartbeats 4000000 in
theorem chk_9 (a b r bd ty sz v : Int) (ka kb kr : Bool) (res : Int) (w : World) (Ca : Hid (∀ W, Calls Try.prog 25 #[.int .u64 a] W fun e w' => e = .returned (.bool ka) ∧ Below W.heap.size W w')) (Cb : Hid (∀ W, Calls Try.prog 25 #[.int .u64 b] W fun e w' => e = .returned (.bool kb) ∧ Below W.heap.size W w')) (Cr : Hid (∀ W, Calls Try.prog 26 #[.int .i64 r] W fun e w' => e = .returned (.bool kr) ∧ W = w')) (HR : Hid (res = if (ka && ((b == 0 || kb) && (r == 0 && (bd == 0 && (ty == 0 && (sz == 0 && v == 0)))))) = true then 0 else 150)) :
    Calls Try.prog 14 #[.agg #[.int .i64 9, .int .u64 a, .int .u64 b, .int .i64 r, .int .i64 bd, .int .i64 ty, .int .i64 sz, .int .i64 v]] w fun e w' => e = .returned (.int .i64 res) ∧ Below w.heap.size w w' := by
  have _c := Cr
  have _d := Cb
  clear _c _d
  go_enter Try.func14, Try.ntmps14
  go_wp2_with (first | (go_at_call 26; (with_reducible refine (Cr.out _).mono ?_); rintro e w3 ⟨rfl, rfl⟩) | (go_at_call 25; first | ((with_reducible refine (Ca.out _).mono ?_); clear Ca; rintro e w1 ⟨rfl, hb⟩; have HB1 := Aside0.mk (below_step (show Below w.heap.size w _ by go_grown) hb); obtain ⟨hc, hf⟩ := bcell hb; have hz1 : w.heap.size + 1 < w1.heap.size := (by have h_ := hb.size; simp at h_; omega); have hz0 : w.heap.size < w1.heap.size := (by omega); clear hb) | ((with_reducible refine (Cb.out _).mono ?_); clear Cb; rintro e w2 ⟨rfl, hb⟩; have HB2 := Aside0.mk (below_step (show Below w.heap.size w _ by (have hB1 := HB1.out; go_grown)) hb); obtain ⟨hc2, hf2⟩ := bcell hb; clear hb)))
  all_goals
    go_ret
    refine ⟨?_, ?_⟩
    · clear Cr
      (try clear hc hf)
      (try clear hc2 hf2)
      have h_ := HR.out
      clear HR
      rw [h_]
      first
        | (split <;> simp_all; done)
        | (split <;> simp_all <;> omega)
    · have hB1 := HB1.out
      (try (have hB2 := HB2.out; clear HB2))
      clear HB1 HR
      go_grown

set_option maxRecDepth 100000 in
set_option maxHeartbeats 4000000 in
theorem chk_o (kd : Int) (h1 : decide (1 ≤ kd) = true) (h2 : decide (kd ≤ 12) = true) (n1 : (kd == 1) = false) (n2 : (kd == 2) = false) (n5 : (kd == 5) = false) (n7 : (kd == 7) = false) (n8 : (kd == 8) = false) (n9 : (kd == 9) = false) (a b r bd ty sz v : Int) (ka kb kr : Bool) (res : Int) (w : World) (Ca : Hid (∀ W, Calls Try.prog 25 #[.int .u64 a] W fun e w' => e = .returned (.bool ka) ∧ Below W.heap.size W w')) (Cb : Hid (∀ W, Calls Try.prog 25 #[.int .u64 b] W fun e w' => e = .returned (.bool kb) ∧ Below W.heap.size W w')) (Cr : Hid (∀ W, Calls Try.prog 26 #[.int .i64 r] W fun e w' => e = .returned (.bool kr) ∧ W = w')) (HR : Hid (res = if (ka && (b == 0 && (r == 0 && (bd == 0 && (ty == 0 && (sz == 0 && v == 0)))))) = true then 0 else 150)) :
    Calls Try.prog 14 #[.agg #[.int .i64 kd, .int .u64 a, .int .u64 b, .int .i64 r, .int .i64 bd, .int .i64 ty, .int .i64 sz, .int .i64 v]] w fun e w' => e = .returned (.int .i64 res) ∧ Below w.heap.size w w' := by
  have _c := Cr
  have _d := Cb
  clear _c _d
  go_enter Try.func14, Try.ntmps14
  go_wp2_with (first | (go_at_call 26; (with_reducible refine (Cr.out _).mono ?_); rintro e w3 ⟨rfl, rfl⟩) | (go_at_call 25; first | ((with_reducible refine (Ca.out _).mono ?_); clear Ca; rintro e w1 ⟨rfl, hb⟩; have HB1 := Aside0.mk (below_step (show Below w.heap.size w _ by go_grown) hb); obtain ⟨hc, hf⟩ := bcell hb; have hz1 : w.heap.size + 1 < w1.heap.size := (by have h_ := hb.size; simp at h_; omega); have hz0 : w.heap.size < w1.heap.size := (by omega); clear hb) | ((with_reducible refine (Cb.out _).mono ?_); clear Cb; rintro e w2 ⟨rfl, hb⟩; have HB2 := Aside0.mk (below_step (show Below w.heap.size w _ by (have hB1 := HB1.out; go_grown)) hb); obtain ⟨hc2, hf2⟩ := bcell hb; clear hb)))
  all_goals
    go_ret
    refine ⟨?_, ?_⟩
    · clear Cr
      (try clear hc hf)
      (try clear hc2 hf2)
      have h_ := HR.out
      clear HR
      rw [h_]
      first
        | (split <;> simp_all; done)
        | (split <;> simp_all <;> omega)
    · have hB1 := HB1.out
      (try (have hB2 := HB2.out; clear HB2))
      clear HB1 HR
      go_grown

set_option maxRecDepth 100000 in
set_option maxHeartbeats 1000000 in
theorem chk_lo (kd : Int) (h1 : decide (1 ≤ kd) = false) (n1 : (kd == 1) = false) (n2 : (kd == 2) = false) (n5 : (kd == 5) = false) (n7 : (kd == 7) = false) (n8 : (kd == 8) = false) (n9 : (kd == 9) = false) (a b r bd ty sz v : Int) (w : World) :
    Calls Try.prog 14 #[.agg #[.int .i64 kd, .int .u64 a, .int .u64 b, .int .i64 r, .int .i64 bd, .int .i64 ty, .int .i64 sz, .int .i64 v]] w fun e w' => e = .returned (.int .i64 150) ∧ Below w.heap.size w w' := by
  go_enter Try.func14, Try.ntmps14
  go_wp2_with (fail)
  go_ret
  exact ⟨rfl, by go_grown⟩
set_option maxRecDepth 100000 in
set_option maxHeartbeats 1000000 in
theorem chk_hi (kd : Int) (h1 : decide (1 ≤ kd) = true) (h2 : decide (kd ≤ 12) = false) (n1 : (kd == 1) = false) (n2 : (kd == 2) = false) (n5 : (kd == 5) = false) (n7 : (kd == 7) = false) (n8 : (kd == 8) = false) (n9 : (kd == 9) = false) (a b r bd ty sz v : Int) (w : World) :
    Calls Try.prog 14 #[.agg #[.int .i64 kd, .int .u64 a, .int .u64 b, .int .i64 r, .int .i64 bd, .int .i64 ty, .int .i64 sz, .int .i64 v]] w fun e w' => e = .returned (.int .i64 150) ∧ Below w.heap.size w w' := by
  go_enter Try.func14, Try.ntmps14
  go_wp2_with (fail)
  go_ret
  exact ⟨rfl, by go_grown⟩
theorem callOk_1 (a b r bd ty sz v : Int) : callOk 1 a b r bd ty sz v = (addrB a && (addrB b && (rightsB r && (decide (0 ≤ bd) && (decide (bd ≤ 65535) && (ty == 0 && (sz == 0 && v == 0))))))) := rfl
theorem callOk_2 (a b r bd ty sz v : Int) : callOk 2 a b r bd ty sz v = (addrB a && (addrB b && (r == 0 && (bd == 0 && (ty == 0 && (sz == 0 && v == 0)))))) := rfl
theorem callOk_5 (a b r bd ty sz v : Int) : callOk 5 a b r bd ty sz v = (addrB a && (decide (1 ≤ ty) && (decide (ty ≤ 5) && (decide (0 ≤ sz) && (decide (sz ≤ 1048576) && (addrB b && (r == 0 && (bd == 0 && v == 0)))))))) := rfl
theorem callOk_7 (a b r bd ty sz v : Int) : callOk 7 a b r bd ty sz v = (addrB a && (b == 0 && (r == 0 && (bd == 0 && (ty == 0 && sz == 0))))) := rfl
theorem callOk_8 (a b r bd ty sz v : Int) : callOk 8 a b r bd ty sz v = (addrB a && ((b == 0 || addrB b) && (r == 0 && (bd == 0 && (ty == 0 && sz == 0))))) := rfl
theorem callOk_9 (a b r bd ty sz v : Int) : callOk 9 a b r bd ty sz v = (addrB a && ((b == 0 || addrB b) && (r == 0 && (bd == 0 && (ty == 0 && (sz == 0 && v == 0)))))) := rfl
theorem callOk_o {kd : Int} (h1 : decide (1 ≤ kd) = true) (h2 : decide (kd ≤ 12) = true) (n1 : kd ≠ 1) (n2 : kd ≠ 2) (n5 : kd ≠ 5) (n7 : kd ≠ 7) (n8 : kd ≠ 8) (n9 : kd ≠ 9) (a b r bd ty sz v : Int) : callOk kd a b r bd ty sz v = (addrB a && (b == 0 && (r == 0 && (bd == 0 && (ty == 0 && (sz == 0 && v == 0)))))) := by
  unfold callOk kindB
  rw [h1, h2, if_neg n1, if_neg n2, if_neg n5, if_neg n7, if_neg n8, if_neg n9]
  rfl
theorem call_Check.calls (kd a b r bd ty sz v : Int) (res : Int) (w : World) (h : call_Check.f kd a b r bd ty sz v = some res) :
    Calls Try.prog 14 #[.agg #[.int .i64 kd, .int .u64 a, .int .u64 b, .int .i64 r, .int .i64 bd, .int .i64 ty, .int .i64 sz, .int .i64 v]] w fun e w' => e = .returned (.int .i64 res) ∧ Below w.heap.size w w' := by
  unfold call_Check.f at h
  by_cases hw : wfc a b r
  · rw [if_pos hw] at h
    obtain ⟨⟨ha0, ha1⟩, ⟨hb0, hb1⟩, hr0, hr1⟩ := hw
    have hres := (Option.some.inj h).symm
    have Ca := Lib.hid (Ca_of ha0 ha1)
    have Cb := Lib.hid (Ca_of hb0 hb1)
    have Cr := Lib.hid (rightsIs_any hr0 hr1)
    clear h ha0 ha1 hb0 hb1 hr0 hr1
    by_cases k1 : kd = 1
    · subst k1; exact chk_1 a b r bd ty sz v _ _ _ res w Ca Cb Cr (Lib.hid (by rw [hres, callOk_1]))
    by_cases k2 : kd = 2
    · subst k2; exact chk_2 a b r bd ty sz v _ _ _ res w Ca Cb Cr (Lib.hid (by rw [hres, callOk_2]))
    by_cases k5 : kd = 5
    · subst k5; exact chk_5 a b r bd ty sz v _ _ _ res w Ca Cb Cr (Lib.hid (by rw [hres, callOk_5]))
    by_cases k7 : kd = 7
    · subst k7; exact chk_7 a b r bd ty sz v _ _ _ res w Ca Cb Cr (Lib.hid (by rw [hres, callOk_7]))
    by_cases k8 : kd = 8
    · subst k8; exact chk_8 a b r bd ty sz v _ _ _ res w Ca Cb Cr (Lib.hid (by rw [hres, callOk_8]))
    by_cases k9 : kd = 9
    · subst k9; exact chk_9 a b r bd ty sz v _ _ _ res w Ca Cb Cr (Lib.hid (by rw [hres, callOk_9]))
    have n : ∀ x : Int, kd ≠ x → (kd == x) = false := fun x h => beq_eq_false_iff_ne.mpr h
    by_cases h1 : 1 ≤ kd
    · by_cases h2 : kd ≤ 12
      · exact chk_o kd (decide_eq_true h1) (decide_eq_true h2) (n _ k1) (n _ k2) (n _ k5) (n _ k7) (n _ k8) (n _ k9) a b r bd ty sz v _ _ _ res w Ca Cb Cr (Lib.hid (by rw [hres, callOk_o (decide_eq_true h1) (decide_eq_true h2) k1 k2 k5 k7 k8 k9]))
      · have e : callOk kd a b r bd ty sz v = false := by unfold callOk; rw [decide_eq_true h1, decide_eq_false h2]; rfl
        rw [e] at hres
        subst hres
        exact chk_hi kd (decide_eq_true h1) (decide_eq_false h2) (n _ k1) (n _ k2) (n _ k5) (n _ k7) (n _ k8) (n _ k9) a b r bd ty sz v w
    · have e : callOk kd a b r bd ty sz v = false := by unfold callOk; rw [decide_eq_false h1]; rfl
      rw [e] at hres
      subst hres
      exact chk_lo kd (decide_eq_false h1) (n _ k1) (n _ k2) (n _ k5) (n _ k7) (n _ k8) (n _ k9) a b r bd ty sz v w
  · rw [if_neg hw] at h
    cases h
end Go.Proofs.Ytikbldmlfjckkaa.Given
