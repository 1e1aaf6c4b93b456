/- call.Put at this program: what the call answers (fields and numbers lie in arrays). -/
import Derived.Test.YtikbldmlfjckkaaGCall
import Derived.Deep.QuietTactic
import Derived.BigQuiet
import Derived.LoopN
import Derived.Test.YtikbldmlfjckkaaPx4
namespace Go.Proofs.Ytikbldmlfjckkaa.Given
open Go Go.RowKit Go.Proofs Go.Proofs.YtikbldmlfjckkaaW.PrintWords Go.Proofs.YtikbldmlfjckkaaW.PrintLast Go.Proofs.YtikbldmlfjckkaaW.PrintMore Go.Proofs.Ytikbldmlfjckkaa.P Go.Proofs.Ytikbldmlfjckkaa.Plain

/-- The first word. -/
def wordN (kd r ty bd sz : Nat) : Nat := putN (putN (putN (putN (putN 0 0 4 kd) 4 4 r) 8 4 ty) 12 16 bd) 28 21 sz
theorem callOk_bounds {kd a b r bd ty sz v : Int} (h : callOk kd a b r bd ty sz v = true) : (1 ≤ kd ∧ kd ≤ 12) ∧ (0 ≤ r ∧ r ≤ 15) ∧ (0 ≤ bd ∧ bd ≤ 65535) ∧ (0 ≤ ty ∧ ty ≤ 5) ∧ 0 ≤ sz ∧ sz ≤ 1048576 := by
  unfold callOk at h
  simp only [Bool.and_eq_true, decide_eq_true_eq] at h
  obtain ⟨h1, h2, _, h3⟩ := h
  refine ⟨⟨h1, h2⟩, ?_⟩
  unfold kindB at h3
  split at h3
  · simp only [Bool.and_eq_true, decide_eq_true_eq, beq_iff_eq, rightsB] at h3
    omega
  · split at h3
    · simp only [Bool.and_eq_true, beq_iff_eq] at h3
      omega
    · split at h3
      · simp only [Bool.and_eq_true, decide_eq_true_eq, beq_iff_eq] at h3
        omega
      · split at h3
        · simp only [Bool.and_eq_true, beq_iff_eq] at h3
          omega
        · split at h3
          · simp only [Bool.and_eq_true, beq_iff_eq] at h3
            omega
          · split at h3 <;>
            · simp only [Bool.and_eq_true, beq_iff_eq] at h3
              omega

set_option maxHeartbeats 400000 in
theorem head_calls (w : World) : Calls Try.prog 19 #[] w fun e w' => e = .returned (.agg #[.int .i64 0, .int .i64 4, .int .i64 4, .int .i64 4, .int .i64 8, .int .i64 4, .int .i64 12, .int .i64 16, .int .i64 28, .int .i64 21]) ∧ Below w.heap.size w w' := by
  go_enter Try.func19, Try.ntmps19
  go_wp2
  refine bodyPost_ret (v := .agg #[.int .i64 0, .int .i64 4, .int .i64 4, .int .i64 4, .int .i64 8, .int .i64 4, .int .i64 12, .int .i64 16, .int .i64 28, .int .i64 21]) ?_ rfl ⟨rfl, by go_grown⟩
  have hres : Try.f19.results = #[.cell 0 46] := rfl
  simp only [results, hres]
  go_simp

theorem P_of (w a n v : Nat) (hw : w < 18446744073709551616) (h1 : 1 ≤ n) (h2 : a + n ≤ 64) (h : v < 2 ^ n) (W : World) :
    Calls Try.prog 20 #[.int .u64 (w : Int), .int .i64 (a : Int), .int .i64 (n : Int), .int .u64 (v : Int)] W fun e w' => e = .returned (.tuple #[.int .u64 ((putN w a n v : Nat) : Int), .int .i64 0]) ∧ ∃ m, w' = W.drewN m :=
  (bits_Put.calls _ _ _ _ _ _ W (Put_yes hw h1 h2 h)).mono fun _ _ ⟨he, hd⟩ => ⟨he, hd.out⟩
theorem quiet_add {P : Program} {f : FuncId} {args : Array Value} {w : World} {a b : Nat} {v : Value} (h : Calls P f args (w.drewN (a + b)) fun e w' => e = .returned v ∧ ∃ m, w' = (w.drewN (a + b)).drewN m) :
    Calls P f args (w.drewN (a + b)) fun e w'' => e = .returned v ∧ ∃ m, w'' = w.drewN (a + m) := h.mono fun _ _ ⟨he, m, hm⟩ => ⟨he, b + m, by rw [hm, World.drewN_drewN, Nat.add_assoc]⟩
set_option maxRecDepth 100000 in
set_option maxHeartbeats 2000000 in
theorem put_ok (n0 n3 n5 n4 n6 : Nat) (a b v : Int) (w : World)
    (Cc : Hid (∀ W, Calls Try.prog 14 #[.agg #[.int .i64 n0, .int .u64 a, .int .u64 b, .int .i64 n3, .int .i64 n4, .int .i64 n5, .int .i64 n6, .int .i64 v]] W fun e w' => e = .returned (.int .i64 0) ∧ Below W.heap.size W w'))
    (h0 : (n0 : Int) < 16) (h3 : (n3 : Int) < 16) (h5 : (n5 : Int) < 16) (h4 : (n4 : Int) < 65536) (h6 : (n6 : Int) < 2097152) :
    Calls Try.prog 9 #[.agg #[.int .i64 n0, .int .u64 a, .int .u64 b, .int .i64 n3, .int .i64 n4, .int .i64 n5, .int .i64 n6, .int .i64 v]] w fun e w' =>
      ∃ v0 : Value, e = .returned (.tuple #[v0, .int .i64 0]) ∧ Kd.R (Kd.int .u64) 22 w' w.heap.size (fun _ => True) v0 [((wordN n0 n3 n5 n4 n6 : Nat) : Int), a, b, IntKind.u64.wrap v] ∧ Below w.heap.size w w' := by
  have q0 : putN 0 0 4 n0 < 18446744073709551616 := putN_lt _ _ _ _ (by decide) (by omega) (by decide)
  have q1 : putN (putN 0 0 4 n0) 4 4 n3 < 18446744073709551616 := putN_lt _ _ _ _ q0 (by omega) (by decide)
  have q2 : putN (putN (putN 0 0 4 n0) 4 4 n3) 8 4 n5 < 18446744073709551616 := putN_lt _ _ _ _ q1 (by omega) (by decide)
  have q3 : putN (putN (putN (putN 0 0 4 n0) 4 4 n3) 8 4 n5) 12 16 n4 < 18446744073709551616 := putN_lt _ _ _ _ q2 (by omega) (by decide)
  have P0 : Hid (∀ W : World, Calls Try.prog 20 #[.int .u64 0, .int .i64 0, .int .i64 4, .int .u64 (n0 : Int)] W fun e w' => e = .returned (.tuple #[.int .u64 ((putN 0 0 4 n0 : Nat) : Int), .int .i64 0]) ∧ ∃ m, w' = W.drewN m) := Lib.hid (P_of 0 0 4 n0 (by decide) (by decide) (by decide) (by omega))
  have P1 : Hid (∀ W : World, Calls Try.prog 20 #[.int .u64 ((putN 0 0 4 n0 : Nat) : Int), .int .i64 4, .int .i64 4, .int .u64 (n3 : Int)] W fun e w' => e = .returned (.tuple #[.int .u64 ((putN (putN 0 0 4 n0) 4 4 n3 : Nat) : Int), .int .i64 0]) ∧ ∃ m, w' = W.drewN m) := Lib.hid (P_of _ 4 4 n3 q0 (by decide) (by decide) (by omega))
  have P2 : Hid (∀ W : World, Calls Try.prog 20 #[.int .u64 ((putN (putN 0 0 4 n0) 4 4 n3 : Nat) : Int), .int .i64 8, .int .i64 4, .int .u64 (n5 : Int)] W fun e w' => e = .returned (.tuple #[.int .u64 ((putN (putN (putN 0 0 4 n0) 4 4 n3) 8 4 n5 : Nat) : Int), .int .i64 0]) ∧ ∃ m, w' = W.drewN m) := Lib.hid (P_of _ 8 4 n5 q1 (by decide) (by decide) (by omega))
  have P3 : Hid (∀ W : World, Calls Try.prog 20 #[.int .u64 ((putN (putN (putN 0 0 4 n0) 4 4 n3) 8 4 n5 : Nat) : Int), .int .i64 12, .int .i64 16, .int .u64 (n4 : Int)] W fun e w' => e = .returned (.tuple #[.int .u64 ((putN (putN (putN (putN 0 0 4 n0) 4 4 n3) 8 4 n5) 12 16 n4 : Nat) : Int), .int .i64 0]) ∧ ∃ m, w' = W.drewN m) := Lib.hid (P_of _ 12 16 n4 q2 (by decide) (by decide) (by omega))
  have P4 : Hid (∀ W : World, Calls Try.prog 20 #[.int .u64 ((putN (putN (putN (putN 0 0 4 n0) 4 4 n3) 8 4 n5) 12 16 n4 : Nat) : Int), .int .i64 28, .int .i64 21, .int .u64 (n6 : Int)] W fun e w' => e = .returned (.tuple #[.int .u64 ((putN (putN (putN (putN (putN 0 0 4 n0) 4 4 n3) 8 4 n5) 12 16 n4) 28 21 n6 : Nat) : Int), .int .i64 0]) ∧ ∃ m, w' = W.drewN m) := Lib.hid (P_of _ 28 21 n6 q3 (by decide) (by decide) (by omega))
  clear q0 q1 q2 q3
  have x0 : ∀ w : World, (Instr.index 48 (.agg #[.int .i64 (n0 : Int), .int .i64 (n3 : Int), .int .i64 (n5 : Int), .int .i64 (n4 : Int), .int .i64 (n6 : Int)]) (.int .i64 0)).run Try.prog w = .ok (.int .i64 (n0 : Int)) w := fun _ => by kernel_rfl
  have x1 : ∀ w : World, (Instr.index 48 (.agg #[.int .i64 (n0 : Int), .int .i64 (n3 : Int), .int .i64 (n5 : Int), .int .i64 (n4 : Int), .int .i64 (n6 : Int)]) (.int .i64 1)).run Try.prog w = .ok (.int .i64 (n3 : Int)) w := fun _ => by kernel_rfl
  have x2 : ∀ w : World, (Instr.index 48 (.agg #[.int .i64 (n0 : Int), .int .i64 (n3 : Int), .int .i64 (n5 : Int), .int .i64 (n4 : Int), .int .i64 (n6 : Int)]) (.int .i64 2)).run Try.prog w = .ok (.int .i64 (n5 : Int)) w := fun _ => by kernel_rfl
  have x3 : ∀ w : World, (Instr.index 48 (.agg #[.int .i64 (n0 : Int), .int .i64 (n3 : Int), .int .i64 (n5 : Int), .int .i64 (n4 : Int), .int .i64 (n6 : Int)]) (.int .i64 3)).run Try.prog w = .ok (.int .i64 (n4 : Int)) w := fun _ => by kernel_rfl
  have x4 : ∀ w : World, (Instr.index 48 (.agg #[.int .i64 (n0 : Int), .int .i64 (n3 : Int), .int .i64 (n5 : Int), .int .i64 (n4 : Int), .int .i64 (n6 : Int)]) (.int .i64 4)).run Try.prog w = .ok (.int .i64 (n6 : Int)) w := fun _ => by kernel_rfl
  have y0 : IntKind.u64.wrap (n0 : Int) = (n0 : Int) := by rw [wu64]; omega
  have y1 : IntKind.u64.wrap (n3 : Int) = (n3 : Int) := by rw [wu64]; omega
  have y2 : IntKind.u64.wrap (n5 : Int) = (n5 : Int) := by rw [wu64]; omega
  have y3 : IntKind.u64.wrap (n4 : Int) = (n4 : Int) := by rw [wu64]; omega
  have y4 : IntKind.u64.wrap (n6 : Int) = (n6 : Int) := by rw [wu64]; omega
  go_enter Try.func9, Try.ntmps9
  go_wp2_with (first | (go_at_call 14; (with_reducible refine (Cc.out _).mono ?_); clear Cc; rintro e w1 ⟨rfl, hb⟩; have HB1 := Aside0.mk (below_step (show Below w.heap.size w _ by go_grown) hb); obtain ⟨hc, hf⟩ := bcell hb; have hz0 : w.heap.size < w1.heap.size := (by have h_ := hb.size; (try simp at h_); omega); clear hb) | (go_at_call 19; (with_reducible refine (head_calls _).mono ?_); rintro e w2 ⟨rfl, hb⟩; have HB2 := Aside0.mk (below_step (show Below w.heap.size w _ by (have hB1 := HB1.out; have hZ : w.heap.size ≤ w1.heap.size := (by omega); go_grown)) hb); obtain ⟨hc2, hf2⟩ := bcell hb; have hz2 : w.heap.size < w2.heap.size := (by have h_ := hb.size; (try simp at h_); omega); clear hb))
  refine wp_loop_rounds 6 ?_
  rw [rounds_succ]
  go_wp2_with (fail)
  go_quiet ((go_at_call 20; first | exact Calls.quiet_of (P0.out _) | exact quiet_add (P0.out _)))
  clear P0
  go_wp2_with (fail)
  rw [rounds_succ]
  go_wp2_with (fail)
  go_quiet ((go_at_call 20; first | exact Calls.quiet_of (P1.out _) | exact quiet_add (P1.out _)))
  clear P1
  go_wp2_with (fail)
  rw [rounds_succ]
  go_wp2_with (fail)
  go_quiet ((go_at_call 20; first | exact Calls.quiet_of (P2.out _) | exact quiet_add (P2.out _)))
  clear P2
  go_wp2_with (fail)
  rw [rounds_succ]
  go_wp2_with (fail)
  go_quiet ((go_at_call 20; first | exact Calls.quiet_of (P3.out _) | exact quiet_add (P3.out _)))
  clear P3
  go_wp2_with (fail)
  rw [rounds_succ]
  go_wp2_with (fail)
  go_quiet ((go_at_call 20; first | exact Calls.quiet_of (P4.out _) | exact quiet_add (P4.out _)))
  clear P4
  go_wp2_with (fail)
  rw [rounds_succ]
  go_wp2_with ((with_reducible refine gate_dst (N := 54) rfl ?_); refine Kd.R_lit (Kd.int .u64) _ 22 ?hg (N := 54) ?hd (xs := ([((putN (putN (putN (putN (putN 0 0 4 n0) 4 4 n3) 8 4 n5) 12 16 n4) 28 21 n6 : Nat) : Int), a, b, IntKind.u64.wrap v] : List Int)) (inner := [.int .u64 (((putN (putN (putN (putN (putN 0 0 4 n0) 4 4 n3) 8 4 n5) 12 16 n4) 28 21 n6 : Nat) : Int)), .int .u64 (a), .int .u64 (b), .int .u64 (IntKind.u64.wrap v)]) (ok := fun _ => True) (okp := fun _ => True) ?hr ?hp (fun _ hk => hk) trivial (Below.refl _ _) (Nat.le_refl _) (by simp) ?_; (case hd => rfl); (case hg => rfl); (case hr => first | (go_simp; done) | (go_simp; rfl)); (case hp => exact (Reps.one (show Kd.M (Kd.int .u64) _ _ _ (((putN (putN (putN (putN (putN 0 0 4 n0) 4 4 n3) 8 4 n5) 12 16 n4) 28 21 n6 : Nat) : Int)) [.int .u64 (((putN (putN (putN (putN (putN 0 0 4 n0) 4 4 n3) 8 4 n5) 12 16 n4) 28 21 n6 : Nat) : Int))] from rfl) (Reps.one (show Kd.M (Kd.int .u64) _ _ _ (a) [.int .u64 (a)] from rfl) (Reps.one (show Kd.M (Kd.int .u64) _ _ _ (b) [.int .u64 (b)] from rfl) (Reps.one (show Kd.M (Kd.int .u64) _ _ _ (IntKind.u64.wrap v) [.int .u64 (IntKind.u64.wrap v)] from rfl) (Reps.none _ _)))))); intro v0 w5 ho hb hg_ hnew_; clear hg_ hnew_; have HB5 := Aside0.mk (below_step (show Below w.heap.size w _ by (have hB2 := HB2.out; have hZ : w.heap.size ≤ w2.heap.size := (by omega); apply pw_below_drewN; go_grown)) hb); have HO := Aside0.mk (Kd.R_lower ho (below_size (show Below w.heap.size w _ by (have hB2 := HB2.out; have hZ : w.heap.size ≤ w2.heap.size := (by omega); apply pw_below_drewN; go_grown)))); clear ho hb)
  go_returns
  exact ⟨v0, rfl, HO.out, HB5.out⟩
theorem call_Put_none (kd a b r bd ty sz v : Int) (w : World) (h : call_Check.f kd a b r bd ty sz v = some 150) : Calls Try.prog 9 #[.agg #[.int .i64 kd, .int .u64 a, .int .u64 b, .int .i64 r, .int .i64 bd, .int .i64 ty, .int .i64 sz, .int .i64 v]] w fun e w' =>
    e = .returned (.tuple #[.slice none 0 0, .int .i64 150]) ∧ Below w.heap.size w w' := by
  have Cc := Lib.hid (fun W => call_Check.calls kd a b r bd ty sz v 150 W h)
  clear h
  go_enter Try.func9, Try.ntmps9
  go_wp2_with (first | (go_at_call 14; (with_reducible refine (Cc.out _).mono ?_); clear Cc; rintro e w1 ⟨rfl, hb⟩; have HB1 := Aside0.mk (below_step (show Below w.heap.size w _ by go_grown) hb); clear hb))
  go_returns
  exact ⟨rfl, HB1.out⟩

def call_Put.f (kd a b r bd ty sz v : Int) : Option (List Int × Int) :=
  if wfc a b r then some (if callOk kd a b r bd ty sz v = true then ([((wordN kd.toNat r.toNat ty.toNat bd.toNat sz.toNat : Nat) : Int), a, b, IntKind.u64.wrap v], 0) else ([], 150)) else none
theorem call_Put.calls (kd a b r bd ty sz v : Int) (r1 : List Int) (r2 : Int) (w : World) (h : call_Put.f kd a b r bd ty sz v = some (r1, r2)) :
    Calls Try.prog 9 #[.agg #[.int .i64 kd, .int .u64 a, .int .u64 b, .int .i64 r, .int .i64 bd, .int .i64 ty, .int .i64 sz, .int .i64 v]] w fun e w' =>
      ∃ v0 : Value, e = .returned (.tuple #[v0, .int .i64 r2]) ∧ Kd.R (Kd.int .u64) 22 w' w.heap.size (fun _ => True) v0 r1 ∧ Below w.heap.size w w' := by
  unfold call_Put.f at h
  by_cases hw : wfc a b r
  · rw [if_pos hw] at h
    have h := Option.some.inj h
    by_cases hc : callOk kd a b r bd ty sz v = true
    · rw [if_pos hc] at h
      obtain ⟨rfl, rfl⟩ := Prod.mk.injEq .. ▸ h
      have hck : call_Check.f kd a b r bd ty sz v = some 0 := by unfold call_Check.f; rw [if_pos hw, if_pos hc]
      have Cc := fun W => call_Check.calls kd a b r bd ty sz v 0 W hck
      obtain ⟨b0, b3, b4, b5, b6⟩ := callOk_bounds hc
      obtain ⟨n0, rfl⟩ := Int.eq_ofNat_of_zero_le (show 0 ≤ kd by omega)
      obtain ⟨n3, rfl⟩ := Int.eq_ofNat_of_zero_le b3.1
      obtain ⟨n4, rfl⟩ := Int.eq_ofNat_of_zero_le b4.1
      obtain ⟨n5, rfl⟩ := Int.eq_ofNat_of_zero_le b5.1
      obtain ⟨n6, rfl⟩ := Int.eq_ofNat_of_zero_le b6.1
      exact put_ok n0 n3 n5 n4 n6 a b v w (Lib.hid Cc) (by omega) (by omega) (by omega) (by omega) (by omega)
    · rw [if_neg hc] at h
      obtain ⟨rfl, rfl⟩ := Prod.mk.injEq .. ▸ h
      have hck : call_Check.f kd a b r bd ty sz v = some 150 := by unfold call_Check.f; rw [if_pos hw, if_neg hc]
      exact (call_Put_none kd a b r bd ty sz v w hck).mono fun e w' ⟨he, hb⟩ => ⟨_, he, Kd.R_nil _ _ _ _ _, hb⟩
  · rw [if_neg hw] at h
    cases h
end Go.Proofs.Ytikbldmlfjckkaa.Given
