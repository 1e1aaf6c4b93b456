/- cap.Word at this program: what the call answers (fields and numbers lie in arrays). -/
import Derived.Test.YtmcgdopgpjjkbaaDoorGCap
import Derived.Test.YtmcgdopgpjjkbaaDoorBitsP
import Derived.Deep.QuietTactic
import Derived.BigQuiet
import Derived.LoopN
import Derived.Handy
import Derived.Lib.Hide
import Derived.Test.YtmcgdopgpjjkbaaDoorPx4
namespace Go.Proofs.YtmcgdopgpjjkbaaDoor.Given
open Go Go.RowKit Go.Proofs Go.Proofs.YtmcgdopgpjjkbaaDoorW.PrintWords Go.Proofs.YtmcgdopgpjjkbaaDoorW.PrintLast Go.Proofs.YtmcgdopgpjjkbaaDoorW.PrintMore Go.Proofs.YtmcgdopgpjjkbaaDoor.P Go.Proofs.YtmcgdopgpjjkbaaDoor.Plain
set_option linter.unusedVariables false
set_option linter.unusedSimpArgs false

/-- A capability's word. -/
def wordN (n0 n1 n2 n3 n4 : Nat) : Nat := putN (putN (putN (putN (putN 0 0 4 n0) 4 4 n1) 8 16 n2) 24 10 n3) 34 12 n4
set_option maxHeartbeats 400000 in
theorem fields_calls (w : World) : Calls Tryd.prog 28 #[] w fun e w' => e = .returned (.agg #[.int .i64 0, .int .i64 4, .int .i64 4, .int .i64 4, .int .i64 8, .int .i64 16, .int .i64 24, .int .i64 10, .int .i64 34, .int .i64 12]) ∧ Below w.heap.size w w' := by
  go_enter Tryd.func28, Tryd.ntmps28
  go_wp2
  refine bodyPost_ret (v := .agg #[.int .i64 0, .int .i64 4, .int .i64 4, .int .i64 4, .int .i64 8, .int .i64 16, .int .i64 24, .int .i64 10, .int .i64 34, .int .i64 12]) ?_ rfl ⟨rfl, by go_grown⟩
  have hres : Tryd.f28.results = #[.cell 0 50] := rfl
  simp only [results, hres]
  go_simp
theorem bcell {W w1 : World} (hb : Below W.heap.size W w1) : (∀ b o, b < W.heap.size → w1.cell? ⟨b, o, none⟩ = W.cell? ⟨b, o, none⟩) ∧ (∀ b o, b < W.heap.size → w1.frozen? ⟨b, o, none⟩ = W.frozen? ⟨b, o, none⟩) :=
  ⟨fun b o h => hb.cell (p := ⟨b, o, none⟩) h, fun b o h => hb.frozen (p := ⟨b, o, none⟩) h⟩

theorem P_of (w a n v : Nat) (hw : w < 18446744073709551616) (h1 : 1 ≤ n) (h2 : a + n ≤ 64) (h : v < 2 ^ n) (W : World) :
    Calls Tryd.prog 30 #[.int .u64 (w : Int), .int .i64 (a : Int), .int .i64 (n : Int), .int .u64 (v : Int)] W fun e w' => e = .returned (.tuple #[.int .u64 ((putN w a n v : Nat) : Int), .int .i64 0]) ∧ ∃ m, w' = W.drewN m :=
  (bits_Put.calls _ _ _ _ _ _ W (Put_yes hw h1 h2 h)).mono fun _ _ ⟨he, hd⟩ => ⟨he, hd.out⟩
theorem quiet_add {P : Program} {f : FuncId} {args : Array Value} {w : World} {a b : Nat} {v : Value} (h : Calls P f args (w.drewN (a + b)) fun e w' => e = .returned v ∧ ∃ m, w' = (w.drewN (a + b)).drewN m) :
    Calls P f args (w.drewN (a + b)) fun e w'' => e = .returned v ∧ ∃ m, w'' = w.drewN (a + m) := h.mono fun _ _ ⟨he, m, hm⟩ => ⟨he, b + m, by rw [hm, World.drewN_drewN, Nat.add_assoc]⟩
set_option maxRecDepth 100000 in
set_option maxHeartbeats 2000000 in
theorem word_ok (n0 n1 n2 n3 n4 : Nat) (w : World)
    (Cc : Hid (∀ W, Calls Tryd.prog 16 #[.agg #[.int .i64 n0, .int .i64 n1, .int .i64 n2, .int .i64 n3, .int .i64 n4]] W fun e w' => e = .returned (.int .i64 0) ∧ Below W.heap.size W w'))
    (h0 : (n0 : Int) < 16) (h1 : (n1 : Int) < 16) (h2 : (n2 : Int) < 65536) (h3 : (n3 : Int) < 1024) (h4 : (n4 : Int) < 4096) :
    Calls Tryd.prog 11 #[.agg #[.int .i64 n0, .int .i64 n1, .int .i64 n2, .int .i64 n3, .int .i64 n4]] w fun e w' =>
      e = .returned (.tuple #[.int .u64 ((wordN n0 n1 n2 n3 n4 : Nat) : Int), .int .i64 0]) ∧ Below w.heap.size w w' := by
  have q0 : putN 0 0 4 n0 < 18446744073709551616 := putN_lt _ _ _ _ (by decide) (by omega) (by decide)
  have q1 : putN (putN 0 0 4 n0) 4 4 n1 < 18446744073709551616 := putN_lt _ _ _ _ q0 (by omega) (by decide)
  have q2 : putN (putN (putN 0 0 4 n0) 4 4 n1) 8 16 n2 < 18446744073709551616 := putN_lt _ _ _ _ q1 (by omega) (by decide)
  have q3 : putN (putN (putN (putN 0 0 4 n0) 4 4 n1) 8 16 n2) 24 10 n3 < 18446744073709551616 := putN_lt _ _ _ _ q2 (by omega) (by decide)
  have q4 : putN (putN (putN (putN (putN 0 0 4 n0) 4 4 n1) 8 16 n2) 24 10 n3) 34 12 n4 < 18446744073709551616 := putN_lt _ _ _ _ q3 (by omega) (by decide)
  have P0 : Hid (∀ W : World, Calls Tryd.prog 30 #[.int .u64 0, .int .i64 0, .int .i64 4, .int .u64 (n0 : Int)] W fun e w' => e = .returned (.tuple #[.int .u64 ((putN 0 0 4 n0 : Nat) : Int), .int .i64 0]) ∧ ∃ m, w' = W.drewN m) := Lib.hid (P_of 0 0 4 n0 (by decide) (by decide) (by decide) (by omega))
  have P1 : Hid (∀ W : World, Calls Tryd.prog 30 #[.int .u64 ((putN 0 0 4 n0 : Nat) : Int), .int .i64 4, .int .i64 4, .int .u64 (n1 : Int)] W fun e w' => e = .returned (.tuple #[.int .u64 ((putN (putN 0 0 4 n0) 4 4 n1 : Nat) : Int), .int .i64 0]) ∧ ∃ m, w' = W.drewN m) := Lib.hid (P_of _ 4 4 n1 q0 (by decide) (by decide) (by omega))
  have P2 : Hid (∀ W : World, Calls Tryd.prog 30 #[.int .u64 ((putN (putN 0 0 4 n0) 4 4 n1 : Nat) : Int), .int .i64 8, .int .i64 16, .int .u64 (n2 : Int)] W fun e w' => e = .returned (.tuple #[.int .u64 ((putN (putN (putN 0 0 4 n0) 4 4 n1) 8 16 n2 : Nat) : Int), .int .i64 0]) ∧ ∃ m, w' = W.drewN m) := Lib.hid (P_of _ 8 16 n2 q1 (by decide) (by decide) (by omega))
  have P3 : Hid (∀ W : World, Calls Tryd.prog 30 #[.int .u64 ((putN (putN (putN 0 0 4 n0) 4 4 n1) 8 16 n2 : Nat) : Int), .int .i64 24, .int .i64 10, .int .u64 (n3 : Int)] W fun e w' => e = .returned (.tuple #[.int .u64 ((putN (putN (putN (putN 0 0 4 n0) 4 4 n1) 8 16 n2) 24 10 n3 : Nat) : Int), .int .i64 0]) ∧ ∃ m, w' = W.drewN m) := Lib.hid (P_of _ 24 10 n3 q2 (by decide) (by decide) (by omega))
  have P4 : Hid (∀ W : World, Calls Tryd.prog 30 #[.int .u64 ((putN (putN (putN (putN 0 0 4 n0) 4 4 n1) 8 16 n2) 24 10 n3 : Nat) : Int), .int .i64 34, .int .i64 12, .int .u64 (n4 : Int)] W fun e w' => e = .returned (.tuple #[.int .u64 ((putN (putN (putN (putN (putN 0 0 4 n0) 4 4 n1) 8 16 n2) 24 10 n3) 34 12 n4 : Nat) : Int), .int .i64 0]) ∧ ∃ m, w' = W.drewN m) := Lib.hid (P_of _ 34 12 n4 q3 (by decide) (by decide) (by omega))
  clear q0 q1 q2 q3 q4
  have x0 : ∀ w : World, (Instr.index 52 (.agg #[.int .i64 (n0 : Int), .int .i64 (n1 : Int), .int .i64 (n2 : Int), .int .i64 (n3 : Int), .int .i64 (n4 : Int)]) (.int .i64 0)).run Tryd.prog w = .ok (.int .i64 (n0 : Int)) w := fun _ => by kernel_rfl
  have x1 : ∀ w : World, (Instr.index 52 (.agg #[.int .i64 (n0 : Int), .int .i64 (n1 : Int), .int .i64 (n2 : Int), .int .i64 (n3 : Int), .int .i64 (n4 : Int)]) (.int .i64 1)).run Tryd.prog w = .ok (.int .i64 (n1 : Int)) w := fun _ => by kernel_rfl
  have x2 : ∀ w : World, (Instr.index 52 (.agg #[.int .i64 (n0 : Int), .int .i64 (n1 : Int), .int .i64 (n2 : Int), .int .i64 (n3 : Int), .int .i64 (n4 : Int)]) (.int .i64 2)).run Tryd.prog w = .ok (.int .i64 (n2 : Int)) w := fun _ => by kernel_rfl
  have x3 : ∀ w : World, (Instr.index 52 (.agg #[.int .i64 (n0 : Int), .int .i64 (n1 : Int), .int .i64 (n2 : Int), .int .i64 (n3 : Int), .int .i64 (n4 : Int)]) (.int .i64 3)).run Tryd.prog w = .ok (.int .i64 (n3 : Int)) w := fun _ => by kernel_rfl
  have x4 : ∀ w : World, (Instr.index 52 (.agg #[.int .i64 (n0 : Int), .int .i64 (n1 : Int), .int .i64 (n2 : Int), .int .i64 (n3 : Int), .int .i64 (n4 : Int)]) (.int .i64 4)).run Tryd.prog w = .ok (.int .i64 (n4 : Int)) w := fun _ => by kernel_rfl
  have y0 : IntKind.u64.wrap (n0 : Int) = (n0 : Int) := by rw [wu64]; omega
  have y1 : IntKind.u64.wrap (n1 : Int) = (n1 : Int) := by rw [wu64]; omega
  have y2 : IntKind.u64.wrap (n2 : Int) = (n2 : Int) := by rw [wu64]; omega
  have y3 : IntKind.u64.wrap (n3 : Int) = (n3 : Int) := by rw [wu64]; omega
  have y4 : IntKind.u64.wrap (n4 : Int) = (n4 : Int) := by rw [wu64]; omega
  go_enter Tryd.func11, Tryd.ntmps11
  go_wp2_with (first | (go_at_call 16; (with_reducible refine (Cc.out _).mono ?_); clear Cc; rintro e w1 ⟨rfl, hb⟩; have HB1 := Aside0.mk (below_step (show Below w.heap.size w _ by go_grown) hb); obtain ⟨hc, hf⟩ := bcell hb; have hz0 : w.heap.size < w1.heap.size := (by have h_ := hb.size; (try simp at h_); omega); clear hb) | (go_at_call 28; (with_reducible refine (fields_calls _).mono ?_); rintro e w2 ⟨rfl, hb⟩; have HB2 := Aside0.mk (below_step HB1.out hb); obtain ⟨hc2, hf2⟩ := bcell hb; have hz2 : w.heap.size < w2.heap.size := (by have h_ := hb.size; (try simp at h_); omega); have HZ12 := Aside0.mk hb.size; clear hb) | (go_at_call 29; (with_reducible refine (cap_numbers_calls _ _ _ _ _ _).mono ?_); rintro e w3 ⟨rfl, hb⟩; have HB3 := Aside0.mk hb; have hz3 : w2.heap.size < w3.heap.size := (by have h_ := hb.size; (try simp at h_); omega); clear hb))
  have g0 : w3.cell? ⟨w2.heap.size, 0, none⟩ = some (.int .i64 0) := (HB3.out.cell (by simp)).trans (by simp)
  have g1 : w3.cell? ⟨w2.heap.size, 1, none⟩ = some (.int .i64 4) := (HB3.out.cell (by simp)).trans (by simp)
  have g2 : w3.cell? ⟨w2.heap.size, 2, none⟩ = some (.int .i64 4) := (HB3.out.cell (by simp)).trans (by simp)
  have g3 : w3.cell? ⟨w2.heap.size, 3, none⟩ = some (.int .i64 4) := (HB3.out.cell (by simp)).trans (by simp)
  have g4 : w3.cell? ⟨w2.heap.size, 4, none⟩ = some (.int .i64 8) := (HB3.out.cell (by simp)).trans (by simp)
  have g5 : w3.cell? ⟨w2.heap.size, 5, none⟩ = some (.int .i64 16) := (HB3.out.cell (by simp)).trans (by simp)
  have g6 : w3.cell? ⟨w2.heap.size, 6, none⟩ = some (.int .i64 24) := (HB3.out.cell (by simp)).trans (by simp)
  have g7 : w3.cell? ⟨w2.heap.size, 7, none⟩ = some (.int .i64 10) := (HB3.out.cell (by simp)).trans (by simp)
  have g8 : w3.cell? ⟨w2.heap.size, 8, none⟩ = some (.int .i64 34) := (HB3.out.cell (by simp)).trans (by simp)
  have g9 : w3.cell? ⟨w2.heap.size, 9, none⟩ = some (.int .i64 12) := (HB3.out.cell (by simp)).trans (by simp)
  clear hc hf hc2 hf2
  refine wp_loop_rounds 6 ?_
  rw [rounds_succ]
  go_wp2_with (fail)
  go_quiet ((go_at_call 30; first | exact Calls.quiet_of (P0.out _) | exact quiet_add (P0.out _)))
  clear P0
  go_wp2_with (fail)
  rw [rounds_succ]
  go_wp2_with (fail)
  go_quiet ((go_at_call 30; first | exact Calls.quiet_of (P1.out _) | exact quiet_add (P1.out _)))
  clear P1
  go_wp2_with (fail)
  rw [rounds_succ]
  go_wp2_with (fail)
  go_quiet ((go_at_call 30; first | exact Calls.quiet_of (P2.out _) | exact quiet_add (P2.out _)))
  clear P2
  go_wp2_with (fail)
  rw [rounds_succ]
  go_wp2_with (fail)
  go_quiet ((go_at_call 30; first | exact Calls.quiet_of (P3.out _) | exact quiet_add (P3.out _)))
  clear P3
  go_wp2_with (fail)
  rw [rounds_succ]
  go_wp2_with (fail)
  go_quiet ((go_at_call 30; first | exact Calls.quiet_of (P4.out _) | exact quiet_add (P4.out _)))
  clear P4
  go_wp2_with (fail)
  rw [rounds_succ]
  go_wp2_with (fail)
  go_ret2
  exact ⟨rfl, HB2.out.trans ((((Below.refl _ _).alloc (Nat.le_refl _) _).trans (HB3.out.mono (by simp)) |>.mono HB2.out.size).trans (pw_below_drewN (Below.refl _ _) _))⟩
theorem word_no (t r b o g : Int) (w : World) (h : cap_Check.f t r b o g = some 30) : Calls Tryd.prog 11 #[.agg #[.int .i64 t, .int .i64 r, .int .i64 b, .int .i64 o, .int .i64 g]] w fun e w' =>
    e = .returned (.tuple #[.int .u64 0, .int .i64 30]) ∧ Below w.heap.size w w' := by
  have Cc := Lib.hid (fun W => cap_Check.calls t r b o g 30 W h)
  clear h
  go_enter Tryd.func11, Tryd.ntmps11
  go_wp2_with (go_at_call 16; (with_reducible refine (Cc.out _).mono ?_); clear Cc; rintro e w1 ⟨rfl, hb⟩; have HB1 := Aside0.mk (below_step (show Below w.heap.size w _ by go_grown) hb); clear hb)
  go_ret2
  exact ⟨rfl, HB1.out⟩

/-- May a capability be? -/
def capOk (t r b o g : Int) : Bool := capZero t r b o g || (capAll t r b o g && decide (t ≠ 0))
theorem check_ok (t r b o g : Int) : cap_Check.f t r b o g = some (if capOk t r b o g = true then 0 else 30) := by
  unfold cap_Check.f capOk
  cases capZero t r b o g with
  | true => rfl
  | false =>
    rw [if_neg (by simp)]
    by_cases h : capAll t r b o g = true ∧ t ≠ 0
    · rw [if_pos h, h.1, decide_eq_true h.2]
      rfl
    · rw [if_neg h]
      by_cases h1 : capAll t r b o g = true
      · rw [h1, decide_eq_false (fun h2 => h ⟨h1, h2⟩)]
        rfl
      · rw [Bool.not_eq_true] at h1
        rw [h1]
        rfl
theorem capOk_bounds {t r b o g : Int} (h : capOk t r b o g = true) : (0 ≤ t ∧ t ≤ 5) ∧ (0 ≤ r ∧ r ≤ 15) ∧ (0 ≤ b ∧ b ≤ 65535) ∧ (0 ≤ o ∧ o ≤ 1023) ∧ 0 ≤ g ∧ g ≤ 4095 := by
  unfold capOk at h
  rw [Bool.or_eq_true] at h
  rcases h with h | h
  · unfold capZero at h
    simp only [Bool.and_eq_true, beq_iff_eq] at h
    omega
  · simp only [capAll, capIn, capNum, capMost, Bool.and_eq_true, decide_eq_true_eq] at h
    have hb : capBadges t ≤ 65535 := by
      unfold capBadges
      repeat' split
      all_goals omega
    omega
def cap_Word.f (t r b o g : Int) : Option (Int × Int) := some (if capOk t r b o g = true then (((wordN t.toNat r.toNat b.toNat o.toNat g.toNat : Nat) : Int), 0) else (0, 30))
theorem cap_Word.calls (t r b o g : Int) (r1 r2 : Int) (w : World) (h : cap_Word.f t r b o g = some (r1, r2)) : Calls Tryd.prog 11 #[.agg #[.int .i64 t, .int .i64 r, .int .i64 b, .int .i64 o, .int .i64 g]] w fun e w' =>
    e = .returned (.tuple #[.int .u64 r1, .int .i64 r2]) ∧ Below w.heap.size w w' := by
  have h := Option.some.inj h
  have hck := check_ok t r b o g
  by_cases hc : capOk t r b o g = true
  · rw [if_pos hc] at h hck
    obtain ⟨rfl, rfl⟩ := Prod.mk.injEq .. ▸ h
    obtain ⟨b0, b1, b2, b3, b4⟩ := capOk_bounds hc
    obtain ⟨n0, rfl⟩ := Int.eq_ofNat_of_zero_le b0.1
    obtain ⟨n1, rfl⟩ := Int.eq_ofNat_of_zero_le b1.1
    obtain ⟨n2, rfl⟩ := Int.eq_ofNat_of_zero_le b2.1
    obtain ⟨n3, rfl⟩ := Int.eq_ofNat_of_zero_le b3.1
    obtain ⟨n4, rfl⟩ := Int.eq_ofNat_of_zero_le b4.1
    exact word_ok n0 n1 n2 n3 n4 w (Lib.hid (fun W => cap_Check.calls _ _ _ _ _ 0 W hck)) (by omega) (by omega) (by omega) (by omega) (by omega)
  · rw [if_neg hc] at h hck
    obtain ⟨rfl, rfl⟩ := Prod.mk.injEq .. ▸ h
    exact word_no t r b o g w hck
end Go.Proofs.YtmcgdopgpjjkbaaDoor.Given
