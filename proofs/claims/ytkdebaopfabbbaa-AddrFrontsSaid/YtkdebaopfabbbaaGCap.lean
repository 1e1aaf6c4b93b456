/- cap.Check at this program: what the call answers (its numbers and their bounds lie in arrays). -/
import Derived.Test.YtkdebaopfabbbaaPx0
import Derived.Lib.Hide
namespace Go.Proofs.Ytkdebaopfabbbaa.Given
open Go Go.RowKit Go.Proofs Go.Proofs.YtkdebaopfabbbaaW.PrintWords Go.Proofs.YtkdebaopfabbbaaW.PrintLast Go.Proofs.YtkdebaopfabbbaaW.PrintMore Go.Proofs.Ytkdebaopfabbbaa.P

theorem capEq (d : Nat) (w : World) (x0 y0 : Int) (x1 y1 : Int) (x2 y2 : Int) (x3 y3 : Int) (x4 y4 : Int) :
    (Op.equalIn (d + 2) 42 (.agg #[.int .i64 x0, .int .i64 x1, .int .i64 x2, .int .i64 x3, .int .i64 x4]) (.agg #[.int .i64 y0, .int .i64 y1, .int .i64 y2, .int .i64 y3, .int .i64 y4])).run Try.prog w = .ok (x0 == y0 && (x1 == y1 && (x2 == y2 && (x3 == y3 && (x4 == y4))))) w := by
  refine eqA_of Try.underlying42 (by kernel_rfl) ?_
  refine eqf_cons (by rfl) (by go_simp; rfl) (by go_simp; rfl) (by go_simp) ?_
  refine eqf_cons (by rfl) (by go_simp; rfl) (by go_simp; rfl) (by go_simp) ?_
  refine eqf_cons (by rfl) (by go_simp; rfl) (by go_simp; rfl) (by go_simp) ?_
  refine eqf_cons (by rfl) (by go_simp; rfl) (by go_simp; rfl) (by go_simp) ?_
  exact eqf_last (by rfl) (by go_simp; rfl) (by go_simp; rfl) (by go_simp)
attribute [local go_sem high] capEq
/-- The greatest badge of a type. -/
def capBadges (t : Int) : Int := if t = 2 then 7 else if t = 4 ∨ t = 5 then 65535 else 0

set_option maxHeartbeats 400000 in
theorem cap_badges_calls (t : Int) (w : World) : Calls Try.prog 41 #[.int .i64 t] w fun e w' => e = .returned (.int .i64 (capBadges t)) ∧ w' = w := by
  unfold capBadges
  by_cases h2 : t = 2
  · have b2 : (t == 2) = true := beq_iff_eq.mpr h2
    rw [if_pos h2]
    go_enter Try.func41, Try.ntmps41
    go_wp2
    go_ret
    exact ⟨rfl, rfl⟩
  · have b2 : (t == 2) = false := beq_eq_false_iff_ne.mpr h2
    rw [if_neg h2]
    by_cases h4 : t = 4
    · have b4 : (t == 4) = true := beq_iff_eq.mpr h4
      rw [if_pos (.inl h4)]
      go_enter Try.func41, Try.ntmps41
      go_wp2
      go_ret
      exact ⟨rfl, rfl⟩
    · have b4 : (t == 4) = false := beq_eq_false_iff_ne.mpr h4
      by_cases h5 : t = 5
      · have b5 : (t == 5) = true := beq_iff_eq.mpr h5
        rw [if_pos (.inr h5)]
        go_enter Try.func41, Try.ntmps41
        go_wp2
        go_ret
        exact ⟨rfl, rfl⟩
      · have b5 : (t == 5) = false := beq_eq_false_iff_ne.mpr h5
        rw [if_neg (fun h => h.elim h4 h5)]
        go_enter Try.func41, Try.ntmps41
        go_wp2
        go_ret
        exact ⟨rfl, rfl⟩

set_option maxHeartbeats 400000 in
theorem cap_numbers_calls (t r b o g : Int) (w : World) : Calls Try.prog 42 #[.agg #[.int .i64 t, .int .i64 r, .int .i64 b, .int .i64 o, .int .i64 g]] w fun e w' => e = .returned (.agg #[.int .i64 t, .int .i64 r, .int .i64 b, .int .i64 o, .int .i64 g]) ∧ Below w.heap.size w w' := by
  go_enter Try.func42, Try.ntmps42
  go_wp2
  refine bodyPost_ret (v := .agg #[.int .i64 t, .int .i64 r, .int .i64 b, .int .i64 o, .int .i64 g]) ?_ rfl ⟨rfl, ?_⟩
  · have hres : Try.f42.results = #[.cell 2 75] := rfl
    simp only [results, hres]
    go_simp
  · exact ((Below.refl _ _).alloc (Nat.le_refl _) _).alloc (by simp) _

/-- The k-th number, and its greatest. -/
def capNum (t r b o g : Int) : Nat → Int | 0 => t | 1 => r | 2 => b | 3 => o | _ => g
def capMost (t : Int) : Nat → Int | 0 => 5 | 1 => 15 | 2 => capBadges t | 3 => 1023 | _ => 4095
def capIn (t r b o g : Int) (k : Nat) : Bool := decide (0 ≤ capNum t r b o g k) && decide (capNum t r b o g k ≤ capMost t k)
def capAll (t r b o g : Int) : Bool := capIn t r b o g 0 && capIn t r b o g 1 && capIn t r b o g 2 && capIn t r b o g 3 && capIn t r b o g 4
def capZero (t r b o g : Int) : Bool := (t == 0) && ((r == 0) && ((b == 0) && ((o == 0) && (g == 0))))
def cap_Check.f (t r b o g : Int) : Option Int := some (if capZero t r b o g = true then 0 else if capAll t r b o g = true ∧ t ≠ 0 then 0 else 30)

set_option maxRecDepth 100000 in
set_option maxHeartbeats 4000000 in
theorem cap_Check.calls (t r b o g : Int) (res : Int) (w : World) (h : cap_Check.f t r b o g = some res) : Calls Try.prog 39 #[.agg #[.int .i64 t, .int .i64 r, .int .i64 b, .int .i64 o, .int .i64 g]] w fun e w' => e = .returned (.int .i64 res) ∧ Below w.heap.size w w' := by
  have hres : res = if capZero t r b o g = true then 0 else if capAll t r b o g = true ∧ t ≠ 0 then 0 else 30 := (Option.some.inj h).symm
  clear h
  have hu := Try.underlying42
  have HR := Lib.hid hres
  clear hres
  by_cases hz : capZero t r b o g = true
  · have hz' := hz
    unfold capZero at hz'
    have e0 := HR.out
    rw [if_pos hz] at e0
    subst e0
    simp only [Bool.and_eq_true, beq_iff_eq] at hz'
    obtain ⟨rfl, rfl, rfl, rfl, rfl⟩ := hz'
    clear hz
    go_enter Try.func39, Try.ntmps39
    go_wp2
    go_ret
    exact ⟨rfl, (Below.refl _ _).alloc (Nat.le_refl _) _⟩
  · have hz' : ((t == 0) && ((r == 0) && ((b == 0) && ((o == 0) && (g == 0))))) = false := by simpa [capZero] using hz
    go_enter Try.func39, Try.ntmps39
    go_wp2_with (first | (go_at_call 41; (with_reducible refine (cap_badges_calls _ _).mono ?_); rintro e w' ⟨rfl, rfl⟩) | (go_at_call 42; (with_reducible refine (cap_numbers_calls _ _ _ _ _ _).mono ?_); rintro e w' ⟨rfl, hb⟩))
    have hB : Below w.heap.size w w' := (((Below.refl w.heap.size w).alloc (Nat.le_refl _) _).alloc (by simp) _).trans (hb.mono (by simp; omega))
    have m0 : w'.cell? ⟨w.heap.size + 1, 0, none⟩ = some (.int .i64 (5)) := (hb.cell (by simp)).trans (by simp)
    have m1 : w'.cell? ⟨w.heap.size + 1, 1, none⟩ = some (.int .i64 (15)) := (hb.cell (by simp)).trans (by simp)
    have m2 : w'.cell? ⟨w.heap.size + 1, 2, none⟩ = some (.int .i64 (capBadges t)) := (hb.cell (by simp)).trans (by simp)
    have m3 : w'.cell? ⟨w.heap.size + 1, 3, none⟩ = some (.int .i64 (1023)) := (hb.cell (by simp)).trans (by simp)
    have m4 : w'.cell? ⟨w.heap.size + 1, 4, none⟩ = some (.int .i64 (4095)) := (hb.cell (by simp)).trans (by simp)
    have t0 : w'.cell? ⟨w.heap.size, 0, none⟩ = some (.int .i64 t) := (hb.cell (by simp; omega)).trans (by simp)
    have hres0 : res = if capAll t r b o g = true ∧ t ≠ 0 then 0 else 30 := by
      have h := HR.out
      rwa [if_neg hz] at h
    have HR0 := Lib.hid hres0
    clear hb hres0 HR hz hz'
    have x0 : ∀ w : World, (Instr.index 75 (.agg #[.int .i64 t, .int .i64 r, .int .i64 b, .int .i64 o, .int .i64 g]) (.int .i64 0)).run Try.prog w = .ok (.int .i64 t) w := fun _ => by kernel_rfl
    have x1 : ∀ w : World, (Instr.index 75 (.agg #[.int .i64 t, .int .i64 r, .int .i64 b, .int .i64 o, .int .i64 g]) (.int .i64 1)).run Try.prog w = .ok (.int .i64 r) w := fun _ => by kernel_rfl
    have x2 : ∀ w : World, (Instr.index 75 (.agg #[.int .i64 t, .int .i64 r, .int .i64 b, .int .i64 o, .int .i64 g]) (.int .i64 2)).run Try.prog w = .ok (.int .i64 b) w := fun _ => by kernel_rfl
    have x3 : ∀ w : World, (Instr.index 75 (.agg #[.int .i64 t, .int .i64 r, .int .i64 b, .int .i64 o, .int .i64 g]) (.int .i64 3)).run Try.prog w = .ok (.int .i64 o) w := fun _ => by kernel_rfl
    have x4 : ∀ w : World, (Instr.index 75 (.agg #[.int .i64 t, .int .i64 r, .int .i64 b, .int .i64 o, .int .i64 g]) (.int .i64 4)).run Try.prog w = .ok (.int .i64 g) w := fun _ => by kernel_rfl
    go_loop [15] (fun i => ∃ k : Int, 0 ≤ k ∧ k ≤ 5 ∧ i = .int .i64 k ∧ Hid (∀ j : Nat, (j : Int) < k → capIn t r b o g j = true)) (fun i => 5 - (intOf i).toNat)
    case atStart => exact ⟨0, by omega, by omega, rfl, Lib.hid (fun j hj => absurd hj (by omega))⟩
    case round =>
      obtain ⟨k, hk0, hk, rfl, hin⟩ := hrel
      by_cases hlt : k < 5
      · obtain rfl | rfl | rfl | rfl | rfl : k = 0 ∨ k = 1 ∨ k = 2 ∨ k = 3 ∨ k = 4 := by omega
        · by_cases hlo : 0 ≤ t
          · have dlo : decide (t < 0) = false := decide_eq_false (by omega)
            by_cases hhi : t ≤ 5
            · have dhi : decide (5 < t) = false := decide_eq_false (by omega)
              have hin' : Hid (∀ j : Nat, (j : Int) < (0 + 1 : Int) → capIn t r b o g j = true) := Lib.hid (fun j hj => by
                by_cases hj' : (j : Int) < 0
                · exact hin.out j hj'
                · obtain rfl : j = 0 := by omega
                  exact Bool.and_eq_true_iff.mpr ⟨decide_eq_true hlo, decide_eq_true hhi⟩)
              clear hin hlo hhi
              go_wp2
              exact ⟨⟨0 + 1, by decide, by decide, rfl, hin'⟩, by decide⟩
            · have dhi : decide (5 < t) = true := decide_eq_true (by omega)
              have e30 : res = 30 := by
                have h := HR0.out
                rw [if_neg (fun h => by
                  have h1 := h.1
                  simp only [capAll, Bool.and_eq_true, capIn, capNum, capMost, decide_eq_true_eq] at h1
                  omega)] at h
                exact h
              subst e30
              clear HR0 hin hlo hhi
              go_wp2
              go_ret
              exact ⟨rfl, hB⟩
          · have dlo : decide (t < 0) = true := decide_eq_true (by omega)
            have e30 : res = 30 := by
              have h := HR0.out
              rw [if_neg (fun h => by
                have h1 := h.1
                simp only [capAll, Bool.and_eq_true, capIn, capNum, capMost, decide_eq_true_eq] at h1
                omega)] at h
              exact h
            subst e30
            clear HR0 hin hlo
            go_wp2
            go_ret
            exact ⟨rfl, hB⟩
        · by_cases hlo : 0 ≤ r
          · have dlo : decide (r < 0) = false := decide_eq_false (by omega)
            by_cases hhi : r ≤ 15
            · have dhi : decide (15 < r) = false := decide_eq_false (by omega)
              have hin' : Hid (∀ j : Nat, (j : Int) < (1 + 1 : Int) → capIn t r b o g j = true) := Lib.hid (fun j hj => by
                by_cases hj' : (j : Int) < 1
                · exact hin.out j hj'
                · obtain rfl : j = 1 := by omega
                  exact Bool.and_eq_true_iff.mpr ⟨decide_eq_true hlo, decide_eq_true hhi⟩)
              clear hin hlo hhi
              go_wp2
              exact ⟨⟨1 + 1, by decide, by decide, rfl, hin'⟩, by decide⟩
            · have dhi : decide (15 < r) = true := decide_eq_true (by omega)
              have e30 : res = 30 := by
                have h := HR0.out
                rw [if_neg (fun h => by
                  have h1 := h.1
                  simp only [capAll, Bool.and_eq_true, capIn, capNum, capMost, decide_eq_true_eq] at h1
                  omega)] at h
                exact h
              subst e30
              clear HR0 hin hlo hhi
              go_wp2
              go_ret
              exact ⟨rfl, hB⟩
          · have dlo : decide (r < 0) = true := decide_eq_true (by omega)
            have e30 : res = 30 := by
              have h := HR0.out
              rw [if_neg (fun h => by
                have h1 := h.1
                simp only [capAll, Bool.and_eq_true, capIn, capNum, capMost, decide_eq_true_eq] at h1
                omega)] at h
              exact h
            subst e30
            clear HR0 hin hlo
            go_wp2
            go_ret
            exact ⟨rfl, hB⟩
        · by_cases hlo : 0 ≤ b
          · have dlo : decide (b < 0) = false := decide_eq_false (by omega)
            by_cases hhi : b ≤ capBadges t
            · have dhi : decide (capBadges t < b) = false := decide_eq_false (by omega)
              have hin' : Hid (∀ j : Nat, (j : Int) < (2 + 1 : Int) → capIn t r b o g j = true) := Lib.hid (fun j hj => by
                by_cases hj' : (j : Int) < 2
                · exact hin.out j hj'
                · obtain rfl : j = 2 := by omega
                  exact Bool.and_eq_true_iff.mpr ⟨decide_eq_true hlo, decide_eq_true hhi⟩)
              clear hin hlo hhi
              go_wp2
              exact ⟨⟨2 + 1, by decide, by decide, rfl, hin'⟩, by decide⟩
            · have dhi : decide (capBadges t < b) = true := decide_eq_true (by omega)
              have e30 : res = 30 := by
                have h := HR0.out
                rw [if_neg (fun h => by
                  have h1 := h.1
                  simp only [capAll, Bool.and_eq_true, capIn, capNum, capMost, decide_eq_true_eq] at h1
                  omega)] at h
                exact h
              subst e30
              clear HR0 hin hlo hhi
              go_wp2
              go_ret
              exact ⟨rfl, hB⟩
          · have dlo : decide (b < 0) = true := decide_eq_true (by omega)
            have e30 : res = 30 := by
              have h := HR0.out
              rw [if_neg (fun h => by
                have h1 := h.1
                simp only [capAll, Bool.and_eq_true, capIn, capNum, capMost, decide_eq_true_eq] at h1
                omega)] at h
              exact h
            subst e30
            clear HR0 hin hlo
            go_wp2
            go_ret
            exact ⟨rfl, hB⟩
        · by_cases hlo : 0 ≤ o
          · have dlo : decide (o < 0) = false := decide_eq_false (by omega)
            by_cases hhi : o ≤ 1023
            · have dhi : decide (1023 < o) = false := decide_eq_false (by omega)
              have hin' : Hid (∀ j : Nat, (j : Int) < (3 + 1 : Int) → capIn t r b o g j = true) := Lib.hid (fun j hj => by
                by_cases hj' : (j : Int) < 3
                · exact hin.out j hj'
                · obtain rfl : j = 3 := by omega
                  exact Bool.and_eq_true_iff.mpr ⟨decide_eq_true hlo, decide_eq_true hhi⟩)
              clear hin hlo hhi
              go_wp2
              exact ⟨⟨3 + 1, by decide, by decide, rfl, hin'⟩, by decide⟩
            · have dhi : decide (1023 < o) = true := decide_eq_true (by omega)
              have e30 : res = 30 := by
                have h := HR0.out
                rw [if_neg (fun h => by
                  have h1 := h.1
                  simp only [capAll, Bool.and_eq_true, capIn, capNum, capMost, decide_eq_true_eq] at h1
                  omega)] at h
                exact h
              subst e30
              clear HR0 hin hlo hhi
              go_wp2
              go_ret
              exact ⟨rfl, hB⟩
          · have dlo : decide (o < 0) = true := decide_eq_true (by omega)
            have e30 : res = 30 := by
              have h := HR0.out
              rw [if_neg (fun h => by
                have h1 := h.1
                simp only [capAll, Bool.and_eq_true, capIn, capNum, capMost, decide_eq_true_eq] at h1
                omega)] at h
              exact h
            subst e30
            clear HR0 hin hlo
            go_wp2
            go_ret
            exact ⟨rfl, hB⟩
        · by_cases hlo : 0 ≤ g
          · have dlo : decide (g < 0) = false := decide_eq_false (by omega)
            by_cases hhi : g ≤ 4095
            · have dhi : decide (4095 < g) = false := decide_eq_false (by omega)
              have hin' : Hid (∀ j : Nat, (j : Int) < (4 + 1 : Int) → capIn t r b o g j = true) := Lib.hid (fun j hj => by
                by_cases hj' : (j : Int) < 4
                · exact hin.out j hj'
                · obtain rfl : j = 4 := by omega
                  exact Bool.and_eq_true_iff.mpr ⟨decide_eq_true hlo, decide_eq_true hhi⟩)
              clear hin hlo hhi
              go_wp2
              exact ⟨⟨4 + 1, by decide, by decide, rfl, hin'⟩, by decide⟩
            · have dhi : decide (4095 < g) = true := decide_eq_true (by omega)
              have e30 : res = 30 := by
                have h := HR0.out
                rw [if_neg (fun h => by
                  have h1 := h.1
                  simp only [capAll, Bool.and_eq_true, capIn, capNum, capMost, decide_eq_true_eq] at h1
                  omega)] at h
                exact h
              subst e30
              clear HR0 hin hlo hhi
              go_wp2
              go_ret
              exact ⟨rfl, hB⟩
          · have dlo : decide (g < 0) = true := decide_eq_true (by omega)
            have e30 : res = 30 := by
              have h := HR0.out
              rw [if_neg (fun h => by
                have h1 := h.1
                simp only [capAll, Bool.and_eq_true, capIn, capNum, capMost, decide_eq_true_eq] at h1
                omega)] at h
              exact h
            subst e30
            clear HR0 hin hlo
            go_wp2
            go_ret
            exact ⟨rfl, hB⟩
      · obtain rfl : k = 5 := by omega
        have hall : capAll t r b o g = true := by
          unfold capAll
          rw [hin.out 0 (by omega), hin.out 1 (by omega), hin.out 2 (by omega), hin.out 3 (by omega), hin.out 4 (by omega)]
          rfl
        by_cases ht : t = 0
        · have bt : (t == 0) = true := beq_iff_eq.mpr ht
          have e30 : res = 30 := by
            have h := HR0.out
            rwa [if_neg (fun h => h.2 ht)] at h
          subst e30
          clear HR0 hin ht
          go_wp2
          go_ret
          exact ⟨rfl, hB⟩
        · have bt : (t == 0) = false := beq_eq_false_iff_ne.mpr ht
          have e0 : res = 0 := by
            have h := HR0.out
            rwa [if_pos ⟨hall, ht⟩] at h
          subst e0
          clear HR0 hin ht hall
          go_wp2
          go_ret
          exact ⟨rfl, hB⟩
end Go.Proofs.Ytkdebaopfabbbaa.Given
