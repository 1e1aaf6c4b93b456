/- garrisonref03.Digits at this program: what the call answers. -/
import Derived.Test.YthifdmelanbgmaaDoorPx0
import Derived.Lib.ItoaMem
import Derived.LoopTactic
import Derived.Lib.Hide
namespace Go.Proofs.YthifdmelanbgmaaDoor.Given
open Go Go.RowKit Go.Proofs Go.Proofs.YthifdmelanbgmaaDoorW.PrintWords Go.Proofs.YthifdmelanbgmaaDoorW.PrintLast Go.Proofs.YthifdmelanbgmaaDoorW.PrintMore Go.Proofs.YthifdmelanbgmaaDoor.P Go.Lib
set_option linter.unusedVariables false
set_option linter.unusedSimpArgs false

/-- The digits of a number, as text. -/
def digS (n : Nat) : ByteArray := ⟨(decDigits n).toArray⟩
/-- The digits that are still to come, ahead of those that stand. -/
def ahead (n : Nat) : List UInt8 := if n = 0 then [] else decDigits n
theorem ahead_step (n : Nat) (h : 0 < n) : ahead n = ahead (n / 10) ++ [UInt8.ofNat (48 + n % 10)] := by
  unfold ahead
  rw [if_neg (by omega)]
  by_cases h1 : n < 10
  · rw [if_pos (by omega), decDigits_one h1, Nat.mod_eq_of_lt h1]
    rfl
  · rw [if_neg (by omega)]
    conv => lhs; rw [decDigits, dif_neg h1]

theorem dig_cat (d : Nat) (l : List UInt8) (b : ByteArray) (hb : b = ⟨#[UInt8.ofNat (48 + d)]⟩) : Value.string (b ++ { data := l.toArray }) = Value.string ⟨(UInt8.ofNat (48 + d) :: l).toArray⟩ := by
  subst hb
  congr 1
theorem dig_less (k : Nat) (h : 0 < k) : (intOf (Value.int IntKind.i64 ((k : Int) / 10))).toNat < (intOf (Value.int IntKind.i64 (k : Int))).toNat := by
  show ((k : Int) / 10).toNat < ((k : Int)).toNat
  omega
set_option maxHeartbeats 4000000 in
set_option maxRecDepth 100000 in
theorem digits_pos (N : Nat) (h0 : 0 < N) (hN : N ≤ 65535) (w : World) : Calls Tryd.prog 35 #[.int .i64 (N : Int)] w fun e w' => e = .returned (.string (digS N)) ∧ w' = w := by
  have hS : digS N = ⟨(ahead N).toArray⟩ := by unfold digS ahead; rw [if_neg (by omega)]
  have HS := Lib.hid hS
  have hp : ¬ ((N : Int) ≤ 0) := by omega
  clear hS
  go_enter Tryd.func35, Tryd.ntmps35
  go_wp2
  go_loop [0, 3] (fun n s => ∃ (k : Nat) (l : List UInt8), k ≤ 65535 ∧ l.length ≤ 100000 ∧ n = .int .i64 (k : Int) ∧ s = .string ⟨l.toArray⟩ ∧ Hid (ahead N = ahead k ++ l ∧ k + l.length ≤ N)) (fun n _ => (intOf n).toNat)
  case atStart => exact ⟨N, [], hN, by simp, rfl, rfl, Lib.hid ⟨by simp, by simp⟩⟩
  case round =>
    obtain ⟨k, l, hk, hl, rfl, rfl, HA⟩ := hrel
    by_cases hk0 : 0 < k
    · have b0 : (k : Int) > 0 := by omega
      have b1 : (0 : Int) ≤ (k : Int) := by omega
      have b2 : (k : Int) ≤ 65535 := by omega
      have hA := HA.out
      rw [ahead_step k hk0] at hA
      have HA' : Hid (ahead N = ahead (k / 10) ++ (UInt8.ofNat (48 + k % 10) :: l) ∧ k / 10 + (UInt8.ofNat (48 + k % 10) :: l).length ≤ N) := Lib.hid ⟨by rw [hA.1, List.append_assoc]; rfl, by simp only [List.length_cons]; omega⟩
      have hl2 : (UInt8.ofNat (48 + k % 10) :: l).length ≤ 100000 := by have := HA'.out.2; omega
      clear hA HA
      obtain hm | hm | hm | hm | hm | hm | hm | hm | hm | hm : k % 10 = 0 ∨ k % 10 = 1 ∨ k % 10 = 2 ∨ k % 10 = 3 ∨ k % 10 = 4 ∨ k % 10 = 5 ∨ k % 10 = 6 ∨ k % 10 = 7 ∨ k % 10 = 8 ∨ k % 10 = 9 := by omega
      · have hm' : (k : Int) % 10 = 0 := by omega
        rw [hm] at HA' hl2
        clear hm
        go_wp2
        exact ⟨⟨k / 10, _, by omega, hl2, rfl, dig_cat 0 l _ rfl, HA'⟩, dig_less k hk0⟩
      · have hm' : (k : Int) % 10 = 1 := by omega
        rw [hm] at HA' hl2
        clear hm
        go_wp2
        exact ⟨⟨k / 10, _, by omega, hl2, rfl, dig_cat 1 l _ rfl, HA'⟩, dig_less k hk0⟩
      · have hm' : (k : Int) % 10 = 2 := by omega
        rw [hm] at HA' hl2
        clear hm
        go_wp2
        exact ⟨⟨k / 10, _, by omega, hl2, rfl, dig_cat 2 l _ rfl, HA'⟩, dig_less k hk0⟩
      · have hm' : (k : Int) % 10 = 3 := by omega
        rw [hm] at HA' hl2
        clear hm
        go_wp2
        exact ⟨⟨k / 10, _, by omega, hl2, rfl, dig_cat 3 l _ rfl, HA'⟩, dig_less k hk0⟩
      · have hm' : (k : Int) % 10 = 4 := by omega
        rw [hm] at HA' hl2
        clear hm
        go_wp2
        exact ⟨⟨k / 10, _, by omega, hl2, rfl, dig_cat 4 l _ rfl, HA'⟩, dig_less k hk0⟩
      · have hm' : (k : Int) % 10 = 5 := by omega
        rw [hm] at HA' hl2
        clear hm
        go_wp2
        exact ⟨⟨k / 10, _, by omega, hl2, rfl, dig_cat 5 l _ rfl, HA'⟩, dig_less k hk0⟩
      · have hm' : (k : Int) % 10 = 6 := by omega
        rw [hm] at HA' hl2
        clear hm
        go_wp2
        exact ⟨⟨k / 10, _, by omega, hl2, rfl, dig_cat 6 l _ rfl, HA'⟩, dig_less k hk0⟩
      · have hm' : (k : Int) % 10 = 7 := by omega
        rw [hm] at HA' hl2
        clear hm
        go_wp2
        exact ⟨⟨k / 10, _, by omega, hl2, rfl, dig_cat 7 l _ rfl, HA'⟩, dig_less k hk0⟩
      · have hm' : (k : Int) % 10 = 8 := by omega
        rw [hm] at HA' hl2
        clear hm
        go_wp2
        exact ⟨⟨k / 10, _, by omega, hl2, rfl, dig_cat 8 l _ rfl, HA'⟩, dig_less k hk0⟩
      · have hm' : (k : Int) % 10 = 9 := by omega
        rw [hm] at HA' hl2
        clear hm
        go_wp2
        exact ⟨⟨k / 10, _, by omega, hl2, rfl, dig_cat 9 l _ rfl, HA'⟩, dig_less k hk0⟩
    · have : k = 0 := by omega
      subst this
      go_wp2
      go_ret
      exact ⟨by rw [HS.out, HA.out.1]; rfl, rfl⟩
set_option maxHeartbeats 1000000 in
theorem digits_no (n : Int) (h0 : n ≤ 0) (w : World) : Calls Tryd.prog 35 #[.int .i64 n] w fun e w' => e = .returned (.string ⟨#[48]⟩) ∧ w' = w := by
  go_enter Tryd.func35, Tryd.ntmps35
  go_wp2
  go_ret
  exact ⟨rfl, rfl⟩
/-- What the call answers. -/
def garrisonref03_Digits.f (n : Int) : Option ByteArray := if n ≤ 65535 then some (digS n.toNat) else none
theorem garrisonref03_Digits.calls (n : Int) (r : ByteArray) (w : World) (h : garrisonref03_Digits.f n = some r) : Calls Tryd.prog 35 #[.int .i64 n] w fun e w' => e = .returned (.string r) ∧ Below w.heap.size w w' := by
  unfold garrisonref03_Digits.f at h
  by_cases hn : n ≤ 65535
  · rw [if_pos hn] at h
    obtain rfl := Option.some.inj h
    by_cases h0 : n ≤ 0
    · refine (digits_no n h0 w).mono ?_
      rintro e w' ⟨rfl, rfl⟩
      have e0 : n.toNat = 0 := by omega
      rw [e0]
      exact ⟨by unfold digS; rw [decDigits_one (by decide)]; rfl, Below.refl _ _⟩
    · obtain ⟨m, rfl⟩ := Int.eq_ofNat_of_zero_le (show 0 ≤ n by omega)
      refine (digits_pos m (by omega) (by omega) w).mono ?_
      rintro e w' ⟨rfl, rfl⟩
      exact ⟨rfl, Below.refl _ _⟩
  · rw [if_neg hn] at h
    cases h
end Go.Proofs.YthifdmelanbgmaaDoor.Given
