/- call.Name at this program: what the call answers (the names lie in an array). -/
import Derived.Test.YtikbldmlfjckkaaPx0
import Derived.Lib.Hide
import Derived.Handy
namespace Go.Proofs.Ytikbldmlfjckkaa.Given
open Go Go.RowKit Go.Proofs Go.Proofs.YtikbldmlfjckkaaW.PrintWords Go.Proofs.YtikbldmlfjckkaaW.PrintLast Go.Proofs.YtikbldmlfjckkaaW.PrintMore Go.Proofs.Ytikbldmlfjckkaa.P

def nameBytes : Nat → Array UInt8
  | 1 => #[109, 105, 110, 116]
  | 2 => #[109, 111, 118, 101]
  | 3 => #[100, 101, 108, 101, 116, 101]
  | 4 => #[114, 101, 118, 111, 107, 101]
  | 5 => #[114, 101, 116, 121, 112, 101]
  | 6 => #[114, 101, 97, 100]
  | 7 => #[119, 114, 105, 116, 101]
  | 8 => #[115, 101, 110, 100]
  | 9 => #[114, 101, 99, 118]
  | 10 => #[115, 105, 103, 110, 97, 108]
  | 11 => #[119, 97, 105, 116]
  | 12 => #[108, 111, 111, 107]
  | _ => #[]
def call_Name.f (a0 : Int) : Option ByteArray := some (if 1 ≤ a0 ∧ a0 ≤ 12 then ⟨nameBytes a0.toNat⟩ else ⟨#[]⟩)

set_option maxHeartbeats 1000000 in
theorem call_Name.calls (a0 : Int) (r : ByteArray) (w : World) (h : call_Name.f a0 = some r) : Calls Try.prog 17 #[.int .i64 a0] w fun e w' => e = .returned (.string r) ∧ Below w.heap.size w w' := by
  have hr := (Option.some.inj h).symm
  clear h
  by_cases h1 : 1 ≤ a0
  · by_cases h2 : a0 ≤ 12
    · rw [if_pos ⟨h1, h2⟩] at hr
      obtain rfl | rfl | rfl | rfl | rfl | rfl | rfl | rfl | rfl | rfl | rfl | rfl : a0 = 1 ∨ a0 = 2 ∨ a0 = 3 ∨ a0 = 4 ∨ a0 = 5 ∨ a0 = 6 ∨ a0 = 7 ∨ a0 = 8 ∨ a0 = 9 ∨ a0 = 10 ∨ a0 = 11 ∨ a0 = 12 := by omega
      all_goals
        subst hr
        clear h1 h2
        go_enter Try.func17, Try.ntmps17
        go_wp2
        go_ret
        exact ⟨rfl, by go_grown⟩
    · rw [if_neg (fun h => h2 h.2)] at hr
      subst hr
      have b1 : decide (a0 < 1) = false := decide_eq_false (by omega)
      have b2 : decide (12 < a0) = true := decide_eq_true (by omega)
      go_enter Try.func17, Try.ntmps17
      go_wp2
      go_ret
      exact ⟨rfl, by go_grown⟩
  · rw [if_neg (fun h => h1 h.1)] at hr
    subst hr
    have b1 : decide (a0 < 1) = true := decide_eq_true (by omega)
    go_enter Try.func17, Try.ntmps17
    go_wp2
    go_ret
    exact ⟨rfl, by go_grown⟩
end Go.Proofs.Ytikbldmlfjckkaa.Given
