/- CallNames is true of every two numbers: no condition. The law's walk, by the names' own facts. -/
import Derived.Test.YtikbldmlfjckkaaLive15
import Derived.Test.YtikbldmlfjckkaaGName
namespace Go.Proofs.Ytikbldmlfjckkaa.P
open Go Go.RowKit Go.Proofs Go.Proofs.YtikbldmlfjckkaaW.PrintWords Go.Proofs.YtikbldmlfjckkaaW.PrintLast Go.Proofs.YtikbldmlfjckkaaW.PrintMore Go.Proofs.Ytikbldmlfjckkaa.Given Go.Proofs.Ytikbldmlfjckkaa.Plain

def garrisonlaw15_CallNames.Pure : Prop := True
def nb (b : Int) : Nat := if 1 ≤ b ∧ b ≤ 12 then b.toNat else 0
theorem nb_lt (b : Int) : nb b < 13 := by unfold nb; split <;> omega
theorem name_nb (b : Int) : call_Name.f b = some ⟨Given.nameBytes (nb b)⟩ := by
  unfold call_Name.f nb
  by_cases h : 1 ≤ b ∧ b ≤ 12
  · rw [if_pos h, if_pos h]
  · rw [if_neg h, if_neg h]
    rfl
theorem bytes_ne : ∀ i, i < 13 → ∀ j, j < 13 → i ≠ 0 → i ≠ j → (⟨Given.nameBytes i⟩ : ByteArray).toList ≠ (⟨Given.nameBytes j⟩ : ByteArray).toList := by decide +kernel
theorem bytes_some : ∀ i, i < 13 → i ≠ 0 → (⟨Given.nameBytes i⟩ : ByteArray).toList ≠ [] := by decide +kernel
set_option maxHeartbeats 1000000 in
theorem names_out (a b : Int) (w : World) (h : ¬ (1 ≤ a ∧ a ≤ 12)) : Calls Try.prog 6 #[.int .i64 a, .int .i64 b] w fun e w' => e = .returned (.bool true) ∧ Below w.heap.size w w' := by
  have Na := Lib.hid (fun W => call_Name.calls a _ W (show call_Name.f a = some ⟨#[]⟩ by unfold call_Name.f; rw [if_neg h]))
  obtain ⟨sb, hsb⟩ : ∃ s, call_Name.f b = some s := ⟨_, rfl⟩
  have Nb := Lib.hid (fun W => call_Name.calls b sb W hsb)
  clear hsb
  by_cases h1 : 1 ≤ a
  · have b1 : decide (1 ≤ a) = true := decide_eq_true h1
    have b2 : decide (a ≤ 12) = false := decide_eq_false (fun h2 => h ⟨h1, h2⟩)
    clear h h1
    go_enter Try.func6, Try.ntmps6
    go_wp2_with (first | (go_at_call 17; first | ((with_reducible refine (Na.out _).mono ?_); clear Na; rintro e w1 ⟨rfl, hb⟩; have HB1 := Aside0.mk hb; clear hb) | ((with_reducible refine (Nb.out _).mono ?_); clear Nb; rintro e w2 ⟨rfl, hb⟩; have HB2 := Aside0.mk (below_step HB1.out hb); clear hb)) | (go_at_call 8; (with_reducible refine (live15_calls _).mono ?_); rintro e w3 ⟨rfl, hb⟩; have HB3 := Aside0.mk (below_step HB2.out hb); clear hb))
    go_ret
    exact ⟨rfl, HB3.out⟩
  · have b1 : decide (1 ≤ a) = false := decide_eq_false h1
    clear h h1
    go_enter Try.func6, Try.ntmps6
    go_wp2_with (first | (go_at_call 17; first | ((with_reducible refine (Na.out _).mono ?_); clear Na; rintro e w1 ⟨rfl, hb⟩; have HB1 := Aside0.mk hb; clear hb) | ((with_reducible refine (Nb.out _).mono ?_); clear Nb; rintro e w2 ⟨rfl, hb⟩; have HB2 := Aside0.mk (below_step HB1.out hb); clear hb)) | (go_at_call 8; (with_reducible refine (live15_calls _).mono ?_); rintro e w3 ⟨rfl, hb⟩; have HB3 := Aside0.mk (below_step HB2.out hb); clear hb))
    go_ret
    exact ⟨rfl, HB3.out⟩
set_option maxHeartbeats 1000000 in
theorem names_in (a b : Int) (w : World) (h1 : 1 ≤ a) (h2 : a ≤ 12) : Calls Try.prog 6 #[.int .i64 a, .int .i64 b] w fun e w' => e = .returned (.bool true) ∧ Below w.heap.size w w' := by
  have b1 : decide (1 ≤ a) = true := decide_eq_true h1
  have b2 : decide (a ≤ 12) = true := decide_eq_true h2
  have hna : nb a = a.toNat := if_pos ⟨h1, h2⟩
  have n0 : nb a ≠ 0 := by omega
  obtain ⟨sa, hsa⟩ : ∃ s : ByteArray, s = ⟨Given.nameBytes (nb a)⟩ := ⟨_, rfl⟩
  have ne : sa.toList ≠ [] := by rw [hsa]; exact bytes_some _ (nb_lt a) n0
  have Na := Lib.hid (fun W => call_Name.calls a sa W (by rw [name_nb, hsa]))
  have c1 : (sa.toList == []) = false := beq_eq_false_iff_ne.mpr ne
  have c2 : (sa.toList != []) = true := bne_iff_ne.mpr ne
  have c3 : sa.toList.isEmpty = false := by cases h : sa.toList with | nil => exact absurd h ne | cons _ _ => rfl
  by_cases hab : a = b
  · subst hab
    have q1 : (a == a) = true := beq_iff_eq.mpr rfl
    have Nb := Na
    clear h1 h2 hna n0 hsa
    go_enter Try.func6, Try.ntmps6
    go_wp2_with (first | (go_at_call 17; first | ((with_reducible refine (Na.out _).mono ?_); clear Na; rintro e w1 ⟨rfl, hb⟩; have HB1 := Aside0.mk hb; clear hb) | ((with_reducible refine (Nb.out _).mono ?_); clear Nb; rintro e w2 ⟨rfl, hb⟩; have HB2 := Aside0.mk (below_step HB1.out hb); clear hb)) | (go_at_call 8; (with_reducible refine (live15_calls _).mono ?_); rintro e w3 ⟨rfl, hb⟩; have HB3 := Aside0.mk (below_step HB2.out hb); clear hb))
    go_ret
    exact ⟨rfl, HB3.out⟩
  · obtain ⟨sb, hsb⟩ : ∃ s : ByteArray, s = ⟨Given.nameBytes (nb b)⟩ := ⟨_, rfl⟩
    have Nb := Lib.hid (fun W => call_Name.calls b sb W (by rw [name_nb, hsb]))
    have nab : nb a ≠ nb b := by
      rw [hna]
      unfold nb
      split <;> omega
    have nl : sa.toList ≠ sb.toList := by rw [hsa, hsb]; exact bytes_ne _ (nb_lt a) _ (nb_lt b) n0 nab
    have d1 : (sa.toList == sb.toList) = false := beq_eq_false_iff_ne.mpr nl
    have d2 : decide (sa.toList = sb.toList) = false := decide_eq_false nl
    have q1 : (a == b) = false := beq_eq_false_iff_ne.mpr hab
    clear h1 h2 hna n0 hsa hsb nab hab
    go_enter Try.func6, Try.ntmps6
    go_wp2_with (first | (go_at_call 17; first | ((with_reducible refine (Na.out _).mono ?_); clear Na; rintro e w1 ⟨rfl, hb⟩; have HB1 := Aside0.mk hb; clear hb) | ((with_reducible refine (Nb.out _).mono ?_); clear Nb; rintro e w2 ⟨rfl, hb⟩; have HB2 := Aside0.mk (below_step HB1.out hb); clear hb)) | (go_at_call 8; (with_reducible refine (live15_calls _).mono ?_); rintro e w3 ⟨rfl, hb⟩; have HB3 := Aside0.mk (below_step HB2.out hb); clear hb))
    go_ret
    exact ⟨rfl, HB3.out⟩
theorem garrisonlaw15_CallNames.walk (_P : garrisonlaw15_CallNames.Pure) (a0 a1 : Int) (w : World) (_w0 : (Lit.int .i64 a0).wf = true) (_w1 : (Lit.int .i64 a1).wf = true) :
    Calls Try.prog 6 #[.int .i64 a0, .int .i64 a1] w fun e w' => e = .returned (.bool true) ∧ Below w.heap.size w w' := by
  by_cases h : 1 ≤ a0 ∧ a0 ≤ 12
  · exact names_in a0 a1 w h.1 h.2
  · exact names_out a0 a1 w h
end Go.Proofs.Ytikbldmlfjckkaa.P
