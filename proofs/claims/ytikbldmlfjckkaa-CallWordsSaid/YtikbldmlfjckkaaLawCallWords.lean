-- Written by a program of this session (wip/tools/myprint.py) out of the translation.
import Derived.Test.YtikbldmlfjckkaaRows
import Derived.Test.YtikbldmlfjckkaaPx8
import Derived.Test.YtikbldmlfjckkaaPureCallWords
import Derived.Test.YtikbldmlfjckkaaOpens
import Derived.Test.YtikbldmlfjckkaaPx0
import Derived.WalkKit
import Derived.ProofKit
import Derived.OpenShut
import Derived.ShutString
import Derived.ChangeOld
import Derived.Below
import Derived.SizedLaws
namespace Go.Proofs.Ytikbldmlfjckkaa.callWords
open Go.ChangeShapes Go.WideShapes Go.ChangeAt Go.RowKit Go.Proofs.Ytikbldmlfjckkaa
open Go.ChangeMaps (open_string shut_string)
theorem own : ownKnob Try.prog.godebug = none := by kernel_rfl
open Go.Proofs.Ytikbldmlfjckkaa.Opens Go.Proofs.Ytikbldmlfjckkaa.P Go.Proofs.YtikbldmlfjckkaaW.PrintWords
theorem laidOut : laidOutB Try.prog = true := by kernel_rfl
theorem op24 : Opens Try.prog 24 k24 (fun x => ((Lit.int .i64 x.f0).wf = true ∧ ((Lit.int .u64 x.f1).wf = true ∧ ((Lit.int .u64 x.f2).wf = true ∧ ((Lit.int .i64 x.f3).wf = true ∧ ((Lit.int .i64 x.f4).wf = true ∧ ((Lit.int .i64 x.f5).wf = true ∧ ((Lit.int .i64 x.f6).wf = true ∧ (Lit.int .i64 x.f7).wf = true)))))))) :=
  opens_struct (total := 8) (fun x : S24 => (x.f0, x.f1, x.f2, x.f3, x.f4, x.f5, x.f6, x.f7)) (fun p => ⟨p.1, p.2.1, p.2.2.1, p.2.2.2.1, p.2.2.2.2.1, p.2.2.2.2.2.1, p.2.2.2.2.2.2.1, p.2.2.2.2.2.2.2⟩) (fun _ => rfl) Try.underlying24 (by kernel_rfl) (opensF_cons (o2 := 1) (opens_int Try.underlying3) (by kernel_rfl) rfl (by decide) (opensF_cons (o2 := 2) (opens_int Try.underlying22) (by kernel_rfl) rfl (by decide) (opensF_cons (o2 := 3) (opens_int Try.underlying22) (by kernel_rfl) rfl (by decide) (opensF_cons (o2 := 4) (opens_int Try.underlying3) (by kernel_rfl) rfl (by decide) (opensF_cons (o2 := 5) (opens_int Try.underlying3) (by kernel_rfl) rfl (by decide) (opensF_cons (o2 := 6) (opens_int Try.underlying3) (by kernel_rfl) rfl (by decide) (opensF_cons (o2 := 7) (opens_int Try.underlying3) (by kernel_rfl) rfl (by decide) (opensF_last (opens_int Try.underlying2) (by kernel_rfl) rfl))))))))
set_option maxRecDepth 100000 in
theorem lifted (os : Os) (started : os.Started) (H : Type) (enc : TypeId × Value → H) :
    ReturnsInHanded {} Try.checked os 3 .any (Rows.callWordsSpec.pre6 enc Try.prog Try.f3 Rows.callWordsRow.domain false) (Rows.callWordsSpec.post enc Try.prog Try.f3 false true false false) := by
  refine returnsInHanded_of_change_sized (C := Try.checked) own started (by kernel_rfl) Try.func3
    (ChangeSpec.witness6 (enc := enc) (C := Try.checked) false ⟨#[], #[.agg #[.int .i64 0, .int .u64 0, .int .u64 0, .int .i64 0, .int .i64 0, .int .i64 0, .int .i64 0, .int .i64 0], .slice none 0 0], []⟩ 8 (by kernel_rfl) (by kernel_rfl) (by kernel_rfl) (by kernel_rfl)) ?_
  intro W base args ds gs before hval0 hW hcnd hsz0 _
  have hsz : (DataW.weightsEach Try.prog (Try.f3.params.toList ++ Rows.callWordsSpec.plain.varTypes Try.prog) (ds ++ gs)).all (· ≤ reachBytes) = true := hsz0
  have hval : ∀ (j : Nat) t v, Try.f3.params[j]? = some t → args[j]? = some v → Value.okWide Try.prog W .any base t v := hval0
  have hW' := hW
  obtain ⟨p, q, hA0, hV, rfl, hfz, hnd⟩ := hW
  have hA : DataW.TrodAll enc Try.prog W 0 (fun _ => true) true Try.f3.params.toList args.toList ds p := hA0
  rw [Try.params3] at hA hval hsz
  obtain ⟨v0, vs0, d0, ds0, p0, q0, hargs, rfl, rfl, h0, r0⟩ := trodAll_cons hA
  obtain ⟨v1, vs1, d1, ds1, p1, q1, rfl, rfl, rfl, h1, r1⟩ := trodAll_cons r0
  obtain ⟨rfl, rfl, rfl⟩ := trodAll_nil r1
  obtain rfl : args = #[v0, v1] := by cases args; simp_all
  obtain ⟨rfl, rfl⟩ := trodVars_none hV
  obtain ⟨cs0, rfl, _⟩ := okWide_struct Try.underlying24 (hval 0 24 v0 rfl rfl)
  have k0 := h0
  have lt0 : ∀ x ∈ p0, x.block < W.heap.size := by obtain ⟨m, hm⟩ := k0; exact DataW.trod_lt m _ _ _ hm
  obtain ⟨x0, hK0, w0⟩ : ∃ x, k24.K W x (Value.agg cs0).cells.toList ∧ ((Lit.int .i64 x.f0).wf = true ∧ ((Lit.int .u64 x.f1).wf = true ∧ ((Lit.int .u64 x.f2).wf = true ∧ ((Lit.int .i64 x.f3).wf = true ∧ ((Lit.int .i64 x.f4).wf = true ∧ ((Lit.int .i64 x.f5).wf = true ∧ ((Lit.int .i64 x.f6).wf = true ∧ (Lit.int .i64 x.f7).wf = true))))))) := by obtain ⟨fuel, hf⟩ := h0; exact op24 enc W 0 _ _ fuel _ _ hf
  have q0 := k24_open hK0
  obtain rfl : cs0 = #[.int .i64 x0.f0, .int .u64 x0.f1, .int .u64 x0.f2, .int .i64 x0.f3, .int .i64 x0.f4, .int .i64 x0.f5, .int .i64 x0.f6, .int .i64 x0.f7] := by cases cs0; simpa [Value.cells] using q0
  obtain ⟨a1, len1, cap1, rfl⟩ := okWide_slice Try.underlying25 (hval 1 25 v1 rfl rfl)
  have k1 := h1
  have lt1 : ∀ x ∈ p1, x.block < W.heap.size := by obtain ⟨m, hm⟩ := k1; exact DataW.trod_lt m _ _ _ hm
  obtain ⟨l1, ⟨A1, c1, q1, hc1, hr1⟩, w1⟩ : ∃ x, (Kd.slice 22 (Kd.int .u64)).K W x (Value.slice a1 len1 cap1).cells.toList ∧ (∀ x_ : Int, x_ ∈ x → (Lit.int .u64 x_).wf = true) := by obtain ⟨fuel, hf⟩ := h1; exact (opens_slice Try.underlying25 (by kernel_rfl) (opens_int Try.underlying22)) enc W 0 _ _ fuel _ _ hf
  have q1' : Value.slice a1 len1 cap1 = .slice A1 l1.length c1 := by simpa [Value.cells] using q1
  obtain ⟨rfl, rfl, rfl⟩ : a1 = A1 ∧ len1 = l1.length ∧ cap1 = c1 := by simpa using q1'
  clear q1 q1'
  clear hA0 hval0 hsz0 hsz
  obtain ⟨k, h⟩ := Pure.CallWords x0.f0 x0.f1 x0.f2 x0.f3 x0.f4 x0.f5 x0.f6 x0.f7 l1 w0 (by have := Kd.C_max hr1; unfold maxLen; omega) w1
  refine (P.garrisonlaw15_CallWords.calls k x0.f0 x0.f1 x0.f2 x0.f3 x0.f4 x0.f5 x0.f6 x0.f7 _ _ l1 true W ⟨rfl⟩ hr1 hc1 h).mono fun e W' ⟨he, bel⟩ => ?_
  subst he
  exact ⟨_, rfl, _, _, _, [], _, [], hW', trodAll_mk1 (shut_bool Try.underlying4 _), (trodAll_cons_mk (Below.trod laidOut (by kernel_rfl) (of_decide_eq_true (by kernel_rfl)) k0 bel lt0) (trodAll_cons_mk (Below.trod laidOut (by kernel_rfl) (of_decide_eq_true (by kernel_rfl)) k1 bel lt1) trodAll_mk0)), rfl, bel.frame _, fun h => by cases h⟩
theorem over : Rows.callWordsRow.holds Try.pinned (OpenSpec.ofChange Rows.callWordsSpec) :=
  OpenClaim.holds_of_wide 3 Try.f3 rfl rfl rfl rfl rfl rfl rfl ⟨rfl, rfl, rfl, rfl, rfl⟩ rfl rfl rfl rfl rfl (by kernel_rfl) Try.func3 (by kernel_rfl)
    (of_decide_eq_true (by kernel_rfl)) (by unfold Func.isWrapper; first | (rw [if_pos (by decide +kernel)]; kernel_rfl) | (rw [if_neg (by decide +kernel)]; exact ⟨rfl, rfl⟩))
    (fun os started H enc _ => lifted os started H enc)
theorem proved : Rows.CallWordsSaid := over
#print axioms proved
end Go.Proofs.Ytikbldmlfjckkaa.callWords
namespace Go.Proofs.Ytikbldmlfjckkaa
/-- The row, under a short name, for the claim. -/
theorem callWords_holds : Rows.CallWordsSaid := callWords.proved
end Go.Proofs.Ytikbldmlfjckkaa
