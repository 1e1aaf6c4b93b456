-- Written by a program of this session (wip/tools/myprint.py) out of the translation.
import Derived.Test.YtkdebaopfabbbaaRows
import Derived.Test.YtkdebaopfabbbaaPx17
import Derived.Test.YtkdebaopfabbbaaPureAddrFronts
import Derived.Test.YtkdebaopfabbbaaOpens
import Derived.Test.YtkdebaopfabbbaaPx0
import Derived.WalkKit
import Derived.ProofKit
import Derived.OpenShut
import Derived.ShutString
import Derived.ChangeOld
import Derived.Below
import Derived.SizedLaws
namespace Go.Proofs.Ytkdebaopfabbbaa.addrFronts
open Go.ChangeShapes Go.WideShapes Go.ChangeAt Go.RowKit Go.Proofs.Ytkdebaopfabbbaa
open Go.ChangeMaps (open_string shut_string)
theorem own : ownKnob Try.prog.godebug = none := by kernel_rfl
open Go.Proofs.Ytkdebaopfabbbaa.Opens Go.Proofs.Ytkdebaopfabbbaa.P Go.Proofs.YtkdebaopfabbbaaW.PrintWords
theorem laidOut : laidOutB Try.prog = true := by kernel_rfl
theorem op42 : Opens Try.prog 42 k42 (fun x => ((Lit.int .i64 x.f0).wf = true ∧ ((Lit.int .i64 x.f1).wf = true ∧ ((Lit.int .i64 x.f2).wf = true ∧ ((Lit.int .i64 x.f3).wf = true ∧ (Lit.int .i64 x.f4).wf = true))))) :=
  opens_struct (total := 5) (fun x : S42 => (x.f0, x.f1, x.f2, x.f3, x.f4)) (fun p => ⟨p.1, p.2.1, p.2.2.1, p.2.2.2.1, p.2.2.2.2⟩) (fun _ => rfl) Try.underlying42 (by kernel_rfl) (opensF_cons (o2 := 1) (opens_int Try.underlying3) (by kernel_rfl) rfl (by decide) (opensF_cons (o2 := 2) (opens_int Try.underlying3) (by kernel_rfl) rfl (by decide) (opensF_cons (o2 := 3) (opens_int Try.underlying3) (by kernel_rfl) rfl (by decide) (opensF_cons (o2 := 4) (opens_int Try.underlying3) (by kernel_rfl) rfl (by decide) (opensF_last (opens_int Try.underlying3) (by kernel_rfl) rfl)))))
theorem op53 : Opens Try.prog 53 k53 (fun x => ((Lit.int .i64 x.f0).wf = true ∧ (Lit.int .i64 x.f1).wf = true)) :=
  opens_struct (total := 2) (fun x : S53 => (x.f0, x.f1)) (fun p => ⟨p.1, p.2⟩) (fun _ => rfl) Try.underlying53 (by kernel_rfl) (opensF_cons (o2 := 1) (opens_int Try.underlying3) (by kernel_rfl) rfl (by decide) (opensF_last (opens_int Try.underlying3) (by kernel_rfl) rfl))
set_option maxRecDepth 100000 in
theorem lifted (os : Os) (started : os.Started) (H : Type) (enc : TypeId × Value → H) :
    ReturnsInHanded {} Try.checked os 5 .any (Rows.addrFrontsSpec.pre6 enc Try.prog Try.f5 Rows.addrFrontsRow.domain false) (Rows.addrFrontsSpec.post enc Try.prog Try.f5 false true false false) := by
  refine returnsInHanded_of_change_sized (C := Try.checked) own started (by kernel_rfl) Try.func5
    (ChangeSpec.witness6 (enc := enc) (C := Try.checked) false ⟨#[], #[.slice none 0 0, .agg #[.int .i64 0, .int .i64 0, .int .i64 0, .int .i64 0, .int .i64 0], .slice none 0 0], []⟩ 8 (by kernel_rfl) (by kernel_rfl) (by kernel_rfl) (by kernel_rfl)) ?_
  intro W base args ds gs before hval0 hW hcnd hsz0 _
  have hsz : (DataW.weightsEach Try.prog (Try.f5.params.toList ++ Rows.addrFrontsSpec.plain.varTypes Try.prog) (ds ++ gs)).all (· ≤ reachBytes) = true := hsz0
  have hval : ∀ (j : Nat) t v, Try.f5.params[j]? = some t → args[j]? = some v → Value.okWide Try.prog W .any base t v := hval0
  have hW' := hW
  obtain ⟨p, q, hA0, hV, rfl, hfz, hnd⟩ := hW
  have hA : DataW.TrodAll enc Try.prog W 0 (fun _ => true) true Try.f5.params.toList args.toList ds p := hA0
  rw [Try.params5] at hA hval hsz
  obtain ⟨v0, vs0, d0, ds0, p0, q0, hargs, rfl, rfl, h0, r0⟩ := trodAll_cons hA
  obtain ⟨v1, vs1, d1, ds1, p1, q1, rfl, rfl, rfl, h1, r1⟩ := trodAll_cons r0
  obtain ⟨v2, vs2, d2, ds2, p2, q2, rfl, rfl, rfl, h2, r2⟩ := trodAll_cons r1
  obtain ⟨rfl, rfl, rfl⟩ := trodAll_nil r2
  obtain rfl : args = #[v0, v1, v2] := by cases args; simp_all
  obtain ⟨rfl, rfl⟩ := trodVars_none hV
  obtain ⟨a0, len0, cap0, rfl⟩ := okWide_slice Try.underlying40 (hval 0 40 v0 rfl rfl)
  have k0 := h0
  have lt0 : ∀ x ∈ p0, x.block < W.heap.size := by obtain ⟨m, hm⟩ := k0; exact DataW.trod_lt m _ _ _ hm
  obtain ⟨l0, ⟨A0, c0, q0, hc0, hr0⟩, w0⟩ : ∃ x, (Kd.slice 56 (Kd.slice 42 k42)).K W x (Value.slice a0 len0 cap0).cells.toList ∧ (∀ x_ : List (S42), x_ ∈ x → (∀ x__ : S42, x__ ∈ x_ → ((Lit.int .i64 x__.f0).wf = true ∧ ((Lit.int .i64 x__.f1).wf = true ∧ ((Lit.int .i64 x__.f2).wf = true ∧ ((Lit.int .i64 x__.f3).wf = true ∧ (Lit.int .i64 x__.f4).wf = true)))))) := by obtain ⟨fuel, hf⟩ := h0; exact (opens_slice Try.underlying40 (by kernel_rfl) (opens_slice Try.underlying56 (by kernel_rfl) op42)) enc W 0 _ _ fuel _ _ hf
  have q0' : Value.slice a0 len0 cap0 = .slice A0 l0.length c0 := by simpa [Value.cells] using q0
  obtain ⟨rfl, rfl, rfl⟩ : a0 = A0 ∧ len0 = l0.length ∧ cap0 = c0 := by simpa using q0'
  clear q0 q0'
  obtain ⟨cs1, rfl, _⟩ := okWide_struct Try.underlying42 (hval 1 42 v1 rfl rfl)
  have k1 := h1
  have lt1 : ∀ x ∈ p1, x.block < W.heap.size := by obtain ⟨m, hm⟩ := k1; exact DataW.trod_lt m _ _ _ hm
  obtain ⟨x1, hK1, w1⟩ : ∃ x, k42.K W x (Value.agg cs1).cells.toList ∧ ((Lit.int .i64 x.f0).wf = true ∧ ((Lit.int .i64 x.f1).wf = true ∧ ((Lit.int .i64 x.f2).wf = true ∧ ((Lit.int .i64 x.f3).wf = true ∧ (Lit.int .i64 x.f4).wf = true)))) := by obtain ⟨fuel, hf⟩ := h1; exact op42 enc W 0 _ _ fuel _ _ hf
  have q1 := k42_open hK1
  obtain rfl : cs1 = #[.int .i64 x1.f0, .int .i64 x1.f1, .int .i64 x1.f2, .int .i64 x1.f3, .int .i64 x1.f4] := by cases cs1; simpa [Value.cells] using q1
  obtain ⟨a2, len2, cap2, rfl⟩ := okWide_slice Try.underlying22 (hval 2 22 v2 rfl rfl)
  have k2 := h2
  have lt2 : ∀ x ∈ p2, x.block < W.heap.size := by obtain ⟨m, hm⟩ := k2; exact DataW.trod_lt m _ _ _ hm
  obtain ⟨l2, ⟨A2, c2, q2, hc2, hr2⟩, w2⟩ : ∃ x, (Kd.slice 53 k53).K W x (Value.slice a2 len2 cap2).cells.toList ∧ (∀ x_ : S53, x_ ∈ x → ((Lit.int .i64 x_.f0).wf = true ∧ (Lit.int .i64 x_.f1).wf = true)) := by obtain ⟨fuel, hf⟩ := h2; exact (opens_slice Try.underlying22 (by kernel_rfl) op53) enc W 0 _ _ fuel _ _ hf
  have q2' : Value.slice a2 len2 cap2 = .slice A2 l2.length c2 := by simpa [Value.cells] using q2
  obtain ⟨rfl, rfl, rfl⟩ : a2 = A2 ∧ len2 = l2.length ∧ cap2 = c2 := by simpa using q2'
  clear q2 q2'
  clear hA0 hval0 hsz0 hsz
  obtain ⟨k, h⟩ := Pure.AddrFronts l0 x1.f0 x1.f1 x1.f2 x1.f3 x1.f4 l2 (by have := Kd.C_max hr0; unfold maxLen; omega) w0 w1 (by have := Kd.C_max hr2; unfold maxLen; omega) w2
  refine (P.garrisonlaw12_AddrFronts.calls k _ _ l0 x1.f0 x1.f1 x1.f2 x1.f3 x1.f4 _ _ l2 true W ⟨rfl⟩ hr0 hc0 hr2 hc2 h).mono fun e W' ⟨he, bel⟩ => ?_
  subst he
  exact ⟨_, rfl, _, _, _, [], _, [], hW', trodAll_mk1 (shut_bool Try.underlying4 _), (trodAll_cons_mk (Below.trod laidOut (by kernel_rfl) (of_decide_eq_true (by kernel_rfl)) k0 bel lt0) (trodAll_cons_mk (Below.trod laidOut (by kernel_rfl) (of_decide_eq_true (by kernel_rfl)) k1 bel lt1) (trodAll_cons_mk (Below.trod laidOut (by kernel_rfl) (of_decide_eq_true (by kernel_rfl)) k2 bel lt2) trodAll_mk0))), rfl, bel.frame _, fun h => by cases h⟩
theorem over : Rows.addrFrontsRow.holds Try.pinned (OpenSpec.ofChange Rows.addrFrontsSpec) :=
  OpenClaim.holds_of_wide 5 Try.f5 rfl rfl rfl rfl rfl rfl rfl ⟨rfl, rfl, rfl, rfl, rfl⟩ rfl rfl rfl rfl rfl (by kernel_rfl) Try.func5 (by kernel_rfl)
    (of_decide_eq_true (by kernel_rfl)) (by unfold Func.isWrapper; first | (rw [if_pos (by decide +kernel)]; kernel_rfl) | (rw [if_neg (by decide +kernel)]; exact ⟨rfl, rfl⟩))
    (fun os started H enc _ => lifted os started H enc)
theorem proved : Rows.AddrFrontsSaid := over
#print axioms proved
end Go.Proofs.Ytkdebaopfabbbaa.addrFronts
namespace Go.Proofs.Ytkdebaopfabbbaa
/-- The row, under a short name, for the claim. -/
theorem addrFronts_holds : Rows.AddrFrontsSaid := addrFronts.proved
end Go.Proofs.Ytkdebaopfabbbaa
