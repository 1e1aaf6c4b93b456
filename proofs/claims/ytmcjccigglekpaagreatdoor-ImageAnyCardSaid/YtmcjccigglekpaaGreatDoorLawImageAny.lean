import Derived.Test.YtmcjccigglekpaaGreatDoorRows
import Derived.Test.YtmcjccigglekpaaGreatDoorRowImageAny
import Derived.Test.YtmcjccigglekpaaGreatDoorA12
import Derived.Test.YtmcjccigglekpaaGreatDoorCards
import Derived.Test.YtmcjccigglekpaaGreatDoorTie
import Derived.Test.YtmcjccigglekpaaGreatDoorA2
import Derived.WalkKit
import Derived.ProofKit
import Derived.OpenShut
import Derived.ShutString
import Derived.ChangeOld
import Derived.Below
import Derived.SizedLaws
import Derived.SevenTiedAt
import Derived.ChangeSame
import Derived.ChangeVars
import Derived.JoinedOf
import Derived.RowKit
import Derived.LaidLaws
namespace Go.Proofs.YtmcjccigglekpaaGreatDoor.imageAny
open Go.ChangeShapes Go.WideShapes Go.ChangeAt Go.RowKit Go.Proofs.YtmcjccigglekpaaGreatDoor
open Go.ChangeMaps (open_string shut_string)
theorem own : ownKnob Tryz.prog.godebug = none := by kernel_rfl
open Go.Proofs.YtmcjccigglekpaaGreatDoor.Opens Go.Proofs.YtmcjccigglekpaaGreatDoor.P Go.Proofs.YtmcjccigglekpaaGreatDoorW.PrintWords
theorem laidOut : laidOutB Tryz.prog = true := by kernel_rfl
theorem op70 : Opens Tryz.prog 70 k70 (fun x => ((Lit.int .i64 x.f0).wf = true ∧ ((Lit.int .i64 x.f1).wf = true ∧ ((Lit.int .i64 x.f2).wf = true ∧ ((Lit.int .i64 x.f3).wf = true ∧ ((Lit.int .i64 x.f4).wf = true ∧ ((Lit.int .i64 x.f5).wf = true ∧ ((Lit.int .i64 x.f6).wf = true ∧ (Lit.int .i64 x.f7).wf = true)))))))) :=
 opens_struct (total := 8) (fun x : S70 => (x.f0, x.f1, x.f2, x.f3, x.f4, x.f5, x.f6, x.f7)) (fun p => ⟨p.1, p.2.1, p.2.2.1, p.2.2.2.1, p.2.2.2.2.1, p.2.2.2.2.2.1, p.2.2.2.2.2.2.1, p.2.2.2.2.2.2.2⟩) (fun _ => rfl) Tryz.underlying70 (by kernel_rfl) (opensF_cons (o2 := 1) (opens_int Tryz.underlying3) (by kernel_rfl) rfl (by decide) (opensF_cons (o2 := 2) (opens_int Tryz.underlying3) (by kernel_rfl) rfl (by decide) (opensF_cons (o2 := 3) (opens_int Tryz.underlying3) (by kernel_rfl) rfl (by decide) (opensF_cons (o2 := 4) (opens_int Tryz.underlying3) (by kernel_rfl) rfl (by decide) (opensF_cons (o2 := 5) (opens_int Tryz.underlying3) (by kernel_rfl) rfl (by decide) (opensF_cons (o2 := 6) (opens_int Tryz.underlying3) (by kernel_rfl) rfl (by decide) (opensF_cons (o2 := 7) (opens_int Tryz.underlying3) (by kernel_rfl) rfl (by decide) (opensF_last (opens_int Tryz.underlying2) (by kernel_rfl) rfl))))))))
theorem op25 : Opens Tryz.prog 25 k25 (fun x => ((∀ x_ : S70, x_ ∈ x.f0 → ((Lit.int .i64 x_.f0).wf = true ∧ ((Lit.int .i64 x_.f1).wf = true ∧ ((Lit.int .i64 x_.f2).wf = true ∧ ((Lit.int .i64 x_.f3).wf = true ∧ ((Lit.int .i64 x_.f4).wf = true ∧ ((Lit.int .i64 x_.f5).wf = true ∧ ((Lit.int .i64 x_.f6).wf = true ∧ (Lit.int .i64 x_.f7).wf = true)))))))) ∧ (∀ x_ : List Int, x_ ∈ x.f1 → (∀ x__ : Int, x__ ∈ x_ → (Lit.int .i64 x__).wf = true)))) :=
 opens_struct (total := 2) (fun x : S25 => (x.f0, x.f1)) (fun p => ⟨p.1, p.2⟩) (fun _ => rfl) Tryz.underlying25 (by kernel_rfl) (opensF_cons (o2 := 1) (opens_slice Tryz.underlying22 (by kernel_rfl) op70) (by kernel_rfl) rfl (by decide) (opensF_last (opens_slice Tryz.underlying23 (by kernel_rfl) (opens_slice Tryz.underlying29 (by kernel_rfl) (opens_int Tryz.underlying3))) (by kernel_rfl) rfl))
theorem op87 : Opens Tryz.prog 87 k87 (fun x => ((Lit.int .i64 x.f0).wf = true ∧ ((Lit.int .i64 x.f1).wf = true ∧ ((Lit.int .i64 x.f2).wf = true ∧ ((Lit.int .i64 x.f3).wf = true ∧ (Lit.int .i64 x.f4).wf = true))))) :=
 opens_struct (total := 5) (fun x : S87 => (x.f0, x.f1, x.f2, x.f3, x.f4)) (fun p => ⟨p.1, p.2.1, p.2.2.1, p.2.2.2.1, p.2.2.2.2⟩) (fun _ => rfl) Tryz.underlying87 (by kernel_rfl) (opensF_cons (o2 := 1) (opens_int Tryz.underlying3) (by kernel_rfl) rfl (by decide) (opensF_cons (o2 := 2) (opens_int Tryz.underlying3) (by kernel_rfl) rfl (by decide) (opensF_cons (o2 := 3) (opens_int Tryz.underlying3) (by kernel_rfl) rfl (by decide) (opensF_cons (o2 := 4) (opens_int Tryz.underlying3) (by kernel_rfl) rfl (by decide) (opensF_last (opens_int Tryz.underlying3) (by kernel_rfl) rfl)))))
theorem op74 : Opens Tryz.prog 74 k74 (fun x => ((Lit.int .i64 x.f0).wf = true ∧ (Lit.int .i64 x.f1).wf = true)) :=
 opens_struct (total := 2) (fun x : S74 => (x.f0, x.f1)) (fun p => ⟨p.1, p.2⟩) (fun _ => rfl) Tryz.underlying74 (by kernel_rfl) (opensF_cons (o2 := 1) (opens_int Tryz.underlying3) (by kernel_rfl) rfl (by decide) (opensF_last (opens_int Tryz.underlying3) (by kernel_rfl) rfl))
theorem op76 : Opens Tryz.prog 76 k76 (fun x => (((Lit.int .i64 x.f0.f0).wf = true ∧ (Lit.int .i64 x.f0.f1).wf = true) ∧ ((Lit.int .i64 x.f1).wf = true ∧ True))) :=
 opens_struct (total := 4) (fun x : S76 => (x.f0, x.f1, x.f2)) (fun p => ⟨p.1, p.2.1, p.2.2⟩) (fun _ => rfl) Tryz.underlying76 (by kernel_rfl) (opensF_cons (o2 := 2) op74 (by kernel_rfl) rfl (by decide) (opensF_cons (o2 := 3) (opens_int Tryz.underlying3) (by kernel_rfl) rfl (by decide) (opensF_last (opens_bool Tryz.underlying4) (by kernel_rfl) rfl)))
theorem op95 : Opens Tryz.prog 95 k95 (fun x => ((Lit.int .i64 x.f0).wf = true ∧ ((Lit.int .i64 x.f1).wf = true ∧ ((Lit.int .i64 x.f2).wf = true ∧ (True ∧ (((Lit.int .i64 x.f4.f0).wf = true ∧ (Lit.int .i64 x.f4.f1).wf = true) ∧ ((Lit.int .i64 x.f5).wf = true ∧ True))))))) :=
 opens_struct (total := 8) (fun x : S95 => (x.f0, x.f1, x.f2, x.f3, x.f4, x.f5, x.f6)) (fun p => ⟨p.1, p.2.1, p.2.2.1, p.2.2.2.1, p.2.2.2.2.1, p.2.2.2.2.2.1, p.2.2.2.2.2.2⟩) (fun _ => rfl) Tryz.underlying95 (by kernel_rfl) (opensF_cons (o2 := 1) (opens_int Tryz.underlying3) (by kernel_rfl) rfl (by decide) (opensF_cons (o2 := 2) (opens_int Tryz.underlying2) (by kernel_rfl) rfl (by decide) (opensF_cons (o2 := 3) (opens_int Tryz.underlying3) (by kernel_rfl) rfl (by decide) (opensF_cons (o2 := 4) (opens_bool Tryz.underlying4) (by kernel_rfl) rfl (by decide) (opensF_cons (o2 := 6) op74 (by kernel_rfl) rfl (by decide) (opensF_cons (o2 := 7) (opens_int Tryz.underlying3) (by kernel_rfl) rfl (by decide) (opensF_last (opens_bool Tryz.underlying4) (by kernel_rfl) rfl)))))))
theorem op59 : Opens Tryz.prog 59 k59 (fun x => ((Lit.int .i64 x.f0).wf = true ∧ ((Lit.int .i64 x.f1).wf = true ∧ (∀ x_ : S95, x_ ∈ x.f2 → ((Lit.int .i64 x_.f0).wf = true ∧ ((Lit.int .i64 x_.f1).wf = true ∧ ((Lit.int .i64 x_.f2).wf = true ∧ (True ∧ (((Lit.int .i64 x_.f4.f0).wf = true ∧ (Lit.int .i64 x_.f4.f1).wf = true) ∧ ((Lit.int .i64 x_.f5).wf = true ∧ True)))))))))) :=
 opens_struct (total := 3) (fun x : S59 => (x.f0, x.f1, x.f2)) (fun p => ⟨p.1, p.2.1, p.2.2⟩) (fun _ => rfl) Tryz.underlying59 (by kernel_rfl) (opensF_cons (o2 := 1) (opens_int Tryz.underlying3) (by kernel_rfl) rfl (by decide) (opensF_cons (o2 := 2) (opens_int Tryz.underlying2) (by kernel_rfl) rfl (by decide) (opensF_last (opens_slice Tryz.underlying57 (by kernel_rfl) op95) (by kernel_rfl) rfl)))
theorem op82 : Opens Tryz.prog 82 k82 (fun x => (True ∧ (((Lit.int .i64 x.f1.f0).wf = true ∧ (Lit.int .i64 x.f1.f1).wf = true) ∧ True))) :=
 opens_struct (total := 4) (fun x : S82 => (x.f0, x.f1, x.f2)) (fun p => ⟨p.1, p.2.1, p.2.2⟩) (fun _ => rfl) Tryz.underlying82 (by kernel_rfl) (opensF_cons (o2 := 1) (opens_bool Tryz.underlying4) (by kernel_rfl) rfl (by decide) (opensF_cons (o2 := 3) op74 (by kernel_rfl) rfl (by decide) (opensF_last (opens_bool Tryz.underlying4) (by kernel_rfl) rfl)))
theorem op32 : Opens Tryz.prog 32 k32 (fun x => (((∀ x_ : S70, x_ ∈ x.f0.f0 → ((Lit.int .i64 x_.f0).wf = true ∧ ((Lit.int .i64 x_.f1).wf = true ∧ ((Lit.int .i64 x_.f2).wf = true ∧ ((Lit.int .i64 x_.f3).wf = true ∧ ((Lit.int .i64 x_.f4).wf = true ∧ ((Lit.int .i64 x_.f5).wf = true ∧ ((Lit.int .i64 x_.f6).wf = true ∧ (Lit.int .i64 x_.f7).wf = true)))))))) ∧ (∀ x_ : List Int, x_ ∈ x.f0.f1 → (∀ x__ : Int, x__ ∈ x_ → (Lit.int .i64 x__).wf = true))) ∧ ((∀ x_ : List (S87), x_ ∈ x.f1 → (∀ x__ : S87, x__ ∈ x_ → ((Lit.int .i64 x__.f0).wf = true ∧ ((Lit.int .i64 x__.f1).wf = true ∧ ((Lit.int .i64 x__.f2).wf = true ∧ ((Lit.int .i64 x__.f3).wf = true ∧ (Lit.int .i64 x__.f4).wf = true)))))) ∧ ((∀ x_ : S76, x_ ∈ x.f2 → (((Lit.int .i64 x_.f0.f0).wf = true ∧ (Lit.int .i64 x_.f0.f1).wf = true) ∧ ((Lit.int .i64 x_.f1).wf = true ∧ True))) ∧ ((∀ x_ : S59, x_ ∈ x.f3 → ((Lit.int .i64 x_.f0).wf = true ∧ ((Lit.int .i64 x_.f1).wf = true ∧ (∀ x__ : S95, x__ ∈ x_.f2 → ((Lit.int .i64 x__.f0).wf = true ∧ ((Lit.int .i64 x__.f1).wf = true ∧ ((Lit.int .i64 x__.f2).wf = true ∧ (True ∧ (((Lit.int .i64 x__.f4.f0).wf = true ∧ (Lit.int .i64 x__.f4.f1).wf = true) ∧ ((Lit.int .i64 x__.f5).wf = true ∧ True)))))))))) ∧ ((∀ x_ : List Int, x_ ∈ x.f4 → (∀ x__ : Int, x__ ∈ x_ → (Lit.int .i64 x__).wf = true)) ∧ ((∀ x_ : Int, x_ ∈ x.f5 → (Lit.int .i64 x_).wf = true) ∧ (∀ x_ : S82, x_ ∈ x.f6 → (True ∧ (((Lit.int .i64 x_.f1.f0).wf = true ∧ (Lit.int .i64 x_.f1.f1).wf = true) ∧ True)))))))))) :=
 opens_struct (total := 8) (fun x : S32 => (x.f0, x.f1, x.f2, x.f3, x.f4, x.f5, x.f6)) (fun p => ⟨p.1, p.2.1, p.2.2.1, p.2.2.2.1, p.2.2.2.2.1, p.2.2.2.2.2.1, p.2.2.2.2.2.2⟩) (fun _ => rfl) Tryz.underlying32 (by kernel_rfl) (opensF_cons (o2 := 2) op25 (by kernel_rfl) rfl (by decide) (opensF_cons (o2 := 3) (opens_slice Tryz.underlying26 (by kernel_rfl) (opens_slice Tryz.underlying56 (by kernel_rfl) op87)) (by kernel_rfl) rfl (by decide) (opensF_cons (o2 := 4) (opens_slice Tryz.underlying27 (by kernel_rfl) op76) (by kernel_rfl) rfl (by decide) (opensF_cons (o2 := 5) (opens_slice Tryz.underlying28 (by kernel_rfl) op59) (by kernel_rfl) rfl (by decide) (opensF_cons (o2 := 6) (opens_slice Tryz.underlying23 (by kernel_rfl) (opens_slice Tryz.underlying29 (by kernel_rfl) (opens_int Tryz.underlying3))) (by kernel_rfl) rfl (by decide) (opensF_cons (o2 := 7) (opens_slice Tryz.underlying29 (by kernel_rfl) (opens_int Tryz.underlying3)) (by kernel_rfl) rfl (by decide) (opensF_last (opens_slice Tryz.underlying30 (by kernel_rfl) op82) (by kernel_rfl) rfl)))))))
set_option maxRecDepth 100000 in
theorem lifted (os : Os) (started : os.Started) (H : Type) (enc : TypeId × Value → H) :
  ReturnsInHanded {} Tryz.checked os 5 .any (fun w args => (Rows.imageAnySpec.pre enc Tryz.prog Tryz.f5 Rows.imageAnyRow.domain false w args ∧ laidMet Tryz.prog Rows.imageAnyRow.laid w) ∧ sizedMet enc Tryz.prog Tryz.f5 (OpenSpec.ofChange Rows.imageAnySpec) false w args) (Rows.imageAnySpec.post enc Tryz.prog Tryz.f5 false true false false) := by
 refine Given.lift_shaped (laid := Rows.imageAnyRow.laid) own started (by kernel_rfl) Tryz.func5 #[.agg #[.slice none 0 0, .slice none 0 0, .slice none 0 0, .slice none 0 0, .slice none 0 0, .slice none 0 0, .slice none 0 0, .slice none 0 0], .agg #[.slice none 0 0, .slice none 0 0, .slice none 0 0, .slice none 0 0, .slice none 0 0, .slice none 0 0, .slice none 0 0, .slice none 0 0]] (Given.laid_shaped os _) (by kernel_rfl) (by kernel_rfl) (by kernel_rfl) (Given.laid_met os _) ?_
 intro W base args ds gs before hval0 hW hsz0 hL hSh
 have hsz : (DataW.weightsEach Tryz.prog (Tryz.f5.params.toList ++ Rows.imageAnySpec.plain.varTypes Tryz.prog) (ds ++ gs)).all (· ≤ reachBytes) = true := hsz0
 have hval : ∀ (j : Nat) t v, Tryz.f5.params[j]? = some t → args[j]? = some v → Value.okWide Tryz.prog W .any base t v := hval0
 have hW' := hW
 obtain ⟨p, q, hA0, hV, rfl, hfz, hnd⟩ := hW
 have hA : DataW.TrodAll enc Tryz.prog W 0 (fun _ => true) true Tryz.f5.params.toList args.toList ds p := hA0
 rw [Tryz.params5] at hA hval hsz
 obtain ⟨v0, vs0, d0, ds0, p0, q0, hargs, rfl, rfl, h0, r0⟩ := trodAll_cons hA
 obtain ⟨v1, vs1, d1, ds1, p1, q1, rfl, rfl, rfl, h1, r1⟩ := trodAll_cons r0
 obtain ⟨rfl, rfl, rfl⟩ := trodAll_nil r1
 obtain rfl : args = #[v0, v1] := by cases args; simp_all
 obtain ⟨rfl, rfl⟩ := trodVars_none hV
 obtain ⟨cs0, rfl, _⟩ := okWide_struct Tryz.underlying32 (hval 0 32 v0 rfl rfl)
 have k0 := h0
 have lt0 : ∀ x ∈ p0, x.block < W.heap.size := by obtain ⟨m, hm⟩ := k0; exact DataW.trod_lt m _ _ _ hm
 obtain ⟨x0, hK0, w0⟩ : ∃ x, k32.K W x (Value.agg cs0).cells.toList ∧ (((∀ x_ : S70, x_ ∈ x.f0.f0 → ((Lit.int .i64 x_.f0).wf = true ∧ ((Lit.int .i64 x_.f1).wf = true ∧ ((Lit.int .i64 x_.f2).wf = true ∧ ((Lit.int .i64 x_.f3).wf = true ∧ ((Lit.int .i64 x_.f4).wf = true ∧ ((Lit.int .i64 x_.f5).wf = true ∧ ((Lit.int .i64 x_.f6).wf = true ∧ (Lit.int .i64 x_.f7).wf = true)))))))) ∧ (∀ x_ : List Int, x_ ∈ x.f0.f1 → (∀ x__ : Int, x__ ∈ x_ → (Lit.int .i64 x__).wf = true))) ∧ ((∀ x_ : List (S87), x_ ∈ x.f1 → (∀ x__ : S87, x__ ∈ x_ → ((Lit.int .i64 x__.f0).wf = true ∧ ((Lit.int .i64 x__.f1).wf = true ∧ ((Lit.int .i64 x__.f2).wf = true ∧ ((Lit.int .i64 x__.f3).wf = true ∧ (Lit.int .i64 x__.f4).wf = true)))))) ∧ ((∀ x_ : S76, x_ ∈ x.f2 → (((Lit.int .i64 x_.f0.f0).wf = true ∧ (Lit.int .i64 x_.f0.f1).wf = true) ∧ ((Lit.int .i64 x_.f1).wf = true ∧ True))) ∧ ((∀ x_ : S59, x_ ∈ x.f3 → ((Lit.int .i64 x_.f0).wf = true ∧ ((Lit.int .i64 x_.f1).wf = true ∧ (∀ x__ : S95, x__ ∈ x_.f2 → ((Lit.int .i64 x__.f0).wf = true ∧ ((Lit.int .i64 x__.f1).wf = true ∧ ((Lit.int .i64 x__.f2).wf = true ∧ (True ∧ (((Lit.int .i64 x__.f4.f0).wf = true ∧ (Lit.int .i64 x__.f4.f1).wf = true) ∧ ((Lit.int .i64 x__.f5).wf = true ∧ True)))))))))) ∧ ((∀ x_ : List Int, x_ ∈ x.f4 → (∀ x__ : Int, x__ ∈ x_ → (Lit.int .i64 x__).wf = true)) ∧ ((∀ x_ : Int, x_ ∈ x.f5 → (Lit.int .i64 x_).wf = true) ∧ (∀ x_ : S82, x_ ∈ x.f6 → (True ∧ (((Lit.int .i64 x_.f1.f0).wf = true ∧ (Lit.int .i64 x_.f1.f1).wf = true) ∧ True))))))))) := by obtain ⟨fuel, hf⟩ := h0; exact op32 enc W 0 _ _ fuel _ _ hf
 obtain ⟨A0_0, c0_0, A0_1, c0_1, A0_2, c0_2, A0_3, c0_3, A0_4, c0_4, A0_5, c0_5, A0_6, c0_6, A0_7, c0_7, q0, l0_0, g0_0, l0_1, g0_1, l0_2, g0_2, l0_3, g0_3, l0_4, g0_4, l0_5, g0_5, l0_6, g0_6, l0_7, g0_7⟩ := k32_open hK0
 obtain rfl : cs0 = #[.slice A0_0 x0.f0.f0.length c0_0, .slice A0_1 x0.f0.f1.length c0_1, .slice A0_2 x0.f1.length c0_2, .slice A0_3 x0.f2.length c0_3, .slice A0_4 x0.f3.length c0_4, .slice A0_5 x0.f4.length c0_5, .slice A0_6 x0.f5.length c0_6, .slice A0_7 x0.f6.length c0_7] := by cases cs0; simpa [Value.cells] using q0
 have z0 : Given.St.wf ⟨x0.f0.f0, x0.f0.f1, x0.f1, x0.f2, x0.f3, x0.f4, x0.f5, x0.f6⟩ := by
  obtain ⟨⟨h0, h1⟩, h2, h3, h4, h5, h6, h7⟩ := w0
  exact ⟨fun x hx => ⟨Plain.wf_i64 (h0 x hx).1, Plain.wf_i64 (h0 x hx).2.1, Plain.wf_i64 (h0 x hx).2.2.1, Plain.wf_i64 (h0 x hx).2.2.2.1, Plain.wf_i64 (h0 x hx).2.2.2.2.1, Plain.wf_i64 (h0 x hx).2.2.2.2.2.1, Plain.wf_i64 (h0 x hx).2.2.2.2.2.2.1, Plain.wf_i64 (h0 x hx).2.2.2.2.2.2.2⟩, fun x hx => Plain.wf_i64 (h3 x hx).2.1, fun x hx => ⟨Plain.wf_i64 (h4 x hx).1, Plain.wf_i64 (h4 x hx).2.1, fun y hy => ⟨Plain.wf_i64 ((h4 x hx).2.2 y hy).1, Plain.wf_i64 ((h4 x hx).2.2 y hy).2.1, Plain.wf_i64 ((h4 x hx).2.2 y hy).2.2.1, Plain.wf_i64 ((h4 x hx).2.2 y hy).2.2.2.2.2.1⟩⟩, fun n hn => Plain.wf_i64 (h6 n hn), fun l hl n hn => Plain.wf_i64 (h1 l hl n hn), fun l hl n hn => Plain.wf_i64 (h5 l hl n hn)⟩
 obtain ⟨cs1, rfl, _⟩ := okWide_struct Tryz.underlying32 (hval 1 32 v1 rfl rfl)
 have k1 := h1
 have lt1 : ∀ x ∈ p1, x.block < W.heap.size := by obtain ⟨m, hm⟩ := k1; exact DataW.trod_lt m _ _ _ hm
 obtain ⟨x1, hK1, w1⟩ : ∃ x, k32.K W x (Value.agg cs1).cells.toList ∧ (((∀ x_ : S70, x_ ∈ x.f0.f0 → ((Lit.int .i64 x_.f0).wf = true ∧ ((Lit.int .i64 x_.f1).wf = true ∧ ((Lit.int .i64 x_.f2).wf = true ∧ ((Lit.int .i64 x_.f3).wf = true ∧ ((Lit.int .i64 x_.f4).wf = true ∧ ((Lit.int .i64 x_.f5).wf = true ∧ ((Lit.int .i64 x_.f6).wf = true ∧ (Lit.int .i64 x_.f7).wf = true)))))))) ∧ (∀ x_ : List Int, x_ ∈ x.f0.f1 → (∀ x__ : Int, x__ ∈ x_ → (Lit.int .i64 x__).wf = true))) ∧ ((∀ x_ : List (S87), x_ ∈ x.f1 → (∀ x__ : S87, x__ ∈ x_ → ((Lit.int .i64 x__.f0).wf = true ∧ ((Lit.int .i64 x__.f1).wf = true ∧ ((Lit.int .i64 x__.f2).wf = true ∧ ((Lit.int .i64 x__.f3).wf = true ∧ (Lit.int .i64 x__.f4).wf = true)))))) ∧ ((∀ x_ : S76, x_ ∈ x.f2 → (((Lit.int .i64 x_.f0.f0).wf = true ∧ (Lit.int .i64 x_.f0.f1).wf = true) ∧ ((Lit.int .i64 x_.f1).wf = true ∧ True))) ∧ ((∀ x_ : S59, x_ ∈ x.f3 → ((Lit.int .i64 x_.f0).wf = true ∧ ((Lit.int .i64 x_.f1).wf = true ∧ (∀ x__ : S95, x__ ∈ x_.f2 → ((Lit.int .i64 x__.f0).wf = true ∧ ((Lit.int .i64 x__.f1).wf = true ∧ ((Lit.int .i64 x__.f2).wf = true ∧ (True ∧ (((Lit.int .i64 x__.f4.f0).wf = true ∧ (Lit.int .i64 x__.f4.f1).wf = true) ∧ ((Lit.int .i64 x__.f5).wf = true ∧ True)))))))))) ∧ ((∀ x_ : List Int, x_ ∈ x.f4 → (∀ x__ : Int, x__ ∈ x_ → (Lit.int .i64 x__).wf = true)) ∧ ((∀ x_ : Int, x_ ∈ x.f5 → (Lit.int .i64 x_).wf = true) ∧ (∀ x_ : S82, x_ ∈ x.f6 → (True ∧ (((Lit.int .i64 x_.f1.f0).wf = true ∧ (Lit.int .i64 x_.f1.f1).wf = true) ∧ True))))))))) := by obtain ⟨fuel, hf⟩ := h1; exact op32 enc W 0 _ _ fuel _ _ hf
 obtain ⟨A1_0, c1_0, A1_1, c1_1, A1_2, c1_2, A1_3, c1_3, A1_4, c1_4, A1_5, c1_5, A1_6, c1_6, A1_7, c1_7, q1, l1_0, g1_0, l1_1, g1_1, l1_2, g1_2, l1_3, g1_3, l1_4, g1_4, l1_5, g1_5, l1_6, g1_6, l1_7, g1_7⟩ := k32_open hK1
 obtain rfl : cs1 = #[.slice A1_0 x1.f0.f0.length c1_0, .slice A1_1 x1.f0.f1.length c1_1, .slice A1_2 x1.f1.length c1_2, .slice A1_3 x1.f2.length c1_3, .slice A1_4 x1.f3.length c1_4, .slice A1_5 x1.f4.length c1_5, .slice A1_6 x1.f5.length c1_6, .slice A1_7 x1.f6.length c1_7] := by cases cs1; simpa [Value.cells] using q1
 have z1 : Given.St.wf ⟨x1.f0.f0, x1.f0.f1, x1.f1, x1.f2, x1.f3, x1.f4, x1.f5, x1.f6⟩ := by
  obtain ⟨⟨h0, h1⟩, h2, h3, h4, h5, h6, h7⟩ := w1
  exact ⟨fun x hx => ⟨Plain.wf_i64 (h0 x hx).1, Plain.wf_i64 (h0 x hx).2.1, Plain.wf_i64 (h0 x hx).2.2.1, Plain.wf_i64 (h0 x hx).2.2.2.1, Plain.wf_i64 (h0 x hx).2.2.2.2.1, Plain.wf_i64 (h0 x hx).2.2.2.2.2.1, Plain.wf_i64 (h0 x hx).2.2.2.2.2.2.1, Plain.wf_i64 (h0 x hx).2.2.2.2.2.2.2⟩, fun x hx => Plain.wf_i64 (h3 x hx).2.1, fun x hx => ⟨Plain.wf_i64 (h4 x hx).1, Plain.wf_i64 (h4 x hx).2.1, fun y hy => ⟨Plain.wf_i64 ((h4 x hx).2.2 y hy).1, Plain.wf_i64 ((h4 x hx).2.2 y hy).2.1, Plain.wf_i64 ((h4 x hx).2.2 y hy).2.2.1, Plain.wf_i64 ((h4 x hx).2.2 y hy).2.2.2.2.2.1⟩⟩, fun n hn => Plain.wf_i64 (h6 n hn), fun l hl n hn => Plain.wf_i64 (h1 l hl n hn), fun l hl n hn => Plain.wf_i64 (h5 l hl n hn)⟩
 clear hA0 hval0 hsz0 hsz
 refine (Given.imageAny_calls ⟨A0_0, A0_1, A0_2, A0_3, A0_4, A0_5, A0_6, A0_7, c0_0, c0_1, c0_2, c0_3, c0_4, c0_5, c0_6, c0_7⟩ ⟨A1_0, A1_1, A1_2, A1_3, A1_4, A1_5, A1_6, A1_7, c1_0, c1_1, c1_2, c1_3, c1_4, c1_5, c1_6, c1_7⟩ ⟨x0.f0.f0, x0.f0.f1, x0.f1, x0.f2, x0.f3, x0.f4, x0.f5, x0.f6⟩ ⟨x1.f0.f0, x1.f0.f1, x1.f1, x1.f2, x1.f3, x1.f4, x1.f5, x1.f6⟩ W ⟨g0_0, g0_1, g0_2, g0_3, g0_4, g0_5, g0_6, g0_7, l0_0, l0_1, l0_2, l0_3, l0_4, l0_5, l0_6, l0_7⟩ ⟨g1_0, g1_1, g1_2, g1_3, g1_4, g1_5, g1_6, g1_7, l1_0, l1_1, l1_2, l1_3, l1_4, l1_5, l1_6, l1_7⟩ z0 z1 (Given.GL_of_laid hL hSh)).mono fun e W' ⟨he, bel⟩ => ?_
 subst he
 exact ⟨_, rfl, _, _, _, [], _, [], hW', trodAll_mk1 (shut_bool Tryz.underlying4 _), (trodAll_cons_mk (Below.trod laidOut (by kernel_rfl) (of_decide_eq_true (by kernel_rfl)) k0 bel lt0) (trodAll_cons_mk (Below.trod laidOut (by kernel_rfl) (of_decide_eq_true (by kernel_rfl)) k1 bel lt1) trodAll_mk0)), rfl, bel.frame _, fun h => by cases h⟩
theorem over : Rows.imageAnyRow.holds Tryz.pinned (OpenSpec.ofChange Rows.imageAnySpec) :=
 OpenClaim.holds_of_wide 5 Tryz.f5 rfl rfl rfl rfl rfl rfl rfl ⟨rfl, rfl, rfl, rfl, rfl⟩ rfl rfl rfl rfl rfl (by kernel_rfl) Tryz.func5 closed
  (of_decide_eq_true (by kernel_rfl)) (by unfold Func.isWrapper; first | (rw [if_pos (by decide +kernel)]; kernel_rfl) | (rw [if_neg (by decide +kernel)]; exact ⟨rfl, rfl⟩))
  (fun os started H enc _ => lifted os started H enc)
theorem proved : Rows.ImageAnyCardSaid :=
 Claim7.holds_tied_plain_at .later [] [.data, .data, .data, .data, .sentinel, .sentinel, .pinned] true Rows.imageAnyCard.stood.harness true
  over (fun _ h => by cases h) (by kernel_rfl) (fun _ h => by cases h) imageAny_row_tie rfl ⟨rfl, rfl⟩ (by kernel_rfl) rfl
  (fun f fn hf hfn => by
   obtain rfl : f = 5 := Option.some.inj ((show Tryz.prog.funcNamed Rows.imageAnyRow.func = some 5 by kernel_rfl).symm.trans hf) |>.symm
   obtain rfl : fn = Tryz.f5 := (Option.some.inj (Tryz.func5.symm.trans hfn)).symm
   exact ⟨by kernel_rfl, fun j t ht => by
    rw [Tryz.params5] at ht
    have hm : t ∈ ([32, 32] : List Nat) := by simpa using Array.mem_of_getElem? ht
    have hall : (([32, 32] : List Nat).all fun u => !Tryz.prog.wantsStandIn u) = true := by kernel_rfl
    exact (show Tryz.prog.wantsStandIn t = false by simpa using List.all_eq_true.1 hall t hm)⟩)
  (by kernel_rfl)
#print axioms proved
end Go.Proofs.YtmcjccigglekpaaGreatDoor.imageAny
namespace Go.Proofs.YtmcjccigglekpaaGreatDoor
/-- The row, under a short name, for the claim. -/
theorem imageAny_holds : Rows.ImageAnyCardSaid := imageAny.proved
end Go.Proofs.YtmcjccigglekpaaGreatDoor
