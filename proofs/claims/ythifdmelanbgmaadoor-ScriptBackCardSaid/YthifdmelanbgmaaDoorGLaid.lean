/- From the listed variables of the library, and from the world's shape, to the walks' fact; how a row over both is lifted. -/
import Derived.Test.YthifdmelanbgmaaDoorRows
import Derived.Test.YthifdmelanbgmaaDoorGLib
import Derived.ProofKit
import Derived.LaidLaws
import Derived.ChangeSame
import Derived.ChangeVars
import Derived.HandedShaped
import Derived.Stop.LaidErr
import Derived.Shelf.Vars
import Derived.Lay
namespace Go.Proofs.YthifdmelanbgmaaDoor.Given
open Go Go.RowKit Go.Proofs Go.Shelf

theorem star : "*" ++ "errors.errorString" = "*errors.errorString" := by decide
theorem rowErr (u : TypeId) (h : Tryd.prog.typeName? 3 u = some "*errors.errorString") : u = 96 :=
  typeName_ptr_named (P := Tryd.prog) (nm := "errors.errorString") (by rw [star]; kernel_rfl) (by kernel_rfl) (by decide) u (by rw [star]; exact h)
theorem errcell {n : String} {text : List UInt8} {r : List (String × DataW Unit)} {W : World} {g : Nat} (h : laidMet Tryd.prog ((n, .iface "*errors.errorString" (.ptr (.agg [.lit (.string text)]))) :: r) W)
    (hg : Tryd.prog.globalNamed n = some g) (ht : (Tryd.prog.globals[g]?).map (·.type) = some 44) : ErrCell W g := by
  obtain ⟨a0, s0, hv0, _, _, _⟩ := laid_sentinel h hg ht Tryd.underlying44 rowErr Tryd.underlying96 Tryd.underlying98 rfl rfl Tryd.underlying9 (by kernel_rfl) (by kernel_rfl)
  exact ⟨_, by have h0 := World.var?_cell hg hv0 0; simpa using h0, Or.inr ⟨_, _, rfl⟩⟩
theorem pow_eq {H : Type} : (Rows.laid_internal_strconv_uint64pow10 : DataW H) = Lib.tabData .u64 Lib.pow10Tab := rfl
theorem tab_of_laid {W : World} {r : List (String × DataW Unit)} (h : laidMet Tryd.prog (("internal/strconv.uint64pow10", Rows.laid_internal_strconv_uint64pow10) :: r) W) : Lib.TabIs Tryd.prog W "internal/strconv.uint64pow10" .u64 Lib.pow10Tab := by
  obtain ⟨ps, h0, _⟩ := h
  obtain ⟨g, t, cs, fuel, p, q, hg, ht, hvar, hd, _, _⟩ := h0
  have e0 : some g = some 3 := hg.symm.trans (by kernel_rfl)
  obtain rfl := Option.some.inj e0
  have e1 : some t = some 100 := ht.symm.trans (by kernel_rfl)
  obtain rfl := Option.some.inj e1
  have hd' : DataW.trod _ Tryd.prog W _ _ _ fuel 100 cs.toList = some (Lib.tabData .u64 Lib.pow10Tab, p) := hd
  have hc := Lib.cells_of_tab Tryd.underlying100 Tryd.underlying77 (by kernel_rfl) (by kernel_rfl) hd'
  unfold Lib.TabIs
  rw [hvar, ← hc]
theorem GL_of_laid {W : World} (h : laidMet Tryd.prog Rows.scriptTextsRow.laid W) (hs : W.ShapedOpen Tryd.prog) : GL W :=
  ⟨tab_of_laid h.tail.tail, errcell h.tail.tail.tail.tail.tail (by kernel_rfl) (by kernel_rfl), errcell h.tail.tail.tail.tail (by kernel_rfl) (by kernel_rfl),
   cell_of_shapedOpen_int (zero := #[.int .i64 0]) (t := 3) hs (by decide) (by kernel_rfl) rfl (by kernel_rfl) (by kernel_rfl) Tryd.underlying3⟩

/-- A row over listed variables and the world's shape. -/
theorem lift_shaped {H : Type} {enc : TypeId × Value → H} {C : Checked} {os : Os} {f : FuncId} {fn : Func} {s : ChangeSpec} {laid : List (String × DataW Unit)}
    (own : ownKnob C.prog.godebug = none) (started : os.Started) (noInit : C.prog.inits.idxOf? f = none) (hfn : C.prog.funcs[f]? = some fn) (args0 : Array Value)
    (hsh : ((World.laidAll C.prog os laid).forCall (fun _ _ => 0) ⟨#[], args0, []⟩).Shaped C.prog)
    (hok : Input.okWideB C.prog ((World.laidAll C.prog os laid).forCall (fun _ _ => 0) ⟨#[], args0, []⟩) f ⟨#[], args0, []⟩ = true)
    (hpre : s.preB enc C.prog fn [] false ((World.laidAll C.prog os laid).forCall (fun _ _ => 0) ⟨#[], args0, []⟩).memory args0 8 = true)
    (hsz : s.sizedB enc C.prog fn false ((World.laidAll C.prog os laid).forCall (fun _ _ => 0) ⟨#[], args0, []⟩).memory args0 8 = true)
    (hx : laidMet C.prog laid ((World.laidAll C.prog os laid).forCall (fun _ _ => 0) ⟨#[], args0, []⟩).memory)
    (main : ∀ (W : World) (base : Nat) (args : Array Value) (ds gs : List (DataW H)) (before : List MemPlace),
      (∀ (j : Nat) t v, fn.params[j]? = some t → args[j]? = some v → Value.okWide C.prog W .any base t v) →
      DataW.Whole enc C.prog fn.params.toList s.vars false W args.toList ds gs before →
      (DataW.weightsEach C.prog (fn.params.toList ++ s.plain.varTypes C.prog) (ds ++ gs)).all (· ≤ reachBytes) = true →
      laidMet C.prog laid W → W.ShapedOpen C.prog →
      Calls C.prog f args W fun e W' => ∃ v, e = .returned v ∧ s.post enc C.prog fn false true false false W args v W') :
    ReturnsInHanded {} C os f .any (fun w args => (s.pre enc C.prog fn [] false w args ∧ laidMet C.prog laid w) ∧ sizedMet enc C.prog fn (OpenSpec.ofChange s) false w args) (s.post enc C.prog fn false true false false) := by
  refine returnsInHanded_of_calls own started noInit (ChangeSpec.witness_shaped (enc := enc) (C := C) (os := os) (X := fun w _ => laidMet C.prog laid w) false (World.laidAll C.prog os laid) args0 8 (World.laidAll_os _ _ _) hsh hok hpre hsz hx) ?_
  intro w tape i _ hshape _ hin hp _
  obtain ⟨_, _, _, fn1, hfn1, _, _, _, _, hval⟩ := hin
  obtain rfl := Option.some.inj (hfn1.symm.trans hfn)
  obtain ⟨⟨⟨ds, gs, before, hw, _⟩, hl⟩, hz⟩ := hp
  have hl1 : laidMet C.prog laid (w.forCall tape i) := hl.of_heap (by rfl)
  refine (main (w.forCall tape i) w.heap.size i.args ds gs before hval (DataW.Whole.of_heap (w' := w.forCall tape i) (by rfl) hw) (hz.weights hw) hl1 hshape).mono ?_
  rintro e W1 ⟨v, rfl, hpost⟩
  exact ChangeSpec.post_blind hpost
set_option maxRecDepth 1000000 in
theorem laid_shaped (os : Os) (args : Array Value) : ((World.laidAll Tryd.prog os Rows.scriptTextsRow.laid).forCall (fun _ _ => 0) ⟨#[], args, []⟩).Shaped Tryd.prog :=
  World.shaped_of_ZipB (by kernel_rfl) (by kernel_rfl)
set_option maxRecDepth 1000000 in
theorem laid_met (os : Os) (args : Array Value) : laidMet Tryd.prog Rows.scriptTextsRow.laid ((World.laidAll Tryd.prog os Rows.scriptTextsRow.laid).forCall (fun _ _ => 0) ⟨#[], args, []⟩).memory :=
  laidMet_laidAll _ (by kernel_rfl) (by kernel_rfl)
end Go.Proofs.YthifdmelanbgmaaDoor.Given
