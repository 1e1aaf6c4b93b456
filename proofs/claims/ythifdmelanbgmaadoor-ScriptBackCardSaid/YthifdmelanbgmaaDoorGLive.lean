/- garrisonlaw05_live at this program tells true: its walk, printed at the answer 'true', and its run in plain. -/
import Derived.Test.YthifdmelanbgmaaDoorPx1
import Derived.Test.YthifdmelanbgmaaDoorPx4
import Derived.Test.YthifdmelanbgmaaDoorPx6
import Derived.Test.YthifdmelanbgmaaDoorPx9
import Derived.Test.YthifdmelanbgmaaDoorGCheck
import Derived.Test.YthifdmelanbgmaaDoorGLib
import Derived.Test.YthifdmelanbgmaaDoorGParse
import Derived.Test.YthifdmelanbgmaaDoorGFill
import Derived.Test.YthifdmelanbgmaaDoorGDigits
namespace Go.Proofs.YthifdmelanbgmaaDoor.Given
open Go Go.RowKit Go.Proofs Go.Proofs.YthifdmelanbgmaaDoorW.PrintWords Go.Proofs.YthifdmelanbgmaaDoorW.PrintLast Go.Proofs.YthifdmelanbgmaaDoorW.PrintMore Go.Proofs.YthifdmelanbgmaaDoor.P
attribute [local go_sem] max2_int min2_int max_two min_two max_three min_three max_four min_four u64_signed
set_option linter.unusedVariables false
set_option linter.unusedSimpArgs false

def garrisonlaw05_liveP.f (k : Nat)  : Option (Bool) := (script_Parse.f k (⟨#[48, 32, 49, 32, 49]⟩ : ByteArray)).bind fun bt124 => ((script_Parse.f k (⟨#[48, 32, 32, 49]⟩ : ByteArray)).bind fun bt128 => ((garrisonlaw05_num.f bt124.2).bind fun t132 => (if t132 = 0 then ((garrisonref05_Same.f k bt124.1 (([0, 1, 1] : List Int))).bind fun t136 => (if t136 = true then ((garrisonlaw05_num.f bt128.2).bind fun t137 => (if t137 = 2 then ((script_Put.f k bt124.1).bind fun t138 => (if t138.toList = ([48, 32, 49, 32, 49] : List UInt8) then ((script_Fair.f k bt124.1 2 2).bind fun t139 => (if t139 = true then (some false) else ((script_Fair.f k bt124.1 2 3).bind fun t140 => (if t140 = true then ((script_Window.f k bt124.1 2).bind fun t141 => (if t141 = 3 then ((script_Count.f k bt124.1 1).bind fun t142 => (if t142 = 2 then ((script_Rounds.f k 2 2).bind fun t143 => ((garrisonref05_Same.f k t143 (([0, 1, 0, 1] : List Int))).bind fun t149 => (if t149 = true then ((script_Check.f bt124.1 1).bind fun t150 => ((garrisonlaw05_num.f t150).bind fun t151 => (some (t151 == 2)))) else (some false)))) else (some false))) else (some false))) else (some false))))) else (some false))) else (some false))) else (some false))) else (some false))))
set_option maxHeartbeats 8000000 in
set_option maxRecDepth 100000 in
theorem garrisonlaw05_liveP.calls (k : Nat)  (r : Bool) (w : World) (hG : GL w) (hr_ : Aside0 (r = true)) (h : garrisonlaw05_liveP.f k  = some r) :
    Calls Tryd.prog 10 #[] w fun e w' => e = .returned (.bool r) ∧ Below w.heap.size w w' := by
  have HB := Aside0.mk (Below.refl w.heap.size w)
  have H : ((script_Parse.f k (⟨#[48, 32, 49, 32, 49]⟩ : ByteArray)).bind fun bt124 => ((script_Parse.f k (⟨#[48, 32, 32, 49]⟩ : ByteArray)).bind fun bt128 => ((garrisonlaw05_num.f bt124.2).bind fun t132 => (if t132 = 0 then ((garrisonref05_Same.f k bt124.1 (([0, 1, 1] : List Int))).bind fun t136 => (if t136 = true then ((garrisonlaw05_num.f bt128.2).bind fun t137 => (if t137 = 2 then ((script_Put.f k bt124.1).bind fun t138 => (if t138.toList = ([48, 32, 49, 32, 49] : List UInt8) then ((script_Fair.f k bt124.1 2 2).bind fun t139 => (if t139 = true then (some false) else ((script_Fair.f k bt124.1 2 3).bind fun t140 => (if t140 = true then ((script_Window.f k bt124.1 2).bind fun t141 => (if t141 = 3 then ((script_Count.f k bt124.1 1).bind fun t142 => (if t142 = 2 then ((script_Rounds.f k 2 2).bind fun t143 => ((garrisonref05_Same.f k t143 (([0, 1, 0, 1] : List Int))).bind fun t149 => (if t149 = true then ((script_Check.f bt124.1 1).bind fun t150 => ((garrisonlaw05_num.f t150).bind fun t151 => (some (t151 == 2)))) else (some false)))) else (some false))) else (some false))) else (some false))))) else (some false))) else (some false))) else (some false))) else (some false))))) = some r := h
  clear h
  replace H := Option.bind_eq_some_iff.mp H
  obtain ⟨⟨t124, t125⟩, A10, H⟩ := H
  replace H : ((script_Parse.f k (⟨#[48, 32, 32, 49]⟩ : ByteArray)).bind fun bt128 => ((garrisonlaw05_num.f t125).bind fun t132 => (if t132 = 0 then ((garrisonref05_Same.f k t124 (([0, 1, 1] : List Int))).bind fun t136 => (if t136 = true then ((garrisonlaw05_num.f bt128.2).bind fun t137 => (if t137 = 2 then ((script_Put.f k t124).bind fun t138 => (if t138.toList = ([48, 32, 49, 32, 49] : List UInt8) then ((script_Fair.f k t124 2 2).bind fun t139 => (if t139 = true then (some false) else ((script_Fair.f k t124 2 3).bind fun t140 => (if t140 = true then ((script_Window.f k t124 2).bind fun t141 => (if t141 = 3 then ((script_Count.f k t124 1).bind fun t142 => (if t142 = 2 then ((script_Rounds.f k 2 2).bind fun t143 => ((garrisonref05_Same.f k t143 (([0, 1, 0, 1] : List Int))).bind fun t149 => (if t149 = true then ((script_Check.f t124 1).bind fun t150 => ((garrisonlaw05_num.f t150).bind fun t151 => (some (t151 == 2)))) else (some false)))) else (some false))) else (some false))) else (some false))))) else (some false))) else (some false))) else (some false))) else (some false)))) = some r := H
  have A1 := Aside0.mk A10
  clear A10
  replace H := Option.bind_eq_some_iff.mp H
  obtain ⟨⟨t128, t129⟩, A20, H⟩ := H
  replace H : ((garrisonlaw05_num.f t125).bind fun t132 => (if t132 = 0 then ((garrisonref05_Same.f k t124 (([0, 1, 1] : List Int))).bind fun t136 => (if t136 = true then ((garrisonlaw05_num.f t129).bind fun t137 => (if t137 = 2 then ((script_Put.f k t124).bind fun t138 => (if t138.toList = ([48, 32, 49, 32, 49] : List UInt8) then ((script_Fair.f k t124 2 2).bind fun t139 => (if t139 = true then (some false) else ((script_Fair.f k t124 2 3).bind fun t140 => (if t140 = true then ((script_Window.f k t124 2).bind fun t141 => (if t141 = 3 then ((script_Count.f k t124 1).bind fun t142 => (if t142 = 2 then ((script_Rounds.f k 2 2).bind fun t143 => ((garrisonref05_Same.f k t143 (([0, 1, 0, 1] : List Int))).bind fun t149 => (if t149 = true then ((script_Check.f t124 1).bind fun t150 => ((garrisonlaw05_num.f t150).bind fun t151 => (some (t151 == 2)))) else (some false)))) else (some false))) else (some false))) else (some false))))) else (some false))) else (some false))) else (some false))) else (some false))) = some r := H
  have A2 := Aside0.mk A20
  clear A20
  replace H := Option.bind_eq_some_iff.mp H
  obtain ⟨t132, A30, H⟩ := H
  replace H : (if t132 = 0 then ((garrisonref05_Same.f k t124 (([0, 1, 1] : List Int))).bind fun t136 => (if t136 = true then ((garrisonlaw05_num.f t129).bind fun t137 => (if t137 = 2 then ((script_Put.f k t124).bind fun t138 => (if t138.toList = ([48, 32, 49, 32, 49] : List UInt8) then ((script_Fair.f k t124 2 2).bind fun t139 => (if t139 = true then (some false) else ((script_Fair.f k t124 2 3).bind fun t140 => (if t140 = true then ((script_Window.f k t124 2).bind fun t141 => (if t141 = 3 then ((script_Count.f k t124 1).bind fun t142 => (if t142 = 2 then ((script_Rounds.f k 2 2).bind fun t143 => ((garrisonref05_Same.f k t143 (([0, 1, 0, 1] : List Int))).bind fun t149 => (if t149 = true then ((script_Check.f t124 1).bind fun t150 => ((garrisonlaw05_num.f t150).bind fun t151 => (some (t151 == 2)))) else (some false)))) else (some false))) else (some false))) else (some false))))) else (some false))) else (some false))) else (some false))) else (some false)) = some r := H
  have A3 := Aside0.mk A30
  clear A30
  by_cases c4 : t132 = 0
  · rw [if_pos c4] at H
    have c4b0 : (t132 == 0) = true := beq_iff_eq.mpr c4
    have c4b1 : (t132 != 0) = false := bne_eq_false_iff_eq.mpr c4
    clear c4
    obtain ⟨y133, hy133⟩ : ∃ y_ : List Int, y_ = (([0, 1, 1] : List Int)) := ⟨_, rfl⟩
    replace H : ((garrisonref05_Same.f k t124 y133).bind fun t136 => (if t136 = true then ((garrisonlaw05_num.f t129).bind fun t137 => (if t137 = 2 then ((script_Put.f k t124).bind fun t138 => (if t138.toList = ([48, 32, 49, 32, 49] : List UInt8) then ((script_Fair.f k t124 2 2).bind fun t139 => (if t139 = true then (some false) else ((script_Fair.f k t124 2 3).bind fun t140 => (if t140 = true then ((script_Window.f k t124 2).bind fun t141 => (if t141 = 3 then ((script_Count.f k t124 1).bind fun t142 => (if t142 = 2 then ((script_Rounds.f k 2 2).bind fun t143 => ((garrisonref05_Same.f k t143 (([0, 1, 0, 1] : List Int))).bind fun t149 => (if t149 = true then ((script_Check.f t124 1).bind fun t150 => ((garrisonlaw05_num.f t150).bind fun t151 => (some (t151 == 2)))) else (some false)))) else (some false))) else (some false))) else (some false))))) else (some false))) else (some false))) else (some false))) = some r := by first | (rw [hy133]; with_reducible exact H) | (have H2_ := (Option.bind_some _ _).symm.trans H; rw [hy133]; with_reducible exact H2_) | (have H2_ := (Option.bind_some _ _).symm.trans H; with_reducible exact H2_) | with_reducible exact H | (rw [hy133]; exact H) | exact H
    have Ny133 := Aside0.mk hy133
    clear hy133
    replace H := Option.bind_eq_some_iff.mp H
    obtain ⟨t136, A50, H⟩ := H
    replace H : (if t136 = true then ((garrisonlaw05_num.f t129).bind fun t137 => (if t137 = 2 then ((script_Put.f k t124).bind fun t138 => (if t138.toList = ([48, 32, 49, 32, 49] : List UInt8) then ((script_Fair.f k t124 2 2).bind fun t139 => (if t139 = true then (some false) else ((script_Fair.f k t124 2 3).bind fun t140 => (if t140 = true then ((script_Window.f k t124 2).bind fun t141 => (if t141 = 3 then ((script_Count.f k t124 1).bind fun t142 => (if t142 = 2 then ((script_Rounds.f k 2 2).bind fun t143 => ((garrisonref05_Same.f k t143 (([0, 1, 0, 1] : List Int))).bind fun t149 => (if t149 = true then ((script_Check.f t124 1).bind fun t150 => ((garrisonlaw05_num.f t150).bind fun t151 => (some (t151 == 2)))) else (some false)))) else (some false))) else (some false))) else (some false))))) else (some false))) else (some false))) else (some false)) = some r := H
    have A5 := Aside0.mk A50
    clear A50
    by_cases c6 : t136 = true
    · subst c6
      have H1 : ((garrisonlaw05_num.f t129).bind fun t137 => (if t137 = 2 then ((script_Put.f k t124).bind fun t138 => (if t138.toList = ([48, 32, 49, 32, 49] : List UInt8) then ((script_Fair.f k t124 2 2).bind fun t139 => (if t139 = true then (some false) else ((script_Fair.f k t124 2 3).bind fun t140 => (if t140 = true then ((script_Window.f k t124 2).bind fun t141 => (if t141 = 3 then ((script_Count.f k t124 1).bind fun t142 => (if t142 = 2 then ((script_Rounds.f k 2 2).bind fun t143 => ((garrisonref05_Same.f k t143 (([0, 1, 0, 1] : List Int))).bind fun t149 => (if t149 = true then ((script_Check.f t124 1).bind fun t150 => ((garrisonlaw05_num.f t150).bind fun t151 => (some (t151 == 2)))) else (some false)))) else (some false))) else (some false))) else (some false))))) else (some false))) else (some false))) = some r := by rw [if_pos rfl] at H; exact H
      clear H
      have H := H1
      clear H1
      replace H := Option.bind_eq_some_iff.mp H
      obtain ⟨t137, A70, H⟩ := H
      replace H : (if t137 = 2 then ((script_Put.f k t124).bind fun t138 => (if t138.toList = ([48, 32, 49, 32, 49] : List UInt8) then ((script_Fair.f k t124 2 2).bind fun t139 => (if t139 = true then (some false) else ((script_Fair.f k t124 2 3).bind fun t140 => (if t140 = true then ((script_Window.f k t124 2).bind fun t141 => (if t141 = 3 then ((script_Count.f k t124 1).bind fun t142 => (if t142 = 2 then ((script_Rounds.f k 2 2).bind fun t143 => ((garrisonref05_Same.f k t143 (([0, 1, 0, 1] : List Int))).bind fun t149 => (if t149 = true then ((script_Check.f t124 1).bind fun t150 => ((garrisonlaw05_num.f t150).bind fun t151 => (some (t151 == 2)))) else (some false)))) else (some false))) else (some false))) else (some false))))) else (some false))) else (some false)) = some r := H
      have A7 := Aside0.mk A70
      clear A70
      by_cases c8 : t137 = 2
      · rw [if_pos c8] at H
        have c8b0 : (t137 == 2) = true := beq_iff_eq.mpr c8
        have c8b1 : (t137 != 2) = false := bne_eq_false_iff_eq.mpr c8
        clear c8
        replace H := Option.bind_eq_some_iff.mp H
        obtain ⟨t138, A90, H⟩ := H
        replace H : (if t138.toList = ([48, 32, 49, 32, 49] : List UInt8) then ((script_Fair.f k t124 2 2).bind fun t139 => (if t139 = true then (some false) else ((script_Fair.f k t124 2 3).bind fun t140 => (if t140 = true then ((script_Window.f k t124 2).bind fun t141 => (if t141 = 3 then ((script_Count.f k t124 1).bind fun t142 => (if t142 = 2 then ((script_Rounds.f k 2 2).bind fun t143 => ((garrisonref05_Same.f k t143 (([0, 1, 0, 1] : List Int))).bind fun t149 => (if t149 = true then ((script_Check.f t124 1).bind fun t150 => ((garrisonlaw05_num.f t150).bind fun t151 => (some (t151 == 2)))) else (some false)))) else (some false))) else (some false))) else (some false))))) else (some false)) = some r := H
        have A9 := Aside0.mk A90
        clear A90
        by_cases c10 : t138.toList = ([48, 32, 49, 32, 49] : List UInt8)
        · rw [if_pos c10] at H
          have c10b0 : (t138.toList == ([48, 32, 49, 32, 49] : List UInt8)) = true := beq_iff_eq.mpr c10
          have c10b1 : (t138.toList != ([48, 32, 49, 32, 49] : List UInt8)) = false := bne_eq_false_iff_eq.mpr c10
          clear c10
          replace H := Option.bind_eq_some_iff.mp H
          obtain ⟨t139, A110, H⟩ := H
          replace H : (if t139 = true then (some false) else ((script_Fair.f k t124 2 3).bind fun t140 => (if t140 = true then ((script_Window.f k t124 2).bind fun t141 => (if t141 = 3 then ((script_Count.f k t124 1).bind fun t142 => (if t142 = 2 then ((script_Rounds.f k 2 2).bind fun t143 => ((garrisonref05_Same.f k t143 (([0, 1, 0, 1] : List Int))).bind fun t149 => (if t149 = true then ((script_Check.f t124 1).bind fun t150 => ((garrisonlaw05_num.f t150).bind fun t151 => (some (t151 == 2)))) else (some false)))) else (some false))) else (some false))) else (some false)))) = some r := H
          have A11 := Aside0.mk A110
          clear A110
          by_cases c12 : t139 = true
          · subst c12
            have H1 : (some false) = some r := by rw [if_pos rfl] at H; exact H
            clear H
            have H := H1
            clear H1
            exact absurd ((Option.some.inj H).trans hr_.out) (by decide)
          · replace c12 := Bool.eq_false_iff.mpr c12
            subst c12
            have H1 : ((script_Fair.f k t124 2 3).bind fun t140 => (if t140 = true then ((script_Window.f k t124 2).bind fun t141 => (if t141 = 3 then ((script_Count.f k t124 1).bind fun t142 => (if t142 = 2 then ((script_Rounds.f k 2 2).bind fun t143 => ((garrisonref05_Same.f k t143 (([0, 1, 0, 1] : List Int))).bind fun t149 => (if t149 = true then ((script_Check.f t124 1).bind fun t150 => ((garrisonlaw05_num.f t150).bind fun t151 => (some (t151 == 2)))) else (some false)))) else (some false))) else (some false))) else (some false))) = some r := by rw [if_neg (show ¬ (false = true) by decide)] at H; exact H
            clear H
            have H := H1
            clear H1
            replace H := Option.bind_eq_some_iff.mp H
            obtain ⟨t140, A130, H⟩ := H
            replace H : (if t140 = true then ((script_Window.f k t124 2).bind fun t141 => (if t141 = 3 then ((script_Count.f k t124 1).bind fun t142 => (if t142 = 2 then ((script_Rounds.f k 2 2).bind fun t143 => ((garrisonref05_Same.f k t143 (([0, 1, 0, 1] : List Int))).bind fun t149 => (if t149 = true then ((script_Check.f t124 1).bind fun t150 => ((garrisonlaw05_num.f t150).bind fun t151 => (some (t151 == 2)))) else (some false)))) else (some false))) else (some false))) else (some false)) = some r := H
            have A13 := Aside0.mk A130
            clear A130
            by_cases c14 : t140 = true
            · subst c14
              have H1 : ((script_Window.f k t124 2).bind fun t141 => (if t141 = 3 then ((script_Count.f k t124 1).bind fun t142 => (if t142 = 2 then ((script_Rounds.f k 2 2).bind fun t143 => ((garrisonref05_Same.f k t143 (([0, 1, 0, 1] : List Int))).bind fun t149 => (if t149 = true then ((script_Check.f t124 1).bind fun t150 => ((garrisonlaw05_num.f t150).bind fun t151 => (some (t151 == 2)))) else (some false)))) else (some false))) else (some false))) = some r := by rw [if_pos rfl] at H; exact H
              clear H
              have H := H1
              clear H1
              replace H := Option.bind_eq_some_iff.mp H
              obtain ⟨t141, A150, H⟩ := H
              replace H : (if t141 = 3 then ((script_Count.f k t124 1).bind fun t142 => (if t142 = 2 then ((script_Rounds.f k 2 2).bind fun t143 => ((garrisonref05_Same.f k t143 (([0, 1, 0, 1] : List Int))).bind fun t149 => (if t149 = true then ((script_Check.f t124 1).bind fun t150 => ((garrisonlaw05_num.f t150).bind fun t151 => (some (t151 == 2)))) else (some false)))) else (some false))) else (some false)) = some r := H
              have A15 := Aside0.mk A150
              clear A150
              by_cases c16 : t141 = 3
              · rw [if_pos c16] at H
                have c16b0 : (t141 == 3) = true := beq_iff_eq.mpr c16
                have c16b1 : (t141 != 3) = false := bne_eq_false_iff_eq.mpr c16
                clear c16
                replace H := Option.bind_eq_some_iff.mp H
                obtain ⟨t142, A170, H⟩ := H
                replace H : (if t142 = 2 then ((script_Rounds.f k 2 2).bind fun t143 => ((garrisonref05_Same.f k t143 (([0, 1, 0, 1] : List Int))).bind fun t149 => (if t149 = true then ((script_Check.f t124 1).bind fun t150 => ((garrisonlaw05_num.f t150).bind fun t151 => (some (t151 == 2)))) else (some false)))) else (some false)) = some r := H
                have A17 := Aside0.mk A170
                clear A170
                by_cases c18 : t142 = 2
                · rw [if_pos c18] at H
                  have c18b0 : (t142 == 2) = true := beq_iff_eq.mpr c18
                  have c18b1 : (t142 != 2) = false := bne_eq_false_iff_eq.mpr c18
                  clear c18
                  replace H := Option.bind_eq_some_iff.mp H
                  obtain ⟨t143, A190, H⟩ := H
                  replace H : ((garrisonref05_Same.f k t143 (([0, 1, 0, 1] : List Int))).bind fun t149 => (if t149 = true then ((script_Check.f t124 1).bind fun t150 => ((garrisonlaw05_num.f t150).bind fun t151 => (some (t151 == 2)))) else (some false))) = some r := H
                  have A19 := Aside0.mk A190
                  clear A190
                  obtain ⟨y146, hy146⟩ : ∃ y_ : List Int, y_ = (([0, 1, 0, 1] : List Int)) := ⟨_, rfl⟩
                  replace H : ((garrisonref05_Same.f k t143 y146).bind fun t149 => (if t149 = true then ((script_Check.f t124 1).bind fun t150 => ((garrisonlaw05_num.f t150).bind fun t151 => (some (t151 == 2)))) else (some false))) = some r := by first | (rw [hy146]; with_reducible exact H) | (have H2_ := (Option.bind_some _ _).symm.trans H; rw [hy146]; with_reducible exact H2_) | (have H2_ := (Option.bind_some _ _).symm.trans H; with_reducible exact H2_) | with_reducible exact H | (rw [hy146]; exact H) | exact H
                  have Ny146 := Aside0.mk hy146
                  clear hy146
                  replace H := Option.bind_eq_some_iff.mp H
                  obtain ⟨t149, A200, H⟩ := H
                  replace H : (if t149 = true then ((script_Check.f t124 1).bind fun t150 => ((garrisonlaw05_num.f t150).bind fun t151 => (some (t151 == 2)))) else (some false)) = some r := H
                  have A20 := Aside0.mk A200
                  clear A200
                  by_cases c21 : t149 = true
                  · subst c21
                    have H1 : ((script_Check.f t124 1).bind fun t150 => ((garrisonlaw05_num.f t150).bind fun t151 => (some (t151 == 2)))) = some r := by rw [if_pos rfl] at H; exact H
                    clear H
                    have H := H1
                    clear H1
                    replace H := Option.bind_eq_some_iff.mp H
                    obtain ⟨t150, A220, H⟩ := H
                    replace H : ((garrisonlaw05_num.f t150).bind fun t151 => (some (t151 == 2))) = some r := H
                    have A22 := Aside0.mk A220
                    clear A220
                    replace H := Option.bind_eq_some_iff.mp H
                    obtain ⟨t151, A230, H⟩ := H
                    replace H : (some (t151 == 2)) = some r := H
                    have A23 := Aside0.mk A230
                    clear A230
                    obtain rfl := Option.some.inj H
                    go_enter Tryd.func10, Tryd.ntmps10
                    go_wp2_with (first | ((with_reducible refine gate_callee (f := 11) rfl ?_); refine goesL_ (some 6) rfl rfl Tryd.func11 (by kernel_rfl) rfl #[.string (⟨#[48, 32, 49, 32, 49]⟩ : ByteArray)] rfl (by (try simp only [List.map_toArray, List.map_cons, List.map_nil]); first | done | rfl | (simp only [List.length_drop, List.length_take]; rfl)) ?_; (with_reducible refine (script_Parse.calls k (⟨#[48, 32, 49, 32, 49]⟩ : ByteArray) t124 t125 _ ?side1 A1.out).mono ?_); (case side1 => exact GL.below hG (by repeat (first | (with_reducible first | exact HB.out | apply below_alloc | apply pw_below_drewN | apply below_drew1) | exact HB.out))); rintro e w24 ⟨v126, rfl, ho0, hb⟩; refine ⟨_, rfl, ?_⟩; have n0_ := Aside0.mk (Kd.R_lower ho0 (below_size (by repeat (first | (with_reducible first | exact HB.out | apply below_alloc | apply pw_below_drewN | apply below_drew1) | exact HB.out)))); have n1_ := Aside0.mk (below_step (by repeat (first | (with_reducible first | exact HB.out | apply below_alloc | apply pw_below_drewN | apply below_drew1) | exact HB.out)) hb); clear HB; have HO127 := n0_; have HB := n1_; clear n0_ n1_; (try clear hb); (try clear hb2); (try clear hk); (try clear hi); (try clear ho0)) | ((with_reducible refine gate_callee (f := 11) rfl ?_); refine goesL_ (some 10) rfl rfl Tryd.func11 (by kernel_rfl) rfl #[.string (⟨#[48, 32, 32, 49]⟩ : ByteArray)] rfl (by (try simp only [List.map_toArray, List.map_cons, List.map_nil]); first | done | rfl | (simp only [List.length_drop, List.length_take]; rfl)) ?_; (with_reducible refine (script_Parse.calls k (⟨#[48, 32, 32, 49]⟩ : ByteArray) t128 t129 _ ?side1 A2.out).mono ?_); (case side1 => exact GL.below hG (by repeat (first | (with_reducible first | exact HB.out | apply below_alloc | apply pw_below_drewN | apply below_drew1) | exact HB.out))); rintro e w25 ⟨v130, rfl, ho0, hb⟩; refine ⟨_, rfl, ?_⟩; have n0_ := Aside0.mk (Kd.R_elder' (by (with_reducible repeat (first | apply Kd.R_alloc | apply Kd.R_drewN | apply Kd.R_drew)); exact HO127.out) (Kd.R_base ho0) hb); have n1_ := Aside0.mk (Kd.R_lower (Kd.R_new' ho0 (Kd.R_lt (by (with_reducible repeat (first | apply Kd.R_alloc | apply Kd.R_drewN | apply Kd.R_drew)); exact HO127.out))) (below_size (by repeat (first | (with_reducible first | exact HB.out | apply below_alloc | apply pw_below_drewN | apply below_drew1) | exact HB.out)))); have n2_ := Aside0.mk (below_step (by repeat (first | (with_reducible first | exact HB.out | apply below_alloc | apply pw_below_drewN | apply below_drew1) | exact HB.out)) hb); clear HO127; clear HB; have HO127 := n0_; have HO131 := n1_; have HB := n2_; clear n0_ n1_ n2_; (try clear hb); (try clear hb2); (try clear hk); (try clear hi); (try clear ho0)) | ((with_reducible refine gate_callee (f := 13) rfl ?_); refine goesL_ (some 14) rfl rfl Tryd.func13 (by kernel_rfl) rfl #[.int .i64 t125] rfl (by (try simp only [List.map_toArray, List.map_cons, List.map_nil]); first | done | rfl | (simp only [List.length_drop, List.length_take]; rfl)) ?_; (with_reducible refine (garrisonlaw05_num.calls t125 t132 _ A3.out).mono ?_); rintro e w' ⟨rfl, ⟨nd, rfl⟩⟩; refine ⟨_, rfl, ?_⟩) | ((with_reducible refine gate_dst (N := 18) rfl ?_); (try (refine gate_guard (by rfl) ?_; dsimp only)); refine Kd.R_lit (Kd.int .i64) _ 3 ?hg (N := 18) ?hd (xs := ([0, 1, 1] : List Int)) (inner := [.int .i64 0, .int .i64 1, .int .i64 1]) (ok := fun _ => True) (okp := fun _ => True) ?hr ?hp (fun _ hk => hk) trivial (Below.refl _ _) (Nat.le_refl _) (by simp) ?_; (case hd => rfl); (case hg => rfl); (case hr => first | (go_simp; done) | (go_simp; rfl)); (case hp => exact (Reps.one (show Kd.M (Kd.int .i64) _ _ _ 0 [.int .i64 0] from rfl) (Reps.one (show Kd.M (Kd.int .i64) _ _ _ 1 [.int .i64 1] from rfl) (Reps.one (show Kd.M (Kd.int .i64) _ _ _ 1 [.int .i64 1] from rfl) (Reps.none _ _))))); intro v134 w26 ho27 hb hg_ hnew_; clear hg_ hnew_; (first | rw [← Ny133.out] at ho27 | (simp only [Int.reduceToNat] at ho27; rw [← Ny133.out] at ho27)); have n0_ := Aside0.mk (Kd.R_elder' (by (with_reducible repeat (first | apply Kd.R_alloc | apply Kd.R_drewN | apply Kd.R_drew)); exact HO127.out) (Kd.R_base ho27) hb); have n1_ := Aside0.mk (Kd.R_elder' (by (with_reducible repeat (first | apply Kd.R_alloc | apply Kd.R_drewN | apply Kd.R_drew)); exact HO131.out) (Kd.R_base ho27) hb); have n2_ := Aside0.mk (Kd.R_lower (Kd.R_new' (Kd.R_new' ho27 (Kd.R_lt (by (with_reducible repeat (first | apply Kd.R_alloc | apply Kd.R_drewN | apply Kd.R_drew)); exact HO127.out))) (Kd.R_lt (by (with_reducible repeat (first | apply Kd.R_alloc | apply Kd.R_drewN | apply Kd.R_drew)); exact HO131.out))) (below_size (by repeat (first | (with_reducible first | exact HB.out | apply below_alloc | apply pw_below_drewN | apply below_drew1) | exact HB.out)))); have n3_ := Aside0.mk (below_step (by repeat (first | (with_reducible first | exact HB.out | apply below_alloc | apply pw_below_drewN | apply below_drew1) | exact HB.out)) hb); clear HO127; clear HO131; clear HB; have HO127 := n0_; have HO131 := n1_; have HO135 := n2_; have HB := n3_; clear n0_ n1_ n2_ n3_; clear hb ho27; obtain ⟨Ao28, co28, eo28⟩ := Kd.R_slice HO127.out; subst eo28; obtain ⟨Ao29, co29, eo29⟩ := Kd.R_slice HO135.out; subst eo29) | (go_at_call 18; (with_reducible refine (garrisonref05_Same.calls k _ _ t124 _ _ y133 true _ ?side1 ?side2 ?side3 ?side4 A5.out).mono ?_); (case side1 => repeat (first | exact (Kd.R_reads' HO127.out).2.2 | (with_reducible refine Kd.C_alloc ?_ _) | (with_reducible refine Kd.C_drewN ?_ _) | (with_reducible refine Kd.C_drew ?_))); (case side2 => exact (Kd.R_reads' HO127.out).2.1); (case side3 => repeat (first | exact (Kd.R_reads' HO135.out).2.2 | (with_reducible refine Kd.C_alloc ?_ _) | (with_reducible refine Kd.C_drewN ?_ _) | (with_reducible refine Kd.C_drew ?_))); (case side4 => exact (Kd.R_reads' HO135.out).2.1); rintro e w' ⟨rfl, ⟨nd, rfl⟩⟩) | (go_at_call 13; (with_reducible refine (garrisonlaw05_num.calls t129 t137 _ A7.out).mono ?_); rintro e w' ⟨rfl, ⟨nd, rfl⟩⟩) | (go_at_call 16; (with_reducible refine (script_Put.calls k _ _ t124 t138 _ ?side1 ?side2 ?side3 A9.out).mono ?_); (case side1 => exact GL.below hG (by repeat (first | (with_reducible first | exact HB.out | apply below_alloc | apply pw_below_drewN | apply below_drew1) | exact HB.out))); (case side2 => repeat (first | exact (Kd.R_reads' HO127.out).2.2 | (with_reducible refine Kd.C_alloc ?_ _) | (with_reducible refine Kd.C_drewN ?_ _) | (with_reducible refine Kd.C_drew ?_))); (case side3 => exact (Kd.R_reads' HO127.out).2.1); rintro e w30 ⟨rfl, hb⟩; have n0_ := Aside0.mk (Kd.R_below (by (with_reducible repeat (first | apply Kd.R_alloc | apply Kd.R_drewN | apply Kd.R_drew)); exact HO127.out) hb); have n1_ := Aside0.mk (Kd.R_below (by (with_reducible repeat (first | apply Kd.R_alloc | apply Kd.R_drewN | apply Kd.R_drew)); exact HO131.out) hb); have n2_ := Aside0.mk (Kd.R_below (by (with_reducible repeat (first | apply Kd.R_alloc | apply Kd.R_drewN | apply Kd.R_drew)); exact HO135.out) hb); have n3_ := Aside0.mk (below_step (by repeat (first | (with_reducible first | exact HB.out | apply below_alloc | apply pw_below_drewN | apply below_drew1) | exact HB.out)) hb); clear HO127; clear HO131; clear HO135; clear HB; have HO127 := n0_; have HO131 := n1_; have HO135 := n2_; have HB := n3_; clear n0_ n1_ n2_ n3_; (try clear hb); (try clear hb2); (try clear hk); (try clear hi)) | (go_at_call 21; (with_reducible refine (script_Fair.calls k _ _ t124 2 2 false _ ?side1 ?side2 A11.out).mono ?_); (case side1 => repeat (first | exact (Kd.R_reads' HO127.out).2.2 | (with_reducible refine Kd.C_alloc ?_ _) | (with_reducible refine Kd.C_drewN ?_ _) | (with_reducible refine Kd.C_drew ?_))); (case side2 => exact (Kd.R_reads' HO127.out).2.1); rintro e w31 ⟨rfl, hb⟩; have n0_ := Aside0.mk (Kd.R_below (by (with_reducible repeat (first | apply Kd.R_alloc | apply Kd.R_drewN | apply Kd.R_drew)); exact HO127.out) hb); have n1_ := Aside0.mk (Kd.R_below (by (with_reducible repeat (first | apply Kd.R_alloc | apply Kd.R_drewN | apply Kd.R_drew)); exact HO131.out) hb); have n2_ := Aside0.mk (Kd.R_below (by (with_reducible repeat (first | apply Kd.R_alloc | apply Kd.R_drewN | apply Kd.R_drew)); exact HO135.out) hb); have n3_ := Aside0.mk (below_step (by repeat (first | (with_reducible first | exact HB.out | apply below_alloc | apply pw_below_drewN | apply below_drew1) | exact HB.out)) hb); clear HO127; clear HO131; clear HO135; clear HB; have HO127 := n0_; have HO131 := n1_; have HO135 := n2_; have HB := n3_; clear n0_ n1_ n2_ n3_; (try clear hb); (try clear hb2); (try clear hk); (try clear hi)) | (go_at_call 21; (with_reducible refine (script_Fair.calls k _ _ t124 2 3 true _ ?side1 ?side2 A13.out).mono ?_); (case side1 => repeat (first | exact (Kd.R_reads' HO127.out).2.2 | (with_reducible refine Kd.C_alloc ?_ _) | (with_reducible refine Kd.C_drewN ?_ _) | (with_reducible refine Kd.C_drew ?_))); (case side2 => exact (Kd.R_reads' HO127.out).2.1); rintro e w32 ⟨rfl, hb⟩; have n0_ := Aside0.mk (Kd.R_below (by (with_reducible repeat (first | apply Kd.R_alloc | apply Kd.R_drewN | apply Kd.R_drew)); exact HO127.out) hb); have n1_ := Aside0.mk (Kd.R_below (by (with_reducible repeat (first | apply Kd.R_alloc | apply Kd.R_drewN | apply Kd.R_drew)); exact HO131.out) hb); have n2_ := Aside0.mk (Kd.R_below (by (with_reducible repeat (first | apply Kd.R_alloc | apply Kd.R_drewN | apply Kd.R_drew)); exact HO135.out) hb); have n3_ := Aside0.mk (below_step (by repeat (first | (with_reducible first | exact HB.out | apply below_alloc | apply pw_below_drewN | apply below_drew1) | exact HB.out)) hb); clear HO127; clear HO131; clear HO135; clear HB; have HO127 := n0_; have HO131 := n1_; have HO135 := n2_; have HB := n3_; clear n0_ n1_ n2_ n3_; (try clear hb); (try clear hb2); (try clear hk); (try clear hi)) | (go_at_call 23; (with_reducible refine (script_Window.calls k _ _ t124 2 t141 _ ?side1 ?side2 A15.out).mono ?_); (case side1 => repeat (first | exact (Kd.R_reads' HO127.out).2.2 | (with_reducible refine Kd.C_alloc ?_ _) | (with_reducible refine Kd.C_drewN ?_ _) | (with_reducible refine Kd.C_drew ?_))); (case side2 => exact (Kd.R_reads' HO127.out).2.1); rintro e w33 ⟨rfl, hb⟩; have n0_ := Aside0.mk (Kd.R_below (by (with_reducible repeat (first | apply Kd.R_alloc | apply Kd.R_drewN | apply Kd.R_drew)); exact HO127.out) hb); have n1_ := Aside0.mk (Kd.R_below (by (with_reducible repeat (first | apply Kd.R_alloc | apply Kd.R_drewN | apply Kd.R_drew)); exact HO131.out) hb); have n2_ := Aside0.mk (Kd.R_below (by (with_reducible repeat (first | apply Kd.R_alloc | apply Kd.R_drewN | apply Kd.R_drew)); exact HO135.out) hb); have n3_ := Aside0.mk (below_step (by repeat (first | (with_reducible first | exact HB.out | apply below_alloc | apply pw_below_drewN | apply below_drew1) | exact HB.out)) hb); clear HO127; clear HO131; clear HO135; clear HB; have HO127 := n0_; have HO131 := n1_; have HO135 := n2_; have HB := n3_; clear n0_ n1_ n2_ n3_; (try clear hb); (try clear hb2); (try clear hk); (try clear hi)) | (go_at_call 19; (with_reducible refine (script_Count.calls k _ _ t124 1 t142 _ ?side1 ?side2 A17.out).mono ?_); (case side1 => repeat (first | exact (Kd.R_reads' HO127.out).2.2 | (with_reducible refine Kd.C_alloc ?_ _) | (with_reducible refine Kd.C_drewN ?_ _) | (with_reducible refine Kd.C_drew ?_))); (case side2 => exact (Kd.R_reads' HO127.out).2.1); rintro e w' ⟨rfl, ⟨nd, rfl⟩⟩) | (go_at_call 25; (with_reducible refine (script_Rounds.calls k 2 2 t143 _ A19.out).mono ?_); rintro e w34 ⟨v144, rfl, ho0, hb⟩; have n0_ := Aside0.mk (Kd.R_elder' (by (with_reducible repeat (first | apply Kd.R_alloc | apply Kd.R_drewN | apply Kd.R_drew)); exact HO127.out) (Kd.R_base ho0) hb); have n1_ := Aside0.mk (Kd.R_elder' (by (with_reducible repeat (first | apply Kd.R_alloc | apply Kd.R_drewN | apply Kd.R_drew)); exact HO131.out) (Kd.R_base ho0) hb); have n2_ := Aside0.mk (Kd.R_elder' (by (with_reducible repeat (first | apply Kd.R_alloc | apply Kd.R_drewN | apply Kd.R_drew)); exact HO135.out) (Kd.R_base ho0) hb); have n3_ := Aside0.mk (Kd.R_lower (Kd.R_new' (Kd.R_new' (Kd.R_new' ho0 (Kd.R_lt (by (with_reducible repeat (first | apply Kd.R_alloc | apply Kd.R_drewN | apply Kd.R_drew)); exact HO127.out))) (Kd.R_lt (by (with_reducible repeat (first | apply Kd.R_alloc | apply Kd.R_drewN | apply Kd.R_drew)); exact HO131.out))) (Kd.R_lt (by (with_reducible repeat (first | apply Kd.R_alloc | apply Kd.R_drewN | apply Kd.R_drew)); exact HO135.out))) (below_size (by repeat (first | (with_reducible first | exact HB.out | apply below_alloc | apply pw_below_drewN | apply below_drew1) | exact HB.out)))); have n4_ := Aside0.mk (below_step (by repeat (first | (with_reducible first | exact HB.out | apply below_alloc | apply pw_below_drewN | apply below_drew1) | exact HB.out)) hb); clear HO127; clear HO131; clear HO135; clear HB; have HO127 := n0_; have HO131 := n1_; have HO135 := n2_; have HO145 := n3_; have HB := n4_; clear n0_ n1_ n2_ n3_ n4_; (try clear hb); (try clear hb2); (try clear hk); (try clear hi); (try clear ho0)) | ((with_reducible refine gate_dst (N := 52) rfl ?_); (try (refine gate_guard (by rfl) ?_; dsimp only)); refine Kd.R_lit (Kd.int .i64) _ 3 ?hg (N := 52) ?hd (xs := ([0, 1, 0, 1] : List Int)) (inner := [.int .i64 0, .int .i64 1, .int .i64 0, .int .i64 1]) (ok := fun _ => True) (okp := fun _ => True) ?hr ?hp (fun _ hk => hk) trivial (Below.refl _ _) (Nat.le_refl _) (by simp) ?_; (case hd => rfl); (case hg => rfl); (case hr => first | (go_simp; done) | (go_simp; rfl)); (case hp => exact (Reps.one (show Kd.M (Kd.int .i64) _ _ _ 0 [.int .i64 0] from rfl) (Reps.one (show Kd.M (Kd.int .i64) _ _ _ 1 [.int .i64 1] from rfl) (Reps.one (show Kd.M (Kd.int .i64) _ _ _ 0 [.int .i64 0] from rfl) (Reps.one (show Kd.M (Kd.int .i64) _ _ _ 1 [.int .i64 1] from rfl) (Reps.none _ _)))))); intro v147 w35 ho36 hb hg_ hnew_; clear hg_ hnew_; (first | rw [← Ny146.out] at ho36 | (simp only [Int.reduceToNat] at ho36; rw [← Ny146.out] at ho36)); have n0_ := Aside0.mk (Kd.R_elder' (by (with_reducible repeat (first | apply Kd.R_alloc | apply Kd.R_drewN | apply Kd.R_drew)); exact HO127.out) (Kd.R_base ho36) hb); have n1_ := Aside0.mk (Kd.R_elder' (by (with_reducible repeat (first | apply Kd.R_alloc | apply Kd.R_drewN | apply Kd.R_drew)); exact HO131.out) (Kd.R_base ho36) hb); have n2_ := Aside0.mk (Kd.R_elder' (by (with_reducible repeat (first | apply Kd.R_alloc | apply Kd.R_drewN | apply Kd.R_drew)); exact HO135.out) (Kd.R_base ho36) hb); have n3_ := Aside0.mk (Kd.R_elder' (by (with_reducible repeat (first | apply Kd.R_alloc | apply Kd.R_drewN | apply Kd.R_drew)); exact HO145.out) (Kd.R_base ho36) hb); have n4_ := Aside0.mk (Kd.R_lower (Kd.R_new' (Kd.R_new' (Kd.R_new' (Kd.R_new' ho36 (Kd.R_lt (by (with_reducible repeat (first | apply Kd.R_alloc | apply Kd.R_drewN | apply Kd.R_drew)); exact HO127.out))) (Kd.R_lt (by (with_reducible repeat (first | apply Kd.R_alloc | apply Kd.R_drewN | apply Kd.R_drew)); exact HO131.out))) (Kd.R_lt (by (with_reducible repeat (first | apply Kd.R_alloc | apply Kd.R_drewN | apply Kd.R_drew)); exact HO135.out))) (Kd.R_lt (by (with_reducible repeat (first | apply Kd.R_alloc | apply Kd.R_drewN | apply Kd.R_drew)); exact HO145.out))) (below_size (by repeat (first | (with_reducible first | exact HB.out | apply below_alloc | apply pw_below_drewN | apply below_drew1) | exact HB.out)))); have n5_ := Aside0.mk (below_step (by repeat (first | (with_reducible first | exact HB.out | apply below_alloc | apply pw_below_drewN | apply below_drew1) | exact HB.out)) hb); clear HO127; clear HO131; clear HO135; clear HO145; clear HB; have HO127 := n0_; have HO131 := n1_; have HO135 := n2_; have HO145 := n3_; have HO148 := n4_; have HB := n5_; clear n0_ n1_ n2_ n3_ n4_ n5_; clear hb ho36; obtain ⟨Ao37, co37, eo37⟩ := Kd.R_slice HO145.out; subst eo37; obtain ⟨Ao38, co38, eo38⟩ := Kd.R_slice HO148.out; subst eo38) | (go_at_call 18; (with_reducible refine (garrisonref05_Same.calls k _ _ t143 _ _ y146 true _ ?side1 ?side2 ?side3 ?side4 A20.out).mono ?_); (case side1 => repeat (first | exact (Kd.R_reads' HO145.out).2.2 | (with_reducible refine Kd.C_alloc ?_ _) | (with_reducible refine Kd.C_drewN ?_ _) | (with_reducible refine Kd.C_drew ?_))); (case side2 => exact (Kd.R_reads' HO145.out).2.1); (case side3 => repeat (first | exact (Kd.R_reads' HO148.out).2.2 | (with_reducible refine Kd.C_alloc ?_ _) | (with_reducible refine Kd.C_drewN ?_ _) | (with_reducible refine Kd.C_drew ?_))); (case side4 => exact (Kd.R_reads' HO148.out).2.1); rintro e w' ⟨rfl, ⟨nd, rfl⟩⟩) | (go_at_call 14; (with_reducible refine (script_Check.calls _ _ t124 1 t150 _ ?side1 ?side2 A22.out).mono ?_); (case side1 => repeat (first | exact (Kd.R_reads' HO127.out).2.2 | (with_reducible refine Kd.C_alloc ?_ _) | (with_reducible refine Kd.C_drewN ?_ _) | (with_reducible refine Kd.C_drew ?_))); (case side2 => exact (Kd.R_reads' HO127.out).2.1); rintro e w39 ⟨rfl, hb⟩; have n0_ := Aside0.mk (Kd.R_below (by (with_reducible repeat (first | apply Kd.R_alloc | apply Kd.R_drewN | apply Kd.R_drew)); exact HO127.out) hb); have n1_ := Aside0.mk (Kd.R_below (by (with_reducible repeat (first | apply Kd.R_alloc | apply Kd.R_drewN | apply Kd.R_drew)); exact HO131.out) hb); have n2_ := Aside0.mk (Kd.R_below (by (with_reducible repeat (first | apply Kd.R_alloc | apply Kd.R_drewN | apply Kd.R_drew)); exact HO135.out) hb); have n3_ := Aside0.mk (Kd.R_below (by (with_reducible repeat (first | apply Kd.R_alloc | apply Kd.R_drewN | apply Kd.R_drew)); exact HO145.out) hb); have n4_ := Aside0.mk (Kd.R_below (by (with_reducible repeat (first | apply Kd.R_alloc | apply Kd.R_drewN | apply Kd.R_drew)); exact HO148.out) hb); have n5_ := Aside0.mk (below_step (by repeat (first | (with_reducible first | exact HB.out | apply below_alloc | apply pw_below_drewN | apply below_drew1) | exact HB.out)) hb); clear HO127; clear HO131; clear HO135; clear HO145; clear HO148; clear HB; have HO127 := n0_; have HO131 := n1_; have HO135 := n2_; have HO145 := n3_; have HO148 := n4_; have HB := n5_; clear n0_ n1_ n2_ n3_ n4_ n5_; (try clear hb); (try clear hb2); (try clear hk); (try clear hi)) | (go_at_call 13; (with_reducible refine (garrisonlaw05_num.calls t150 t151 _ A23.out).mono ?_); rintro e w' ⟨rfl, ⟨nd, rfl⟩⟩))
                    go_ret
                    exact ⟨by first | rfl | (simp [errW_none, errW_some] <;> rfl) | (simp [*, errW_none, errW_some] <;> rfl), by repeat (first | (with_reducible first | exact HB.out | apply below_alloc | apply pw_below_drewN | apply below_drew1) | exact HB.out)⟩
                  · replace c21 := Bool.eq_false_iff.mpr c21
                    subst c21
                    have H1 : (some false) = some r := by rw [if_neg (show ¬ (false = true) by decide)] at H; exact H
                    clear H
                    have H := H1
                    clear H1
                    exact absurd ((Option.some.inj H).trans hr_.out) (by decide)
                · rw [if_neg c18] at H
                  have c18b0 : (t142 == 2) = false := beq_eq_false_iff_ne.mpr c18
                  have c18b1 : (t142 != 2) = true := bne_iff_ne.mpr c18
                  exact absurd ((Option.some.inj H).trans hr_.out) (by decide)
              · rw [if_neg c16] at H
                have c16b0 : (t141 == 3) = false := beq_eq_false_iff_ne.mpr c16
                have c16b1 : (t141 != 3) = true := bne_iff_ne.mpr c16
                exact absurd ((Option.some.inj H).trans hr_.out) (by decide)
            · replace c14 := Bool.eq_false_iff.mpr c14
              subst c14
              have H1 : (some false) = some r := by rw [if_neg (show ¬ (false = true) by decide)] at H; exact H
              clear H
              have H := H1
              clear H1
              exact absurd ((Option.some.inj H).trans hr_.out) (by decide)
        · rw [if_neg c10] at H
          have c10b0 : (t138.toList == ([48, 32, 49, 32, 49] : List UInt8)) = false := beq_eq_false_iff_ne.mpr c10
          have c10b1 : (t138.toList != ([48, 32, 49, 32, 49] : List UInt8)) = true := bne_iff_ne.mpr c10
          exact absurd ((Option.some.inj H).trans hr_.out) (by decide)
      · rw [if_neg c8] at H
        have c8b0 : (t137 == 2) = false := beq_eq_false_iff_ne.mpr c8
        have c8b1 : (t137 != 2) = true := bne_iff_ne.mpr c8
        exact absurd ((Option.some.inj H).trans hr_.out) (by decide)
    · replace c6 := Bool.eq_false_iff.mpr c6
      subst c6
      have H1 : (some false) = some r := by rw [if_neg (show ¬ (false = true) by decide)] at H; exact H
      clear H
      have H := H1
      clear H1
      exact absurd ((Option.some.inj H).trans hr_.out) (by decide)
  · rw [if_neg c4] at H
    have c4b0 : (t132 == 0) = false := beq_eq_false_iff_ne.mpr c4
    have c4b1 : (t132 != 0) = true := bne_iff_ne.mpr c4
    exact absurd ((Option.some.inj H).trans hr_.out) (by decide)

/-- live tells true. -/
def garrisonlaw05_live.f : Option Bool := some true
theorem garrisonlaw05_liveP.ok : garrisonlaw05_liveP.f 60 = some true := by
  decide +kernel
theorem garrisonlaw05_live.calls (r : Bool) (w : World) (hG : GL w) (h : garrisonlaw05_live.f = some r) : Calls Tryd.prog 10 #[] w fun e w' => e = .returned (.bool r) ∧ Below w.heap.size w w' := by
  obtain rfl := Option.some.inj h
  exact garrisonlaw05_liveP.calls 60 true w hG ⟨rfl⟩ garrisonlaw05_liveP.ok
end Go.Proofs.YthifdmelanbgmaaDoor.Given
