-- Written by a program of this session (wip/tools/myprint.py) out of the translation.
import Derived.Test.YtkdebaopfabbbaaPx0
import Derived.Test.YtkdebaopfabbbaaPx5
import Derived.Test.YtkdebaopfabbbaaPx6
import Derived.Test.YtkdebaopfabbbaaPx7
import Derived.Test.YtkdebaopfabbbaaGCheck
import Derived.Test.YtkdebaopfabbbaaGLive
namespace Go.Proofs.Ytkdebaopfabbbaa.Given
end Go.Proofs.Ytkdebaopfabbbaa.Given
namespace Go.Proofs.Ytkdebaopfabbbaa.P
open Go.Proofs.Ytkdebaopfabbbaa.Given
open Go.RowKit Go.Proofs.YtkdebaopfabbbaaW.PrintWords Go.Proofs.YtkdebaopfabbbaaW.PrintLast Go.Proofs.YtkdebaopfabbbaaW.PrintMore
attribute [local go_sem] max2_int min2_int max_two min_two max_three min_three max_four min_four u64_signed   -- for this text's walks alone
set_option linter.unusedVariables false
set_option linter.unusedSimpArgs false

/-! ### garrisonlaw12_AddrWords: function 3 -/
def garrisonlaw12_AddrWords.f (k : Nat) (l0 : List (S53)) (a1 : Int) : Option (Bool) := if (l0.length : Int) > 20 then ((garrisonlaw12_live.f).bind fun t151 => (some t151)) else ((some (([] : List (S53)) : List (S53))).bind fun y152 => (if y152.length + l0.length < 8796093022208 then ((addr_Put.f k (y152 ++ l0)).bind fun bt158 => ((garrisonref12_Put.f k l0).bind fun bt160 => ((addr_Parse.f k a1).bind fun bt162 => ((garrisonref12_Parse.f k a1).bind fun bt166 => ((addr_Check.f l0).bind fun t170 => ((garrisonlaw12_num.f t170).bind fun t171 => ((garrisonref12_Is.f k l0).bind fun t172 => (if ((t171 == 0) == t172) = true then (if bt158.1 = bt160.1 then ((garrisonlaw12_num.f bt158.2).bind fun t173 => (if t173 = bt160.2 then ((garrisonref12_Same.f k bt162.1 bt166.1).bind fun t174 => (if t174 = true then ((garrisonlaw12_num.f bt162.2).bind fun t175 => (if t175 = bt166.2 then ((garrisonlaw12_live.f).bind fun t176 => (some t176)) else (some false))) else (some false))) else (some false))) else (some false)) else (some false))))))))) else (none)))
theorem garrisonlaw12_AddrWords.mono : ∀ a0 a1 k, LeO (garrisonlaw12_AddrWords.f k a0 a1) (garrisonlaw12_AddrWords.f (k + 1) a0 a1) := by
  intro a0 a1 k
  unfold garrisonlaw12_AddrWords.f
  repeat' first
      | (with_reducible exact addr_Parse.mono _ _)
      | (with_reducible exact addr_Put.mono _ _)
      | (with_reducible exact garrisonref12_Is.mono _ _)
      | (with_reducible exact garrisonref12_Parse.mono _ _)
      | (with_reducible exact garrisonref12_Put.mono _ _)
      | (with_reducible exact garrisonref12_Same.mono _ _ _)
      | (with_reducible exact LeO.refl _)
      | (with_reducible exact LeO.none _)
      | (with_reducible refine LeO.ite ?_ ?_)
      | (with_reducible refine LeO.bind ?_ (fun _ => ?_))
      | exact addr_Parse.mono _ _
      | exact addr_Put.mono _ _
      | exact garrisonref12_Is.mono _ _
      | exact garrisonref12_Parse.mono _ _
      | exact garrisonref12_Put.mono _ _
      | exact garrisonref12_Same.mono _ _ _
      | exact LeO.none _
      | refine LeO.ite ?_ ?_
      | refine LeO.bind ?_ (fun _ => ?_)
set_option maxHeartbeats 8000000 in
set_option maxRecDepth 100000 in
theorem garrisonlaw12_AddrWords.calls (k : Nat) (A0 : Option Addr) (c0 : Nat) (l0 : List (S53)) (a1 : Int) (r : Bool) (w : World) (hr_ : Aside0 (r = true)) (hr0 : Kd.C k53 w A0 l0.length l0) (hc0 : l0.length ≤ c0) (h : garrisonlaw12_AddrWords.f k l0 a1 = some r) :
    Calls Try.prog 3 #[.slice A0 l0.length c0, .int .u64 a1] w fun e w' => e = .returned (.bool r) ∧ Below w.heap.size w w' := by
  have HR0 := Aside0.mk hr0
  have HC0 := Aside0.mk hc0
  clear hr0 hc0
  have HB := Aside0.mk (Below.refl w.heap.size w)
  have H : (if (l0.length : Int) > 20 then ((garrisonlaw12_live.f).bind fun t151 => (some t151)) else ((some (([] : List (S53)) : List (S53))).bind fun y152 => (if y152.length + l0.length < 8796093022208 then ((addr_Put.f k (y152 ++ l0)).bind fun bt158 => ((garrisonref12_Put.f k l0).bind fun bt160 => ((addr_Parse.f k a1).bind fun bt162 => ((garrisonref12_Parse.f k a1).bind fun bt166 => ((addr_Check.f l0).bind fun t170 => ((garrisonlaw12_num.f t170).bind fun t171 => ((garrisonref12_Is.f k l0).bind fun t172 => (if ((t171 == 0) == t172) = true then (if bt158.1 = bt160.1 then ((garrisonlaw12_num.f bt158.2).bind fun t173 => (if t173 = bt160.2 then ((garrisonref12_Same.f k bt162.1 bt166.1).bind fun t174 => (if t174 = true then ((garrisonlaw12_num.f bt162.2).bind fun t175 => (if t175 = bt166.2 then ((garrisonlaw12_live.f).bind fun t176 => (some t176)) else (some false))) else (some false))) else (some false))) else (some false)) else (some false))))))))) else (none)))) = some r := h
  clear h
  by_cases c3 : (l0.length : Int) > 20
  · rw [if_pos c3] at H
    have c3b0 : decide (20 < (l0.length : Int)) = true := decide_eq_true c3
    have c3b1 : decide (20 < l0.length) = true := decide_eq_true (by omega)
    clear c3
    replace H := Option.bind_eq_some_iff.mp H
    obtain ⟨t151, A40, H⟩ := H
    replace H : (some t151) = some r := H
    have A4 := Aside0.mk A40
    clear A40
    obtain rfl := Option.some.inj H
    go_enter Try.func3, Try.ntmps3
    go_wp2_with (first | ((with_reducible refine gate_callee (f := 8) rfl ?_); refine goesL_ (some 16) rfl rfl Try.func8 (by kernel_rfl) rfl #[] rfl (by (try simp only [List.map_toArray, List.map_cons, List.map_nil]); first | done | rfl | (simp only [List.length_drop, List.length_take]; rfl)) ?_; (with_reducible refine (garrisonlaw12_live.calls  t151 _ A4.out).mono ?_); rintro e w5 ⟨rfl, hb⟩; refine ⟨_, rfl, ?_⟩; have n0_ := Aside0.mk (below_step (by repeat (first | (with_reducible first | exact HB.out | apply below_alloc | apply pw_below_drewN | apply below_drew1) | exact HB.out)) hb); clear HB; have HB := n0_; clear n0_; (try clear hb); (try clear hb2); (try clear hk); (try clear hi)))
    go_ret
    exact ⟨by first | rfl | (simp [errW_none, errW_some] <;> rfl) | (simp [*, errW_none, errW_some] <;> rfl), by repeat (first | (with_reducible first | exact HB.out | apply below_alloc | apply pw_below_drewN | apply below_drew1) | exact HB.out)⟩
  · rw [if_neg c3] at H
    have c3b0 : decide (20 < (l0.length : Int)) = false := decide_eq_false c3
    have c3b1 : decide (20 < l0.length) = false := decide_eq_false (by omega)
    clear c3
    obtain ⟨y152, hy152⟩ : ∃ y_ : List (S53), y_ = (([] : List (S53))) := ⟨_, rfl⟩
    replace H : (if y152.length + l0.length < 8796093022208 then ((addr_Put.f k (y152 ++ l0)).bind fun bt158 => ((garrisonref12_Put.f k l0).bind fun bt160 => ((addr_Parse.f k a1).bind fun bt162 => ((garrisonref12_Parse.f k a1).bind fun bt166 => ((addr_Check.f l0).bind fun t170 => ((garrisonlaw12_num.f t170).bind fun t171 => ((garrisonref12_Is.f k l0).bind fun t172 => (if ((t171 == 0) == t172) = true then (if bt158.1 = bt160.1 then ((garrisonlaw12_num.f bt158.2).bind fun t173 => (if t173 = bt160.2 then ((garrisonref12_Same.f k bt162.1 bt166.1).bind fun t174 => (if t174 = true then ((garrisonlaw12_num.f bt162.2).bind fun t175 => (if t175 = bt166.2 then ((garrisonlaw12_live.f).bind fun t176 => (some t176)) else (some false))) else (some false))) else (some false))) else (some false)) else (some false))))))))) else (none)) = some r := by first | (rw [hy152]; with_reducible exact H) | (have H2_ := (Option.bind_some _ _).symm.trans H; rw [hy152]; with_reducible exact H2_) | (have H2_ := (Option.bind_some _ _).symm.trans H; with_reducible exact H2_) | with_reducible exact H | (rw [hy152]; exact H) | exact H
    have Ny152 := Aside0.mk hy152
    clear hy152
    by_cases c6 : y152.length + l0.length < 8796093022208
    · rw [if_pos c6] at H
      have LMc6 := Aside0.mk c6
      clear c6
      obtain ⟨y155, hy155⟩ : ∃ y_ : List (S53), y_ = (y152 ++ l0) := ⟨_, rfl⟩
      replace H : ((addr_Put.f k y155).bind fun bt158 => ((garrisonref12_Put.f k l0).bind fun bt160 => ((addr_Parse.f k a1).bind fun bt162 => ((garrisonref12_Parse.f k a1).bind fun bt166 => ((addr_Check.f l0).bind fun t170 => ((garrisonlaw12_num.f t170).bind fun t171 => ((garrisonref12_Is.f k l0).bind fun t172 => (if ((t171 == 0) == t172) = true then (if bt158.1 = bt160.1 then ((garrisonlaw12_num.f bt158.2).bind fun t173 => (if t173 = bt160.2 then ((garrisonref12_Same.f k bt162.1 bt166.1).bind fun t174 => (if t174 = true then ((garrisonlaw12_num.f bt162.2).bind fun t175 => (if t175 = bt166.2 then ((garrisonlaw12_live.f).bind fun t176 => (some t176)) else (some false))) else (some false))) else (some false))) else (some false)) else (some false))))))))) = some r := by first | (rw [hy155]; with_reducible exact H) | (have H2_ := (Option.bind_some _ _).symm.trans H; rw [hy155]; with_reducible exact H2_) | (have H2_ := (Option.bind_some _ _).symm.trans H; with_reducible exact H2_) | with_reducible exact H | (rw [hy155]; exact H) | exact H
      have Ny155 := Aside0.mk hy155
      clear hy155
      replace H := Option.bind_eq_some_iff.mp H
      obtain ⟨⟨t158, t159⟩, A70, H⟩ := H
      replace H : ((garrisonref12_Put.f k l0).bind fun bt160 => ((addr_Parse.f k a1).bind fun bt162 => ((garrisonref12_Parse.f k a1).bind fun bt166 => ((addr_Check.f l0).bind fun t170 => ((garrisonlaw12_num.f t170).bind fun t171 => ((garrisonref12_Is.f k l0).bind fun t172 => (if ((t171 == 0) == t172) = true then (if t158 = bt160.1 then ((garrisonlaw12_num.f t159).bind fun t173 => (if t173 = bt160.2 then ((garrisonref12_Same.f k bt162.1 bt166.1).bind fun t174 => (if t174 = true then ((garrisonlaw12_num.f bt162.2).bind fun t175 => (if t175 = bt166.2 then ((garrisonlaw12_live.f).bind fun t176 => (some t176)) else (some false))) else (some false))) else (some false))) else (some false)) else (some false)))))))) = some r := H
      have A7 := Aside0.mk A70
      clear A70
      replace H := Option.bind_eq_some_iff.mp H
      obtain ⟨⟨t160, t161⟩, A80, H⟩ := H
      replace H : ((addr_Parse.f k a1).bind fun bt162 => ((garrisonref12_Parse.f k a1).bind fun bt166 => ((addr_Check.f l0).bind fun t170 => ((garrisonlaw12_num.f t170).bind fun t171 => ((garrisonref12_Is.f k l0).bind fun t172 => (if ((t171 == 0) == t172) = true then (if t158 = t160 then ((garrisonlaw12_num.f t159).bind fun t173 => (if t173 = t161 then ((garrisonref12_Same.f k bt162.1 bt166.1).bind fun t174 => (if t174 = true then ((garrisonlaw12_num.f bt162.2).bind fun t175 => (if t175 = bt166.2 then ((garrisonlaw12_live.f).bind fun t176 => (some t176)) else (some false))) else (some false))) else (some false))) else (some false)) else (some false))))))) = some r := H
      have A8 := Aside0.mk A80
      clear A80
      replace H := Option.bind_eq_some_iff.mp H
      obtain ⟨⟨t162, t163⟩, A90, H⟩ := H
      replace H : ((garrisonref12_Parse.f k a1).bind fun bt166 => ((addr_Check.f l0).bind fun t170 => ((garrisonlaw12_num.f t170).bind fun t171 => ((garrisonref12_Is.f k l0).bind fun t172 => (if ((t171 == 0) == t172) = true then (if t158 = t160 then ((garrisonlaw12_num.f t159).bind fun t173 => (if t173 = t161 then ((garrisonref12_Same.f k t162 bt166.1).bind fun t174 => (if t174 = true then ((garrisonlaw12_num.f t163).bind fun t175 => (if t175 = bt166.2 then ((garrisonlaw12_live.f).bind fun t176 => (some t176)) else (some false))) else (some false))) else (some false))) else (some false)) else (some false)))))) = some r := H
      have A9 := Aside0.mk A90
      clear A90
      replace H := Option.bind_eq_some_iff.mp H
      obtain ⟨⟨t166, t167⟩, A100, H⟩ := H
      replace H : ((addr_Check.f l0).bind fun t170 => ((garrisonlaw12_num.f t170).bind fun t171 => ((garrisonref12_Is.f k l0).bind fun t172 => (if ((t171 == 0) == t172) = true then (if t158 = t160 then ((garrisonlaw12_num.f t159).bind fun t173 => (if t173 = t161 then ((garrisonref12_Same.f k t162 t166).bind fun t174 => (if t174 = true then ((garrisonlaw12_num.f t163).bind fun t175 => (if t175 = t167 then ((garrisonlaw12_live.f).bind fun t176 => (some t176)) else (some false))) else (some false))) else (some false))) else (some false)) else (some false))))) = some r := H
      have A10 := Aside0.mk A100
      clear A100
      replace H := Option.bind_eq_some_iff.mp H
      obtain ⟨t170, A110, H⟩ := H
      replace H : ((garrisonlaw12_num.f t170).bind fun t171 => ((garrisonref12_Is.f k l0).bind fun t172 => (if ((t171 == 0) == t172) = true then (if t158 = t160 then ((garrisonlaw12_num.f t159).bind fun t173 => (if t173 = t161 then ((garrisonref12_Same.f k t162 t166).bind fun t174 => (if t174 = true then ((garrisonlaw12_num.f t163).bind fun t175 => (if t175 = t167 then ((garrisonlaw12_live.f).bind fun t176 => (some t176)) else (some false))) else (some false))) else (some false))) else (some false)) else (some false)))) = some r := H
      have A11 := Aside0.mk A110
      clear A110
      replace H := Option.bind_eq_some_iff.mp H
      obtain ⟨t171, A120, H⟩ := H
      replace H : ((garrisonref12_Is.f k l0).bind fun t172 => (if ((t171 == 0) == t172) = true then (if t158 = t160 then ((garrisonlaw12_num.f t159).bind fun t173 => (if t173 = t161 then ((garrisonref12_Same.f k t162 t166).bind fun t174 => (if t174 = true then ((garrisonlaw12_num.f t163).bind fun t175 => (if t175 = t167 then ((garrisonlaw12_live.f).bind fun t176 => (some t176)) else (some false))) else (some false))) else (some false))) else (some false)) else (some false))) = some r := H
      have A12 := Aside0.mk A120
      clear A120
      replace H := Option.bind_eq_some_iff.mp H
      obtain ⟨t172, A130, H⟩ := H
      replace H : (if ((t171 == 0) == t172) = true then (if t158 = t160 then ((garrisonlaw12_num.f t159).bind fun t173 => (if t173 = t161 then ((garrisonref12_Same.f k t162 t166).bind fun t174 => (if t174 = true then ((garrisonlaw12_num.f t163).bind fun t175 => (if t175 = t167 then ((garrisonlaw12_live.f).bind fun t176 => (some t176)) else (some false))) else (some false))) else (some false))) else (some false)) else (some false)) = some r := H
      have A13 := Aside0.mk A130
      clear A130
      by_cases c14 : ((t171 == 0) == t172) = true
      · rw [if_pos c14] at H
        have c14b0 : ((t171 == 0) == t172) = true := c14
        (try (have c14b1 : decide ((t171 == 0) = t172) = true := by simpa using c14))
        (try (have c14b2 : ((t171 == 0) == t172) = true := by simpa using c14))
        clear c14
        by_cases c15 : t158 = t160
        · rw [if_pos c15] at H
          have c15b0 : (t158 == t160) = true := beq_iff_eq.mpr c15
          have c15b1 : (t158 != t160) = false := bne_eq_false_iff_eq.mpr c15
          clear c15
          replace H := Option.bind_eq_some_iff.mp H
          obtain ⟨t173, A160, H⟩ := H
          replace H : (if t173 = t161 then ((garrisonref12_Same.f k t162 t166).bind fun t174 => (if t174 = true then ((garrisonlaw12_num.f t163).bind fun t175 => (if t175 = t167 then ((garrisonlaw12_live.f).bind fun t176 => (some t176)) else (some false))) else (some false))) else (some false)) = some r := H
          have A16 := Aside0.mk A160
          clear A160
          by_cases c17 : t173 = t161
          · rw [if_pos c17] at H
            have c17b0 : (t173 == t161) = true := beq_iff_eq.mpr c17
            have c17b1 : (t173 != t161) = false := bne_eq_false_iff_eq.mpr c17
            clear c17
            replace H := Option.bind_eq_some_iff.mp H
            obtain ⟨t174, A180, H⟩ := H
            replace H : (if t174 = true then ((garrisonlaw12_num.f t163).bind fun t175 => (if t175 = t167 then ((garrisonlaw12_live.f).bind fun t176 => (some t176)) else (some false))) else (some false)) = some r := H
            have A18 := Aside0.mk A180
            clear A180
            by_cases c19 : t174 = true
            · subst c19
              have H1 : ((garrisonlaw12_num.f t163).bind fun t175 => (if t175 = t167 then ((garrisonlaw12_live.f).bind fun t176 => (some t176)) else (some false))) = some r := by rw [if_pos rfl] at H; exact H
              clear H
              have H := H1
              clear H1
              replace H := Option.bind_eq_some_iff.mp H
              obtain ⟨t175, A200, H⟩ := H
              replace H : (if t175 = t167 then ((garrisonlaw12_live.f).bind fun t176 => (some t176)) else (some false)) = some r := H
              have A20 := Aside0.mk A200
              clear A200
              by_cases c21 : t175 = t167
              · rw [if_pos c21] at H
                have c21b0 : (t175 == t167) = true := beq_iff_eq.mpr c21
                have c21b1 : (t175 != t167) = false := bne_eq_false_iff_eq.mpr c21
                clear c21
                replace H := Option.bind_eq_some_iff.mp H
                obtain ⟨t176, A220, H⟩ := H
                replace H : (some t176) = some r := H
                have A22 := Aside0.mk A220
                clear A220
                obtain rfl := Option.some.inj H
                go_enter Try.func3, Try.ntmps3
                go_wp2_with (first | ((with_reducible refine gate_dst (N := 18) rfl ?_); refine Kd.R_lit k53 _ 53 ?hg (N := 18) ?hd (xs := ([] : List (S53))) (inner := []) (ok := fun _ => True) (okp := fun _ => True) ?hr ?hp (fun _ hk => hk) trivial (Below.refl _ _) (Nat.le_refl _) (by simp) ?_; (case hd => rfl); (case hg => rfl); (case hr => first | (go_simp; done) | (go_simp; rfl)); (case hp => exact (Reps.none _ _)); intro v153 w23 ho24 hb hg_ hnew_; clear hg_ hnew_; (first | rw [← Ny152.out] at ho24 | (simp only [Int.reduceToNat] at ho24; rw [← Ny152.out] at ho24)); have n0_ := Aside0.mk (Kd.R_lower ho24 (below_size (by repeat (first | (with_reducible first | exact HB.out | apply below_alloc | apply pw_below_drewN | apply below_drew1) | exact HB.out)))); have n1_ := Aside0.mk (below_step (by repeat (first | (with_reducible first | exact HB.out | apply below_alloc | apply pw_below_drewN | apply below_drew1) | exact HB.out)) hb); clear HB; have HO154 := n0_; have HB := n1_; clear n0_ n1_; clear hb ho24) | ((with_reducible refine gate_builtin (b := .append) (xs := #[.tmp 18, .tmp 19]) rfl ?_); at_builtin; refine Kd.R_append_rows k53 (w0 := w) w.heap.size rfl (.tmp 18) (.tmp 19) 22 53 (.agg #[(.int .i64 0), (.int .i64 0)]) 16 rfl Try.underlying22 info53 rfl (by decide) (by omega) v153 y152 l0 _ _ _ (fun _ => True) (fun _ => False) rfl rfl ?aO ?aR (fun _ _ h => h) (fun _ h => h.elim) ?aF ?aB ?aS ?aL ?_; (case aR => repeat (first | exact (Kd.C_below HR0.out HB.out) | (with_reducible refine Kd.C_alloc ?_ _) | (with_reducible refine Kd.C_drewN ?_ _) | (with_reducible refine Kd.C_drew ?_))); (case aB => exact (by repeat (first | (with_reducible first | exact HB.out | apply below_alloc | apply pw_below_drewN | apply below_drew1) | exact HB.out))); (case aF => exact (fun _ _ => trivial)); (case aO => exact (by (with_reducible repeat (first | apply Kd.R_alloc | apply Kd.R_drewN | apply Kd.R_drew)); exact HO154.out)); (case aS => exact (below_size (by repeat (first | (with_reducible first | exact HB.out | apply below_alloc | apply pw_below_drewN | apply below_drew1) | exact HB.out)))); (case aL => have := LMc6.out; omega); intro v156 w25 ho hb hg hat; rw [← Ny155.out] at ho; have n0_ := Aside0.mk (hb); have n1_ := Aside0.mk (ho); clear HB; clear HO154; have HB := n0_; have HO157 := n1_; clear n0_ n1_; clear ho hb hg hat; obtain ⟨Ao26, co26, eo26⟩ := Kd.R_slice HO157.out; subst eo26) | ((with_reducible refine gate_callee (f := 9) rfl ?_); refine goesL_ (some 21) rfl rfl Try.func9 (by kernel_rfl) rfl #[.slice Ao26 y155.length co26] rfl (by (try simp only [List.map_toArray, List.map_cons, List.map_nil]); first | done | rfl | (simp only [List.length_drop, List.length_take]; rfl)) ?_; (with_reducible refine (addr_Put.calls k _ _ y155 t158 t159 _ ?side1 ?side2 A7.out).mono ?_); (case side1 => repeat (first | exact (Kd.R_reads' HO157.out).2.2 | (with_reducible refine Kd.C_alloc ?_ _) | (with_reducible refine Kd.C_drewN ?_ _) | (with_reducible refine Kd.C_drew ?_))); (case side2 => exact (Kd.R_reads' HO157.out).2.1); rintro e w27 ⟨rfl, hb⟩; refine ⟨_, rfl, ?_⟩; have n0_ := Aside0.mk (Kd.R_below (by (with_reducible repeat (first | apply Kd.R_alloc | apply Kd.R_drewN | apply Kd.R_drew)); exact HO157.out) hb); have n1_ := Aside0.mk (below_step (by repeat (first | (with_reducible first | exact HB.out | apply below_alloc | apply pw_below_drewN | apply below_drew1) | exact HB.out)) hb); clear HO157; clear HB; have HO157 := n0_; have HB := n1_; clear n0_ n1_; (try clear hb); (try clear hb2); (try clear hk); (try clear hi)) | ((with_reducible refine gate_callee (f := 10) rfl ?_); refine goesL_ (some 26) rfl rfl Try.func10 (by kernel_rfl) rfl #[.slice A0 l0.length c0] rfl (by (try simp only [List.map_toArray, List.map_cons, List.map_nil]); first | done | rfl | (simp only [List.length_drop, List.length_take]; rfl)) ?_; (with_reducible refine (garrisonref12_Put.calls k _ _ l0 t160 t161 _ ?side1 ?side2 A8.out).mono ?_); (case side1 => repeat (first | exact (Kd.C_below HR0.out HB.out) | (with_reducible refine Kd.C_alloc ?_ _) | (with_reducible refine Kd.C_drewN ?_ _) | (with_reducible refine Kd.C_drew ?_))); (case side2 => exact HC0.out); rintro e w' ⟨rfl, ⟨nd, rfl⟩⟩; refine ⟨_, rfl, ?_⟩) | ((with_reducible refine gate_callee (f := 11) rfl ?_); refine goesL_ (some 31) rfl rfl Try.func11 (by kernel_rfl) rfl #[.int .u64 a1] rfl (by (try simp only [List.map_toArray, List.map_cons, List.map_nil]); first | done | rfl | (simp only [List.length_drop, List.length_take]; rfl)) ?_; (with_reducible refine (addr_Parse.calls k a1 t162 t163 _ A9.out).mono ?_); rintro e w28 ⟨v164, rfl, ho0, hb⟩; refine ⟨_, rfl, ?_⟩; have n0_ := Aside0.mk (Kd.R_elder' (by (with_reducible repeat (first | apply Kd.R_alloc | apply Kd.R_drewN | apply Kd.R_drew)); exact HO157.out) (Kd.R_base ho0) hb); have n1_ := Aside0.mk (Kd.R_lower (Kd.R_new' ho0 (Kd.R_lt (by (with_reducible repeat (first | apply Kd.R_alloc | apply Kd.R_drewN | apply Kd.R_drew)); exact HO157.out))) (below_size (by repeat (first | (with_reducible first | exact HB.out | apply below_alloc | apply pw_below_drewN | apply below_drew1) | exact HB.out)))); have n2_ := Aside0.mk (below_step (by repeat (first | (with_reducible first | exact HB.out | apply below_alloc | apply pw_below_drewN | apply below_drew1) | exact HB.out)) hb); clear HO157; clear HB; have HO157 := n0_; have HO165 := n1_; have HB := n2_; clear n0_ n1_ n2_; (try clear hb); (try clear hb2); (try clear hk); (try clear hi); (try clear ho0)) | ((with_reducible refine gate_callee (f := 12) rfl ?_); refine goesL_ (some 36) rfl rfl Try.func12 (by kernel_rfl) rfl #[.int .u64 a1] rfl (by (try simp only [List.map_toArray, List.map_cons, List.map_nil]); first | done | rfl | (simp only [List.length_drop, List.length_take]; rfl)) ?_; (with_reducible refine (garrisonref12_Parse.calls k a1 t166 t167 _ A10.out).mono ?_); rintro e w29 ⟨v168, rfl, ho0, hb⟩; refine ⟨_, rfl, ?_⟩; have n0_ := Aside0.mk (Kd.R_elder' (by (with_reducible repeat (first | apply Kd.R_alloc | apply Kd.R_drewN | apply Kd.R_drew)); exact HO157.out) (Kd.R_base ho0) hb); have n1_ := Aside0.mk (Kd.R_elder' (by (with_reducible repeat (first | apply Kd.R_alloc | apply Kd.R_drewN | apply Kd.R_drew)); exact HO165.out) (Kd.R_base ho0) hb); have n2_ := Aside0.mk (Kd.R_lower (Kd.R_new' (Kd.R_new' ho0 (Kd.R_lt (by (with_reducible repeat (first | apply Kd.R_alloc | apply Kd.R_drewN | apply Kd.R_drew)); exact HO157.out))) (Kd.R_lt (by (with_reducible repeat (first | apply Kd.R_alloc | apply Kd.R_drewN | apply Kd.R_drew)); exact HO165.out))) (below_size (by repeat (first | (with_reducible first | exact HB.out | apply below_alloc | apply pw_below_drewN | apply below_drew1) | exact HB.out)))); have n3_ := Aside0.mk (below_step (by repeat (first | (with_reducible first | exact HB.out | apply below_alloc | apply pw_below_drewN | apply below_drew1) | exact HB.out)) hb); clear HO157; clear HO165; clear HB; have HO157 := n0_; have HO165 := n1_; have HO169 := n2_; have HB := n3_; clear n0_ n1_ n2_ n3_; (try clear hb); (try clear hb2); (try clear hk); (try clear hi); (try clear ho0)) | ((with_reducible refine gate_callee (f := 14) rfl ?_); refine goesL_ (some 40) rfl rfl Try.func14 (by kernel_rfl) rfl #[.slice A0 l0.length c0] rfl (by (try simp only [List.map_toArray, List.map_cons, List.map_nil]); first | done | rfl | (simp only [List.length_drop, List.length_take]; rfl)) ?_; (with_reducible refine (addr_Check.calls _ _ l0 t170 _ ?side1 ?side2 A11.out).mono ?_); (case side1 => repeat (first | exact (Kd.C_below HR0.out HB.out) | (with_reducible refine Kd.C_alloc ?_ _) | (with_reducible refine Kd.C_drewN ?_ _) | (with_reducible refine Kd.C_drew ?_))); (case side2 => exact HC0.out); rintro e w30 ⟨rfl, hb⟩; refine ⟨_, rfl, ?_⟩; have n0_ := Aside0.mk (Kd.R_below (by (with_reducible repeat (first | apply Kd.R_alloc | apply Kd.R_drewN | apply Kd.R_drew)); exact HO157.out) hb); have n1_ := Aside0.mk (Kd.R_below (by (with_reducible repeat (first | apply Kd.R_alloc | apply Kd.R_drewN | apply Kd.R_drew)); exact HO165.out) hb); have n2_ := Aside0.mk (Kd.R_below (by (with_reducible repeat (first | apply Kd.R_alloc | apply Kd.R_drewN | apply Kd.R_drew)); exact HO169.out) hb); have n3_ := Aside0.mk (below_step (by repeat (first | (with_reducible first | exact HB.out | apply below_alloc | apply pw_below_drewN | apply below_drew1) | exact HB.out)) hb); clear HO157; clear HO165; clear HO169; clear HB; have HO157 := n0_; have HO165 := n1_; have HO169 := n2_; have HB := n3_; clear n0_ n1_ n2_ n3_; (try clear hb); (try clear hb2); (try clear hk); (try clear hi)) | ((with_reducible refine gate_callee (f := 13) rfl ?_); refine goesL_ (some 41) rfl rfl Try.func13 (by kernel_rfl) rfl #[.int .i64 t170] rfl (by (try simp only [List.map_toArray, List.map_cons, List.map_nil]); first | done | rfl | (simp only [List.length_drop, List.length_take]; rfl)) ?_; (with_reducible refine (garrisonlaw12_num.calls t170 t171 _ A12.out).mono ?_); rintro e w' ⟨rfl, ⟨nd, rfl⟩⟩; refine ⟨_, rfl, ?_⟩) | ((with_reducible refine gate_callee (f := 15) rfl ?_); refine goesL_ (some 44) rfl rfl Try.func15 (by kernel_rfl) rfl #[.slice A0 l0.length c0] rfl (by (try simp only [List.map_toArray, List.map_cons, List.map_nil]); first | done | rfl | (simp only [List.length_drop, List.length_take]; rfl)) ?_; (with_reducible refine (garrisonref12_Is.calls k _ _ l0 t172 _ ?side1 ?side2 A13.out).mono ?_); (case side1 => repeat (first | exact (Kd.C_below HR0.out (by repeat (first | (with_reducible first | exact HB.out | apply below_alloc | apply pw_below_drewN | apply below_drew1) | exact HB.out))) | (with_reducible refine Kd.C_alloc ?_ _) | (with_reducible refine Kd.C_drewN ?_ _) | (with_reducible refine Kd.C_drew ?_))); (case side2 => exact HC0.out); rintro e w' ⟨rfl, ⟨nd, rfl⟩⟩; refine ⟨_, rfl, ?_⟩) | (go_at_call 13; (with_reducible refine (garrisonlaw12_num.calls t159 t173 _ A16.out).mono ?_); rintro e w' ⟨rfl, ⟨nd, rfl⟩⟩; obtain ⟨Ao31, co31, eo31⟩ := Kd.R_slice HO165.out; subst eo31; obtain ⟨Ao32, co32, eo32⟩ := Kd.R_slice HO169.out; subst eo32) | (go_at_call 16; (with_reducible refine (garrisonref12_Same.calls k _ _ t162 _ _ t166 true _ ?side1 ?side2 ?side3 ?side4 A18.out).mono ?_); (case side1 => repeat (first | exact (Kd.R_reads' HO165.out).2.2 | (with_reducible refine Kd.C_alloc ?_ _) | (with_reducible refine Kd.C_drewN ?_ _) | (with_reducible refine Kd.C_drew ?_))); (case side2 => exact (Kd.R_reads' HO165.out).2.1); (case side3 => repeat (first | exact (Kd.R_reads' HO169.out).2.2 | (with_reducible refine Kd.C_alloc ?_ _) | (with_reducible refine Kd.C_drewN ?_ _) | (with_reducible refine Kd.C_drew ?_))); (case side4 => exact (Kd.R_reads' HO169.out).2.1); rintro e w' ⟨rfl, ⟨nd, rfl⟩⟩) | (go_at_call 13; (with_reducible refine (garrisonlaw12_num.calls t163 t175 _ A20.out).mono ?_); rintro e w' ⟨rfl, ⟨nd, rfl⟩⟩) | (go_at_call 8; (with_reducible refine (garrisonlaw12_live.calls  t176 _ A22.out).mono ?_); rintro e w33 ⟨rfl, hb⟩; have n0_ := Aside0.mk (Kd.R_below (by (with_reducible repeat (first | apply Kd.R_alloc | apply Kd.R_drewN | apply Kd.R_drew)); exact HO157.out) hb); have n1_ := Aside0.mk (Kd.R_below (by (with_reducible repeat (first | apply Kd.R_alloc | apply Kd.R_drewN | apply Kd.R_drew)); exact HO165.out) hb); have n2_ := Aside0.mk (Kd.R_below (by (with_reducible repeat (first | apply Kd.R_alloc | apply Kd.R_drewN | apply Kd.R_drew)); exact HO169.out) hb); have n3_ := Aside0.mk (below_step (by repeat (first | (with_reducible first | exact HB.out | apply below_alloc | apply pw_below_drewN | apply below_drew1) | exact HB.out)) hb); clear HO157; clear HO165; clear HO169; clear HB; have HO157 := n0_; have HO165 := n1_; have HO169 := n2_; have HB := n3_; clear n0_ n1_ n2_ n3_; (try clear hb); (try clear hb2); (try clear hk); (try clear hi)))
                go_ret
                exact ⟨by first | rfl | (simp [errW_none, errW_some] <;> rfl) | (simp [*, errW_none, errW_some] <;> rfl), by repeat (first | (with_reducible first | exact HB.out | apply below_alloc | apply pw_below_drewN | apply below_drew1) | exact HB.out)⟩
              · rw [if_neg c21] at H
                have c21b0 : (t175 == t167) = false := beq_eq_false_iff_ne.mpr c21
                have c21b1 : (t175 != t167) = true := bne_iff_ne.mpr c21
                exact absurd ((Option.some.inj H).trans hr_.out) (by decide)
            · replace c19 := Bool.eq_false_iff.mpr c19
              subst c19
              have H1 : (some false) = some r := by rw [if_neg (show ¬ (false = true) by decide)] at H; exact H
              clear H
              have H := H1
              clear H1
              exact absurd ((Option.some.inj H).trans hr_.out) (by decide)
          · rw [if_neg c17] at H
            have c17b0 : (t173 == t161) = false := beq_eq_false_iff_ne.mpr c17
            have c17b1 : (t173 != t161) = true := bne_iff_ne.mpr c17
            exact absurd ((Option.some.inj H).trans hr_.out) (by decide)
        · rw [if_neg c15] at H
          have c15b0 : (t158 == t160) = false := beq_eq_false_iff_ne.mpr c15
          have c15b1 : (t158 != t160) = true := bne_iff_ne.mpr c15
          exact absurd ((Option.some.inj H).trans hr_.out) (by decide)
      · rw [if_neg c14] at H
        have c14b0 : ((t171 == 0) == t172) = false := by simpa using c14
        (try (have c14b1 : decide ((t171 == 0) = t172) = false := by simpa using c14))
        (try (have c14b2 : ((t171 == 0) == t172) = false := by simpa using c14))
        (try (have c14b3 : ¬ ((t171 == 0) = t172) := by simpa using c14))
        clear c14
        exact absurd ((Option.some.inj H).trans hr_.out) (by decide)
    · rw [if_neg c6] at H
      exact absurd H (by simp)

def garrisonlaw12_AddrWords.Pure : Prop := ∀ (l0 : List (S53)) (a1 : Int), l0.length ≤ maxLen → (∀ x_ : S53, x_ ∈ l0 → ((Lit.int .i64 x_.f0).wf = true ∧ (Lit.int .i64 x_.f1).wf = true)) → (Lit.int .u64 a1).wf = true → ∃ k, garrisonlaw12_AddrWords.f k l0 a1 = some true
theorem garrisonlaw12_AddrWords.walk : True := trivial

end Go.Proofs.Ytkdebaopfabbbaa.P
