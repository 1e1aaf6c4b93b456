/- order.Sort and order.Merge at this program: what the calls answer (slices.SortFunc, Clone, Concat are behind). -/
import Derived.Shelf.SlSortCmp.NoneTotal
import Derived.Shelf.Spec.SlicesGrow
import Derived.Lib.LazyBuf
import Derived.Test.YtcjipaemlipfgaaShelf
import Derived.Test.YtcjipaemlipfgaaGCompare
import Derived.Test.YtcjipaemlipfgaaOrd1
import Derived.LoopN
import Derived.Lib.Hide
import Derived.Outline
import Derived.Test.YtcjipaemlipfgaaPx1
import Derived.Test.YtcjipaemlipfgaaPx2
namespace Go.Proofs.Ytcjipaemlipfgaa.Given
open Go Go.RowKit Go.Proofs Go.Proofs.YtcjipaemlipfgaaW.PrintWords Go.Proofs.YtcjipaemlipfgaaW.PrintLast Go.Proofs.YtcjipaemlipfgaaW.PrintMore Go.Proofs.Ytcjipaemlipfgaa.P Go.Proofs.Ytcjipaemlipfgaa.Ord Go.Lib Go.Sort
attribute [local go_sem] max2_int min2_int max_two min_two max_three min_three max_four min_four u64_signed
attribute [local go_sem high] eqA23
set_option linter.unusedVariables false
set_option linter.unusedSimpArgs false

/-- Keys in their order. -/
def sortK (l : List S23) : List S23 := (l.toArray.toList.mergeSort fun x y => !(ltOf cfK) y x)
theorem sortK_length (l : List S23) : (sortK l).length = l.length := by simp [sortK]
theorem mem_sortK (l : List S23) (x : S23) : x ∈ sortK l ↔ x ∈ l := by simp [sortK]
theorem ltOf_ltB (x y : S23) : ltOf cfK x y = ltB x y := ltK x y
theorem sortK_sorted (l : List S23) : (sortK l).Pairwise fun a b => ltB b a = false := by
  have h := List.pairwise_mergeSort (le := fun x y : S23 => !(ltOf cfK) y x) (fun a b c h1 h2 => by
    simp only [ltOf_ltB, ltB, Bool.not_eq_true', decide_eq_false_iff_not] at *
    omega) (fun a b => by
    simp only [ltOf_ltB, ltB, Bool.or_eq_true, Bool.not_eq_true', decide_eq_false_iff_not]
    omega) l.toArray.toList
  refine h.imp ?_
  intro a b hab
  simpa [ltOf_ltB] using hab
theorem push_sortK (l : List S23) : (sortK l).foldl pushK [] = sortU l := push_sorted _ _ (sortK_sorted l) (mem_sortK l)

/-! ### a row of keys as slices.SortFunc's contract has it -/
theorem holds_of_C {W : World} {g : Nat} {l : List S23} {cells : Array Value} {e : TypeId} (hC : Kd.C k23 W (some ⟨g, 0, none⟩) l.length l) (hf : W.heap[g]? = some (.cells cells e (0, 0))) : HoldsK encK 2 W g 0 l.toArray := by
  intro j hj
  have hj' : j < l.length * 2 := by simpa [size_flatK] using hj
  have hj2 : j < l.toArray.size * 2 := by simpa using hj'
  refine ⟨?_, blk_frozen hf _⟩
  obtain ⟨ad, e, c0, c1⟩ := at_T23 hC ((j / 2 : Nat) : Int) (by omega) (by omega)
  cases e
  rw [Int.toNat_natCast, add_plain] at c0 c1
  have hget : (l.toArray)[j / 2]! = rd_T23 l ((j / 2 : Nat) : Int) := by
    unfold rd_T23
    have : j / 2 < l.length := by omega
    rw [Int.toNat_natCast, List.getD_eq_getElem?_getD, List.getElem?_eq_getElem this, getElem!_pos l.toArray (j / 2) (by simpa using this)]
    rfl
  show W.cell? ⟨g, 0 + j, none⟩ = some (id ((flatK encK 2 l.toArray)[j]!))
  rw [get_flatK _ _ _ _ hj2, hget, Nat.zero_add]
  rcases Nat.mod_two_eq_zero_or_one j with h | h
  · rw [h]
    have e2 : j / 2 * 2 = j := by omega
    rw [e2] at c0
    exact c0
  · rw [h]
    have e2 : j / 2 * 2 + 1 = j := by omega
    have c1' : W.cell? ⟨g, j / 2 * 2 + 1, none⟩ = some (.int .i64 (rd_T23 l ((j / 2 : Nat) : Int)).f1) := c1
    rw [e2] at c1'
    exact c1'
theorem C_of_holds {W : World} {g : Nat} {l : List S23} (hl : l.length ≤ 9223372036854775807) (h : HoldsK encK 2 W g 0 l.toArray) : Kd.C k23 W (some ⟨g, 0, none⟩) l.length l := by
  refine ⟨rfl, hl, fun _ => ⟨⟨g, 0, none⟩, rfl, fun j p hp => ⟨encK p, rfl, k23_mk W p, fun i u hu => ?_⟩⟩⟩
  have hj : j < l.length := by
    rcases Nat.lt_or_ge j l.length with h1 | h1
    · exact h1
    · rw [List.getElem?_eq_none h1] at hp; cases hp
  have hi : i < 2 := by
    rcases Nat.lt_or_ge i 2 with h1 | h1
    · exact h1
    · rw [List.getElem?_eq_none (by simpa [encK] using h1)] at hu; cases hu
  have hc := (HoldsK.cell h (i := j) (c := i) (by simpa using hj) hi).1
  have hp' : (l.toArray)[j]! = p := by
    rw [List.getElem?_eq_getElem hj] at hp
    injection hp with hp
    simp [Array.getElem!_eq_getD, Array.getD, hj, hp]
  rw [hp', Nat.zero_add] at hc
  show W.cell? ((⟨g, 0, none⟩ : Addr).add (j * 2 + i)) = some u
  rw [add_plain, hc]
  have hi2 : i < (encK p).length := by simpa [encK] using hi
  rw [List.getElem?_eq_getElem hi2] at hu
  injection hu with hu
  rw [← hu, getElem!_pos (encK p) i hi2]
theorem below_sortWorld {W : World} {g n base : Nat} {d : Array S23} {os : Array Obj} (hg : base ≤ g) (hgl : g < W.heap.size) : Below base W (sortWorldK encK 2 W g 0 n d os) := by
  refine ⟨rfl, rfl, rfl, size_sortWorldK_c _ _ _ _ _ _ _ _, fun i hi => ?_⟩
  unfold sortWorldK grow putRowK putRow mapBlock
  show ((W.heap.modify g _) ++ os)[i]? = _
  rw [Array.getElem?_append_left (by simp; omega), Array.getElem?_modify, if_neg (by omega)]
theorem sortfunc_any (base : Nat) (okk : Nat → Prop) (v : Value) (l : List S23) (W : World) (hR : Kd.R k23 23 W base okk v l) (hbs : base ≤ W.heap.size) (hlen : l.length < 4611686018427387904) :
    ∃ A c, v = .slice A (sortK l).length c ∧ Calls Try.prog 41 #[.slice A (sortK l).length c, .func (.func 30) #[] #[]] W fun e w =>
      e = .returned (.tuple #[]) ∧ Kd.C k23 w A (sortK l).length (sortK l) ∧ (Below base W w ∧ base ≤ w.heap.size) := by
  rw [sortK_length]
  by_cases hl : 0 < l.length
  · obtain ⟨g, cap, rfl, hg, hgl, cells, hcells⟩ := Kd.R_form hR hl
    obtain ⟨A, c, e, _, hC⟩ := Kd.R_reads hR
    cases e
    refine ⟨some ⟨g, 0, none⟩, cap, rfl, ?_⟩
    have hH := holds_of_C hC hcells
    have eg : ∀ args w, (callFunc 30 args).run Try.prog w = .ok (.enter 30 args) w := enters_of Try.func30 (by kernel_rfl) rfl
    have hcon := AnyQ.slices_SortFunc_total Try.sortKeys 2 Try.isAgg23 Try.sizeOf23 encK (fun _ => rfl) (fun x v hv => by simp [encK] at hv; rcases hv with rfl | rfl <;> rfl) cfK swoK 30 #[] g 0 cap l.toArray W eg (compare_lays g 0 l.toArray.size W) hH hgl (by simpa using hlen) oneK
    change Calls Try.prog 41 _ _ _ at hcon
    refine hcon.mono ?_
    rintro e w ⟨rfl, n, os, rfl⟩
    refine ⟨rfl, ?_, below_sortWorld hg hgl, Nat.le_trans hbs (size_sortWorldK_c _ _ _ _ _ _ _ _)⟩
    have h2 := holdsK_sortWorldK_c encK 2 W g 0 l.toArray (sortK l).toArray n os hH hgl (by simp [sortK_length])
    have h3 := C_of_holds (by rw [sortK_length]; omega) h2
    rw [sortK_length] at h3
    exact h3
  · have hnil : l = [] := List.length_eq_zero_iff.1 (by omega)
    subst hnil
    obtain ⟨A, c, rfl, _, hC⟩ := Kd.R_reads hR
    refine ⟨A, c, rfl, ?_⟩
    have hcon := AnyF.slices_SortFunc_none Try.sortKeys A c (.func (.func 30) #[] #[]) W
    change Calls Try.prog 41 _ _ _ at hcon
    refine hcon.mono ?_
    rintro e w ⟨rfl, rfl⟩
    refine ⟨rfl, ?_, Below.refl _ _, hbs⟩
    rw [show sortK [] = [] from List.length_eq_zero_iff.1 (by simp [sortK_length])]
    exact hC

/-! ### order.sorted -/
def SortPost (base : Nat) (w0 : World) (r : List S23) (e : Ending) (w' : World) : Prop := ∃ v0_ : Value, e = .returned v0_ ∧ Kd.R k23 23 w' base (fun _ => True) v0_ r ∧ Below base w0 w'
theorem sort_wrap {base : Nat} {w0 w w' : World} {r : List S23} {e : Ending} (h : Below base w0 w ∧ base ≤ w.heap.size) (k : ∃ v0_ : Value, e = .returned v0_ ∧ Kd.R k23 23 w' w.heap.size (fun _ => True) v0_ r ∧ Below w.heap.size w w') : SortPost base w0 r e w' := by
  obtain ⟨v0, he, hr, hb⟩ := k
  exact ⟨v0, he, Kd.R_lower hr h.2, h.1.trans (hb.mono h.2)⟩
def order_sorted.l0 : Nat → List (S23) → List (S23) → Int → Int → Option ((List (S23)))
  | 0, _, _, _, _ => none
  | k + 1, x3, x9, x10, x11 => if x11 < x10 then (if 0 ≤ x11 then (if x11 < (x9.length : Int) then (if (x3.length : Int) = 0 then (if x3.length < 8796093022208 then (order_sorted.l0 k (x3 ++ [(⟨(rd_T23 x9 x11).f0, (rd_T23 x9 x11).f1⟩ : S23)]) x9 x10 (wrap64 (x11 + 1))) else (none)) else (if 0 ≤ (wrap64 ((x3.length : Int) - 1)) then (if (wrap64 ((x3.length : Int) - 1)) < (x3.length : Int) then (if (!(((rd_T23 x3 (wrap64 ((x3.length : Int) - 1))).f0) == ((rd_T23 x9 x11).f0)) || (!(((rd_T23 x3 (wrap64 ((x3.length : Int) - 1))).f1) == ((rd_T23 x9 x11).f1)))) = true then (if x3.length < 8796093022208 then (order_sorted.l0 k (x3 ++ [(⟨(rd_T23 x9 x11).f0, (rd_T23 x9 x11).f1⟩ : S23)]) x9 x10 (wrap64 (x11 + 1))) else (none)) else (order_sorted.l0 k x3 x9 x10 (wrap64 (x11 + 1)))) else (none)) else (none))) else (none)) else (none)) else (some x3)
def order_sorted.f (k : Nat) (l0 : List (S23)) : Option ((List (S23))) := order_sorted.l0 k ([] : List (S23)) l0 (l0.length : Int) 0
set_option maxHeartbeats 8000000 in
set_option maxRecDepth 100000 in
theorem order_sorted.calls (k : Nat) (base : Nat) (okk : Nat → Prop) (v : Value) (l00 : List (S23)) (r : List (S23)) (w0 : World) (hR0 : Kd.R k23 23 w0 base okk v l00) (hbs : base ≤ w0.heap.size) (hlen : l00.length < 4611686018427387904) (h : order_sorted.f k (sortK l00) = some r) :
    Calls Try.prog 33 #[v] w0 (SortPost base w0 r) := by
  have hu23 := Try.underlying23
  obtain ⟨A0, c0, rfl, hsf⟩ := sortfunc_any base okk v l00 w0 hR0 hbs hlen
  generalize sortK l00 = l0 at hsf h
  have Hsf := Aside0.mk hsf
  have H : (order_sorted.l0 k ([] : List (S23)) l0 (l0.length : Int) 0) = some r := h
  have H' := Aside0.mk H
  clear H h hsf hR0 hbs hlen
  go_enter Try.func33, Try.ntmps33
  go_wp2_with (go_at_call 41; (with_reducible refine Hsf.out.mono ?_); clear Hsf; rintro e w ⟨rfl, hr0, hwr⟩; have HR0 := Aside0.mk hr0; have HWR := Aside0.mk hwr; have HB := Aside0.mk (Below.refl w.heap.size w); clear hr0 hwr)
  repeat (go_quiet (fail); try go_wp2)
  go_loopg [3, 11] k (fun kq v3 v11 w' => ∃ (x3_1 : List (S23)) (x11_1 : Int), v11 = .int .i64 x11_1 ∧ Aside0 (order_sorted.l0 kq x3_1 l0 (l0.length : Int) x11_1 = some r) ∧ Aside0 (kq ≤ k) ∧ Aside0 (Kd.R k23 23 w' w.heap.size (fun _ => True) v3 x3_1) ∧ Aside0 (Below w.heap.size w w'))
  case atStart => exact ⟨(([] : List (S23))), (0), (by first | rfl | (simp; done) | (simp [*]; done)), H', ⟨Nat.le_refl _⟩, ⟨by first | exact Kd.R_nil _ _ _ _ _ | exact Kd.N_nil _ _ _ _ _ | exact Kd.V_nil _ _ _ _ _ | exact Kd.Q_nil _ _ _ _ _ | exact Kd.S_nil _ _ _ _ _⟩, ⟨by repeat (first | (with_reducible first | exact HB.out | apply below_alloc | apply pw_below_drewN | apply below_drew1) | exact HB.out)⟩⟩
  case round =>
    clear H'
    obtain ⟨x3_1, x11_1, rfl, HA, HK1, HO_3, HB⟩ := hrel
    cases gk with
    | zero => exact absurd HA.out (by simp [order_sorted.l0])
    | succ k1 =>
      have H := HA.out
      clear HA
      simp only [order_sorted.l0] at H
      by_cases c2 : x11_1 < (l0.length : Int)
      · rw [if_pos c2] at H
        have c2b0 : decide (x11_1 < (l0.length : Int)) = true := decide_eq_true c2
        clear c2
        by_cases c3 : 0 ≤ x11_1
        · rw [if_pos c3] at H
          have c3b0 : decide (0 ≤ x11_1) = true := decide_eq_true c3
          clear c3
          by_cases c4 : x11_1 < (l0.length : Int)
          · rw [if_pos c4] at H
            have c4b0 : decide (x11_1 < (l0.length : Int)) = true := decide_eq_true c4
            clear c4
            by_cases c5 : (x3_1.length : Int) = 0
            · rw [if_pos c5] at H
              have c5b0 : ((x3_1.length : Int) == 0) = true := beq_iff_eq.mpr c5
              have c5b1 : ((x3_1.length : Int) != 0) = false := bne_eq_false_iff_eq.mpr c5
              clear c5
              by_cases c6 : x3_1.length < 8796093022208
              · rw [if_pos c6] at H
                have LMc6 := Aside0.mk c6
                clear c6
                obtain ⟨y116, hy116⟩ : ∃ y_ : List (S23), y_ = (x3_1 ++ [(⟨(rd_T23 l0 x11_1).f0, (rd_T23 l0 x11_1).f1⟩ : S23)]) := ⟨_, rfl⟩
                replace H : (order_sorted.l0 k1 y116 l0 (l0.length : Int) (wrap64 (x11_1 + 1))) = some r := by first | (rw [hy116]; with_reducible exact H) | (have H2_ := (Option.bind_some _ _).symm.trans H; rw [hy116]; with_reducible exact H2_) | (have H2_ := (Option.bind_some _ _).symm.trans H; with_reducible exact H2_) | with_reducible exact H | (rw [hy116]; exact H) | exact H
                have Ny116 := Aside0.mk hy116
                clear hy116
                have H' := Aside0.mk H
                clear H
                have p114 : 0 ≤ (x11_1 : Int) := of_decide_eq_true (by first | (with_reducible assumption) | assumption)
                have q114 : x11_1 < (l0.length : Int) := of_decide_eq_true (by first | (with_reducible assumption) | assumption)
                obtain ⟨ad114, e114, hx114_0, hx114_1⟩ := at_T23 HR0.out x11_1 p114 q114
                cases e114
                replace hx114_0 := (HB.out.cell (World.block_lt_of_cell? w _ hx114_0)).trans hx114_0
                replace hx114_1 := (HB.out.cell (World.block_lt_of_cell? w _ hx114_1)).trans hx114_1
                replace p114 := eq_true p114
                replace q114 := eq_true q114
                go_wp2_with (first | ((with_reducible refine gate_dst (N := 5) rfl ?_); refine box_event ?hg (N := 5) ?hd (cs := #[.int .i64 0, .int .i64 0]) (t := 23) ?hr ?_; (case hd => rfl); (case hg => rfl); (case hr => first | (go_simp; done) | (go_simp; rfl)); intro gb115 hg w7 hbox hb; have n0_ := Aside0.mk (Kd.R_below (Kd.R_elderB (by (with_reducible repeat (first | apply Kd.R_alloc | apply Kd.R_drewN | apply Kd.R_drew)); exact HO_3.out) gb115 (Nat.le_of_eq hg.symm)) hb); have n1_ := Aside0.mk (below_step (by repeat (first | (with_reducible first | exact HB.out | apply below_alloc | apply pw_below_drewN | apply below_drew1) | exact HB.out)) hb); have n2_ := Aside0.mk (hbox); have n3_ := Aside0.mk ((by rw [hg]; exact (below_size (by repeat (first | (with_reducible first | exact HB.out | apply below_alloc | apply pw_below_drewN | apply below_drew1) | exact HB.out))) : w.heap.size ≤ gb115)); have n4_ := Aside0.mk ((by rw [hg]; exact (below_size (by repeat (first | (with_reducible first | exact HB.out | apply below_alloc | apply pw_below_drewN | apply below_drew1) | exact HB.out))) : w.heap.size ≤ gb115)); clear HO_3; clear HB; have HO_3 := n0_; have HB := n1_; have BK115 := n2_; have GW115 := n3_; have GE115 := n4_; clear n0_ n1_ n2_ n3_ n4_; clear hb hbox hg; have hcz8_0 : w7.cell? ⟨gb115, 0, none⟩ = some (.int .i64 0) := (blk_cell BK115.out 0).trans rfl; have hcz8_1 : w7.cell? ⟨gb115, 1, none⟩ = some (.int .i64 0) := (blk_cell BK115.out 1).trans rfl; have hfz8_0 := blk_frozen BK115.out 0; have hfz8_1 := blk_frozen BK115.out 1; obtain ⟨Ao9, co9, eo9⟩ := Kd.R_slice HO_3.out; subst eo9) | ((with_reducible refine gate_builtin (b := .append) (xs := #[.tmp 28, .tmp 30]) rfl ?_); at_builtin; refine Kd.R_append k23 (w0 := w) w.heap.size rfl (.tmp 28) (.tmp 30) 36 23 (.agg #[(.int .i64 0), (.int .i64 0)]) 16 rfl Try.underlying36 info23 rfl (by decide) (by omega) (.slice Ao9 x3_1.length co9) x3_1 (⟨(rd_T23 l0 x11_1).f0, (rd_T23 l0 x11_1).f1⟩ : S23) [.int .i64 ((rd_T23 l0 x11_1).f0), .int .i64 ((rd_T23 l0 x11_1).f1)] (fun k_ => k_ ≠ gb115) (fun _ => False) rfl (by first | (go_simp; done) | (go_simp; rfl)) ?aP (fun _ hk => hk.elim) ?aF ?aO ?aB ?aS ?aL ?_; (case aP => exact k23_mkM _ _ _ (⟨(rd_T23 l0 x11_1).f0, (rd_T23 l0 x11_1).f1⟩ : S23)); (case aB => exact (by repeat (first | (with_reducible first | exact HB.out | apply below_alloc | apply pw_below_drewN | apply below_drew1 | refine below_set ?_ GE115.out) | exact HB.out))); (case aF => exact (fun k_ hk => Kd.freshB (g := gb115) (o := .cells #[.int .i64 ((rd_T23 l0 x11_1).f0), .int .i64 ((rd_T23 l0 x11_1).f1)] 23 (0, 0)) (by (with_reducible repeat (first | refine blk_drewN ?_ _ | refine blk_drew ?_ | refine blk_alloc ?_ _)); refine blk_put (cs := #[.int .i64 ((rd_T23 l0 x11_1).f0), .int .i64 0]) ?_ 1 _ rfl; (with_reducible repeat (first | refine blk_drewN ?_ _ | refine blk_drew ?_ | refine blk_alloc ?_ _)); refine blk_put (cs := #[.int .i64 0, .int .i64 0]) ?_ 0 _ rfl; (with_reducible repeat (first | refine blk_drewN ?_ _ | refine blk_drew ?_ | refine blk_alloc ?_ _)); exact BK115.out) k_ hk)); (case aO => exact (by (with_reducible repeat (first | apply Kd.R_alloc | apply Kd.R_drewN | apply Kd.R_drew)); exact Kd.R_mono (Kd.R_far (p := ⟨gb115, 1, none⟩) (Kd.R_far (p := ⟨gb115, 0, none⟩) (Kd.R_mono HO_3.out (fun k_ hk => (⟨hk, hk.2⟩ : _ ∧ k_ ≠ gb115))) (fun _ hk => hk.2) (.int .i64 ((rd_T23 l0 x11_1).f0))) (fun _ hk => hk.2) (.int .i64 ((rd_T23 l0 x11_1).f1))) (fun _ hk => hk.1.2))); (case aS => exact (below_size (by repeat (first | (with_reducible first | exact HB.out | apply below_alloc | apply pw_below_drewN | apply below_drew1 | refine below_set ?_ GE115.out) | exact HB.out)))); (case aL => have := LMc6.out; omega); intro v117 w10 ho hb hg hat; rw [← Ny116.out] at ho; have n0_ := Aside0.mk (blk_grown (g := gb115) (o := .cells #[.int .i64 ((rd_T23 l0 x11_1).f0), .int .i64 ((rd_T23 l0 x11_1).f1)] 23 (0, 0)) (by (with_reducible repeat (first | refine blk_drewN ?_ _ | refine blk_drew ?_ | refine blk_alloc ?_ _)); refine blk_put (cs := #[.int .i64 ((rd_T23 l0 x11_1).f0), .int .i64 0]) ?_ 1 _ rfl; (with_reducible repeat (first | refine blk_drewN ?_ _ | refine blk_drew ?_ | refine blk_alloc ?_ _)); refine blk_put (cs := #[.int .i64 0, .int .i64 0]) ?_ 0 _ rfl; (with_reducible repeat (first | refine blk_drewN ?_ _ | refine blk_drew ?_ | refine blk_alloc ?_ _)); exact BK115.out) hg (Kd.R_away HO_3.out (fun _ hk => hk.2))); have n1_ := Aside0.mk (hb); have n2_ := Aside0.mk (ho); clear BK115; clear HB; clear HO_3; have BK115 := n0_; have HB := n1_; have HO118 := n2_; clear n0_ n1_ n2_; clear ho hb hg hat))
                repeat (go_quiet (first | ((with_reducible refine gate_dst (N := 5) rfl ?_); refine box_event ?hg (N := 5) ?hd (cs := #[.int .i64 0, .int .i64 0]) (t := 23) ?hr ?_; (case hd => rfl); (case hg => rfl); (case hr => first | (go_simp; done) | (go_simp; rfl)); intro gb115 hg w7 hbox hb; have n0_ := Aside0.mk (Kd.R_below (Kd.R_elderB (by (with_reducible repeat (first | apply Kd.R_alloc | apply Kd.R_drewN | apply Kd.R_drew)); exact HO_3.out) gb115 (Nat.le_of_eq hg.symm)) hb); have n1_ := Aside0.mk (below_step (by repeat (first | (with_reducible first | exact HB.out | apply below_alloc | apply pw_below_drewN | apply below_drew1) | exact HB.out)) hb); have n2_ := Aside0.mk (hbox); have n3_ := Aside0.mk ((by rw [hg]; exact (below_size (by repeat (first | (with_reducible first | exact HB.out | apply below_alloc | apply pw_below_drewN | apply below_drew1) | exact HB.out))) : w.heap.size ≤ gb115)); have n4_ := Aside0.mk ((by rw [hg]; exact (below_size (by repeat (first | (with_reducible first | exact HB.out | apply below_alloc | apply pw_below_drewN | apply below_drew1) | exact HB.out))) : w.heap.size ≤ gb115)); clear HO_3; clear HB; have HO_3 := n0_; have HB := n1_; have BK115 := n2_; have GW115 := n3_; have GE115 := n4_; clear n0_ n1_ n2_ n3_ n4_; clear hb hbox hg; have hcz8_0 : w7.cell? ⟨gb115, 0, none⟩ = some (.int .i64 0) := (blk_cell BK115.out 0).trans rfl; have hcz8_1 : w7.cell? ⟨gb115, 1, none⟩ = some (.int .i64 0) := (blk_cell BK115.out 1).trans rfl; have hfz8_0 := blk_frozen BK115.out 0; have hfz8_1 := blk_frozen BK115.out 1; obtain ⟨Ao9, co9, eo9⟩ := Kd.R_slice HO_3.out; subst eo9) | ((with_reducible refine gate_builtin (b := .append) (xs := #[.tmp 28, .tmp 30]) rfl ?_); at_builtin; refine Kd.R_append k23 (w0 := w) w.heap.size rfl (.tmp 28) (.tmp 30) 36 23 (.agg #[(.int .i64 0), (.int .i64 0)]) 16 rfl Try.underlying36 info23 rfl (by decide) (by omega) (.slice Ao9 x3_1.length co9) x3_1 (⟨(rd_T23 l0 x11_1).f0, (rd_T23 l0 x11_1).f1⟩ : S23) [.int .i64 ((rd_T23 l0 x11_1).f0), .int .i64 ((rd_T23 l0 x11_1).f1)] (fun k_ => k_ ≠ gb115) (fun _ => False) rfl (by first | (go_simp; done) | (go_simp; rfl)) ?aP (fun _ hk => hk.elim) ?aF ?aO ?aB ?aS ?aL ?_; (case aP => exact k23_mkM _ _ _ (⟨(rd_T23 l0 x11_1).f0, (rd_T23 l0 x11_1).f1⟩ : S23)); (case aB => exact (by repeat (first | (with_reducible first | exact HB.out | apply below_alloc | apply pw_below_drewN | apply below_drew1 | refine below_set ?_ GE115.out) | exact HB.out))); (case aF => exact (fun k_ hk => Kd.freshB (g := gb115) (o := .cells #[.int .i64 ((rd_T23 l0 x11_1).f0), .int .i64 ((rd_T23 l0 x11_1).f1)] 23 (0, 0)) (by (with_reducible repeat (first | refine blk_drewN ?_ _ | refine blk_drew ?_ | refine blk_alloc ?_ _)); refine blk_put (cs := #[.int .i64 ((rd_T23 l0 x11_1).f0), .int .i64 0]) ?_ 1 _ rfl; (with_reducible repeat (first | refine blk_drewN ?_ _ | refine blk_drew ?_ | refine blk_alloc ?_ _)); refine blk_put (cs := #[.int .i64 0, .int .i64 0]) ?_ 0 _ rfl; (with_reducible repeat (first | refine blk_drewN ?_ _ | refine blk_drew ?_ | refine blk_alloc ?_ _)); exact BK115.out) k_ hk)); (case aO => exact (by (with_reducible repeat (first | apply Kd.R_alloc | apply Kd.R_drewN | apply Kd.R_drew)); exact Kd.R_mono (Kd.R_far (p := ⟨gb115, 1, none⟩) (Kd.R_far (p := ⟨gb115, 0, none⟩) (Kd.R_mono HO_3.out (fun k_ hk => (⟨hk, hk.2⟩ : _ ∧ k_ ≠ gb115))) (fun _ hk => hk.2) (.int .i64 ((rd_T23 l0 x11_1).f0))) (fun _ hk => hk.2) (.int .i64 ((rd_T23 l0 x11_1).f1))) (fun _ hk => hk.1.2))); (case aS => exact (below_size (by repeat (first | (with_reducible first | exact HB.out | apply below_alloc | apply pw_below_drewN | apply below_drew1 | refine below_set ?_ GE115.out) | exact HB.out)))); (case aL => have := LMc6.out; omega); intro v117 w10 ho hb hg hat; rw [← Ny116.out] at ho; have n0_ := Aside0.mk (blk_grown (g := gb115) (o := .cells #[.int .i64 ((rd_T23 l0 x11_1).f0), .int .i64 ((rd_T23 l0 x11_1).f1)] 23 (0, 0)) (by (with_reducible repeat (first | refine blk_drewN ?_ _ | refine blk_drew ?_ | refine blk_alloc ?_ _)); refine blk_put (cs := #[.int .i64 ((rd_T23 l0 x11_1).f0), .int .i64 0]) ?_ 1 _ rfl; (with_reducible repeat (first | refine blk_drewN ?_ _ | refine blk_drew ?_ | refine blk_alloc ?_ _)); refine blk_put (cs := #[.int .i64 0, .int .i64 0]) ?_ 0 _ rfl; (with_reducible repeat (first | refine blk_drewN ?_ _ | refine blk_drew ?_ | refine blk_alloc ?_ _)); exact BK115.out) hg (Kd.R_away HO_3.out (fun _ hk => hk.2))); have n1_ := Aside0.mk (hb); have n2_ := Aside0.mk (ho); clear BK115; clear HB; clear HO_3; have BK115 := n0_; have HB := n1_; have HO118 := n2_; clear n0_ n1_ n2_; clear ho hb hg hat)); try go_wp2_with (first | ((with_reducible refine gate_dst (N := 5) rfl ?_); refine box_event ?hg (N := 5) ?hd (cs := #[.int .i64 0, .int .i64 0]) (t := 23) ?hr ?_; (case hd => rfl); (case hg => rfl); (case hr => first | (go_simp; done) | (go_simp; rfl)); intro gb115 hg w7 hbox hb; have n0_ := Aside0.mk (Kd.R_below (Kd.R_elderB (by (with_reducible repeat (first | apply Kd.R_alloc | apply Kd.R_drewN | apply Kd.R_drew)); exact HO_3.out) gb115 (Nat.le_of_eq hg.symm)) hb); have n1_ := Aside0.mk (below_step (by repeat (first | (with_reducible first | exact HB.out | apply below_alloc | apply pw_below_drewN | apply below_drew1) | exact HB.out)) hb); have n2_ := Aside0.mk (hbox); have n3_ := Aside0.mk ((by rw [hg]; exact (below_size (by repeat (first | (with_reducible first | exact HB.out | apply below_alloc | apply pw_below_drewN | apply below_drew1) | exact HB.out))) : w.heap.size ≤ gb115)); have n4_ := Aside0.mk ((by rw [hg]; exact (below_size (by repeat (first | (with_reducible first | exact HB.out | apply below_alloc | apply pw_below_drewN | apply below_drew1) | exact HB.out))) : w.heap.size ≤ gb115)); clear HO_3; clear HB; have HO_3 := n0_; have HB := n1_; have BK115 := n2_; have GW115 := n3_; have GE115 := n4_; clear n0_ n1_ n2_ n3_ n4_; clear hb hbox hg; have hcz8_0 : w7.cell? ⟨gb115, 0, none⟩ = some (.int .i64 0) := (blk_cell BK115.out 0).trans rfl; have hcz8_1 : w7.cell? ⟨gb115, 1, none⟩ = some (.int .i64 0) := (blk_cell BK115.out 1).trans rfl; have hfz8_0 := blk_frozen BK115.out 0; have hfz8_1 := blk_frozen BK115.out 1; obtain ⟨Ao9, co9, eo9⟩ := Kd.R_slice HO_3.out; subst eo9) | ((with_reducible refine gate_builtin (b := .append) (xs := #[.tmp 28, .tmp 30]) rfl ?_); at_builtin; refine Kd.R_append k23 (w0 := w) w.heap.size rfl (.tmp 28) (.tmp 30) 36 23 (.agg #[(.int .i64 0), (.int .i64 0)]) 16 rfl Try.underlying36 info23 rfl (by decide) (by omega) (.slice Ao9 x3_1.length co9) x3_1 (⟨(rd_T23 l0 x11_1).f0, (rd_T23 l0 x11_1).f1⟩ : S23) [.int .i64 ((rd_T23 l0 x11_1).f0), .int .i64 ((rd_T23 l0 x11_1).f1)] (fun k_ => k_ ≠ gb115) (fun _ => False) rfl (by first | (go_simp; done) | (go_simp; rfl)) ?aP (fun _ hk => hk.elim) ?aF ?aO ?aB ?aS ?aL ?_; (case aP => exact k23_mkM _ _ _ (⟨(rd_T23 l0 x11_1).f0, (rd_T23 l0 x11_1).f1⟩ : S23)); (case aB => exact (by repeat (first | (with_reducible first | exact HB.out | apply below_alloc | apply pw_below_drewN | apply below_drew1 | refine below_set ?_ GE115.out) | exact HB.out))); (case aF => exact (fun k_ hk => Kd.freshB (g := gb115) (o := .cells #[.int .i64 ((rd_T23 l0 x11_1).f0), .int .i64 ((rd_T23 l0 x11_1).f1)] 23 (0, 0)) (by (with_reducible repeat (first | refine blk_drewN ?_ _ | refine blk_drew ?_ | refine blk_alloc ?_ _)); refine blk_put (cs := #[.int .i64 ((rd_T23 l0 x11_1).f0), .int .i64 0]) ?_ 1 _ rfl; (with_reducible repeat (first | refine blk_drewN ?_ _ | refine blk_drew ?_ | refine blk_alloc ?_ _)); refine blk_put (cs := #[.int .i64 0, .int .i64 0]) ?_ 0 _ rfl; (with_reducible repeat (first | refine blk_drewN ?_ _ | refine blk_drew ?_ | refine blk_alloc ?_ _)); exact BK115.out) k_ hk)); (case aO => exact (by (with_reducible repeat (first | apply Kd.R_alloc | apply Kd.R_drewN | apply Kd.R_drew)); exact Kd.R_mono (Kd.R_far (p := ⟨gb115, 1, none⟩) (Kd.R_far (p := ⟨gb115, 0, none⟩) (Kd.R_mono HO_3.out (fun k_ hk => (⟨hk, hk.2⟩ : _ ∧ k_ ≠ gb115))) (fun _ hk => hk.2) (.int .i64 ((rd_T23 l0 x11_1).f0))) (fun _ hk => hk.2) (.int .i64 ((rd_T23 l0 x11_1).f1))) (fun _ hk => hk.1.2))); (case aS => exact (below_size (by repeat (first | (with_reducible first | exact HB.out | apply below_alloc | apply pw_below_drewN | apply below_drew1 | refine below_set ?_ GE115.out) | exact HB.out)))); (case aL => have := LMc6.out; omega); intro v117 w10 ho hb hg hat; rw [← Ny116.out] at ho; have n0_ := Aside0.mk (blk_grown (g := gb115) (o := .cells #[.int .i64 ((rd_T23 l0 x11_1).f0), .int .i64 ((rd_T23 l0 x11_1).f1)] 23 (0, 0)) (by (with_reducible repeat (first | refine blk_drewN ?_ _ | refine blk_drew ?_ | refine blk_alloc ?_ _)); refine blk_put (cs := #[.int .i64 ((rd_T23 l0 x11_1).f0), .int .i64 0]) ?_ 1 _ rfl; (with_reducible repeat (first | refine blk_drewN ?_ _ | refine blk_drew ?_ | refine blk_alloc ?_ _)); refine blk_put (cs := #[.int .i64 0, .int .i64 0]) ?_ 0 _ rfl; (with_reducible repeat (first | refine blk_drewN ?_ _ | refine blk_drew ?_ | refine blk_alloc ?_ _)); exact BK115.out) hg (Kd.R_away HO_3.out (fun _ hk => hk.2))); have n1_ := Aside0.mk (hb); have n2_ := Aside0.mk (ho); clear BK115; clear HB; clear HO_3; have BK115 := n0_; have HB := n1_; have HO118 := n2_; clear n0_ n1_ n2_; clear ho hb hg hat)))
                go_roundg k1
                case measure => have := HK1.out; omega
                case rel => exact ⟨(y116), (wrap64 (x11_1 + 1)), (by first | rfl | (simp; done) | (simp [*]; done)), H', ⟨by have := HK1.out; omega⟩, ⟨by (with_reducible repeat (first | apply Kd.R_alloc | apply Kd.R_drewN | apply Kd.R_drew)); exact Kd.R_mono HO118.out (fun _ hk => trivial)⟩, ⟨by repeat (first | (with_reducible first | exact HB.out | apply below_alloc | apply pw_below_drewN | apply below_drew1 | refine below_set ?_ GE115.out) | exact HB.out)⟩⟩
              · rw [if_neg c6] at H
                exact absurd H (by simp)
            · rw [if_neg c5] at H
              have c5b0 : ((x3_1.length : Int) == 0) = false := beq_eq_false_iff_ne.mpr c5
              have c5b1 : ((x3_1.length : Int) != 0) = true := bne_iff_ne.mpr c5
              have c5b2 : ¬ (x3_1 = []) := fun h_ => c5 (by rw [h_]; rfl)
              obtain ⟨ji11, hji11⟩ : ∃ j_ : Int, (wrap64 ((x3_1.length : Int) - 1)) = j_ := ⟨_, rfl⟩
              replace H : (if 0 ≤ (ji11) then (if (ji11) < (x3_1.length : Int) then (if (!(((rd_T23 x3_1 (ji11)).f0) == ((rd_T23 l0 x11_1).f0)) || (!(((rd_T23 x3_1 (ji11)).f1) == ((rd_T23 l0 x11_1).f1)))) = true then (if x3_1.length < 8796093022208 then (order_sorted.l0 k1 (x3_1 ++ [(⟨(rd_T23 l0 x11_1).f0, (rd_T23 l0 x11_1).f1⟩ : S23)]) l0 (l0.length : Int) (wrap64 (x11_1 + 1))) else (none)) else (order_sorted.l0 k1 x3_1 l0 (l0.length : Int) (wrap64 (x11_1 + 1)))) else (none)) else (none)) = some r := by first | (rw [hji11] at H; exact H) | (simp only [hji11] at H ⊢; exact H)
              have hji11w : (IntKind.i64.wrap ((x3_1.length : Int) - 1)) = ji11 := (i64_w _).trans hji11
              by_cases c12 : 0 ≤ (ji11)
              · rw [if_pos c12] at H
                have c12b0 : decide (0 ≤ (ji11)) = true := decide_eq_true c12
                clear c12
                by_cases c13 : (ji11) < (x3_1.length : Int)
                · rw [if_pos c13] at H
                  have c13b0 : decide ((ji11) < (x3_1.length : Int)) = true := decide_eq_true c13
                  clear c13
                  by_cases c14 : (!(((rd_T23 x3_1 (ji11)).f0) == ((rd_T23 l0 x11_1).f0)) || (!(((rd_T23 x3_1 (ji11)).f1) == ((rd_T23 l0 x11_1).f1)))) = true
                  · rw [if_pos c14] at H
                    have c14b0 : (!(((rd_T23 x3_1 (ji11)).f0) == ((rd_T23 l0 x11_1).f0)) || (!(((rd_T23 x3_1 (ji11)).f1) == ((rd_T23 l0 x11_1).f1)))) = true := c14
                    clear c14
                    by_cases c15 : x3_1.length < 8796093022208
                    · rw [if_pos c15] at H
                      have LMc15 := Aside0.mk c15
                      clear c15
                      obtain ⟨y120, hy120⟩ : ∃ y_ : List (S23), y_ = (x3_1 ++ [(⟨(rd_T23 l0 x11_1).f0, (rd_T23 l0 x11_1).f1⟩ : S23)]) := ⟨_, rfl⟩
                      replace H : (order_sorted.l0 k1 y120 l0 (l0.length : Int) (wrap64 (x11_1 + 1))) = some r := by first | (rw [hy120]; with_reducible exact H) | (have H2_ := (Option.bind_some _ _).symm.trans H; rw [hy120]; with_reducible exact H2_) | (have H2_ := (Option.bind_some _ _).symm.trans H; with_reducible exact H2_) | with_reducible exact H | (rw [hy120]; exact H) | exact H
                      have Ny120 := Aside0.mk hy120
                      clear hy120
                      have H' := Aside0.mk H
                      clear H
                      have p114 : 0 ≤ (x11_1 : Int) := of_decide_eq_true (by first | (with_reducible assumption) | assumption)
                      have q114 : x11_1 < (l0.length : Int) := of_decide_eq_true (by first | (with_reducible assumption) | assumption)
                      obtain ⟨ad114, e114, hx114_0, hx114_1⟩ := at_T23 HR0.out x11_1 p114 q114
                      cases e114
                      replace hx114_0 := (HB.out.cell (World.block_lt_of_cell? w _ hx114_0)).trans hx114_0
                      replace hx114_1 := (HB.out.cell (World.block_lt_of_cell? w _ hx114_1)).trans hx114_1
                      replace p114 := eq_true p114
                      replace q114 := eq_true q114
                      go_wp2_with (first | ((with_reducible refine gate_dst (N := 5) rfl ?_); refine box_event ?hg (N := 5) ?hd (cs := #[.int .i64 0, .int .i64 0]) (t := 23) ?hr ?_; (case hd => rfl); (case hg => rfl); (case hr => first | (go_simp; done) | (go_simp; rfl)); intro gb115 hg w16 hbox hb; have n0_ := Aside0.mk (Kd.R_below (Kd.R_elderB (by (with_reducible repeat (first | apply Kd.R_alloc | apply Kd.R_drewN | apply Kd.R_drew)); exact HO_3.out) gb115 (Nat.le_of_eq hg.symm)) hb); have n1_ := Aside0.mk (below_step (by repeat (first | (with_reducible first | exact HB.out | apply below_alloc | apply pw_below_drewN | apply below_drew1) | exact HB.out)) hb); have n2_ := Aside0.mk (hbox); have n3_ := Aside0.mk ((by rw [hg]; exact (below_size (by repeat (first | (with_reducible first | exact HB.out | apply below_alloc | apply pw_below_drewN | apply below_drew1) | exact HB.out))) : w.heap.size ≤ gb115)); have n4_ := Aside0.mk ((by rw [hg]; exact (below_size (by repeat (first | (with_reducible first | exact HB.out | apply below_alloc | apply pw_below_drewN | apply below_drew1) | exact HB.out))) : w.heap.size ≤ gb115)); clear HO_3; clear HB; have HO_3 := n0_; have HB := n1_; have BK115 := n2_; have GW115 := n3_; have GE115 := n4_; clear n0_ n1_ n2_ n3_ n4_; clear hb hbox hg; have hcz17_0 : w16.cell? ⟨gb115, 0, none⟩ = some (.int .i64 0) := (blk_cell BK115.out 0).trans rfl; have hcz17_1 : w16.cell? ⟨gb115, 1, none⟩ = some (.int .i64 0) := (blk_cell BK115.out 1).trans rfl; have hfz17_0 := blk_frozen BK115.out 0; have hfz17_1 := blk_frozen BK115.out 1; obtain ⟨Ao18, co18, eo18⟩ := Kd.R_slice HO_3.out; subst eo18; have p119 : 0 ≤ ((ji11) : Int) := of_decide_eq_true (by first | (with_reducible assumption) | assumption); have q119 : (ji11) < (x3_1.length : Int) := of_decide_eq_true (by first | (with_reducible assumption) | assumption); obtain ⟨ad119, e119, hx119_0, hx119_1⟩ := at_T23 (Kd.R_reads' HO_3.out).2.2 (ji11) p119 q119; cases e119; have hn119_0 : ad119.block ≠ gb115 := Kd.own_blk (by first | exact Kd.R_ne HO_3.out BK115.out (by decide) | exact Kd.R_away HO_3.out (fun _ hk => hk) | exact Kd.R_away HO_3.out (fun _ hk => hk.1) | exact Kd.R_away HO_3.out (fun _ hk => hk.2) | exact Kd.R_away HO_3.out (fun _ hk => hk.1.1) | exact Kd.R_away HO_3.out (fun _ hk => hk.1.2)); have hn119_1 : ad119.block ≠ gb115 := Kd.own_blk (by first | exact Kd.R_ne HO_3.out BK115.out (by decide) | exact Kd.R_away HO_3.out (fun _ hk => hk) | exact Kd.R_away HO_3.out (fun _ hk => hk.1) | exact Kd.R_away HO_3.out (fun _ hk => hk.2) | exact Kd.R_away HO_3.out (fun _ hk => hk.1.1) | exact Kd.R_away HO_3.out (fun _ hk => hk.1.2)); replace hx119_0 := (cell_far (p := ⟨gb115, 0, none⟩) (by first | (rw [add_block]; exact hn119_0) | (show (Addr.add _ _).block ≠ _; rw [add_block]; exact hn119_0) | exact hn119_0) (.int .i64 ((rd_T23 l0 x11_1).f0))).trans hx119_0; replace hx119_1 := (cell_far (p := ⟨gb115, 0, none⟩) (by first | (rw [add_block]; exact hn119_0) | (show (Addr.add _ _).block ≠ _; rw [add_block]; exact hn119_0) | exact hn119_0) (.int .i64 ((rd_T23 l0 x11_1).f0))).trans hx119_1; replace hx119_0 := (cell_far (p := ⟨gb115, 1, none⟩) (by first | (rw [add_block]; exact hn119_1) | (show (Addr.add _ _).block ≠ _; rw [add_block]; exact hn119_1) | exact hn119_1) (.int .i64 ((rd_T23 l0 x11_1).f1))).trans hx119_0; replace hx119_1 := (cell_far (p := ⟨gb115, 1, none⟩) (by first | (rw [add_block]; exact hn119_1) | (show (Addr.add _ _).block ≠ _; rw [add_block]; exact hn119_1) | exact hn119_1) (.int .i64 ((rd_T23 l0 x11_1).f1))).trans hx119_1; (try have hy119_0 := fun (n_ : Nat) => (show ((((w16.drewN n_).setCell ⟨gb115, 0, none⟩ (.int .i64 ((rd_T23 l0 x11_1).f0))).setCell ⟨gb115, 1, none⟩ (.int .i64 ((rd_T23 l0 x11_1).f1)))).cell? _ = some _ from hx119_0)); (try have hy119_1 := fun (n_ : Nat) => (show ((((w16.drewN n_).setCell ⟨gb115, 0, none⟩ (.int .i64 ((rd_T23 l0 x11_1).f0))).setCell ⟨gb115, 1, none⟩ (.int .i64 ((rd_T23 l0 x11_1).f1)))).cell? _ = some _ from hx119_1)); clear hn119_0; clear hn119_1; replace p119 := eq_true p119; replace q119 := eq_true q119) | ((with_reducible refine gate_builtin (b := .append) (xs := #[.tmp 28, .tmp 30]) rfl ?_); at_builtin; refine Kd.R_append k23 (w0 := w) w.heap.size rfl (.tmp 28) (.tmp 30) 36 23 (.agg #[(.int .i64 0), (.int .i64 0)]) 16 rfl Try.underlying36 info23 rfl (by decide) (by omega) (.slice (some ad119) x3_1.length co18) x3_1 (⟨(rd_T23 l0 x11_1).f0, (rd_T23 l0 x11_1).f1⟩ : S23) [.int .i64 ((rd_T23 l0 x11_1).f0), .int .i64 ((rd_T23 l0 x11_1).f1)] (fun k_ => k_ ≠ gb115) (fun _ => False) rfl (by first | (go_simp; done) | (go_simp; rfl)) ?aP (fun _ hk => hk.elim) ?aF ?aO ?aB ?aS ?aL ?_; (case aP => exact k23_mkM _ _ _ (⟨(rd_T23 l0 x11_1).f0, (rd_T23 l0 x11_1).f1⟩ : S23)); (case aB => exact (by repeat (first | (with_reducible first | exact HB.out | apply below_alloc | apply pw_below_drewN | apply below_drew1 | refine below_set ?_ GE115.out) | exact HB.out))); (case aF => exact (fun k_ hk => Kd.freshB (g := gb115) (o := .cells #[.int .i64 ((rd_T23 l0 x11_1).f0), .int .i64 ((rd_T23 l0 x11_1).f1)] 23 (0, 0)) (by (with_reducible repeat (first | refine blk_drewN ?_ _ | refine blk_drew ?_ | refine blk_alloc ?_ _)); refine blk_put (cs := #[.int .i64 ((rd_T23 l0 x11_1).f0), .int .i64 0]) ?_ 1 _ rfl; (with_reducible repeat (first | refine blk_drewN ?_ _ | refine blk_drew ?_ | refine blk_alloc ?_ _)); refine blk_put (cs := #[.int .i64 0, .int .i64 0]) ?_ 0 _ rfl; (with_reducible repeat (first | refine blk_drewN ?_ _ | refine blk_drew ?_ | refine blk_alloc ?_ _)); exact BK115.out) k_ hk)); (case aO => exact (by (with_reducible repeat (first | apply Kd.R_alloc | apply Kd.R_drewN | apply Kd.R_drew)); exact Kd.R_mono (Kd.R_far (p := ⟨gb115, 1, none⟩) (Kd.R_far (p := ⟨gb115, 0, none⟩) (Kd.R_mono HO_3.out (fun k_ hk => (⟨hk, hk.2⟩ : _ ∧ k_ ≠ gb115))) (fun _ hk => hk.2) (.int .i64 ((rd_T23 l0 x11_1).f0))) (fun _ hk => hk.2) (.int .i64 ((rd_T23 l0 x11_1).f1))) (fun _ hk => hk.1.2))); (case aS => exact (below_size (by repeat (first | (with_reducible first | exact HB.out | apply below_alloc | apply pw_below_drewN | apply below_drew1 | refine below_set ?_ GE115.out) | exact HB.out)))); (case aL => have := LMc15.out; omega); intro v121 w19 ho hb hg hat; rw [← Ny120.out] at ho; have n0_ := Aside0.mk (blk_grown (g := gb115) (o := .cells #[.int .i64 ((rd_T23 l0 x11_1).f0), .int .i64 ((rd_T23 l0 x11_1).f1)] 23 (0, 0)) (by (with_reducible repeat (first | refine blk_drewN ?_ _ | refine blk_drew ?_ | refine blk_alloc ?_ _)); refine blk_put (cs := #[.int .i64 ((rd_T23 l0 x11_1).f0), .int .i64 0]) ?_ 1 _ rfl; (with_reducible repeat (first | refine blk_drewN ?_ _ | refine blk_drew ?_ | refine blk_alloc ?_ _)); refine blk_put (cs := #[.int .i64 0, .int .i64 0]) ?_ 0 _ rfl; (with_reducible repeat (first | refine blk_drewN ?_ _ | refine blk_drew ?_ | refine blk_alloc ?_ _)); exact BK115.out) hg (Kd.R_away HO_3.out (fun _ hk => hk.2))); have n1_ := Aside0.mk (hb); have n2_ := Aside0.mk (ho); clear BK115; clear HB; clear HO_3; have BK115 := n0_; have HB := n1_; have HO122 := n2_; clear n0_ n1_ n2_; clear ho hb hg hat))
                      repeat (go_quiet (first | ((with_reducible refine gate_dst (N := 5) rfl ?_); refine box_event ?hg (N := 5) ?hd (cs := #[.int .i64 0, .int .i64 0]) (t := 23) ?hr ?_; (case hd => rfl); (case hg => rfl); (case hr => first | (go_simp; done) | (go_simp; rfl)); intro gb115 hg w16 hbox hb; have n0_ := Aside0.mk (Kd.R_below (Kd.R_elderB (by (with_reducible repeat (first | apply Kd.R_alloc | apply Kd.R_drewN | apply Kd.R_drew)); exact HO_3.out) gb115 (Nat.le_of_eq hg.symm)) hb); have n1_ := Aside0.mk (below_step (by repeat (first | (with_reducible first | exact HB.out | apply below_alloc | apply pw_below_drewN | apply below_drew1) | exact HB.out)) hb); have n2_ := Aside0.mk (hbox); have n3_ := Aside0.mk ((by rw [hg]; exact (below_size (by repeat (first | (with_reducible first | exact HB.out | apply below_alloc | apply pw_below_drewN | apply below_drew1) | exact HB.out))) : w.heap.size ≤ gb115)); have n4_ := Aside0.mk ((by rw [hg]; exact (below_size (by repeat (first | (with_reducible first | exact HB.out | apply below_alloc | apply pw_below_drewN | apply below_drew1) | exact HB.out))) : w.heap.size ≤ gb115)); clear HO_3; clear HB; have HO_3 := n0_; have HB := n1_; have BK115 := n2_; have GW115 := n3_; have GE115 := n4_; clear n0_ n1_ n2_ n3_ n4_; clear hb hbox hg; have hcz17_0 : w16.cell? ⟨gb115, 0, none⟩ = some (.int .i64 0) := (blk_cell BK115.out 0).trans rfl; have hcz17_1 : w16.cell? ⟨gb115, 1, none⟩ = some (.int .i64 0) := (blk_cell BK115.out 1).trans rfl; have hfz17_0 := blk_frozen BK115.out 0; have hfz17_1 := blk_frozen BK115.out 1; obtain ⟨Ao18, co18, eo18⟩ := Kd.R_slice HO_3.out; subst eo18; have p119 : 0 ≤ ((ji11) : Int) := of_decide_eq_true (by first | (with_reducible assumption) | assumption); have q119 : (ji11) < (x3_1.length : Int) := of_decide_eq_true (by first | (with_reducible assumption) | assumption); obtain ⟨ad119, e119, hx119_0, hx119_1⟩ := at_T23 (Kd.R_reads' HO_3.out).2.2 (ji11) p119 q119; cases e119; have hn119_0 : ad119.block ≠ gb115 := Kd.own_blk (by first | exact Kd.R_ne HO_3.out BK115.out (by decide) | exact Kd.R_away HO_3.out (fun _ hk => hk) | exact Kd.R_away HO_3.out (fun _ hk => hk.1) | exact Kd.R_away HO_3.out (fun _ hk => hk.2) | exact Kd.R_away HO_3.out (fun _ hk => hk.1.1) | exact Kd.R_away HO_3.out (fun _ hk => hk.1.2)); have hn119_1 : ad119.block ≠ gb115 := Kd.own_blk (by first | exact Kd.R_ne HO_3.out BK115.out (by decide) | exact Kd.R_away HO_3.out (fun _ hk => hk) | exact Kd.R_away HO_3.out (fun _ hk => hk.1) | exact Kd.R_away HO_3.out (fun _ hk => hk.2) | exact Kd.R_away HO_3.out (fun _ hk => hk.1.1) | exact Kd.R_away HO_3.out (fun _ hk => hk.1.2)); replace hx119_0 := (cell_far (p := ⟨gb115, 0, none⟩) (by first | (rw [add_block]; exact hn119_0) | (show (Addr.add _ _).block ≠ _; rw [add_block]; exact hn119_0) | exact hn119_0) (.int .i64 ((rd_T23 l0 x11_1).f0))).trans hx119_0; replace hx119_1 := (cell_far (p := ⟨gb115, 0, none⟩) (by first | (rw [add_block]; exact hn119_0) | (show (Addr.add _ _).block ≠ _; rw [add_block]; exact hn119_0) | exact hn119_0) (.int .i64 ((rd_T23 l0 x11_1).f0))).trans hx119_1; replace hx119_0 := (cell_far (p := ⟨gb115, 1, none⟩) (by first | (rw [add_block]; exact hn119_1) | (show (Addr.add _ _).block ≠ _; rw [add_block]; exact hn119_1) | exact hn119_1) (.int .i64 ((rd_T23 l0 x11_1).f1))).trans hx119_0; replace hx119_1 := (cell_far (p := ⟨gb115, 1, none⟩) (by first | (rw [add_block]; exact hn119_1) | (show (Addr.add _ _).block ≠ _; rw [add_block]; exact hn119_1) | exact hn119_1) (.int .i64 ((rd_T23 l0 x11_1).f1))).trans hx119_1; (try have hy119_0 := fun (n_ : Nat) => (show ((((w16.drewN n_).setCell ⟨gb115, 0, none⟩ (.int .i64 ((rd_T23 l0 x11_1).f0))).setCell ⟨gb115, 1, none⟩ (.int .i64 ((rd_T23 l0 x11_1).f1)))).cell? _ = some _ from hx119_0)); (try have hy119_1 := fun (n_ : Nat) => (show ((((w16.drewN n_).setCell ⟨gb115, 0, none⟩ (.int .i64 ((rd_T23 l0 x11_1).f0))).setCell ⟨gb115, 1, none⟩ (.int .i64 ((rd_T23 l0 x11_1).f1)))).cell? _ = some _ from hx119_1)); clear hn119_0; clear hn119_1; replace p119 := eq_true p119; replace q119 := eq_true q119) | ((with_reducible refine gate_builtin (b := .append) (xs := #[.tmp 28, .tmp 30]) rfl ?_); at_builtin; refine Kd.R_append k23 (w0 := w) w.heap.size rfl (.tmp 28) (.tmp 30) 36 23 (.agg #[(.int .i64 0), (.int .i64 0)]) 16 rfl Try.underlying36 info23 rfl (by decide) (by omega) (.slice (some ad119) x3_1.length co18) x3_1 (⟨(rd_T23 l0 x11_1).f0, (rd_T23 l0 x11_1).f1⟩ : S23) [.int .i64 ((rd_T23 l0 x11_1).f0), .int .i64 ((rd_T23 l0 x11_1).f1)] (fun k_ => k_ ≠ gb115) (fun _ => False) rfl (by first | (go_simp; done) | (go_simp; rfl)) ?aP (fun _ hk => hk.elim) ?aF ?aO ?aB ?aS ?aL ?_; (case aP => exact k23_mkM _ _ _ (⟨(rd_T23 l0 x11_1).f0, (rd_T23 l0 x11_1).f1⟩ : S23)); (case aB => exact (by repeat (first | (with_reducible first | exact HB.out | apply below_alloc | apply pw_below_drewN | apply below_drew1 | refine below_set ?_ GE115.out) | exact HB.out))); (case aF => exact (fun k_ hk => Kd.freshB (g := gb115) (o := .cells #[.int .i64 ((rd_T23 l0 x11_1).f0), .int .i64 ((rd_T23 l0 x11_1).f1)] 23 (0, 0)) (by (with_reducible repeat (first | refine blk_drewN ?_ _ | refine blk_drew ?_ | refine blk_alloc ?_ _)); refine blk_put (cs := #[.int .i64 ((rd_T23 l0 x11_1).f0), .int .i64 0]) ?_ 1 _ rfl; (with_reducible repeat (first | refine blk_drewN ?_ _ | refine blk_drew ?_ | refine blk_alloc ?_ _)); refine blk_put (cs := #[.int .i64 0, .int .i64 0]) ?_ 0 _ rfl; (with_reducible repeat (first | refine blk_drewN ?_ _ | refine blk_drew ?_ | refine blk_alloc ?_ _)); exact BK115.out) k_ hk)); (case aO => exact (by (with_reducible repeat (first | apply Kd.R_alloc | apply Kd.R_drewN | apply Kd.R_drew)); exact Kd.R_mono (Kd.R_far (p := ⟨gb115, 1, none⟩) (Kd.R_far (p := ⟨gb115, 0, none⟩) (Kd.R_mono HO_3.out (fun k_ hk => (⟨hk, hk.2⟩ : _ ∧ k_ ≠ gb115))) (fun _ hk => hk.2) (.int .i64 ((rd_T23 l0 x11_1).f0))) (fun _ hk => hk.2) (.int .i64 ((rd_T23 l0 x11_1).f1))) (fun _ hk => hk.1.2))); (case aS => exact (below_size (by repeat (first | (with_reducible first | exact HB.out | apply below_alloc | apply pw_below_drewN | apply below_drew1 | refine below_set ?_ GE115.out) | exact HB.out)))); (case aL => have := LMc15.out; omega); intro v121 w19 ho hb hg hat; rw [← Ny120.out] at ho; have n0_ := Aside0.mk (blk_grown (g := gb115) (o := .cells #[.int .i64 ((rd_T23 l0 x11_1).f0), .int .i64 ((rd_T23 l0 x11_1).f1)] 23 (0, 0)) (by (with_reducible repeat (first | refine blk_drewN ?_ _ | refine blk_drew ?_ | refine blk_alloc ?_ _)); refine blk_put (cs := #[.int .i64 ((rd_T23 l0 x11_1).f0), .int .i64 0]) ?_ 1 _ rfl; (with_reducible repeat (first | refine blk_drewN ?_ _ | refine blk_drew ?_ | refine blk_alloc ?_ _)); refine blk_put (cs := #[.int .i64 0, .int .i64 0]) ?_ 0 _ rfl; (with_reducible repeat (first | refine blk_drewN ?_ _ | refine blk_drew ?_ | refine blk_alloc ?_ _)); exact BK115.out) hg (Kd.R_away HO_3.out (fun _ hk => hk.2))); have n1_ := Aside0.mk (hb); have n2_ := Aside0.mk (ho); clear BK115; clear HB; clear HO_3; have BK115 := n0_; have HB := n1_; have HO122 := n2_; clear n0_ n1_ n2_; clear ho hb hg hat)); try go_wp2_with (first | ((with_reducible refine gate_dst (N := 5) rfl ?_); refine box_event ?hg (N := 5) ?hd (cs := #[.int .i64 0, .int .i64 0]) (t := 23) ?hr ?_; (case hd => rfl); (case hg => rfl); (case hr => first | (go_simp; done) | (go_simp; rfl)); intro gb115 hg w16 hbox hb; have n0_ := Aside0.mk (Kd.R_below (Kd.R_elderB (by (with_reducible repeat (first | apply Kd.R_alloc | apply Kd.R_drewN | apply Kd.R_drew)); exact HO_3.out) gb115 (Nat.le_of_eq hg.symm)) hb); have n1_ := Aside0.mk (below_step (by repeat (first | (with_reducible first | exact HB.out | apply below_alloc | apply pw_below_drewN | apply below_drew1) | exact HB.out)) hb); have n2_ := Aside0.mk (hbox); have n3_ := Aside0.mk ((by rw [hg]; exact (below_size (by repeat (first | (with_reducible first | exact HB.out | apply below_alloc | apply pw_below_drewN | apply below_drew1) | exact HB.out))) : w.heap.size ≤ gb115)); have n4_ := Aside0.mk ((by rw [hg]; exact (below_size (by repeat (first | (with_reducible first | exact HB.out | apply below_alloc | apply pw_below_drewN | apply below_drew1) | exact HB.out))) : w.heap.size ≤ gb115)); clear HO_3; clear HB; have HO_3 := n0_; have HB := n1_; have BK115 := n2_; have GW115 := n3_; have GE115 := n4_; clear n0_ n1_ n2_ n3_ n4_; clear hb hbox hg; have hcz17_0 : w16.cell? ⟨gb115, 0, none⟩ = some (.int .i64 0) := (blk_cell BK115.out 0).trans rfl; have hcz17_1 : w16.cell? ⟨gb115, 1, none⟩ = some (.int .i64 0) := (blk_cell BK115.out 1).trans rfl; have hfz17_0 := blk_frozen BK115.out 0; have hfz17_1 := blk_frozen BK115.out 1; obtain ⟨Ao18, co18, eo18⟩ := Kd.R_slice HO_3.out; subst eo18; have p119 : 0 ≤ ((ji11) : Int) := of_decide_eq_true (by first | (with_reducible assumption) | assumption); have q119 : (ji11) < (x3_1.length : Int) := of_decide_eq_true (by first | (with_reducible assumption) | assumption); obtain ⟨ad119, e119, hx119_0, hx119_1⟩ := at_T23 (Kd.R_reads' HO_3.out).2.2 (ji11) p119 q119; cases e119; have hn119_0 : ad119.block ≠ gb115 := Kd.own_blk (by first | exact Kd.R_ne HO_3.out BK115.out (by decide) | exact Kd.R_away HO_3.out (fun _ hk => hk) | exact Kd.R_away HO_3.out (fun _ hk => hk.1) | exact Kd.R_away HO_3.out (fun _ hk => hk.2) | exact Kd.R_away HO_3.out (fun _ hk => hk.1.1) | exact Kd.R_away HO_3.out (fun _ hk => hk.1.2)); have hn119_1 : ad119.block ≠ gb115 := Kd.own_blk (by first | exact Kd.R_ne HO_3.out BK115.out (by decide) | exact Kd.R_away HO_3.out (fun _ hk => hk) | exact Kd.R_away HO_3.out (fun _ hk => hk.1) | exact Kd.R_away HO_3.out (fun _ hk => hk.2) | exact Kd.R_away HO_3.out (fun _ hk => hk.1.1) | exact Kd.R_away HO_3.out (fun _ hk => hk.1.2)); replace hx119_0 := (cell_far (p := ⟨gb115, 0, none⟩) (by first | (rw [add_block]; exact hn119_0) | (show (Addr.add _ _).block ≠ _; rw [add_block]; exact hn119_0) | exact hn119_0) (.int .i64 ((rd_T23 l0 x11_1).f0))).trans hx119_0; replace hx119_1 := (cell_far (p := ⟨gb115, 0, none⟩) (by first | (rw [add_block]; exact hn119_0) | (show (Addr.add _ _).block ≠ _; rw [add_block]; exact hn119_0) | exact hn119_0) (.int .i64 ((rd_T23 l0 x11_1).f0))).trans hx119_1; replace hx119_0 := (cell_far (p := ⟨gb115, 1, none⟩) (by first | (rw [add_block]; exact hn119_1) | (show (Addr.add _ _).block ≠ _; rw [add_block]; exact hn119_1) | exact hn119_1) (.int .i64 ((rd_T23 l0 x11_1).f1))).trans hx119_0; replace hx119_1 := (cell_far (p := ⟨gb115, 1, none⟩) (by first | (rw [add_block]; exact hn119_1) | (show (Addr.add _ _).block ≠ _; rw [add_block]; exact hn119_1) | exact hn119_1) (.int .i64 ((rd_T23 l0 x11_1).f1))).trans hx119_1; (try have hy119_0 := fun (n_ : Nat) => (show ((((w16.drewN n_).setCell ⟨gb115, 0, none⟩ (.int .i64 ((rd_T23 l0 x11_1).f0))).setCell ⟨gb115, 1, none⟩ (.int .i64 ((rd_T23 l0 x11_1).f1)))).cell? _ = some _ from hx119_0)); (try have hy119_1 := fun (n_ : Nat) => (show ((((w16.drewN n_).setCell ⟨gb115, 0, none⟩ (.int .i64 ((rd_T23 l0 x11_1).f0))).setCell ⟨gb115, 1, none⟩ (.int .i64 ((rd_T23 l0 x11_1).f1)))).cell? _ = some _ from hx119_1)); clear hn119_0; clear hn119_1; replace p119 := eq_true p119; replace q119 := eq_true q119) | ((with_reducible refine gate_builtin (b := .append) (xs := #[.tmp 28, .tmp 30]) rfl ?_); at_builtin; refine Kd.R_append k23 (w0 := w) w.heap.size rfl (.tmp 28) (.tmp 30) 36 23 (.agg #[(.int .i64 0), (.int .i64 0)]) 16 rfl Try.underlying36 info23 rfl (by decide) (by omega) (.slice (some ad119) x3_1.length co18) x3_1 (⟨(rd_T23 l0 x11_1).f0, (rd_T23 l0 x11_1).f1⟩ : S23) [.int .i64 ((rd_T23 l0 x11_1).f0), .int .i64 ((rd_T23 l0 x11_1).f1)] (fun k_ => k_ ≠ gb115) (fun _ => False) rfl (by first | (go_simp; done) | (go_simp; rfl)) ?aP (fun _ hk => hk.elim) ?aF ?aO ?aB ?aS ?aL ?_; (case aP => exact k23_mkM _ _ _ (⟨(rd_T23 l0 x11_1).f0, (rd_T23 l0 x11_1).f1⟩ : S23)); (case aB => exact (by repeat (first | (with_reducible first | exact HB.out | apply below_alloc | apply pw_below_drewN | apply below_drew1 | refine below_set ?_ GE115.out) | exact HB.out))); (case aF => exact (fun k_ hk => Kd.freshB (g := gb115) (o := .cells #[.int .i64 ((rd_T23 l0 x11_1).f0), .int .i64 ((rd_T23 l0 x11_1).f1)] 23 (0, 0)) (by (with_reducible repeat (first | refine blk_drewN ?_ _ | refine blk_drew ?_ | refine blk_alloc ?_ _)); refine blk_put (cs := #[.int .i64 ((rd_T23 l0 x11_1).f0), .int .i64 0]) ?_ 1 _ rfl; (with_reducible repeat (first | refine blk_drewN ?_ _ | refine blk_drew ?_ | refine blk_alloc ?_ _)); refine blk_put (cs := #[.int .i64 0, .int .i64 0]) ?_ 0 _ rfl; (with_reducible repeat (first | refine blk_drewN ?_ _ | refine blk_drew ?_ | refine blk_alloc ?_ _)); exact BK115.out) k_ hk)); (case aO => exact (by (with_reducible repeat (first | apply Kd.R_alloc | apply Kd.R_drewN | apply Kd.R_drew)); exact Kd.R_mono (Kd.R_far (p := ⟨gb115, 1, none⟩) (Kd.R_far (p := ⟨gb115, 0, none⟩) (Kd.R_mono HO_3.out (fun k_ hk => (⟨hk, hk.2⟩ : _ ∧ k_ ≠ gb115))) (fun _ hk => hk.2) (.int .i64 ((rd_T23 l0 x11_1).f0))) (fun _ hk => hk.2) (.int .i64 ((rd_T23 l0 x11_1).f1))) (fun _ hk => hk.1.2))); (case aS => exact (below_size (by repeat (first | (with_reducible first | exact HB.out | apply below_alloc | apply pw_below_drewN | apply below_drew1 | refine below_set ?_ GE115.out) | exact HB.out)))); (case aL => have := LMc15.out; omega); intro v121 w19 ho hb hg hat; rw [← Ny120.out] at ho; have n0_ := Aside0.mk (blk_grown (g := gb115) (o := .cells #[.int .i64 ((rd_T23 l0 x11_1).f0), .int .i64 ((rd_T23 l0 x11_1).f1)] 23 (0, 0)) (by (with_reducible repeat (first | refine blk_drewN ?_ _ | refine blk_drew ?_ | refine blk_alloc ?_ _)); refine blk_put (cs := #[.int .i64 ((rd_T23 l0 x11_1).f0), .int .i64 0]) ?_ 1 _ rfl; (with_reducible repeat (first | refine blk_drewN ?_ _ | refine blk_drew ?_ | refine blk_alloc ?_ _)); refine blk_put (cs := #[.int .i64 0, .int .i64 0]) ?_ 0 _ rfl; (with_reducible repeat (first | refine blk_drewN ?_ _ | refine blk_drew ?_ | refine blk_alloc ?_ _)); exact BK115.out) hg (Kd.R_away HO_3.out (fun _ hk => hk.2))); have n1_ := Aside0.mk (hb); have n2_ := Aside0.mk (ho); clear BK115; clear HB; clear HO_3; have BK115 := n0_; have HB := n1_; have HO122 := n2_; clear n0_ n1_ n2_; clear ho hb hg hat)))
                      go_roundg k1
                      case measure => have := HK1.out; omega
                      case rel => exact ⟨(y120), (wrap64 (x11_1 + 1)), (by first | rfl | (simp; done) | (simp [*]; done)), H', ⟨by have := HK1.out; omega⟩, ⟨by (with_reducible repeat (first | apply Kd.R_alloc | apply Kd.R_drewN | apply Kd.R_drew)); exact Kd.R_mono HO122.out (fun _ hk => trivial)⟩, ⟨by repeat (first | (with_reducible first | exact HB.out | apply below_alloc | apply pw_below_drewN | apply below_drew1 | refine below_set ?_ GE115.out) | exact HB.out)⟩⟩
                    · rw [if_neg c15] at H
                      exact absurd H (by simp)
                  · rw [if_neg c14] at H
                    have c14b0 : (!(((rd_T23 x3_1 (ji11)).f0) == ((rd_T23 l0 x11_1).f0)) || (!(((rd_T23 x3_1 (ji11)).f1) == ((rd_T23 l0 x11_1).f1)))) = false := by simpa using c14
                    clear c14
                    have H' := Aside0.mk H
                    clear H
                    have p114 : 0 ≤ (x11_1 : Int) := of_decide_eq_true (by first | (with_reducible assumption) | assumption)
                    have q114 : x11_1 < (l0.length : Int) := of_decide_eq_true (by first | (with_reducible assumption) | assumption)
                    obtain ⟨ad114, e114, hx114_0, hx114_1⟩ := at_T23 HR0.out x11_1 p114 q114
                    cases e114
                    replace hx114_0 := (HB.out.cell (World.block_lt_of_cell? w _ hx114_0)).trans hx114_0
                    replace hx114_1 := (HB.out.cell (World.block_lt_of_cell? w _ hx114_1)).trans hx114_1
                    replace p114 := eq_true p114
                    replace q114 := eq_true q114
                    go_wp2_with (first | ((with_reducible refine gate_dst (N := 5) rfl ?_); refine box_event ?hg (N := 5) ?hd (cs := #[.int .i64 0, .int .i64 0]) (t := 23) ?hr ?_; (case hd => rfl); (case hg => rfl); (case hr => first | (go_simp; done) | (go_simp; rfl)); intro gb115 hg w20 hbox hb; have n0_ := Aside0.mk (Kd.R_below (Kd.R_elderB (by (with_reducible repeat (first | apply Kd.R_alloc | apply Kd.R_drewN | apply Kd.R_drew)); exact HO_3.out) gb115 (Nat.le_of_eq hg.symm)) hb); have n1_ := Aside0.mk (below_step (by repeat (first | (with_reducible first | exact HB.out | apply below_alloc | apply pw_below_drewN | apply below_drew1) | exact HB.out)) hb); have n2_ := Aside0.mk (hbox); have n3_ := Aside0.mk ((by rw [hg]; exact (below_size (by repeat (first | (with_reducible first | exact HB.out | apply below_alloc | apply pw_below_drewN | apply below_drew1) | exact HB.out))) : w.heap.size ≤ gb115)); have n4_ := Aside0.mk ((by rw [hg]; exact (below_size (by repeat (first | (with_reducible first | exact HB.out | apply below_alloc | apply pw_below_drewN | apply below_drew1) | exact HB.out))) : w.heap.size ≤ gb115)); clear HO_3; clear HB; have HO_3 := n0_; have HB := n1_; have BK115 := n2_; have GW115 := n3_; have GE115 := n4_; clear n0_ n1_ n2_ n3_ n4_; clear hb hbox hg; have hcz21_0 : w20.cell? ⟨gb115, 0, none⟩ = some (.int .i64 0) := (blk_cell BK115.out 0).trans rfl; have hcz21_1 : w20.cell? ⟨gb115, 1, none⟩ = some (.int .i64 0) := (blk_cell BK115.out 1).trans rfl; have hfz21_0 := blk_frozen BK115.out 0; have hfz21_1 := blk_frozen BK115.out 1; obtain ⟨Ao22, co22, eo22⟩ := Kd.R_slice HO_3.out; subst eo22; have p119 : 0 ≤ ((ji11) : Int) := of_decide_eq_true (by first | (with_reducible assumption) | assumption); have q119 : (ji11) < (x3_1.length : Int) := of_decide_eq_true (by first | (with_reducible assumption) | assumption); obtain ⟨ad119, e119, hx119_0, hx119_1⟩ := at_T23 (Kd.R_reads' HO_3.out).2.2 (ji11) p119 q119; cases e119; have hn119_0 : ad119.block ≠ gb115 := Kd.own_blk (by first | exact Kd.R_ne HO_3.out BK115.out (by decide) | exact Kd.R_away HO_3.out (fun _ hk => hk) | exact Kd.R_away HO_3.out (fun _ hk => hk.1) | exact Kd.R_away HO_3.out (fun _ hk => hk.2) | exact Kd.R_away HO_3.out (fun _ hk => hk.1.1) | exact Kd.R_away HO_3.out (fun _ hk => hk.1.2)); have hn119_1 : ad119.block ≠ gb115 := Kd.own_blk (by first | exact Kd.R_ne HO_3.out BK115.out (by decide) | exact Kd.R_away HO_3.out (fun _ hk => hk) | exact Kd.R_away HO_3.out (fun _ hk => hk.1) | exact Kd.R_away HO_3.out (fun _ hk => hk.2) | exact Kd.R_away HO_3.out (fun _ hk => hk.1.1) | exact Kd.R_away HO_3.out (fun _ hk => hk.1.2)); replace hx119_0 := (cell_far (p := ⟨gb115, 0, none⟩) (by first | (rw [add_block]; exact hn119_0) | (show (Addr.add _ _).block ≠ _; rw [add_block]; exact hn119_0) | exact hn119_0) (.int .i64 ((rd_T23 l0 x11_1).f0))).trans hx119_0; replace hx119_1 := (cell_far (p := ⟨gb115, 0, none⟩) (by first | (rw [add_block]; exact hn119_0) | (show (Addr.add _ _).block ≠ _; rw [add_block]; exact hn119_0) | exact hn119_0) (.int .i64 ((rd_T23 l0 x11_1).f0))).trans hx119_1; replace hx119_0 := (cell_far (p := ⟨gb115, 1, none⟩) (by first | (rw [add_block]; exact hn119_1) | (show (Addr.add _ _).block ≠ _; rw [add_block]; exact hn119_1) | exact hn119_1) (.int .i64 ((rd_T23 l0 x11_1).f1))).trans hx119_0; replace hx119_1 := (cell_far (p := ⟨gb115, 1, none⟩) (by first | (rw [add_block]; exact hn119_1) | (show (Addr.add _ _).block ≠ _; rw [add_block]; exact hn119_1) | exact hn119_1) (.int .i64 ((rd_T23 l0 x11_1).f1))).trans hx119_1; (try have hy119_0 := fun (n_ : Nat) => (show ((((w20.drewN n_).setCell ⟨gb115, 0, none⟩ (.int .i64 ((rd_T23 l0 x11_1).f0))).setCell ⟨gb115, 1, none⟩ (.int .i64 ((rd_T23 l0 x11_1).f1)))).cell? _ = some _ from hx119_0)); (try have hy119_1 := fun (n_ : Nat) => (show ((((w20.drewN n_).setCell ⟨gb115, 0, none⟩ (.int .i64 ((rd_T23 l0 x11_1).f0))).setCell ⟨gb115, 1, none⟩ (.int .i64 ((rd_T23 l0 x11_1).f1)))).cell? _ = some _ from hx119_1)); clear hn119_0; clear hn119_1; replace p119 := eq_true p119; replace q119 := eq_true q119))
                    repeat (go_quiet (first | ((with_reducible refine gate_dst (N := 5) rfl ?_); refine box_event ?hg (N := 5) ?hd (cs := #[.int .i64 0, .int .i64 0]) (t := 23) ?hr ?_; (case hd => rfl); (case hg => rfl); (case hr => first | (go_simp; done) | (go_simp; rfl)); intro gb115 hg w20 hbox hb; have n0_ := Aside0.mk (Kd.R_below (Kd.R_elderB (by (with_reducible repeat (first | apply Kd.R_alloc | apply Kd.R_drewN | apply Kd.R_drew)); exact HO_3.out) gb115 (Nat.le_of_eq hg.symm)) hb); have n1_ := Aside0.mk (below_step (by repeat (first | (with_reducible first | exact HB.out | apply below_alloc | apply pw_below_drewN | apply below_drew1) | exact HB.out)) hb); have n2_ := Aside0.mk (hbox); have n3_ := Aside0.mk ((by rw [hg]; exact (below_size (by repeat (first | (with_reducible first | exact HB.out | apply below_alloc | apply pw_below_drewN | apply below_drew1) | exact HB.out))) : w.heap.size ≤ gb115)); have n4_ := Aside0.mk ((by rw [hg]; exact (below_size (by repeat (first | (with_reducible first | exact HB.out | apply below_alloc | apply pw_below_drewN | apply below_drew1) | exact HB.out))) : w.heap.size ≤ gb115)); clear HO_3; clear HB; have HO_3 := n0_; have HB := n1_; have BK115 := n2_; have GW115 := n3_; have GE115 := n4_; clear n0_ n1_ n2_ n3_ n4_; clear hb hbox hg; have hcz21_0 : w20.cell? ⟨gb115, 0, none⟩ = some (.int .i64 0) := (blk_cell BK115.out 0).trans rfl; have hcz21_1 : w20.cell? ⟨gb115, 1, none⟩ = some (.int .i64 0) := (blk_cell BK115.out 1).trans rfl; have hfz21_0 := blk_frozen BK115.out 0; have hfz21_1 := blk_frozen BK115.out 1; obtain ⟨Ao22, co22, eo22⟩ := Kd.R_slice HO_3.out; subst eo22; have p119 : 0 ≤ ((ji11) : Int) := of_decide_eq_true (by first | (with_reducible assumption) | assumption); have q119 : (ji11) < (x3_1.length : Int) := of_decide_eq_true (by first | (with_reducible assumption) | assumption); obtain ⟨ad119, e119, hx119_0, hx119_1⟩ := at_T23 (Kd.R_reads' HO_3.out).2.2 (ji11) p119 q119; cases e119; have hn119_0 : ad119.block ≠ gb115 := Kd.own_blk (by first | exact Kd.R_ne HO_3.out BK115.out (by decide) | exact Kd.R_away HO_3.out (fun _ hk => hk) | exact Kd.R_away HO_3.out (fun _ hk => hk.1) | exact Kd.R_away HO_3.out (fun _ hk => hk.2) | exact Kd.R_away HO_3.out (fun _ hk => hk.1.1) | exact Kd.R_away HO_3.out (fun _ hk => hk.1.2)); have hn119_1 : ad119.block ≠ gb115 := Kd.own_blk (by first | exact Kd.R_ne HO_3.out BK115.out (by decide) | exact Kd.R_away HO_3.out (fun _ hk => hk) | exact Kd.R_away HO_3.out (fun _ hk => hk.1) | exact Kd.R_away HO_3.out (fun _ hk => hk.2) | exact Kd.R_away HO_3.out (fun _ hk => hk.1.1) | exact Kd.R_away HO_3.out (fun _ hk => hk.1.2)); replace hx119_0 := (cell_far (p := ⟨gb115, 0, none⟩) (by first | (rw [add_block]; exact hn119_0) | (show (Addr.add _ _).block ≠ _; rw [add_block]; exact hn119_0) | exact hn119_0) (.int .i64 ((rd_T23 l0 x11_1).f0))).trans hx119_0; replace hx119_1 := (cell_far (p := ⟨gb115, 0, none⟩) (by first | (rw [add_block]; exact hn119_0) | (show (Addr.add _ _).block ≠ _; rw [add_block]; exact hn119_0) | exact hn119_0) (.int .i64 ((rd_T23 l0 x11_1).f0))).trans hx119_1; replace hx119_0 := (cell_far (p := ⟨gb115, 1, none⟩) (by first | (rw [add_block]; exact hn119_1) | (show (Addr.add _ _).block ≠ _; rw [add_block]; exact hn119_1) | exact hn119_1) (.int .i64 ((rd_T23 l0 x11_1).f1))).trans hx119_0; replace hx119_1 := (cell_far (p := ⟨gb115, 1, none⟩) (by first | (rw [add_block]; exact hn119_1) | (show (Addr.add _ _).block ≠ _; rw [add_block]; exact hn119_1) | exact hn119_1) (.int .i64 ((rd_T23 l0 x11_1).f1))).trans hx119_1; (try have hy119_0 := fun (n_ : Nat) => (show ((((w20.drewN n_).setCell ⟨gb115, 0, none⟩ (.int .i64 ((rd_T23 l0 x11_1).f0))).setCell ⟨gb115, 1, none⟩ (.int .i64 ((rd_T23 l0 x11_1).f1)))).cell? _ = some _ from hx119_0)); (try have hy119_1 := fun (n_ : Nat) => (show ((((w20.drewN n_).setCell ⟨gb115, 0, none⟩ (.int .i64 ((rd_T23 l0 x11_1).f0))).setCell ⟨gb115, 1, none⟩ (.int .i64 ((rd_T23 l0 x11_1).f1)))).cell? _ = some _ from hx119_1)); clear hn119_0; clear hn119_1; replace p119 := eq_true p119; replace q119 := eq_true q119)); try go_wp2_with (first | ((with_reducible refine gate_dst (N := 5) rfl ?_); refine box_event ?hg (N := 5) ?hd (cs := #[.int .i64 0, .int .i64 0]) (t := 23) ?hr ?_; (case hd => rfl); (case hg => rfl); (case hr => first | (go_simp; done) | (go_simp; rfl)); intro gb115 hg w20 hbox hb; have n0_ := Aside0.mk (Kd.R_below (Kd.R_elderB (by (with_reducible repeat (first | apply Kd.R_alloc | apply Kd.R_drewN | apply Kd.R_drew)); exact HO_3.out) gb115 (Nat.le_of_eq hg.symm)) hb); have n1_ := Aside0.mk (below_step (by repeat (first | (with_reducible first | exact HB.out | apply below_alloc | apply pw_below_drewN | apply below_drew1) | exact HB.out)) hb); have n2_ := Aside0.mk (hbox); have n3_ := Aside0.mk ((by rw [hg]; exact (below_size (by repeat (first | (with_reducible first | exact HB.out | apply below_alloc | apply pw_below_drewN | apply below_drew1) | exact HB.out))) : w.heap.size ≤ gb115)); have n4_ := Aside0.mk ((by rw [hg]; exact (below_size (by repeat (first | (with_reducible first | exact HB.out | apply below_alloc | apply pw_below_drewN | apply below_drew1) | exact HB.out))) : w.heap.size ≤ gb115)); clear HO_3; clear HB; have HO_3 := n0_; have HB := n1_; have BK115 := n2_; have GW115 := n3_; have GE115 := n4_; clear n0_ n1_ n2_ n3_ n4_; clear hb hbox hg; have hcz21_0 : w20.cell? ⟨gb115, 0, none⟩ = some (.int .i64 0) := (blk_cell BK115.out 0).trans rfl; have hcz21_1 : w20.cell? ⟨gb115, 1, none⟩ = some (.int .i64 0) := (blk_cell BK115.out 1).trans rfl; have hfz21_0 := blk_frozen BK115.out 0; have hfz21_1 := blk_frozen BK115.out 1; obtain ⟨Ao22, co22, eo22⟩ := Kd.R_slice HO_3.out; subst eo22; have p119 : 0 ≤ ((ji11) : Int) := of_decide_eq_true (by first | (with_reducible assumption) | assumption); have q119 : (ji11) < (x3_1.length : Int) := of_decide_eq_true (by first | (with_reducible assumption) | assumption); obtain ⟨ad119, e119, hx119_0, hx119_1⟩ := at_T23 (Kd.R_reads' HO_3.out).2.2 (ji11) p119 q119; cases e119; have hn119_0 : ad119.block ≠ gb115 := Kd.own_blk (by first | exact Kd.R_ne HO_3.out BK115.out (by decide) | exact Kd.R_away HO_3.out (fun _ hk => hk) | exact Kd.R_away HO_3.out (fun _ hk => hk.1) | exact Kd.R_away HO_3.out (fun _ hk => hk.2) | exact Kd.R_away HO_3.out (fun _ hk => hk.1.1) | exact Kd.R_away HO_3.out (fun _ hk => hk.1.2)); have hn119_1 : ad119.block ≠ gb115 := Kd.own_blk (by first | exact Kd.R_ne HO_3.out BK115.out (by decide) | exact Kd.R_away HO_3.out (fun _ hk => hk) | exact Kd.R_away HO_3.out (fun _ hk => hk.1) | exact Kd.R_away HO_3.out (fun _ hk => hk.2) | exact Kd.R_away HO_3.out (fun _ hk => hk.1.1) | exact Kd.R_away HO_3.out (fun _ hk => hk.1.2)); replace hx119_0 := (cell_far (p := ⟨gb115, 0, none⟩) (by first | (rw [add_block]; exact hn119_0) | (show (Addr.add _ _).block ≠ _; rw [add_block]; exact hn119_0) | exact hn119_0) (.int .i64 ((rd_T23 l0 x11_1).f0))).trans hx119_0; replace hx119_1 := (cell_far (p := ⟨gb115, 0, none⟩) (by first | (rw [add_block]; exact hn119_0) | (show (Addr.add _ _).block ≠ _; rw [add_block]; exact hn119_0) | exact hn119_0) (.int .i64 ((rd_T23 l0 x11_1).f0))).trans hx119_1; replace hx119_0 := (cell_far (p := ⟨gb115, 1, none⟩) (by first | (rw [add_block]; exact hn119_1) | (show (Addr.add _ _).block ≠ _; rw [add_block]; exact hn119_1) | exact hn119_1) (.int .i64 ((rd_T23 l0 x11_1).f1))).trans hx119_0; replace hx119_1 := (cell_far (p := ⟨gb115, 1, none⟩) (by first | (rw [add_block]; exact hn119_1) | (show (Addr.add _ _).block ≠ _; rw [add_block]; exact hn119_1) | exact hn119_1) (.int .i64 ((rd_T23 l0 x11_1).f1))).trans hx119_1; (try have hy119_0 := fun (n_ : Nat) => (show ((((w20.drewN n_).setCell ⟨gb115, 0, none⟩ (.int .i64 ((rd_T23 l0 x11_1).f0))).setCell ⟨gb115, 1, none⟩ (.int .i64 ((rd_T23 l0 x11_1).f1)))).cell? _ = some _ from hx119_0)); (try have hy119_1 := fun (n_ : Nat) => (show ((((w20.drewN n_).setCell ⟨gb115, 0, none⟩ (.int .i64 ((rd_T23 l0 x11_1).f0))).setCell ⟨gb115, 1, none⟩ (.int .i64 ((rd_T23 l0 x11_1).f1)))).cell? _ = some _ from hx119_1)); clear hn119_0; clear hn119_1; replace p119 := eq_true p119; replace q119 := eq_true q119)))
                    go_roundg k1
                    case measure => have := HK1.out; omega
                    case rel => exact ⟨(x3_1), (wrap64 (x11_1 + 1)), (by first | rfl | (simp; done) | (simp [*]; done)), H', ⟨by have := HK1.out; omega⟩, ⟨by (with_reducible repeat (first | apply Kd.R_alloc | apply Kd.R_drewN | apply Kd.R_drew)); exact Kd.R_mono (Kd.R_far (p := ⟨gb115, 1, none⟩) (Kd.R_far (p := ⟨gb115, 0, none⟩) (Kd.R_mono HO_3.out (fun k_ hk => (⟨hk, hk.2⟩ : _ ∧ k_ ≠ gb115))) (fun _ hk => hk.2) (.int .i64 ((rd_T23 l0 x11_1).f0))) (fun _ hk => hk.2) (.int .i64 ((rd_T23 l0 x11_1).f1))) (fun _ hk => trivial)⟩, ⟨by repeat (first | (with_reducible first | exact HB.out | apply below_alloc | apply pw_below_drewN | apply below_drew1 | refine below_set ?_ GE115.out) | exact HB.out)⟩⟩
                · rw [if_neg c13] at H
                  exact absurd H (by simp)
              · rw [if_neg c12] at H
                exact absurd H (by simp)
          · rw [if_neg c4] at H
            exact absurd H (by simp)
        · rw [if_neg c3] at H
          exact absurd H (by simp)
      · rw [if_neg c2] at H
        have c2b0 : decide (x11_1 < (l0.length : Int)) = false := decide_eq_false c2
        clear c2
        obtain rfl := Option.some.inj H
        go_wp2
        repeat (go_quiet (fail); try go_wp2)
        go_ret
        refine sort_wrap HWR.out ?_
        exact ⟨_, by first | rfl | (simp [errW_none, errW_some] <;> rfl) | (simp [*, errW_none, errW_some] <;> rfl), by (with_reducible repeat (first | apply Kd.R_alloc | apply Kd.R_drewN | apply Kd.R_drew)); exact HO_3.out, by repeat (first | (with_reducible first | exact HB.out | apply below_alloc | apply pw_below_drewN | apply below_drew1) | exact HB.out)⟩

/-! ### slices.Clone, slices.Grow, slices.Concat -/
set_option maxHeartbeats 1000000 in
set_option maxRecDepth 100000 in
theorem clone_calls (A : Option Addr) (c : Nat) (l : List S23) (w : World) (hC : Kd.C k23 w A l.length l) (hbig : l.length ≤ 1000) :
    Calls Try.prog 34 #[.slice A l.length c] w (SortPost w.heap.size w l) := by
  have q36 : ∀ (w : World) (a : Option Addr) (n c : Nat), (binOp .eql 36 (.slice a n c) (.slice none 0 0)).run Try.prog w = .ok (.bool a.isNone) w := fun w a n c => Lib.run_eql_slice_nil w _ _ a n c 0 0 Try.underlying36
  have HC := Aside0.mk hC
  have HL := Aside0.mk hbig
  clear hC hbig
  cases A with
  | none =>
    have hl : l = [] := by
      cases l with
      | nil => rfl
      | cons x l => obtain ⟨ad, e, _⟩ := HC.out.2.2 (by simp); cases e
    subst hl
    go_enter Try.func34, Try.ntmps34
    go_wp2
    go_ret
    exact ⟨_, rfl, Kd.R_nil _ _ _ _ _, Below.refl _ _⟩
  | some a =>
    go_enter Try.func34, Try.ntmps34
    go_wp2_with (first | ((with_reducible refine gate_dst (N := 5) rfl ?_); refine Kd.R_lit k23 _ 23 ?hg (N := 5) ?hd (xs := ([] : List (S23))) (inner := []) (ok := fun _ => True) (okp := fun _ => True) ?hr ?hp (fun _ hk => hk) trivial (Below.refl _ _) (Nat.le_refl _) (by simp) ?_; (case hd => rfl); (case hg => rfl); (case hr => first | (go_simp; done) | (go_simp; rfl)); (case hp => exact (Reps.none _ _)); intro v1 w1 ho1 hb hg_ hnew_; clear hg_ hnew_; have HO := Aside0.mk ho1; have HB := Aside0.mk hb; clear hb ho1) | ((with_reducible refine gate_builtin (b := .append) (xs := #[.tmp 5, .tmp 6]) rfl ?_); at_builtin; refine Kd.R_append_rows k23 (w0 := w) w.heap.size rfl (.tmp 5) (.tmp 6) 36 23 (.agg #[(.int .i64 0), (.int .i64 0)]) 16 rfl Try.underlying36 info23 rfl (by decide) (by omega) v1 [] l _ _ _ (fun _ => True) (fun _ => False) rfl rfl ?aO ?aR (fun _ _ h => h) (fun _ h => h.elim) ?aF ?aB ?aS ?aL ?_; (case aR => exact Kd.C_below HC.out HB.out); (case aB => exact HB.out); (case aF => exact fun _ _ => trivial); (case aO => exact HO.out); (case aS => exact HB.out.size); (case aL => have := HL.out; simp only [List.length_nil]; omega); intro v2 w2 ho2 hb2 hg2 hat2; have HO2 := Aside0.mk ho2; have HB2 := Aside0.mk hb2; clear ho2 hb2 hg2 hat2 HO HB))
    go_ret
    exact ⟨_, rfl, HO2.out, HB2.out⟩

theorem grow_calls (n : Nat) (hn : n ≤ 2000) (w : World) : Calls Try.prog 43 #[.slice none 0 0, .int .i64 (n : Int)] w (SortPost w.heap.size w []) := by
  by_cases h0 : n = 0
  · subst h0
    have h := Any8.slices_Grow_room Try.growKeys none 0 0 0 w (Nat.le_refl _) (by omega) (by omega) (by omega)
    refine Calls.mono h ?_
    rintro e w' ⟨rfl, rfl⟩
    exact ⟨_, rfl, Kd.R_nil _ _ _ _ _, Below.refl _ _⟩
  · obtain ⟨i0, hi, hz⟩ := Option.map_eq_some_iff.1 info23
    simp only [Prod.mk.injEq] at hz
    obtain ⟨hz0, hz1, hz2⟩ := hz
    have h := Any8.slices_Grow_grow Try.growKeys i0 (.agg #[.int .i64 0, .int .i64 0]) hi hz0 (by rw [hz1]; decide) none 0 0 n [] w (Nat.le_refl _) (by omega) (by rw [hz2]; omega) (by omega) (by simp) (fun _ => rfl) (fun a h => by cases h)
    refine Calls.mono h ?_
    rintro e w' ⟨rfl, rfl⟩
    have hge := grownCap_ge w (0 + n) 0 23
    have hle := grownCap_le_maxLen w (0 + n) 0 23 (by unfold maxLen; omega)
    refine ⟨_, rfl, ⟨fun _ _ => trivial, [], World.ownsRow_made w.drew _ _ (Nat.le_refl _) hle ?_, Reps.none _ _⟩, below_alloc (below_drew (Below.refl _ _)) _⟩
    have hz : ∀ m, (Builtin.zeroCells (Value.agg #[.int .i64 0, .int .i64 0]).cells m).size = m * 2 := fun m => by
      unfold Builtin.zeroCells
      rw [Array.size_map, Array.size_range]
      rfl
    rw [Array.size_append, Array.size_append, hz, hz]
    simp only [List.size_toArray, List.length_nil]
    have h2 : n ≤ grownCap w (0 + n) 0 23 := by omega
    show 0 + (0 + n - 0) * 2 + (grownCap w (0 + n) 0 23 - (0 + n)) * 2 = grownCap w (0 + n) 0 23 * 2
    omega

set_option maxHeartbeats 2000000 in
set_option maxRecDepth 100000 in
theorem concat_calls (g : Nat) (A0 A1 : Option Addr) (c0 c1 : Nat) (l0 l1 : List S23) (w : World) (hg : w.heap[g]? = some (.cells #[.slice A0 l0.length c0, .slice A1 l1.length c1] 36 (0, 0)))
    (h0 : Kd.C k23 w A0 l0.length l0) (h1 : Kd.C k23 w A1 l1.length l1) (n0 : l0.length ≤ 1000) (n1 : l1.length ≤ 1000) :
    Calls Try.prog 37 #[.slice (some ⟨g, 0, none⟩) 2 2] w (SortPost w.heap.size w (l0 ++ l1)) := by
  have HC0 := Aside0.mk h0
  have HC1 := Aside0.mk h1
  have HG := Aside0.mk hg
  have HL0 := Aside0.mk n0
  have HL1 := Aside0.mk n1
  have hgr := grow_calls (l0.length + l1.length) (by omega) w
  rw [Int.natCast_add] at hgr
  have Hgr := Aside0.mk hgr
  have m0 := blk_cell hg 0
  have m1 := blk_cell hg 1
  simp only [List.getElem?_toArray, List.getElem?_cons_zero, List.getElem?_cons_succ] at m0 m1
  have b0 : (l0.length : Int) ≤ 1000 := by omega
  have b1 : (l1.length : Int) ≤ 1000 := by omega
  have b2 : ¬ ((l0.length : Int) < 0) := by omega
  have b3 : ¬ ((l0.length : Int) + (l1.length : Int) < 0) := by omega
  clear h0 h1 hg n0 n1 hgr
  go_enter Try.func37, Try.ntmps37
  go_wp2
  refine wp_loop_rounds 3 ?_
  rw [rounds_succ]
  go_wp2_with (fail)
  rw [rounds_succ]
  go_wp2_with (fail)
  rw [rounds_succ]
  go_wp2_with (go_at_call 43; (with_reducible refine Hgr.out.mono ?_); clear Hgr; rintro e w1 ⟨v1, rfl, ho, hb⟩; have HO := Aside0.mk ho; have HB := Aside0.mk hb; clear ho hb)
  have m0_ := Aside0.mk m0
  have m1_ := Aside0.mk m1
  replace m0 := (HB.out.cell (World.block_lt_of_cell? w _ m0_.out)).trans m0_.out
  replace m1 := (HB.out.cell (World.block_lt_of_cell? w _ m1_.out)).trans m1_.out
  refine wp_loop_rounds 3 ?_
  rw [rounds_succ]
  go_wp2_with ((with_reducible refine gate_builtin (b := .append) (xs := #[.tmp 31, .tmp 32]) rfl ?_); at_builtin; refine Kd.R_append_rows k23 (w0 := w) w.heap.size rfl (.tmp 31) (.tmp 32) 36 23 (.agg #[(.int .i64 0), (.int .i64 0)]) 16 rfl Try.underlying36 info23 rfl (by decide) (by omega) v1 [] l0 _ _ _ (fun _ => True) (fun _ => False) rfl rfl ?aO ?aR (fun _ _ h => h) (fun _ h => h.elim) ?aF ?aB ?aS ?aL ?_; (case aR => exact Kd.C_below HC0.out HB.out); (case aB => exact HB.out); (case aF => exact fun _ _ => trivial); (case aO => exact HO.out); (case aS => exact HB.out.size); (case aL => have := HL0.out; have := HL1.out; simp only [List.length_nil, List.nil_append]; omega); intro v2 w2 ho2 hb2 hg2 hat2; have HO_ := Aside0.mk ho2; have HB_ := Aside0.mk hb2; clear ho2 hb2 hg2 hat2 HO HB; have HO := HO_; have HB := HB_; clear HO_ HB_; replace m1 := (HB.out.cell (World.block_lt_of_cell? w _ m1_.out)).trans m1_.out)
  rw [rounds_succ]
  go_wp2_with ((with_reducible refine gate_builtin (b := .append) (xs := #[.tmp 31, .tmp 32]) rfl ?_); at_builtin; refine Kd.R_append_rows k23 (w0 := w) w.heap.size rfl (.tmp 31) (.tmp 32) 36 23 (.agg #[(.int .i64 0), (.int .i64 0)]) 16 rfl Try.underlying36 info23 rfl (by decide) (by omega) v2 ([] ++ l0) l1 _ _ _ (fun _ => True) (fun _ => False) rfl rfl ?aO ?aR (fun _ _ h => h) (fun _ h => h.elim) ?aF ?aB ?aS ?aL ?_; (case aR => exact Kd.C_below HC1.out HB.out); (case aB => exact HB.out); (case aF => exact fun _ _ => trivial); (case aO => exact HO.out); (case aS => exact HB.out.size); (case aL => have := HL0.out; have := HL1.out; simp only [List.length_nil, List.nil_append]; omega); intro v3 w3 ho2 hb2 hg2 hat2; have HO_ := Aside0.mk ho2; have HB_ := Aside0.mk hb2; clear ho2 hb2 hg2 hat2 HO HB; have HO := HO_; have HB := HB_; clear HO_ HB_)
  rw [rounds_succ]
  go_wp2_with (fail)
  go_ret
  exact ⟨_, rfl, HO.out, HB.out⟩

/-! ### order.Sort, order.Merge -/
/-- May a key be? -/
def okK (x : S23) : Bool := decide (0 ≤ x.f0) && decide (x.f0 ≤ 1023) && decide (-1 ≤ x.f1) && decide (x.f1 ≤ 7)
theorem check_f (x : S23) : order_Check.f x.f0 x.f1 = some (if okK x = true then 0 else 2) := by
  unfold order_Check.f okK
  by_cases h1 : x.f0 < 0
  · rw [if_pos h1, if_neg (by simp; omega)]
  · by_cases h2 : x.f0 > 1023
    · rw [if_neg h1, if_pos h2, if_neg (by simp; omega)]
    · by_cases h3 : x.f1 < -1
      · rw [if_neg h1, if_neg h2, if_pos h3, if_neg (by simp; omega)]
      · by_cases h4 : x.f1 ≥ 8
        · rw [if_neg h1, if_neg h2, if_neg h3, if_pos h4, if_neg (by simp; omega)]
        · rw [if_neg h1, if_neg h2, if_neg h3, if_neg h4, if_pos (by simp; omega)]
theorem sorted_l0 (m : List S23) (hm : m.length ≤ 2000) (d : Nat) : ∀ (k i : Nat) (out : List S23), i ≤ m.length → m.length - i = d → d < k → out.length ≤ i →
    order_sorted.l0 k out m (m.length : Int) (i : Int) = some ((m.drop i).foldl pushK out) := by
  induction d with
  | zero =>
    intro k i out h1 h2 h3 _
    obtain ⟨k, rfl⟩ : ∃ q, k = q + 1 := ⟨k - 1, by omega⟩
    have hi : i = m.length := by omega
    subst hi
    simp only [order_sorted.l0]
    rw [if_neg (by omega), List.drop_length]
    rfl
  | succ d ih =>
    intro k i out h1 h2 h3 h4
    obtain ⟨k, rfl⟩ : ∃ q, k = q + 1 := ⟨k - 1, by omega⟩
    have hi : i < m.length := by omega
    have hw : wrap64 ((i : Int) + 1) = ((i + 1 : Nat) : Int) := by unfold wrap64; omega
    have hrd : rd_T23 m (i : Int) = m[i] := by
      unfold rd_T23
      rw [Int.toNat_natCast, List.getD_eq_getElem?_getD, List.getElem?_eq_getElem hi]
      rfl
    have hdrop : m.drop i = m[i] :: m.drop (i + 1) := List.drop_eq_getElem_cons hi
    simp only [order_sorted.l0]
    rw [if_pos (by omega), if_pos (by omega), if_pos (by omega), hrd, hw, hdrop, List.foldl_cons]
    generalize m[i] = x
    have hx : (⟨x.f0, x.f1⟩ : S23) = x := rfl
    rw [hx]
    by_cases h0 : out.length = 0
    · rw [if_pos (by omega), if_pos (by omega)]
      rw [ih k (i + 1) _ (by omega) (by omega) (by omega) (by simp; omega)]
      unfold pushK
      rw [if_pos h0]
    · have hw2 : wrap64 ((out.length : Int) - 1) = (out.length : Int) - 1 := by unfold wrap64; omega
      rw [if_neg (by omega), hw2, if_pos (by omega), if_pos (by omega)]
      have e : (!((rd_T23 out ((out.length : Int) - 1)).f0 == x.f0) || !((rd_T23 out ((out.length : Int) - 1)).f1 == x.f1)) = !(eqB (rd_T23 out ((out.length : Int) - 1)) x) := by
        unfold eqB
        rw [Bool.not_and]
      rw [e]
      unfold pushK
      rw [if_neg h0]
      cases hq : eqB (rd_T23 out ((out.length : Int) - 1)) x with
      | true =>
        rw [if_neg (by simp), if_pos rfl]
        exact ih k (i + 1) _ (by omega) (by omega) (by omega) (by omega)
      | false =>
        rw [if_pos (by simp), if_pos (by omega), if_neg (by simp)]
        exact ih k (i + 1) _ (by omega) (by omega) (by omega) (by simp; omega)
theorem sorted_f (l : List S23) (hl : l.length ≤ 2000) : order_sorted.f 2001 (sortK l) = some (sortU l) := by
  unfold order_sorted.f
  have h := sorted_l0 (sortK l) (by rw [sortK_length]; exact hl) (sortK l).length 2001 0 [] (Nat.zero_le _) rfl (by rw [sortK_length]; omega) (by simp)
  rw [List.drop_zero, push_sortK] at h
  exact h
theorem sorted_calls (base : Nat) (okk : Nat → Prop) (v : Value) (l : List S23) (w : World) (hR : Kd.R k23 23 w base okk v l) (hbs : base ≤ w.heap.size) (hl : l.length ≤ 2000) :
    Calls Try.prog 33 #[v] w (SortPost base w (sortU l)) := order_sorted.calls 2001 base okk v l (sortU l) w hR hbs (by omega) (sorted_f l hl)

/-! ### slices.ContainsFunc over order.Check -/
def badK (x : S23) : Bool := !okK x
def badAt : List S23 → Nat → Int
  | [], _ => -1
  | s :: l, i => if badK s = true then (i : Int) else badAt l (i + 1)
set_option maxHeartbeats 400000 in
theorem badK_calls (s : S23) (w : World) : Calls Try.prog 32 #[.agg #[.int .i64 s.f0, .int .i64 s.f1]] w fun e w' => e = .returned (.bool (badK s)) ∧ Below w.heap.size w w' := by
  have hc := fun W => order_Check.calls s.f0 s.f1 _ W (check_f s)
  have hb : badK s = !okK s := rfl
  generalize okK s = b at *
  generalize badK s = b' at *
  have Hc := Aside0.mk hc
  cases b
  all_goals
    subst hb
    go_enter Try.func32, Try.ntmps32
    go_wp2_with (go_at_call 13; (with_reducible refine (Hc.out _).mono ?_); clear Hc; rintro e w1 ⟨rfl, hb⟩; have HB := Aside0.mk hb; clear hb)
    go_ret
    exact ⟨rfl, ((Below.refl _ _).alloc (Nat.le_refl _) _).trans (HB.out.mono (by simp))⟩

theorem badAt_drop (l : List S23) (k : Nat) (hk : k < l.length) : badAt (l.drop k) k = if badK (rd_T23 l k) = true then (k : Int) else badAt (l.drop (k + 1)) (k + 1) := by
  rw [List.drop_eq_getElem_cons hk]
  have : rd_T23 l (k : Int) = l[k] := by
    unfold rd_T23
    rw [Int.toNat_natCast, List.getD_eq_getElem?_getD, List.getElem?_eq_getElem hk]
    rfl
  rw [this]
  rfl

def IdxPost (l : List S23) (w : World) (e : Ending) (w' : World) : Prop := ∃ r, r = badAt l 0 ∧ e = .returned (.int .i64 r) ∧ Below w.heap.size w w'

set_option maxRecDepth 100000 in
set_option maxHeartbeats 1000000 in
theorem index_calls (A : Option Addr) (c : Nat) (l : List S23) (w : World) (hr : Kd.C k23 w A l.length l) :
    Calls Try.prog 40 #[.slice A l.length c, .func (.func 32) #[] #[]] w (IdxPost l w) := by
  have hm := Kd.C_max hr
  go_enter Try.func40, Try.ntmps40
  go_wp2
  go_loopw [8] (fun i wr => ∃ k : Nat, k ≤ l.length ∧ i = .int .i64 k ∧ Hid (badAt (l.drop k) k = badAt l 0) ∧ Below w.heap.size w wr) (fun i _ => l.length - (intOf i).toNat)
  case atStart => exact ⟨0, Nat.zero_le _, rfl, Lib.hid rfl, Below.refl _ _⟩
  case round =>
    obtain ⟨k, hk, rfl, hbad, hB⟩ := hrel
    by_cases hlt : k < l.length
    · have hd : decide (k < l.length) = true := decide_eq_true hlt
      have hd2 : decide ((k : Int) < (l.length : Int)) = true := decide_eq_true (by omega)
      obtain ⟨ad, e1, hx0, hx1⟩ := at_T23 (Kd.C_below hr hB) (k : Int) (by omega) (by omega)
      cases e1
      rw [Int.toNat_natCast] at hx0 hx1
      have hdrop := badAt_drop l k hlt
      have c0 := badK_calls (rd_T23 l (k : Int))
      generalize badK (rd_T23 l (k : Int)) = b at *
      have HD := Lib.hid hdrop
      have C0 := Lib.hid c0
      clear hdrop c0
      cases b
      · go_wp2_with (go_at_call 32; (with_reducible refine (C0.out _).mono ?_); rintro e w' ⟨rfl, hb⟩)
        have hlt' := hlt
        refine ⟨⟨k + 1, hlt, rfl, ?_, ?_⟩, ?_⟩
        · exact Lib.hid ((HD.out.symm.trans hbad.out))
        · exact hB.trans (hb.mono hB.size)
        · show l.length - ((k : Int) + 1).toNat < l.length - ((k : Int)).toNat
          omega
      · go_wp2_with (go_at_call 32; (with_reducible refine (C0.out _).mono ?_); rintro e w' ⟨rfl, hb⟩)
        go_ret
        exact ⟨_, (HD.out.symm.trans hbad.out), rfl, hB.trans (hb.mono hB.size)⟩
    · have hd : decide (k < l.length) = false := decide_eq_false hlt
      have hd2 : decide ((k : Int) < (l.length : Int)) = false := decide_eq_false (by omega)
      have hkl : l.drop k = [] := List.drop_eq_nil_of_le (Nat.le_of_not_lt hlt)
      rw [hkl] at hbad
      go_wp2
      go_ret
      exact ⟨_, hbad.out, rfl, hB⟩

set_option maxHeartbeats 400000 in
theorem contains_calls (A : Option Addr) (c : Nat) (l : List S23) (w : World) (hr : Kd.C k23 w A l.length l) :
    Calls Try.prog 31 #[.slice A l.length c, .func (.func 32) #[] #[]] w fun e w' => e = .returned (.bool (decide (0 ≤ badAt l 0))) ∧ Below w.heap.size w w' := by
  have hi := (index_calls A c l w hr).mono (R' := fun e w' => e = .returned (.int .i64 (badAt l 0)) ∧ Below w.heap.size w w') (by rintro e w' ⟨_, rfl, h1, h2⟩; exact ⟨h1, h2⟩)
  generalize badAt l 0 = r at *
  have Hi := Lib.hid hi
  clear hi
  by_cases h0 : 0 ≤ r
  all_goals
    first | have b0 : decide (0 ≤ r) = true := decide_eq_true h0
          | have b0 : decide (0 ≤ r) = false := decide_eq_false h0
    rw [b0]
    go_enter Try.func31, Try.ntmps31
    go_wp2_with (go_at_call 40; (with_reducible refine Hi.out.mono ?_); clear Hi; rintro e w' ⟨rfl, hb⟩)
    go_ret
    exact ⟨rfl, hb⟩


theorem badAt_all (l : List S23) : ∀ i : Nat, (0 ≤ badAt l i) ↔ ¬ (l.all okK = true) := by
  induction l with
  | nil => intro i; simp [badAt]
  | cons x l ih =>
    intro i
    unfold badAt badK
    cases h : okK x with
    | false => simp [h]
    | true => simpa [h] using ih (i + 1)

/-- What the calls answer. -/
def order_Sort.f (l : List S23) : Option (List S23 × Int) := if l.length ≤ 1000 then some (if l.all okK = true then (sortU l, 0) else ([], 2)) else none
def order_Merge.f (l m : List S23) : Option (List S23) := if l.length ≤ 1000 ∧ m.length ≤ 1000 then some (sortU (l ++ m)) else none

def SortPost2 (w : World) (r1 : List S23) (r2 : Int) (e : Ending) (w' : World) : Prop := ∃ v0 : Value, e = .returned (.tuple #[v0, .int .i64 r2]) ∧ Kd.R k23 23 w' w.heap.size (fun _ => True) v0 r1 ∧ Below w.heap.size w w'
set_option maxHeartbeats 1000000 in
set_option maxRecDepth 100000 in
theorem sort_calls0 (A0 : Option Addr) (c0 : Nat) (l0 : List S23) (r1 : List S23) (r2 : Int) (w : World) (hr0 : Kd.C k23 w A0 l0.length l0) (hc0 : l0.length ≤ c0) (h : order_Sort.f l0 = some (r1, r2)) :
    Calls Try.prog 20 #[.slice A0 l0.length c0] w (SortPost2 w r1 r2) := by
  unfold order_Sort.f at h
  by_cases hl : l0.length ≤ 1000
  · rw [if_pos hl] at h
    have h := Option.some.inj h
    have hcon := contains_calls A0 c0 l0 w hr0
    by_cases hb : l0.all okK = true
    · rw [if_pos hb] at h
      obtain ⟨rfl, rfl⟩ := Prod.mk.injEq .. ▸ h
      rw [decide_eq_false (fun h => (badAt_all l0 0).1 h hb)] at hcon
      have Hcon := Aside0.mk hcon
      have HR := Aside0.mk hr0
      have HL := Aside0.mk hl
      clear hcon hr0 hb h hl hc0
      go_enter Try.func20, Try.ntmps20
      go_wp2_with (first | (go_at_call 31; (with_reducible refine Hcon.out.mono ?_); clear Hcon; rintro e w1 ⟨rfl, hb⟩; have HB := Aside0.mk hb; clear hb) | (go_at_call 34; (with_reducible refine (clone_calls A0 _ l0 _ (Kd.C_below HR.out HB.out) HL.out).mono ?_); rintro e w2 ⟨v2, rfl, ho2, hb2⟩; have HO2 := Aside0.mk ho2; have HB2 := Aside0.mk hb2; clear ho2 hb2) | (go_at_call 33; (with_reducible refine (sorted_calls w.heap.size _ v2 l0 _ (Kd.R_lower HO2.out HB.out.size) (Nat.le_trans HB.out.size HB2.out.size) (Nat.le_trans HL.out (by decide))).mono ?_); rintro e w3 ⟨v3, rfl, ho3, hb3⟩; have HO3 := Aside0.mk ho3; have HB3 := Aside0.mk hb3; clear ho3 hb3))
      go_ret2
      exact ⟨_, rfl, HO3.out, HB.out.trans ((HB2.out.mono HB.out.size).trans HB3.out)⟩
    · rw [if_neg hb] at h
      obtain ⟨rfl, rfl⟩ := Prod.mk.injEq .. ▸ h
      rw [decide_eq_true ((badAt_all l0 0).2 hb)] at hcon
      have Hcon := Aside0.mk hcon
      clear hcon hr0 hb h hl hc0
      go_enter Try.func20, Try.ntmps20
      go_wp2_with (go_at_call 31; (with_reducible refine Hcon.out.mono ?_); clear Hcon; rintro e w1 ⟨rfl, hb⟩; have HB := Aside0.mk hb; clear hb)
      go_ret2
      exact ⟨_, rfl, Kd.R_nil _ _ _ _ _, HB.out⟩
  · rw [if_neg hl] at h
    cases h
theorem order_Sort.calls (A0 : Option Addr) (c0 : Nat) (l0 : List S23) (r1 : List S23) (r2 : Int) (w : World) (hr0 : Kd.C k23 w A0 l0.length l0) (hc0 : l0.length ≤ c0) (h : order_Sort.f l0 = some (r1, r2)) :
    Calls Try.prog 20 #[.slice A0 l0.length c0] w fun e w' => ∃ v0 : Value, e = .returned (.tuple #[v0, .int .i64 r2]) ∧ Kd.R k23 23 w' w.heap.size (fun _ => True) v0 r1 ∧ Below w.heap.size w w' :=
  sort_calls0 A0 c0 l0 r1 r2 w hr0 hc0 h

set_option maxHeartbeats 1000000 in
set_option maxRecDepth 100000 in
theorem merge_calls0 (A0 : Option Addr) (c0 : Nat) (l0 : List S23) (A1 : Option Addr) (c1 : Nat) (l1 : List S23) (r : List S23) (w : World) (hr0 : Kd.C k23 w A0 l0.length l0) (hr1 : Kd.C k23 w A1 l1.length l1) (h : order_Merge.f l0 l1 = some r) :
    Calls Try.prog 27 #[.slice A0 l0.length c0, .slice A1 l1.length c1] w (SortPost w.heap.size w r) := by
  unfold order_Merge.f at h
  by_cases hl : l0.length ≤ 1000 ∧ l1.length ≤ 1000
  · rw [if_pos hl] at h
    obtain rfl := Option.some.inj h
    have HR0 := Aside0.mk hr0
    have HR1 := Aside0.mk hr1
    have HL := Aside0.mk hl
    have HB := Aside0.mk (Below.refl w.heap.size w)
    clear hr0 hr1 hl h
    go_enter Try.func27, Try.ntmps27
    go_wp2_with (first | (go_at_call 37; (with_reducible refine (concat_calls _ A0 A1 c0 c1 l0 l1 _ (blk_new w _) (Kd.C_alloc HR0.out _) (Kd.C_alloc HR1.out _) HL.out.1 HL.out.2).mono ?_); rintro e w2 ⟨v2, rfl, ho2, hb2⟩; have HO2 := Aside0.mk ho2; have HB2 := Aside0.mk hb2; clear ho2 hb2) | (go_at_call 33; (with_reducible refine (sorted_calls w.heap.size _ v2 (l0 ++ l1) _ (Kd.R_lower HO2.out (by simp)) (Nat.le_trans (by simp) HB2.out.size) (by have := HL.out; simp; omega)).mono ?_); rintro e w3 ⟨v3, rfl, ho3, hb3⟩; have HO3 := Aside0.mk ho3; have HB3 := Aside0.mk hb3; clear ho3 hb3))
    go_ret
    exact ⟨_, rfl, HO3.out, (below_alloc (Below.refl _ _) _).trans ((HB2.out.mono (by simp)).trans HB3.out)⟩
  · rw [if_neg hl] at h
    cases h
theorem order_Merge.calls (A0 : Option Addr) (c0 : Nat) (l0 : List S23) (A1 : Option Addr) (c1 : Nat) (l1 : List S23) (r : List S23) (w : World) (hr0 : Kd.C k23 w A0 l0.length l0) (hc0 : l0.length ≤ c0) (hr1 : Kd.C k23 w A1 l1.length l1) (hc1 : l1.length ≤ c1) (h : order_Merge.f l0 l1 = some r) :
    Calls Try.prog 27 #[.slice A0 l0.length c0, .slice A1 l1.length c1] w fun e w' => ∃ v0 : Value, e = .returned v0 ∧ Kd.R k23 23 w' w.heap.size (fun _ => True) v0 r ∧ Below w.heap.size w w' :=
  merge_calls0 A0 c0 l0 A1 c1 l1 r w hr0 hr1 h
end Go.Proofs.Ytcjipaemlipfgaa.Given
