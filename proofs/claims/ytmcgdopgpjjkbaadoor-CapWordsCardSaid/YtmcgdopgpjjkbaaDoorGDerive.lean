/- cap.Derive at this program: what the call answers. -/
import Derived.Test.YtmcgdopgpjjkbaaDoorGWord
import Derived.Test.YtmcgdopgpjjkbaaDoorRights
import Derived.Test.YtmcgdopgpjjkbaaDoorPx3
import Derived.Test.YtmcgdopgpjjkbaaDoorPx4
namespace Go.Proofs.YtmcgdopgpjjkbaaDoor.Given
open Go Go.RowKit Go.Proofs Go.Proofs.YtmcgdopgpjjkbaaDoorW.PrintWords Go.Proofs.YtmcgdopgpjjkbaaDoorW.PrintLast Go.Proofs.YtmcgdopgpjjkbaaDoorW.PrintMore Go.Proofs.YtmcgdopgpjjkbaaDoor.P Go.Proofs.YtmcgdopgpjjkbaaDoor.Plain
set_option linter.unusedVariables false
set_option linter.unusedSimpArgs false

/-- Is a capability, and may it be? -/
def capOne (t r b o g : Int) : Bool := !(capZero t r b o g) && capOk t r b o g
theorem isOne_f (t r b o g : Int) : cap_isOne.f t r b o g = some (capOne t r b o g) := by
 unfold cap_isOne.f capOne
 have e : (!(t == 0) || (!(r == 0) || (!(b == 0) || (!(o == 0) || (!(g == 0)))))) = !(capZero t r b o g) := by
  unfold capZero
  simp only [Bool.not_and]
 rw [e, check_ok]
 cases capZero t r b o g with
 | true => rfl
 | false =>
  cases capOk t r b o g <;> rfl
/-- Are some rights among others? -/
def withinB (a b : Int) : Bool := rightsB a && (rightsB b && (Go.bits .andNot .i64 a b == 0))
theorem within_f (a b : Int) (h0 : -9223372036854775808 ≤ a) (h1 : a ≤ 9223372036854775807) (h2 : -9223372036854775808 ≤ b) (h3 : b ≤ 9223372036854775807) : rights_Within.f a b = some (withinB a b) := by
 unfold rights_Within.f withinB
 rw [rightsIs_eq h0 h1, rightsIs_eq h2 h3]
 simp only [Option.bind_some]
 cases rightsB a with
 | false => rfl
 | true =>
  cases rightsB b <;> rfl
theorem blk_newD {w : World} {o : Obj} {n : Nat} (h : w.heap.size = n) : (w.alloc o).heap[n]? = some o := h ▸ blk_new w o
abbrev Six := Int × Int × Int × Int × Int × Int
def deriveC (t r b o g a d : Int) : Six :=
 if capOne t r b o g = true then (if withinB a r = true then (if d = 0 then (t, a, b, o, g, 0) else if t = 2 ∨ b ≠ 0 ∨ d < 0 ∨ capBadges t < d then (0, 0, 0, 0, 0, 2) else (t, a, d, o, g, 0)) else (0, 0, 0, 0, 0, 20)) else (0, 0, 0, 0, 0, 30)
set_option maxRecDepth 100000 in
set_option maxHeartbeats 4000000 in
theorem derive_walk (t r b o g a d : Int) (q1 q2 : Bool) (w : World)
  (C1 : Hid (∀ W, Calls Tryd.prog 41 #[.agg #[.int .i64 t, .int .i64 r, .int .i64 b, .int .i64 o, .int .i64 g]] W fun e w' => e = .returned (.bool q1) ∧ Below W.heap.size W w'))
  (C2 : Hid (∀ W, Calls Tryd.prog 42 #[.int .i64 a, .int .i64 r] W fun e w' => e = .returned (.bool q2) ∧ Drawn0 W w'))
  (rv : Array Value) (rr : Int) (HV : Hid ((rv, rr) = if q1 = true then (if q2 = true then (if d = 0 then ((#[.int .i64 t, .int .i64 a, .int .i64 b, .int .i64 o, .int .i64 g] : Array Value), (0 : Int)) else if t = 2 ∨ b ≠ 0 ∨ d < 0 ∨ capBadges t < d then ((#[.int .i64 0, .int .i64 0, .int .i64 0, .int .i64 0, .int .i64 0] : Array Value), (2 : Int)) else ((#[.int .i64 t, .int .i64 a, .int .i64 d, .int .i64 o, .int .i64 g] : Array Value), (0 : Int))) else ((#[.int .i64 0, .int .i64 0, .int .i64 0, .int .i64 0, .int .i64 0] : Array Value), (20 : Int))) else ((#[.int .i64 0, .int .i64 0, .int .i64 0, .int .i64 0, .int .i64 0] : Array Value), (30 : Int)))) :
  Calls Tryd.prog 21 #[.agg #[.int .i64 t, .int .i64 r, .int .i64 b, .int .i64 o, .int .i64 g], .int .i64 a, .int .i64 d] w fun e w' => e = .returned (.tuple #[.agg rv, .int .i64 rr]) ∧ Below w.heap.size w w' := by
 have hV := HV.out
 have hres : Tryd.f21.results = #[.cell 6 23, .tmp 7] := rfl
 have HRES := Lib.hid hres
 clear hres HV
 cases q1 with
 | false =>
  rw [if_neg (by simp)] at hV
  obtain ⟨rfl, rfl⟩ := Prod.mk.injEq .. ▸ hV
  clear hV
  go_enter Tryd.func21, Tryd.ntmps21
  go_wp2_with (first | (go_at_call 41; (with_reducible refine (C1.out _).mono ?_); clear C1; rintro e w1 ⟨rfl, hb⟩; have HB1 := Aside0.mk (below_step (show Below w.heap.size w _ by go_grown) hb); have HT := blk_below (blk_alloc (blk_new w (.cells #[.int .i64 t, .int .i64 r, .int .i64 b, .int .i64 o, .int .i64 g] 23 (0, 0))) (.cells #[.int .i64 0, .int .i64 0, .int .i64 0, .int .i64 0, .int .i64 0] 23 (0, 0))) hb; have HR := blk_below (show ((w.alloc (.cells #[.int .i64 t, .int .i64 r, .int .i64 b, .int .i64 o, .int .i64 g] 23 (0, 0))).alloc (.cells #[.int .i64 0, .int .i64 0, .int .i64 0, .int .i64 0, .int .i64 0] 23 (0, 0))).heap[w.heap.size + 1]? = some (.cells #[.int .i64 0, .int .i64 0, .int .i64 0, .int .i64 0, .int .i64 0] 23 (0, 0)) from blk_newD (by simp)) hb; have ht0 : w1.cell? ⟨w.heap.size, 0, none⟩ = some (.int .i64 t) := (blk_cell HT 0).trans rfl; have hu0 := blk_frozen HT 0; have ht1 : w1.cell? ⟨w.heap.size, 1, none⟩ = some (.int .i64 r) := (blk_cell HT 1).trans rfl; have hu1 := blk_frozen HT 1; have ht2 : w1.cell? ⟨w.heap.size, 2, none⟩ = some (.int .i64 b) := (blk_cell HT 2).trans rfl; have hu2 := blk_frozen HT 2; have ht3 : w1.cell? ⟨w.heap.size, 3, none⟩ = some (.int .i64 o) := (blk_cell HT 3).trans rfl; have hu3 := blk_frozen HT 3; have ht4 : w1.cell? ⟨w.heap.size, 4, none⟩ = some (.int .i64 g) := (blk_cell HT 4).trans rfl; have hu4 := blk_frozen HT 4; have hr0 : w1.cell? ⟨w.heap.size + 1, 0, none⟩ = some (.int .i64 0) := (blk_cell HR 0).trans rfl; have hs0 := blk_frozen HR 0; have hr1 : w1.cell? ⟨w.heap.size + 1, 1, none⟩ = some (.int .i64 0) := (blk_cell HR 1).trans rfl; have hs1 := blk_frozen HR 1; have hr2 : w1.cell? ⟨w.heap.size + 1, 2, none⟩ = some (.int .i64 0) := (blk_cell HR 2).trans rfl; have hs2 := blk_frozen HR 2; have hr3 : w1.cell? ⟨w.heap.size + 1, 3, none⟩ = some (.int .i64 0) := (blk_cell HR 3).trans rfl; have hs3 := blk_frozen HR 3; have hr4 : w1.cell? ⟨w.heap.size + 1, 4, none⟩ = some (.int .i64 0) := (blk_cell HR 4).trans rfl; have hs4 := blk_frozen HR 4; clear HT HR hb) | (go_at_call 42; (with_reducible refine (C2.out _).mono ?_); clear C2; rintro e w2 ⟨rfl, ⟨nd, rfl⟩⟩; have HBn := Aside0.mk (pw_below_drewN HB1.out nd)) | (go_at_call 34; (with_reducible refine (cap_badges_calls _ _).mono ?_); rintro e w3 ⟨rfl, rfl⟩))
  refine bodyPost_ret (v := .tuple #[.agg #[.int .i64 0, .int .i64 0, .int .i64 0, .int .i64 0, .int .i64 0], .int .i64 30]) ?_ rfl ⟨rfl, ?_⟩
  ·simp only [results, HRES.out]
   go_simp
  ·first | (have hB1 := HB1.out; go_grown; done) | (have hB2 := HBn.out; go_grown)
 | true =>
  rw [if_pos rfl] at hV
  cases q2 with
  | false =>
   rw [if_neg (by simp)] at hV
   obtain ⟨rfl, rfl⟩ := Prod.mk.injEq .. ▸ hV
   clear hV
   go_enter Tryd.func21, Tryd.ntmps21
   go_wp2_with (first | (go_at_call 41; (with_reducible refine (C1.out _).mono ?_); clear C1; rintro e w1 ⟨rfl, hb⟩; have HB1 := Aside0.mk (below_step (show Below w.heap.size w _ by go_grown) hb); have HT := blk_below (blk_alloc (blk_new w (.cells #[.int .i64 t, .int .i64 r, .int .i64 b, .int .i64 o, .int .i64 g] 23 (0, 0))) (.cells #[.int .i64 0, .int .i64 0, .int .i64 0, .int .i64 0, .int .i64 0] 23 (0, 0))) hb; have HR := blk_below (show ((w.alloc (.cells #[.int .i64 t, .int .i64 r, .int .i64 b, .int .i64 o, .int .i64 g] 23 (0, 0))).alloc (.cells #[.int .i64 0, .int .i64 0, .int .i64 0, .int .i64 0, .int .i64 0] 23 (0, 0))).heap[w.heap.size + 1]? = some (.cells #[.int .i64 0, .int .i64 0, .int .i64 0, .int .i64 0, .int .i64 0] 23 (0, 0)) from blk_newD (by simp)) hb; have ht0 : w1.cell? ⟨w.heap.size, 0, none⟩ = some (.int .i64 t) := (blk_cell HT 0).trans rfl; have hu0 := blk_frozen HT 0; have ht1 : w1.cell? ⟨w.heap.size, 1, none⟩ = some (.int .i64 r) := (blk_cell HT 1).trans rfl; have hu1 := blk_frozen HT 1; have ht2 : w1.cell? ⟨w.heap.size, 2, none⟩ = some (.int .i64 b) := (blk_cell HT 2).trans rfl; have hu2 := blk_frozen HT 2; have ht3 : w1.cell? ⟨w.heap.size, 3, none⟩ = some (.int .i64 o) := (blk_cell HT 3).trans rfl; have hu3 := blk_frozen HT 3; have ht4 : w1.cell? ⟨w.heap.size, 4, none⟩ = some (.int .i64 g) := (blk_cell HT 4).trans rfl; have hu4 := blk_frozen HT 4; have hr0 : w1.cell? ⟨w.heap.size + 1, 0, none⟩ = some (.int .i64 0) := (blk_cell HR 0).trans rfl; have hs0 := blk_frozen HR 0; have hr1 : w1.cell? ⟨w.heap.size + 1, 1, none⟩ = some (.int .i64 0) := (blk_cell HR 1).trans rfl; have hs1 := blk_frozen HR 1; have hr2 : w1.cell? ⟨w.heap.size + 1, 2, none⟩ = some (.int .i64 0) := (blk_cell HR 2).trans rfl; have hs2 := blk_frozen HR 2; have hr3 : w1.cell? ⟨w.heap.size + 1, 3, none⟩ = some (.int .i64 0) := (blk_cell HR 3).trans rfl; have hs3 := blk_frozen HR 3; have hr4 : w1.cell? ⟨w.heap.size + 1, 4, none⟩ = some (.int .i64 0) := (blk_cell HR 4).trans rfl; have hs4 := blk_frozen HR 4; clear HT HR hb) | (go_at_call 42; (with_reducible refine (C2.out _).mono ?_); clear C2; rintro e w2 ⟨rfl, ⟨nd, rfl⟩⟩; have HBn := Aside0.mk (pw_below_drewN HB1.out nd)) | (go_at_call 34; (with_reducible refine (cap_badges_calls _ _).mono ?_); rintro e w3 ⟨rfl, rfl⟩))
   refine bodyPost_ret (v := .tuple #[.agg #[.int .i64 0, .int .i64 0, .int .i64 0, .int .i64 0, .int .i64 0], .int .i64 20]) ?_ rfl ⟨rfl, ?_⟩
   ·simp only [results, HRES.out]
    go_simp
   ·first | (have hB1 := HB1.out; go_grown; done) | (have hB2 := HBn.out; go_grown)
  | true =>
   rw [if_pos rfl] at hV
   by_cases hd : d = 0
   ·subst hd
    rw [if_pos rfl] at hV
    obtain ⟨rfl, rfl⟩ := Prod.mk.injEq .. ▸ hV
    clear hV
    go_enter Tryd.func21, Tryd.ntmps21
    go_wp2_with (first | (go_at_call 41; (with_reducible refine (C1.out _).mono ?_); clear C1; rintro e w1 ⟨rfl, hb⟩; have HB1 := Aside0.mk (below_step (show Below w.heap.size w _ by go_grown) hb); have HT := blk_below (blk_alloc (blk_new w (.cells #[.int .i64 t, .int .i64 r, .int .i64 b, .int .i64 o, .int .i64 g] 23 (0, 0))) (.cells #[.int .i64 0, .int .i64 0, .int .i64 0, .int .i64 0, .int .i64 0] 23 (0, 0))) hb; have HR := blk_below (show ((w.alloc (.cells #[.int .i64 t, .int .i64 r, .int .i64 b, .int .i64 o, .int .i64 g] 23 (0, 0))).alloc (.cells #[.int .i64 0, .int .i64 0, .int .i64 0, .int .i64 0, .int .i64 0] 23 (0, 0))).heap[w.heap.size + 1]? = some (.cells #[.int .i64 0, .int .i64 0, .int .i64 0, .int .i64 0, .int .i64 0] 23 (0, 0)) from blk_newD (by simp)) hb; have ht0 : w1.cell? ⟨w.heap.size, 0, none⟩ = some (.int .i64 t) := (blk_cell HT 0).trans rfl; have hu0 := blk_frozen HT 0; have ht1 : w1.cell? ⟨w.heap.size, 1, none⟩ = some (.int .i64 r) := (blk_cell HT 1).trans rfl; have hu1 := blk_frozen HT 1; have ht2 : w1.cell? ⟨w.heap.size, 2, none⟩ = some (.int .i64 b) := (blk_cell HT 2).trans rfl; have hu2 := blk_frozen HT 2; have ht3 : w1.cell? ⟨w.heap.size, 3, none⟩ = some (.int .i64 o) := (blk_cell HT 3).trans rfl; have hu3 := blk_frozen HT 3; have ht4 : w1.cell? ⟨w.heap.size, 4, none⟩ = some (.int .i64 g) := (blk_cell HT 4).trans rfl; have hu4 := blk_frozen HT 4; have hr0 : w1.cell? ⟨w.heap.size + 1, 0, none⟩ = some (.int .i64 0) := (blk_cell HR 0).trans rfl; have hs0 := blk_frozen HR 0; have hr1 : w1.cell? ⟨w.heap.size + 1, 1, none⟩ = some (.int .i64 0) := (blk_cell HR 1).trans rfl; have hs1 := blk_frozen HR 1; have hr2 : w1.cell? ⟨w.heap.size + 1, 2, none⟩ = some (.int .i64 0) := (blk_cell HR 2).trans rfl; have hs2 := blk_frozen HR 2; have hr3 : w1.cell? ⟨w.heap.size + 1, 3, none⟩ = some (.int .i64 0) := (blk_cell HR 3).trans rfl; have hs3 := blk_frozen HR 3; have hr4 : w1.cell? ⟨w.heap.size + 1, 4, none⟩ = some (.int .i64 0) := (blk_cell HR 4).trans rfl; have hs4 := blk_frozen HR 4; clear HT HR hb) | (go_at_call 42; (with_reducible refine (C2.out _).mono ?_); clear C2; rintro e w2 ⟨rfl, ⟨nd, rfl⟩⟩; have HBn := Aside0.mk (pw_below_drewN HB1.out nd)) | (go_at_call 34; (with_reducible refine (cap_badges_calls _ _).mono ?_); rintro e w3 ⟨rfl, rfl⟩))
    refine bodyPost_ret (v := .tuple #[.agg #[.int .i64 t, .int .i64 a, .int .i64 b, .int .i64 o, .int .i64 g], .int .i64 0]) ?_ rfl ⟨rfl, ?_⟩
    ·simp only [results, HRES.out]
     go_simp
    ·first | (have hB1 := HB1.out; go_grown; done) | (have hB2 := HBn.out; go_grown)
   ·have bd : (d == 0) = false := beq_eq_false_iff_ne.mpr hd
    rw [if_neg hd] at hV
    clear hd
    by_cases ht : t = 2
    ·have bt : (t == 2) = true := beq_iff_eq.mpr ht
     rw [if_pos (.inl ht)] at hV
     clear ht
     obtain ⟨rfl, rfl⟩ := Prod.mk.injEq .. ▸ hV
     clear hV
     go_enter Tryd.func21, Tryd.ntmps21
     go_wp2_with (first | (go_at_call 41; (with_reducible refine (C1.out _).mono ?_); clear C1; rintro e w1 ⟨rfl, hb⟩; have HB1 := Aside0.mk (below_step (show Below w.heap.size w _ by go_grown) hb); have HT := blk_below (blk_alloc (blk_new w (.cells #[.int .i64 t, .int .i64 r, .int .i64 b, .int .i64 o, .int .i64 g] 23 (0, 0))) (.cells #[.int .i64 0, .int .i64 0, .int .i64 0, .int .i64 0, .int .i64 0] 23 (0, 0))) hb; have HR := blk_below (show ((w.alloc (.cells #[.int .i64 t, .int .i64 r, .int .i64 b, .int .i64 o, .int .i64 g] 23 (0, 0))).alloc (.cells #[.int .i64 0, .int .i64 0, .int .i64 0, .int .i64 0, .int .i64 0] 23 (0, 0))).heap[w.heap.size + 1]? = some (.cells #[.int .i64 0, .int .i64 0, .int .i64 0, .int .i64 0, .int .i64 0] 23 (0, 0)) from blk_newD (by simp)) hb; have ht0 : w1.cell? ⟨w.heap.size, 0, none⟩ = some (.int .i64 t) := (blk_cell HT 0).trans rfl; have hu0 := blk_frozen HT 0; have ht1 : w1.cell? ⟨w.heap.size, 1, none⟩ = some (.int .i64 r) := (blk_cell HT 1).trans rfl; have hu1 := blk_frozen HT 1; have ht2 : w1.cell? ⟨w.heap.size, 2, none⟩ = some (.int .i64 b) := (blk_cell HT 2).trans rfl; have hu2 := blk_frozen HT 2; have ht3 : w1.cell? ⟨w.heap.size, 3, none⟩ = some (.int .i64 o) := (blk_cell HT 3).trans rfl; have hu3 := blk_frozen HT 3; have ht4 : w1.cell? ⟨w.heap.size, 4, none⟩ = some (.int .i64 g) := (blk_cell HT 4).trans rfl; have hu4 := blk_frozen HT 4; have hr0 : w1.cell? ⟨w.heap.size + 1, 0, none⟩ = some (.int .i64 0) := (blk_cell HR 0).trans rfl; have hs0 := blk_frozen HR 0; have hr1 : w1.cell? ⟨w.heap.size + 1, 1, none⟩ = some (.int .i64 0) := (blk_cell HR 1).trans rfl; have hs1 := blk_frozen HR 1; have hr2 : w1.cell? ⟨w.heap.size + 1, 2, none⟩ = some (.int .i64 0) := (blk_cell HR 2).trans rfl; have hs2 := blk_frozen HR 2; have hr3 : w1.cell? ⟨w.heap.size + 1, 3, none⟩ = some (.int .i64 0) := (blk_cell HR 3).trans rfl; have hs3 := blk_frozen HR 3; have hr4 : w1.cell? ⟨w.heap.size + 1, 4, none⟩ = some (.int .i64 0) := (blk_cell HR 4).trans rfl; have hs4 := blk_frozen HR 4; clear HT HR hb) | (go_at_call 42; (with_reducible refine (C2.out _).mono ?_); clear C2; rintro e w2 ⟨rfl, ⟨nd, rfl⟩⟩; have HBn := Aside0.mk (pw_below_drewN HB1.out nd)) | (go_at_call 34; (with_reducible refine (cap_badges_calls _ _).mono ?_); rintro e w3 ⟨rfl, rfl⟩))
     refine bodyPost_ret (v := .tuple #[.agg #[.int .i64 0, .int .i64 0, .int .i64 0, .int .i64 0, .int .i64 0], .int .i64 2]) ?_ rfl ⟨rfl, ?_⟩
     ·simp only [results, HRES.out]
      go_simp
     ·first | (have hB1 := HB1.out; go_grown; done) | (have hB2 := HBn.out; go_grown)
    ·have bt : (t == 2) = false := beq_eq_false_iff_ne.mpr ht
     by_cases hb0 : b = 0
     ·have bb : (b == 0) = true := beq_iff_eq.mpr hb0
      have bb2 : (b != 0) = false := bne_eq_false_iff_eq.mpr hb0
      by_cases hdn : d < 0
      ·have bn : decide (d < 0) = true := decide_eq_true hdn
       rw [if_pos (.inr (.inr (.inl hdn)))] at hV
       clear ht hdn hb0
       obtain ⟨rfl, rfl⟩ := Prod.mk.injEq .. ▸ hV
       clear hV
       go_enter Tryd.func21, Tryd.ntmps21
       go_wp2_with (first | (go_at_call 41; (with_reducible refine (C1.out _).mono ?_); clear C1; rintro e w1 ⟨rfl, hb⟩; have HB1 := Aside0.mk (below_step (show Below w.heap.size w _ by go_grown) hb); have HT := blk_below (blk_alloc (blk_new w (.cells #[.int .i64 t, .int .i64 r, .int .i64 b, .int .i64 o, .int .i64 g] 23 (0, 0))) (.cells #[.int .i64 0, .int .i64 0, .int .i64 0, .int .i64 0, .int .i64 0] 23 (0, 0))) hb; have HR := blk_below (show ((w.alloc (.cells #[.int .i64 t, .int .i64 r, .int .i64 b, .int .i64 o, .int .i64 g] 23 (0, 0))).alloc (.cells #[.int .i64 0, .int .i64 0, .int .i64 0, .int .i64 0, .int .i64 0] 23 (0, 0))).heap[w.heap.size + 1]? = some (.cells #[.int .i64 0, .int .i64 0, .int .i64 0, .int .i64 0, .int .i64 0] 23 (0, 0)) from blk_newD (by simp)) hb; have ht0 : w1.cell? ⟨w.heap.size, 0, none⟩ = some (.int .i64 t) := (blk_cell HT 0).trans rfl; have hu0 := blk_frozen HT 0; have ht1 : w1.cell? ⟨w.heap.size, 1, none⟩ = some (.int .i64 r) := (blk_cell HT 1).trans rfl; have hu1 := blk_frozen HT 1; have ht2 : w1.cell? ⟨w.heap.size, 2, none⟩ = some (.int .i64 b) := (blk_cell HT 2).trans rfl; have hu2 := blk_frozen HT 2; have ht3 : w1.cell? ⟨w.heap.size, 3, none⟩ = some (.int .i64 o) := (blk_cell HT 3).trans rfl; have hu3 := blk_frozen HT 3; have ht4 : w1.cell? ⟨w.heap.size, 4, none⟩ = some (.int .i64 g) := (blk_cell HT 4).trans rfl; have hu4 := blk_frozen HT 4; have hr0 : w1.cell? ⟨w.heap.size + 1, 0, none⟩ = some (.int .i64 0) := (blk_cell HR 0).trans rfl; have hs0 := blk_frozen HR 0; have hr1 : w1.cell? ⟨w.heap.size + 1, 1, none⟩ = some (.int .i64 0) := (blk_cell HR 1).trans rfl; have hs1 := blk_frozen HR 1; have hr2 : w1.cell? ⟨w.heap.size + 1, 2, none⟩ = some (.int .i64 0) := (blk_cell HR 2).trans rfl; have hs2 := blk_frozen HR 2; have hr3 : w1.cell? ⟨w.heap.size + 1, 3, none⟩ = some (.int .i64 0) := (blk_cell HR 3).trans rfl; have hs3 := blk_frozen HR 3; have hr4 : w1.cell? ⟨w.heap.size + 1, 4, none⟩ = some (.int .i64 0) := (blk_cell HR 4).trans rfl; have hs4 := blk_frozen HR 4; clear HT HR hb) | (go_at_call 42; (with_reducible refine (C2.out _).mono ?_); clear C2; rintro e w2 ⟨rfl, ⟨nd, rfl⟩⟩; have HBn := Aside0.mk (pw_below_drewN HB1.out nd)) | (go_at_call 34; (with_reducible refine (cap_badges_calls _ _).mono ?_); rintro e w3 ⟨rfl, rfl⟩))
       refine bodyPost_ret (v := .tuple #[.agg #[.int .i64 0, .int .i64 0, .int .i64 0, .int .i64 0, .int .i64 0], .int .i64 2]) ?_ rfl ⟨rfl, ?_⟩
       ·simp only [results, HRES.out]
        go_simp
       ·first | (have hB1 := HB1.out; go_grown; done) | (have hB2 := HBn.out; go_grown)
      ·have bn : decide (d < 0) = false := decide_eq_false hdn
       by_cases hm : capBadges t < d
       ·have bm : decide (capBadges t < d) = true := decide_eq_true hm
        rw [if_pos (.inr (.inr (.inr hm)))] at hV
        clear ht hdn hm hb0
        obtain ⟨rfl, rfl⟩ := Prod.mk.injEq .. ▸ hV
        clear hV
        go_enter Tryd.func21, Tryd.ntmps21
        go_wp2_with (first | (go_at_call 41; (with_reducible refine (C1.out _).mono ?_); clear C1; rintro e w1 ⟨rfl, hb⟩; have HB1 := Aside0.mk (below_step (show Below w.heap.size w _ by go_grown) hb); have HT := blk_below (blk_alloc (blk_new w (.cells #[.int .i64 t, .int .i64 r, .int .i64 b, .int .i64 o, .int .i64 g] 23 (0, 0))) (.cells #[.int .i64 0, .int .i64 0, .int .i64 0, .int .i64 0, .int .i64 0] 23 (0, 0))) hb; have HR := blk_below (show ((w.alloc (.cells #[.int .i64 t, .int .i64 r, .int .i64 b, .int .i64 o, .int .i64 g] 23 (0, 0))).alloc (.cells #[.int .i64 0, .int .i64 0, .int .i64 0, .int .i64 0, .int .i64 0] 23 (0, 0))).heap[w.heap.size + 1]? = some (.cells #[.int .i64 0, .int .i64 0, .int .i64 0, .int .i64 0, .int .i64 0] 23 (0, 0)) from blk_newD (by simp)) hb; have ht0 : w1.cell? ⟨w.heap.size, 0, none⟩ = some (.int .i64 t) := (blk_cell HT 0).trans rfl; have hu0 := blk_frozen HT 0; have ht1 : w1.cell? ⟨w.heap.size, 1, none⟩ = some (.int .i64 r) := (blk_cell HT 1).trans rfl; have hu1 := blk_frozen HT 1; have ht2 : w1.cell? ⟨w.heap.size, 2, none⟩ = some (.int .i64 b) := (blk_cell HT 2).trans rfl; have hu2 := blk_frozen HT 2; have ht3 : w1.cell? ⟨w.heap.size, 3, none⟩ = some (.int .i64 o) := (blk_cell HT 3).trans rfl; have hu3 := blk_frozen HT 3; have ht4 : w1.cell? ⟨w.heap.size, 4, none⟩ = some (.int .i64 g) := (blk_cell HT 4).trans rfl; have hu4 := blk_frozen HT 4; have hr0 : w1.cell? ⟨w.heap.size + 1, 0, none⟩ = some (.int .i64 0) := (blk_cell HR 0).trans rfl; have hs0 := blk_frozen HR 0; have hr1 : w1.cell? ⟨w.heap.size + 1, 1, none⟩ = some (.int .i64 0) := (blk_cell HR 1).trans rfl; have hs1 := blk_frozen HR 1; have hr2 : w1.cell? ⟨w.heap.size + 1, 2, none⟩ = some (.int .i64 0) := (blk_cell HR 2).trans rfl; have hs2 := blk_frozen HR 2; have hr3 : w1.cell? ⟨w.heap.size + 1, 3, none⟩ = some (.int .i64 0) := (blk_cell HR 3).trans rfl; have hs3 := blk_frozen HR 3; have hr4 : w1.cell? ⟨w.heap.size + 1, 4, none⟩ = some (.int .i64 0) := (blk_cell HR 4).trans rfl; have hs4 := blk_frozen HR 4; clear HT HR hb) | (go_at_call 42; (with_reducible refine (C2.out _).mono ?_); clear C2; rintro e w2 ⟨rfl, ⟨nd, rfl⟩⟩; have HBn := Aside0.mk (pw_below_drewN HB1.out nd)) | (go_at_call 34; (with_reducible refine (cap_badges_calls _ _).mono ?_); rintro e w3 ⟨rfl, rfl⟩))
        refine bodyPost_ret (v := .tuple #[.agg #[.int .i64 0, .int .i64 0, .int .i64 0, .int .i64 0, .int .i64 0], .int .i64 2]) ?_ rfl ⟨rfl, ?_⟩
        ·simp only [results, HRES.out]
         go_simp
        ·first | (have hB1 := HB1.out; go_grown; done) | (have hB2 := HBn.out; go_grown)
       ·have bm : decide (capBadges t < d) = false := decide_eq_false hm
        rw [if_neg (by omega)] at hV
        clear ht hdn hm hb0
        obtain ⟨rfl, rfl⟩ := Prod.mk.injEq .. ▸ hV
        clear hV
        go_enter Tryd.func21, Tryd.ntmps21
        go_wp2_with (first | (go_at_call 41; (with_reducible refine (C1.out _).mono ?_); clear C1; rintro e w1 ⟨rfl, hb⟩; have HB1 := Aside0.mk (below_step (show Below w.heap.size w _ by go_grown) hb); have HT := blk_below (blk_alloc (blk_new w (.cells #[.int .i64 t, .int .i64 r, .int .i64 b, .int .i64 o, .int .i64 g] 23 (0, 0))) (.cells #[.int .i64 0, .int .i64 0, .int .i64 0, .int .i64 0, .int .i64 0] 23 (0, 0))) hb; have HR := blk_below (show ((w.alloc (.cells #[.int .i64 t, .int .i64 r, .int .i64 b, .int .i64 o, .int .i64 g] 23 (0, 0))).alloc (.cells #[.int .i64 0, .int .i64 0, .int .i64 0, .int .i64 0, .int .i64 0] 23 (0, 0))).heap[w.heap.size + 1]? = some (.cells #[.int .i64 0, .int .i64 0, .int .i64 0, .int .i64 0, .int .i64 0] 23 (0, 0)) from blk_newD (by simp)) hb; have ht0 : w1.cell? ⟨w.heap.size, 0, none⟩ = some (.int .i64 t) := (blk_cell HT 0).trans rfl; have hu0 := blk_frozen HT 0; have ht1 : w1.cell? ⟨w.heap.size, 1, none⟩ = some (.int .i64 r) := (blk_cell HT 1).trans rfl; have hu1 := blk_frozen HT 1; have ht2 : w1.cell? ⟨w.heap.size, 2, none⟩ = some (.int .i64 b) := (blk_cell HT 2).trans rfl; have hu2 := blk_frozen HT 2; have ht3 : w1.cell? ⟨w.heap.size, 3, none⟩ = some (.int .i64 o) := (blk_cell HT 3).trans rfl; have hu3 := blk_frozen HT 3; have ht4 : w1.cell? ⟨w.heap.size, 4, none⟩ = some (.int .i64 g) := (blk_cell HT 4).trans rfl; have hu4 := blk_frozen HT 4; have hr0 : w1.cell? ⟨w.heap.size + 1, 0, none⟩ = some (.int .i64 0) := (blk_cell HR 0).trans rfl; have hs0 := blk_frozen HR 0; have hr1 : w1.cell? ⟨w.heap.size + 1, 1, none⟩ = some (.int .i64 0) := (blk_cell HR 1).trans rfl; have hs1 := blk_frozen HR 1; have hr2 : w1.cell? ⟨w.heap.size + 1, 2, none⟩ = some (.int .i64 0) := (blk_cell HR 2).trans rfl; have hs2 := blk_frozen HR 2; have hr3 : w1.cell? ⟨w.heap.size + 1, 3, none⟩ = some (.int .i64 0) := (blk_cell HR 3).trans rfl; have hs3 := blk_frozen HR 3; have hr4 : w1.cell? ⟨w.heap.size + 1, 4, none⟩ = some (.int .i64 0) := (blk_cell HR 4).trans rfl; have hs4 := blk_frozen HR 4; clear HT HR hb) | (go_at_call 42; (with_reducible refine (C2.out _).mono ?_); clear C2; rintro e w2 ⟨rfl, ⟨nd, rfl⟩⟩; have HBn := Aside0.mk (pw_below_drewN HB1.out nd)) | (go_at_call 34; (with_reducible refine (cap_badges_calls _ _).mono ?_); rintro e w3 ⟨rfl, rfl⟩))
        refine bodyPost_ret (v := .tuple #[.agg #[.int .i64 t, .int .i64 a, .int .i64 d, .int .i64 o, .int .i64 g], .int .i64 0]) ?_ rfl ⟨rfl, ?_⟩
        ·simp only [results, HRES.out]
         go_simp
        ·first | (have hB1 := HB1.out; go_grown; done) | (have hB2 := HBn.out; go_grown)
     ·have bb : (b == 0) = false := beq_eq_false_iff_ne.mpr hb0
      have bb2 : (b != 0) = true := bne_iff_ne.mpr hb0
      rw [if_pos (.inr (.inl hb0))] at hV
      clear ht hb0
      obtain ⟨rfl, rfl⟩ := Prod.mk.injEq .. ▸ hV
      clear hV
      go_enter Tryd.func21, Tryd.ntmps21
      go_wp2_with (first | (go_at_call 41; (with_reducible refine (C1.out _).mono ?_); clear C1; rintro e w1 ⟨rfl, hb⟩; have HB1 := Aside0.mk (below_step (show Below w.heap.size w _ by go_grown) hb); have HT := blk_below (blk_alloc (blk_new w (.cells #[.int .i64 t, .int .i64 r, .int .i64 b, .int .i64 o, .int .i64 g] 23 (0, 0))) (.cells #[.int .i64 0, .int .i64 0, .int .i64 0, .int .i64 0, .int .i64 0] 23 (0, 0))) hb; have HR := blk_below (show ((w.alloc (.cells #[.int .i64 t, .int .i64 r, .int .i64 b, .int .i64 o, .int .i64 g] 23 (0, 0))).alloc (.cells #[.int .i64 0, .int .i64 0, .int .i64 0, .int .i64 0, .int .i64 0] 23 (0, 0))).heap[w.heap.size + 1]? = some (.cells #[.int .i64 0, .int .i64 0, .int .i64 0, .int .i64 0, .int .i64 0] 23 (0, 0)) from blk_newD (by simp)) hb; have ht0 : w1.cell? ⟨w.heap.size, 0, none⟩ = some (.int .i64 t) := (blk_cell HT 0).trans rfl; have hu0 := blk_frozen HT 0; have ht1 : w1.cell? ⟨w.heap.size, 1, none⟩ = some (.int .i64 r) := (blk_cell HT 1).trans rfl; have hu1 := blk_frozen HT 1; have ht2 : w1.cell? ⟨w.heap.size, 2, none⟩ = some (.int .i64 b) := (blk_cell HT 2).trans rfl; have hu2 := blk_frozen HT 2; have ht3 : w1.cell? ⟨w.heap.size, 3, none⟩ = some (.int .i64 o) := (blk_cell HT 3).trans rfl; have hu3 := blk_frozen HT 3; have ht4 : w1.cell? ⟨w.heap.size, 4, none⟩ = some (.int .i64 g) := (blk_cell HT 4).trans rfl; have hu4 := blk_frozen HT 4; have hr0 : w1.cell? ⟨w.heap.size + 1, 0, none⟩ = some (.int .i64 0) := (blk_cell HR 0).trans rfl; have hs0 := blk_frozen HR 0; have hr1 : w1.cell? ⟨w.heap.size + 1, 1, none⟩ = some (.int .i64 0) := (blk_cell HR 1).trans rfl; have hs1 := blk_frozen HR 1; have hr2 : w1.cell? ⟨w.heap.size + 1, 2, none⟩ = some (.int .i64 0) := (blk_cell HR 2).trans rfl; have hs2 := blk_frozen HR 2; have hr3 : w1.cell? ⟨w.heap.size + 1, 3, none⟩ = some (.int .i64 0) := (blk_cell HR 3).trans rfl; have hs3 := blk_frozen HR 3; have hr4 : w1.cell? ⟨w.heap.size + 1, 4, none⟩ = some (.int .i64 0) := (blk_cell HR 4).trans rfl; have hs4 := blk_frozen HR 4; clear HT HR hb) | (go_at_call 42; (with_reducible refine (C2.out _).mono ?_); clear C2; rintro e w2 ⟨rfl, ⟨nd, rfl⟩⟩; have HBn := Aside0.mk (pw_below_drewN HB1.out nd)) | (go_at_call 34; (with_reducible refine (cap_badges_calls _ _).mono ?_); rintro e w3 ⟨rfl, rfl⟩))
      refine bodyPost_ret (v := .tuple #[.agg #[.int .i64 0, .int .i64 0, .int .i64 0, .int .i64 0, .int .i64 0], .int .i64 2]) ?_ rfl ⟨rfl, ?_⟩
      ·simp only [results, HRES.out]
       go_simp
      ·first | (have hB1 := HB1.out; go_grown; done) | (have hB2 := HBn.out; go_grown)
def cap_Derive.f (t r b o g a d : Int) : Option Six := if (-9223372036854775808 ≤ a ∧ a ≤ 9223372036854775807) ∧ -9223372036854775808 ≤ r ∧ r ≤ 9223372036854775807 then some (deriveC t r b o g a d) else none
theorem cap_Derive.calls (t r b o g a d : Int) (r1 r2 r3 r4 r5 r6 : Int) (w : World) (h : cap_Derive.f t r b o g a d = some (r1, r2, r3, r4, r5, r6)) :
  Calls Tryd.prog 21 #[.agg #[.int .i64 t, .int .i64 r, .int .i64 b, .int .i64 o, .int .i64 g], .int .i64 a, .int .i64 d] w fun e w' => e = .returned (.tuple #[.agg #[.int .i64 r1, .int .i64 r2, .int .i64 r3, .int .i64 r4, .int .i64 r5], .int .i64 r6]) ∧ Below w.heap.size w w' := by
 unfold cap_Derive.f at h
 by_cases hr : (-9223372036854775808 ≤ a ∧ a ≤ 9223372036854775807) ∧ -9223372036854775808 ≤ r ∧ r ≤ 9223372036854775807
 ·rw [if_pos hr] at h
  have h := Option.some.inj h
  refine derive_walk t r b o g a d _ _ w (Lib.hid (fun W => cap_isOne.calls t r b o g _ W (isOne_f t r b o g))) (Lib.hid (fun W => rights_Within.calls a r _ W (within_f a r hr.1.1 hr.1.2 hr.2.1 hr.2.2))) #[.int .i64 r1, .int .i64 r2, .int .i64 r3, .int .i64 r4, .int .i64 r5] r6 (Lib.hid ?_)
  unfold deriveC at h
  repeat' split at h
  all_goals
   simp only [Prod.mk.injEq] at h
   obtain ⟨rfl, rfl, rfl, rfl, rfl, rfl⟩ := h
   simp_all
 ·rw [if_neg hr] at h
  cases h
end Go.Proofs.YtmcgdopgpjjkbaaDoor.Given
