/- addr.Check at this program: what the call answers (a closure handed to slices.ContainsFunc). -/
import Derived.Test.YtkdebaopfabbbaaPx0
import Derived.Outline
import Derived.Lib.Hide
namespace Go.Proofs.Ytkdebaopfabbbaa.Given
open Go Go.RowKit Go.Proofs Go.Proofs.YtkdebaopfabbbaaW.PrintWords Go.Proofs.YtkdebaopfabbbaaW.PrintLast Go.Proofs.YtkdebaopfabbbaaW.PrintMore Go.Proofs.Ytkdebaopfabbbaa.P

/-- May a number be in a step? -/
def partB (n : Int) : Bool := decide (0 ≤ n ∧ n < 8)
def badB (s : S53) : Bool := !(partB s.f0 && partB s.f1)
/-- The place of the first step that may not be. -/
def badAt : List S53 → Nat → Int
  | [], _ => -1
  | s :: l, i => if badB s = true then (i : Int) else badAt l (i + 1)

set_option maxHeartbeats 400000 in
theorem isPart_calls (n : Int) (w : World) : Calls Try.prog 28 #[.int .i64 n] w fun e w' => e = .returned (.bool (partB n)) ∧ w' = w := by
  by_cases h0 : 0 ≤ n
  · by_cases h1 : n < 8
    · have b0 : decide (0 ≤ n) = true := decide_eq_true h0
      have b1 : decide (n < 8) = true := decide_eq_true h1
      have hp : partB n = true := decide_eq_true ⟨h0, h1⟩
      rw [hp]
      go_enter Try.func28, Try.ntmps28
      go_wp2
      go_ret
      exact ⟨rfl, rfl⟩
    · have b0 : decide (0 ≤ n) = true := decide_eq_true h0
      have b1 : decide (n < 8) = false := decide_eq_false h1
      have hp : partB n = false := decide_eq_false (fun h => h1 h.2)
      rw [hp]
      go_enter Try.func28, Try.ntmps28
      go_wp2
      go_ret
      exact ⟨rfl, rfl⟩
  · have b0 : decide (0 ≤ n) = false := decide_eq_false h0
    have hp : partB n = false := decide_eq_false (fun h => h0 h.1)
    rw [hp]
    go_enter Try.func28, Try.ntmps28
    go_wp2
    go_ret
    exact ⟨rfl, rfl⟩

set_option maxHeartbeats 400000 in
theorem bad_calls (s : S53) (w : World) : Calls Try.prog 27 #[.agg #[.int .i64 s.f0, .int .i64 s.f1]] w fun e w' => e = .returned (.bool (badB s)) ∧ Below w.heap.size w w' := by
  have hb : badB s = !(partB s.f0 && partB s.f1) := rfl
  generalize badB s = b at *
  cases h0 : partB s.f0 with
  | false =>
    rw [h0] at hb
    obtain rfl : b = true := by rw [hb]; rfl
    have c0 := isPart_calls s.f0
    rw [h0] at c0
    have C0 := Lib.hid c0
    clear hb h0 c0
    go_enter Try.func27, Try.ntmps27
    go_wp2_with (go_at_call 28; refine (C0.out _).mono ?_; rintro e w' ⟨rfl, rfl⟩)
    go_ret
    exact ⟨rfl, (Below.refl _ _).alloc (Nat.le_refl _) _⟩
  | true =>
    rw [h0, Bool.true_and] at hb
    have c0 := isPart_calls s.f0
    rw [h0] at c0
    have c1 := isPart_calls s.f1
    generalize partB s.f1 = p at *
    have C0 := Lib.hid c0
    have C1 := Lib.hid c1
    clear h0 c0 c1
    subst hb
    cases p
    all_goals
      go_enter Try.func27, Try.ntmps27
      go_wp2_with (go_at_call 28; first | ((with_reducible refine (C0.out _).mono ?_); clear C0; rintro e w' ⟨rfl, rfl⟩) | ((with_reducible refine (C1.out _).mono ?_); rintro e w' ⟨rfl, rfl⟩))
      go_ret
      exact ⟨rfl, (Below.refl _ _).alloc (Nat.le_refl _) _⟩

theorem badAt_drop (l : List S53) (k : Nat) (hk : k < l.length) : badAt (l.drop k) k = if badB (rd_T53 l k) = true then (k : Int) else badAt (l.drop (k + 1)) (k + 1) := by
  rw [List.drop_eq_getElem_cons hk]
  have : rd_T53 l (k : Int) = l[k] := by
    unfold rd_T53
    rw [Int.toNat_natCast, List.getD_eq_getElem?_getD, List.getElem?_eq_getElem hk]
    rfl
  rw [this]
  rfl

def IdxPost (l : List S53) (w : World) (e : Ending) (w' : World) : Prop := ∃ r, r = badAt l 0 ∧ e = .returned (.int .i64 r) ∧ Below w.heap.size w w'

set_option maxRecDepth 100000 in
set_option maxHeartbeats 1000000 in
theorem index_calls (A : Option Addr) (c : Nat) (l : List S53) (w : World) (hr : Kd.C k53 w A l.length l) :
    Calls Try.prog 36 #[.slice A l.length c, .func (.func 27) #[] #[]] w (IdxPost l w) := by
  have hm := Kd.C_max hr
  go_enter Try.func36, Try.ntmps36
  go_wp2
  go_loopw [8] (fun i wr => ∃ k : Nat, k ≤ l.length ∧ i = .int .i64 k ∧ Hid (badAt (l.drop k) k = badAt l 0) ∧ Below w.heap.size w wr) (fun i _ => l.length - (intOf i).toNat)
  case atStart => exact ⟨0, Nat.zero_le _, rfl, Lib.hid rfl, Below.refl _ _⟩
  case round =>
    obtain ⟨k, hk, rfl, hbad, hB⟩ := hrel
    by_cases hlt : k < l.length
    · have hd : decide (k < l.length) = true := decide_eq_true hlt
      have hd2 : decide ((k : Int) < (l.length : Int)) = true := decide_eq_true (by omega)
      obtain ⟨ad, e1, hx0, hx1⟩ := at_T53 (Kd.C_below hr hB) (k : Int) (by omega) (by omega)
      cases e1
      rw [Int.toNat_natCast] at hx0 hx1
      have hdrop := badAt_drop l k hlt
      have c0 := bad_calls (rd_T53 l (k : Int))
      generalize badB (rd_T53 l (k : Int)) = b at *
      have HD := Lib.hid hdrop
      have C0 := Lib.hid c0
      clear hdrop c0
      cases b
      · go_wp2_with (go_at_call 27; (with_reducible refine (C0.out _).mono ?_); rintro e w' ⟨rfl, hb⟩)
        have hlt' := hlt
        refine ⟨⟨k + 1, hlt, rfl, ?_, ?_⟩, ?_⟩
        · exact Lib.hid ((HD.out.symm.trans hbad.out))
        · exact hB.trans (hb.mono hB.size)
        · show l.length - ((k : Int) + 1).toNat < l.length - ((k : Int)).toNat
          omega
      · go_wp2_with (go_at_call 27; (with_reducible refine (C0.out _).mono ?_); rintro e w' ⟨rfl, hb⟩)
        go_ret
        exact ⟨_, (HD.out.symm.trans hbad.out), rfl, hB.trans (hb.mono hB.size)⟩
    · have hd : decide (k < l.length) = false := decide_eq_false hlt
      have hd2 : decide ((k : Int) < (l.length : Int)) = false := decide_eq_false (by omega)
      have hkl : l.drop k = [] := List.drop_eq_nil_of_le (Nat.le_of_not_lt hlt)
      rw [hkl] at hbad
      go_wp2
      go_ret
      exact ⟨_, hbad.out, rfl, hB⟩

set_option maxHeartbeats 400000 in
theorem contains_calls (A : Option Addr) (c : Nat) (l : List S53) (w : World) (hr : Kd.C k53 w A l.length l) :
    Calls Try.prog 29 #[.slice A l.length c, .func (.func 27) #[] #[]] w fun e w' => e = .returned (.bool (decide (0 ≤ badAt l 0))) ∧ Below w.heap.size w w' := by
  have hi := (index_calls A c l w hr).mono (R' := fun e w' => e = .returned (.int .i64 (badAt l 0)) ∧ Below w.heap.size w w') (by rintro e w' ⟨_, rfl, h1, h2⟩; exact ⟨h1, h2⟩)
  generalize badAt l 0 = r at *
  have Hi := Lib.hid hi
  clear hi
  by_cases h0 : 0 ≤ r
  all_goals
    first | have b0 : decide (0 ≤ r) = true := decide_eq_true h0
          | have b0 : decide (0 ≤ r) = false := decide_eq_false h0
    rw [b0]
    go_enter Try.func29, Try.ntmps29
    go_wp2_with (go_at_call 36; (with_reducible refine Hi.out.mono ?_); clear Hi; rintro e w' ⟨rfl, hb⟩)
    go_ret
    exact ⟨rfl, hb⟩

/-- What the call answers. -/
def addr_Check.ok (l : List S53) : Bool := decide (1 ≤ l.length) && decide (l.length ≤ 4) && decide (badAt l 0 < 0)
def addr_Check.f (l : List S53) : Option Int := some (if addr_Check.ok l = true then 0 else 120)

set_option maxHeartbeats 400000 in
theorem addr_Check.calls (A0 : Option Addr) (c0 : Nat) (l0 : List S53) (r : Int) (w : World) (hr0 : Kd.C k53 w A0 l0.length l0) (hc0 : l0.length ≤ c0) (h : addr_Check.f l0 = some r) :
    Calls Try.prog 14 #[.slice A0 l0.length c0] w fun e w' => e = .returned (.int .i64 r) ∧ Below w.heap.size w w' := by
  have _h := hc0
  have hr : r = if addr_Check.ok l0 = true then 0 else 120 := (Option.some.inj h).symm
  unfold addr_Check.ok at hr
  have hi := fun w' (hb : Below w.heap.size w w') => contains_calls A0 c0 l0 w' (Kd.C_below hr0 hb)
  clear h hr0 hc0 _h
  have Hi := Lib.hid hi
  clear hi
  by_cases h1 : l0.length < 1
  · have b1 : decide (l0.length < 1) = true := decide_eq_true h1
    have b1' : decide ((l0.length : Int) < 1) = true := decide_eq_true (by omega)
    rw [if_neg (by simp; omega)] at hr
    subst hr
    go_enter Try.func14, Try.ntmps14
    go_wp2
    go_ret
    exact ⟨rfl, Below.refl _ _⟩
  · have b1 : decide (l0.length < 1) = false := decide_eq_false h1
    have b1' : decide ((l0.length : Int) < 1) = false := decide_eq_false (by omega)
    by_cases h2 : 4 < l0.length
    · have b2 : decide (4 < l0.length) = true := decide_eq_true h2
      have b2' : decide (4 < (l0.length : Int)) = true := decide_eq_true (by omega)
      rw [if_neg (by simp; omega)] at hr
      subst hr
      go_enter Try.func14, Try.ntmps14
      go_wp2
      go_ret
      exact ⟨rfl, Below.refl _ _⟩
    · have b2 : decide (4 < l0.length) = false := decide_eq_false h2
      have b2' : decide (4 < (l0.length : Int)) = false := decide_eq_false (by omega)
      have hr' : r = if 0 ≤ badAt l0 0 then 120 else 0 := by
        rw [hr]
        by_cases h3 : 0 ≤ badAt l0 0
        · rw [if_neg (by simp; omega), if_pos h3]
        · rw [if_pos (by simp; omega), if_neg h3]
      clear hr
      generalize badAt l0 0 = q at *
      by_cases h3 : 0 ≤ q
      · rw [if_pos h3] at hr'
        have b3 : decide (0 ≤ q) = true := decide_eq_true h3
        rw [b3] at Hi
        subst hr'
        go_enter Try.func14, Try.ntmps14
        go_wp2_with (go_at_call 29; (with_reducible refine (Hi.out _ ?_).mono ?_); clear Hi; (exact Below.refl _ _); rintro e w' ⟨rfl, hb⟩)
        go_ret
        exact ⟨rfl, hb⟩
      · rw [if_neg h3] at hr'
        have b3 : decide (0 ≤ q) = false := decide_eq_false h3
        rw [b3] at Hi
        subst hr'
        go_enter Try.func14, Try.ntmps14
        go_wp2_with (go_at_call 29; (with_reducible refine (Hi.out _ ?_).mono ?_); clear Hi; (exact Below.refl _ _); rintro e w' ⟨rfl, hb⟩)
        go_ret
        exact ⟨rfl, hb⟩
end Go.Proofs.Ytkdebaopfabbbaa.Given
