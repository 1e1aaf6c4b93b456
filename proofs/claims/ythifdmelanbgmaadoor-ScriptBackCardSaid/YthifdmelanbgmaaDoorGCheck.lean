/- script.Check at this program: what the call answers (a closure handed to slices.ContainsFunc). -/
import Derived.Test.YthifdmelanbgmaaDoorPx0
import Derived.Outline
import Derived.Lib.Hide
namespace Go.Proofs.YthifdmelanbgmaaDoor.Given
open Go Go.RowKit Go.Proofs Go.Proofs.YthifdmelanbgmaaDoorW.PrintWords Go.Proofs.YthifdmelanbgmaaDoorW.PrintLast Go.Proofs.YthifdmelanbgmaaDoorW.PrintMore Go.Proofs.YthifdmelanbgmaaDoor.P
set_option linter.unusedVariables false
set_option linter.unusedSimpArgs false

/-- May a core not be in a script for n cores? -/
def badC (n c : Int) : Bool := decide (c < 0 ∨ n ≤ c)
/-- The place of the first core that may not be. -/
def badAt (n : Int) : List Int → Nat → Int
  | [], _ => -1
  | c :: l, i => if badC n c = true then (i : Int) else badAt n l (i + 1)

set_option maxHeartbeats 400000 in
theorem bad_calls (n c : Int) (g : Nat) (w : World) (hc : w.cell? ⟨g, 0, none⟩ = some (.int .i64 n)) : Calls Tryd.prog 32 #[.int .i64 c, .pointer (some ⟨g, 0, none⟩)] w fun e w' => e = .returned (.bool (badC n c)) ∧ Below w.heap.size w w' := by
  by_cases h0 : c < 0
  · have hb : badC n c = true := decide_eq_true (Or.inl h0)
    have b0 : decide (c < 0) = true := decide_eq_true h0
    rw [hb]
    clear h0 hb
    go_enter Tryd.func32, Tryd.ntmps32
    go_wp2
    go_ret
    exact ⟨rfl, Below.refl _ _⟩
  · have b0 : decide (c < 0) = false := decide_eq_false h0
    by_cases h1 : c ≥ n
    · have hb : badC n c = true := decide_eq_true (Or.inr h1)
      have b1 : decide (c ≥ n) = true := decide_eq_true h1
      rw [hb]
      clear h0 h1 hb
      go_enter Tryd.func32, Tryd.ntmps32
      go_wp2
      go_ret
      exact ⟨rfl, Below.refl _ _⟩
    · have hb : badC n c = false := decide_eq_false (by omega)
      have b1 : decide (c ≥ n) = false := decide_eq_false h1
      rw [hb]
      clear h0 h1 hb
      go_enter Tryd.func32, Tryd.ntmps32
      go_wp2
      go_ret
      exact ⟨rfl, Below.refl _ _⟩

theorem badAt_drop (n : Int) (l : List Int) (k : Nat) (hk : k < l.length) : badAt n (l.drop k) k = if badC n (rd l k) = true then (k : Int) else badAt n (l.drop (k + 1)) (k + 1) := by
  rw [List.drop_eq_getElem_cons hk]
  have : rd l (k : Int) = l[k] := by
    unfold rd
    rw [Int.toNat_natCast, List.getD_eq_getElem?_getD, List.getElem?_eq_getElem hk]
    rfl
  rw [this]
  rfl

def IdxPost (n : Int) (l : List Int) (w : World) (e : Ending) (w' : World) : Prop := ∃ r, r = badAt n l 0 ∧ e = .returned (.int .i64 r) ∧ Below w.heap.size w w'

set_option maxRecDepth 100000 in
set_option maxHeartbeats 1000000 in
theorem index_calls (n : Int) (g : Nat) (A : Option Addr) (c : Nat) (l : List Int) (w : World) (hr : Kd.C (Kd.int .i64) w A l.length l) (hg : g < w.heap.size) (hc : w.cell? ⟨g, 0, none⟩ = some (.int .i64 n)) :
    Calls Tryd.prog 40 #[.slice A l.length c, .func (.func 32) #[] #[.pointer (some ⟨g, 0, none⟩)]] w (IdxPost n l w) := by
  have hm := Kd.C_max hr
  have HG := Lib.hid hc
  clear hc
  go_enter Tryd.func40, Tryd.ntmps40
  go_wp2
  go_loopw [8] (fun i wr => ∃ k : Nat, k ≤ l.length ∧ i = .int .i64 k ∧ Hid (badAt n (l.drop k) k = badAt n l 0) ∧ Below w.heap.size w wr) (fun i _ => l.length - (intOf i).toNat)
  case atStart => exact ⟨0, Nat.zero_le _, rfl, Lib.hid rfl, Below.refl _ _⟩
  case round =>
    obtain ⟨k, hk, rfl, hbad, hB⟩ := hrel
    by_cases hlt : k < l.length
    · have hd : decide (k < l.length) = true := decide_eq_true hlt
      have hd2 : decide ((k : Int) < (l.length : Int)) = true := decide_eq_true (by omega)
      obtain ⟨ad, e1, hx0⟩ := Kd.at_int (Kd.C_below hr hB) (k : Int) (by omega) (by omega)
      cases e1
      rw [Int.toNat_natCast] at hx0
      have hdrop := badAt_drop n l k hlt
      have c0 := fun W (hW : Below w.heap.size w W) => bad_calls n (rd l (k : Int)) g W ((hW.cell (p := ⟨g, 0, none⟩) hg).trans HG.out)
      generalize badC n (rd l (k : Int)) = b at *
      have HD := Lib.hid hdrop
      have C0 := Lib.hid c0
      clear hdrop c0
      cases b
      · go_wp2_with (go_at_call 32; (with_reducible refine (C0.out _ hB).mono ?_); rintro e w' ⟨rfl, hb⟩)
        have hlt' := hlt
        refine ⟨⟨k + 1, hlt, rfl, ?_, ?_⟩, ?_⟩
        · exact Lib.hid ((HD.out.symm.trans hbad.out))
        · exact hB.trans (hb.mono hB.size)
        · show l.length - ((k : Int) + 1).toNat < l.length - ((k : Int)).toNat
          omega
      · go_wp2_with (go_at_call 32; (with_reducible refine (C0.out _ hB).mono ?_); rintro e w' ⟨rfl, hb⟩)
        go_ret
        exact ⟨_, (HD.out.symm.trans hbad.out), rfl, hB.trans (hb.mono hB.size)⟩
    · have hd : decide (k < l.length) = false := decide_eq_false hlt
      have hd2 : decide ((k : Int) < (l.length : Int)) = false := decide_eq_false (by omega)
      have hkl : l.drop k = [] := List.drop_eq_nil_of_le (Nat.le_of_not_lt hlt)
      rw [hkl] at hbad
      go_wp2
      go_ret
      exact ⟨_, hbad.out, rfl, hB⟩

set_option maxHeartbeats 400000 in
theorem contains_calls (n : Int) (g : Nat) (A : Option Addr) (c : Nat) (l : List Int) (w : World) (hr : Kd.C (Kd.int .i64) w A l.length l) (hg : g < w.heap.size) (hc : w.cell? ⟨g, 0, none⟩ = some (.int .i64 n)) :
    Calls Tryd.prog 31 #[.slice A l.length c, .func (.func 32) #[] #[.pointer (some ⟨g, 0, none⟩)]] w fun e w' => e = .returned (.bool (decide (0 ≤ badAt n l 0))) ∧ Below w.heap.size w w' := by
  have hi := (index_calls n g A c l w hr hg hc).mono (R' := fun e w' => e = .returned (.int .i64 (badAt n l 0)) ∧ Below w.heap.size w w') (by rintro e w' ⟨_, rfl, h1, h2⟩; exact ⟨h1, h2⟩)
  clear hc
  generalize badAt n l 0 = r at *
  have Hi := Lib.hid hi
  clear hi
  by_cases h0 : 0 ≤ r
  all_goals
    first | have b0 : decide (0 ≤ r) = true := decide_eq_true h0
          | have b0 : decide (0 ≤ r) = false := decide_eq_false h0
    rw [b0]
    go_enter Tryd.func31, Tryd.ntmps31
    go_wp2_with (go_at_call 40; (with_reducible refine Hi.out.mono ?_); clear Hi; rintro e w' ⟨rfl, hb⟩)
    go_ret
    exact ⟨rfl, hb⟩

/-- What the call answers. -/
def script_Check.ok (l : List Int) (n : Int) : Bool := decide (1 ≤ n) && decide (n ≤ 64) && decide (badAt n l 0 < 0)
def script_Check.f (l : List Int) (n : Int) : Option Int := some (if script_Check.ok l n = true then 0 else 2)

set_option maxHeartbeats 1000000 in
theorem script_Check.calls (A0 : Option Addr) (c0 : Nat) (l0 : List Int) (a1 : Int) (r : Int) (w : World) (hr0 : Kd.C (Kd.int .i64) w A0 l0.length l0) (hc0 : l0.length ≤ c0) (h : script_Check.f l0 a1 = some r) :
    Calls Tryd.prog 14 #[.slice A0 l0.length c0, .int .i64 a1] w fun e w' => e = .returned (.int .i64 r) ∧ Below w.heap.size w w' := by
  have _h := hc0
  have hr : r = if script_Check.ok l0 a1 = true then 0 else 2 := (Option.some.inj h).symm
  unfold script_Check.ok at hr
  have hi := contains_calls a1 w.heap.size A0 c0 l0 (w.alloc (.cells #[.int .i64 a1] 3)) (Kd.C_alloc hr0 _) (by simp) (by simp [World.cell?_alloc_mark])
  clear h hr0 hc0 _h
  have Hi := Lib.hid hi
  clear hi
  by_cases h1 : a1 < 1
  · have b1 : decide (a1 < 1) = true := decide_eq_true h1
    rw [if_neg (by simp; omega)] at hr
    subst hr
    go_enter Tryd.func14, Tryd.ntmps14
    go_wp2
    go_ret
    exact ⟨rfl, (Below.refl _ _).alloc (Nat.le_refl _) _⟩
  · have b1 : decide (a1 < 1) = false := decide_eq_false h1
    by_cases h2 : a1 > 64
    · have b2 : decide (a1 > 64) = true := decide_eq_true h2
      rw [if_neg (by simp; omega)] at hr
      subst hr
      go_enter Tryd.func14, Tryd.ntmps14
      go_wp2
      go_ret
      exact ⟨rfl, (Below.refl _ _).alloc (Nat.le_refl _) _⟩
    · have b2 : decide (a1 > 64) = false := decide_eq_false h2
      have hr' : r = if 0 ≤ badAt a1 l0 0 then 2 else 0 := by
        rw [hr]
        by_cases h3 : 0 ≤ badAt a1 l0 0
        · rw [if_neg (by simp; omega), if_pos h3]
        · rw [if_pos (by simp; omega), if_neg h3]
      clear hr
      generalize badAt a1 l0 0 = q at *
      by_cases h3 : 0 ≤ q
      all_goals
        first | rw [if_pos h3] at hr' | rw [if_neg h3] at hr'
        first | (have b3 : decide (0 ≤ q) = true := decide_eq_true h3; rw [b3] at Hi) | (have b3 : decide (0 ≤ q) = false := decide_eq_false h3; rw [b3] at Hi)
        subst hr'
        clear h1 h2 h3
        go_enter Tryd.func14, Tryd.ntmps14
        go_wp2_with (go_at_call 31; (with_reducible refine Hi.out.mono ?_); clear Hi; rintro e w' ⟨rfl, hb⟩)
        go_ret
        exact ⟨rfl, (below_alloc (Below.refl _ _) _).trans (hb.mono (by simp))⟩
end Go.Proofs.YthifdmelanbgmaaDoor.Given
