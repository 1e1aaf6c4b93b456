/- strconv.Itoa and Atoi, strings.Split and Join at this program: what the calls answer, under the library's variables. -/
import Derived.Test.YthifdmelanbgmaaDoorShelf
import Derived.Test.YthifdmelanbgmaaDoorWWords
import Derived.Test.YthifdmelanbgmaaDoorScr1
import Derived.Lib.LaidTab
import Derived.Lib.AppendIntMem
import Derived.Lib.ItoaMem
import Derived.Lib.ItoaLen
namespace Go.Proofs.YthifdmelanbgmaaDoor.Given
open Go Go.RowKit Go.Proofs Go.Proofs.YthifdmelanbgmaaDoorW.PrintWords Go.Lib Go.Sort Go.Proofs.YthifdmelanbgmaaDoor.Plain

/-- A cell holds an error, or none. -/
def ErrCell (w : World) (g : Nat) : Prop := ∃ ev, w.cell? ⟨g, 0, none⟩ = some ev ∧ (ev = .nilIface ∨ ∃ te pe, ev = .iface te pe)
/-- The library's variables: the table of powers, the two errors, a number. -/
def GL (w : World) : Prop := Lib.TabIs Tryd.prog w "internal/strconv.uint64pow10" .u64 Lib.pow10Tab ∧ ErrCell w 0 ∧ ErrCell w 1 ∧ ∃ m, w.cell? ⟨2, 0, none⟩ = some (.int .i64 m)
theorem cell_on {w w' : World} {g : Nat} {v : Value} (h : w.cell? ⟨g, 0, none⟩ = some v) (hb : Below w.heap.size w w') : w'.cell? ⟨g, 0, none⟩ = some v := (hb.cell (World.block_lt_of_cell? w _ h)).trans h
theorem ErrCell.below {w w' : World} {g : Nat} (h : ErrCell w g) (hb : Below w.heap.size w w') : ErrCell w' g := h.elim fun ev hv => ⟨ev, cell_on hv.1 hb, hv.2⟩
theorem GL.below {w w' : World} (h : GL w) (hb : Below w.heap.size w w') : GL w' :=
  ⟨((Lib.tabBelow_of_tabIs h.1).on hb).here, h.2.1.below hb, h.2.2.1.below hb, h.2.2.2.elim fun m hm => ⟨m, cell_on hm hb⟩⟩
theorem below_grow (w : World) (k : Nat) (os : Array Obj) : Below w.heap.size w (grow (w.drewN k) os) :=
  ⟨rfl, rfl, rfl, by simp [grow, World.drewN], fun i hi => by simp [grow, World.drewN, Array.getElem?_append_left hi]⟩

/-- A number as text. -/
def itoS (n : Int) : ByteArray := ⟨(Lib.itoa n).toArray⟩
def strconv_Itoa.f (n : Int) : Option ByteArray := if -9223372036854775808 ≤ n ∧ n ≤ 9223372036854775807 then some (itoS n) else none
theorem strconv_Itoa.calls (n : Int) (r : ByteArray) (w : World) (hG : GL w) (h : strconv_Itoa.f n = some r) : Calls Tryd.prog 33 #[.int .i64 n] w fun e w' => e = .returned (.string r) ∧ Below w.heap.size w w' := by
  unfold strconv_Itoa.f at h
  by_cases hn : -9223372036854775808 ≤ n ∧ n ≤ 9223372036854775807
  · rw [if_pos hn] at h
    obtain rfl := Option.some.inj h
    refine Calls.mono (Any.strconv_Itoa Tryd.itoaM n hn.1 hn.2 w hG.1) ?_
    rintro e w' ⟨rfl, k, os, rfl⟩
    exact ⟨rfl, below_grow w k os⟩
  · rw [if_neg hn] at h
    cases h

/-- A text as a number, where it is one. -/
def atoS (s : ByteArray) : Option Int := match Lib.atoiAll s.data.toList with
  | .ok v => some v
  | _ => none
theorem atoi_ok (s : ByteArray) (hs : s.size ≤ 10000) (v : Int) (h : atoS s = some v) (w : World) : Calls Tryd.prog 30 #[.string s] w fun e w' => e = .returned (.tuple #[.int .i64 v, .nilIface]) ∧ Below w.heap.size w w' := by
  have h2 : Lib.atoiAll s.data.toList = .ok v := by
    unfold atoS at h
    cases hq : Lib.atoiAll s.data.toList with
    | ok u => rw [hq] at h; injection h with h; rw [h]
    | _ => rw [hq] at h; cases h
  refine Calls.mono (Any.strconv_Atoi_ok Tryd.atoiC s (by omega) v h2 w) ?_
  rintro e w' ⟨rfl, hw⟩
  refine ⟨rfl, ?_⟩
  rcases hw with rfl | ⟨t, rfl⟩
  · exact Below.refl _ _
  · exact Lib.bytesWorld_below _ _ _
theorem atoi_no (s : ByteArray) (hs : s.size ≤ 10000) (h : atoS s = none) (w : World) (hG : GL w) : Calls Tryd.prog 30 #[.string s] w fun e w' => (∃ (n : Int) (t : TypeId) (p : Value), e = .returned (.tuple #[.int .i64 n, .iface t p])) ∧ Below w.heap.size w w' := by
  obtain ⟨_, ⟨e1, hv1, he1⟩, ⟨e2, hv2, he2⟩, _⟩ := hG
  rcases hq : Lib.atoiAll s.data.toList with v | _ | _
  · unfold atoS at h; rw [hq] at h; cases h
  · refine Calls.mono (Any.strconv_Atoi_syntax Tryd.atoiC s (by omega) hq e1 w hv1 he1) ?_
    rintro e w' ⟨N, rfl, _, _, hb⟩
    exact ⟨⟨_, _, _, rfl⟩, hb⟩
  · refine Calls.mono (Any.strconv_Atoi_range Tryd.atoiC s (by omega) hq e2 w hv2 he2) ?_
    rintro e w' ⟨N, rfl, _, _, hb⟩
    exact ⟨⟨_, _, _, rfl⟩, hb⟩

/-- The space. -/
def sp : ByteArray := ⟨#[32]⟩
/-- The pieces of a text. -/
def piecesB (s : ByteArray) : List ByteArray := Lib.splitB sp 0 (Lib.countB s sp) s
theorem split_calls (s : ByteArray) (hs : s.size ≤ 10000) (w : World) (hG : GL w) : Calls Tryd.prog 29 #[.string s, .string ⟨#[32]⟩] w fun e w' =>
    e = .returned (.slice (some ⟨w.heap.size, 0, none⟩) (piecesB s).length (piecesB s).length) ∧ w' = w.alloc (.cells ((piecesB s).map Value.string).toArray 9) := by
  obtain ⟨_, _, _, m, hm⟩ := hG
  have hl : (piecesB s).length = Lib.countB s sp + 1 := Lib.splitB_all sp (by decide) 0 _ s rfl
  have h := Any.strings_Split Tryd.splitL (by kernel_rfl) s sp m w (by omega) hm (by decide)
  rw [hl]
  exact h

theorem joinX : Builder.Extra Tryd.prog Tryd.joinL_ren where
  sizeBuilder := by kernel_rfl
  liesBuilder := by kernel_rfl
  t5 := Tryd.underlying5
  a5 := Tryd.isAgg5
  z5 := Tryd.sizeOf5
  v5 := Tryd.zeroValue5
  infoByte := by kernel_rfl
  cellsByte := by kernel_rfl
  sizeByte := by kernel_rfl
  neB5 := by decide
/-- Texts, a space between each two. -/
def joinB (xs : List ByteArray) : ByteArray := ⟨(Lib.join (xs.map (·.data.toList)) [32]).toArray⟩
/-- Few enough, and short enough. -/
def joinFits (xs : List ByteArray) : Bool := decide (xs.length ≤ 10000) && decide ((Lib.join (xs.map (·.data.toList)) [32]).length ≤ 1000000)
def strings_Join.f (xs : List ByteArray) (s : ByteArray) : Option ByteArray := if joinFits xs = true ∧ s = sp then some (joinB xs) else none
theorem strings_Join.calls (A0 : Option Addr) (c0 : Nat) (l0 : List ByteArray) (a1 : ByteArray) (r : ByteArray) (w : World) (hr0 : ∃ base ok, Kd.R Kd.string 9 w base ok (.slice A0 l0.length c0) l0) (hc0 : l0.length ≤ c0) (h : strings_Join.f l0 a1 = some r) :
    Calls Tryd.prog 34 #[.slice A0 l0.length c0, .string a1] w fun e w' => e = .returned (.string r) ∧ Below w.heap.size w w' := by
  obtain ⟨base, ok, hr0⟩ := hr0
  unfold strings_Join.f at h
  by_cases hf : joinFits l0 = true ∧ a1 = sp
  · rw [if_pos hf] at h
    obtain rfl := Option.some.inj h
    obtain ⟨hf, rfl⟩ := hf
    unfold joinFits at hf
    simp only [Bool.and_eq_true, decide_eq_true_eq] at hf
    by_cases h0 : 0 < l0.length
    · obtain ⟨g, cap, e, hg0, hg1, _⟩ := Kd.R_form hr0 h0
      have hC := (Kd.R_reads' hr0).2.2
      injection e with e1 e2 e3
      subst e1 e3
      refine Any.strings_Join Tryd.joinL joinX g 0 c0 l0 sp w ?_ hg1 (by omega) hc0 (by show (Lib.join (l0.map (·.data.toList)) [32]).length ≤ _; omega)
      intro j x hj
      have hjl : j < l0.length := (List.getElem?_eq_some_iff.1 hj).1
      obtain ⟨ad, e, hx⟩ := Kd.at_string hC (j : Int) (by omega) (by omega)
      cases e
      have e2 : rdOf ByteArray.empty l0 (j : Int) = x := by
        unfold rdOf
        rw [Int.toNat_natCast, List.getD_eq_getElem?_getD, hj]
        rfl
      rw [e2, Int.toNat_natCast] at hx
      rw [Nat.zero_add]
      by_cases hj0 : j = 0
      · subst hj0; exact hx
      · simpa [Addr.add, hj0] using hx
    · have hl : l0 = [] := List.length_eq_zero_iff.1 (by omega)
      subst hl
      refine (Any.strings_Join_none Tryd.joinL joinX A0 c0 sp w).mono ?_
      rintro e w' ⟨rfl, rfl⟩
      exact ⟨rfl, Below.refl _ _⟩
  · rw [if_neg hf] at h
    cases h
end Go.Proofs.YthifdmelanbgmaaDoor.Given
