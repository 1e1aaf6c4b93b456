/- script.Parse at this program: what the call answers (strings.Split and strconv.Atoi are behind). -/
import Derived.Test.YthifdmelanbgmaaDoorGLib
import Derived.Lib.Hide
import Derived.Outline
import Derived.Test.YthifdmelanbgmaaDoorPx1
namespace Go.Proofs.YthifdmelanbgmaaDoor.Given
open Go Go.RowKit Go.Proofs Go.Proofs.YthifdmelanbgmaaDoorW.PrintWords Go.Proofs.YthifdmelanbgmaaDoorW.PrintLast Go.Proofs.YthifdmelanbgmaaDoorW.PrintMore Go.Proofs.YthifdmelanbgmaaDoor.P
set_option linter.unusedVariables false
set_option linter.unusedSimpArgs false

/-- The numbers of the pieces, behind those that stand; none where a piece is none. -/
def numsFrom : List Int → List ByteArray → Option (List Int)
  | acc, [] => some acc
  | acc, p :: ps => (atoS p).bind fun v => numsFrom (acc ++ [v]) ps
theorem numsFrom_drop (ps : List ByteArray) (k : Nat) (hk : k < ps.length) (acc : List Int) : numsFrom acc (ps.drop k) = (atoS ps[k]).bind fun v => numsFrom (acc ++ [v]) (ps.drop (k + 1)) := by
  rw [List.drop_eq_getElem_cons hk]
  rfl
/-- What the call answers behind the pieces. -/
def parseEnd (k : Nat) (s : ByteArray) : Option (List Int) → Option (List Int × Int)
  | none => some ([], 2)
  | some l => (script_Put.f k l).bind fun t => if t.toList = s.toList then some (l, 0) else some ([], 2)
def script_Parse.f (k : Nat) (s : ByteArray) : Option (List Int × Int) :=
  if s.toList = ([] : List UInt8) then some ([], 0) else if s.size ≤ 10000 then parseEnd k s (numsFrom [] (piecesB s)) else none
theorem script_Parse.mono : ∀ s k, LeO (script_Parse.f k s) (script_Parse.f (k + 1) s) := by
  intro s k
  unfold script_Parse.f
  refine LeO.ite (LeO.refl _) (LeO.ite ?_ (LeO.refl _))
  cases numsFrom [] (piecesB s) with
  | none => exact LeO.refl _
  | some l => exact LeO.bind (script_Put.mono _ _) (fun _ => LeO.refl _)
theorem piecesB_len (s : ByteArray) : (piecesB s).length ≤ s.size + 1 := by
  have h : (piecesB s).length = Lib.countB s sp + 1 := Lib.splitB_all sp (by decide) 0 _ s rfl
  have := Lib.countB_le sp (by decide) s.size s (Nat.le_refl _)
  omega
theorem splitB_size (k : Nat) : ∀ s : ByteArray, ∀ p ∈ Lib.splitB sp 0 k s, p.size ≤ s.size := by
  induction k with
  | zero =>
    intro s p hp
    rw [Lib.splitB_zero, List.mem_singleton] at hp
    rw [hp]; exact Nat.le_refl _
  | succ k ih =>
    intro s p hp
    unfold Lib.splitB at hp
    split at hp
    · rw [List.mem_singleton] at hp
      rw [hp]; exact Nat.le_refl _
    · rw [List.mem_cons] at hp
      rcases hp with rfl | hp
      · rw [ByteArray.size_extract]; omega
      · have := ih _ p hp
        rw [ByteArray.size_extract] at this
        omega
/-- The pieces lie in a block. -/
def Lies (w : World) (g : Nat) (ps : List ByteArray) : Prop := g < w.heap.size ∧ ∀ j (hj : j < ps.length), w.cell? ⟨g, j, none⟩ = some (.string ps[j])
theorem Lies.below {w w' : World} {g : Nat} {ps : List ByteArray} (h : Lies w g ps) (hb : Below w.heap.size w w') : Lies w' g ps := ⟨Nat.lt_of_lt_of_le h.1 hb.size, fun j hj => (hb.cell (p := ⟨g, j, none⟩) h.1).trans (h.2 j hj)⟩
theorem Lies.grown {w w' : World} {g : Nat} {ps : List ByteArray} {row : Option Nat} (h : Lies w g ps) (hg : w.grownBy w' row) (hne : some g ≠ row) : Lies w' g ps := ⟨Nat.lt_of_lt_of_le h.1 hg.size, fun j hj => hg.cell (h.2 j hj) hne⟩
def ParsePost (w : World) (r1 : List Int) (r2 : Int) (e : Ending) (w' : World) : Prop := ∃ v0_ : Value, e = .returned (.tuple #[v0_, .int .i64 r2]) ∧ Kd.R (Kd.int .i64) 3 w' w.heap.size (fun _ => True) v0_ r1 ∧ Below w.heap.size w w'

set_option maxHeartbeats 4000000 in
set_option maxRecDepth 100000 in
theorem parse_calls (k : Nat) (a0 : ByteArray) (r1 : List Int) (r2 : Int) (w : World) (hG : GL w) (hs : a0.size ≤ 10000) (hne : a0.toList ≠ ([] : List UInt8)) (h : parseEnd k a0 (numsFrom [] (piecesB a0)) = some (r1, r2)) :
    Calls Tryd.prog 11 #[.string a0] w (ParsePost w r1 r2) := by
  have hlen := piecesB_len a0
  have hsz := splitB_size (Lib.countB a0 sp) a0
  have Hsp := Lib.hid (split_calls a0 hs w hG)
  change ∀ p ∈ piecesB a0, p.size ≤ a0.size at hsz
  generalize piecesB a0 = ps at *
  have hplen : ps.length ≤ 10001 := by omega
  have HG := Lib.hid hG
  have HS := Lib.hid hs
  have HZ := Lib.hid hsz
  have HE := Lib.hid h
  have c2b0 : (a0.toList == ([] : List UInt8)) = false := beq_eq_false_iff_ne.mpr hne
  have c2b1 : (a0.toList != ([] : List UInt8)) = true := bne_iff_ne.mpr hne
  have HP : Hid (Lies (w.alloc (.cells (ps.map Value.string).toArray 9)) w.heap.size ps) := ⟨by simp, fun j hj => by rw [World.cell?_alloc_mark]; simp [hj]⟩
  clear hG hs hsz h hne hlen
  go_enter Tryd.func11, Tryd.ntmps11
  go_wp2_with (go_at_call 29; (with_reducible refine Hsp.out.mono ?_); clear Hsp; rintro e w' ⟨rfl, rfl⟩)
  go_loopw [2, 13] (fun v2 i wr => ∃ (j : Nat) (acc : List Int), j ≤ ps.length ∧ acc.length ≤ j ∧ i = .int .i64 j ∧ Hid (numsFrom acc (ps.drop j) = numsFrom [] ps) ∧ Hid (Kd.R (Kd.int .i64) 3 wr w.heap.size (fun q => q ≠ w.heap.size) v2 acc) ∧ Hid (Lies wr w.heap.size ps) ∧ Hid (Below w.heap.size w wr)) (fun _ i _ => ps.length - (intOf i).toNat)
  case atStart => exact ⟨0, [], Nat.zero_le _, Nat.le_refl _, rfl, Lib.hid (by rw [List.drop_zero]), Lib.hid (Kd.R_nil _ _ _ _ _), HP, Lib.hid (below_alloc (Below.refl _ _) _)⟩
  case round =>
    obtain ⟨j, acc, hj, hacc, rfl, HN, HO, HL, HB⟩ := hrel
    clear HP
    by_cases hlt : j < ps.length
    · have hd : decide (j < ps.length) = true := decide_eq_true hlt
      have hd2 : decide ((j : Int) < (ps.length : Int)) = true := decide_eq_true (by omega)
      have hc : wr.cell? ⟨w.heap.size, j, none⟩ = some (.string ps[j]) := HL.out.2 j hlt
      have hnd := numsFrom_drop ps j hlt acc
      have hps : ps[j].size ≤ 10000 := Nat.le_trans (HZ.out _ (List.getElem_mem hlt)) HS.out
      generalize ps[j] = p at *
      have hx : (⟨w.heap.size, 0, none⟩ : Addr).add j = ⟨w.heap.size, j, none⟩ := by unfold Addr.add; by_cases h0 : j = 0 <;> simp [h0]
      cases ha : atoS p with
      | none =>
        have Hat := Lib.hid (atoi_no p hps ha wr (HG.out.below HB.out))
        rw [ha] at hnd
        have hr : numsFrom [] ps = none := by rw [← HN.out, hnd]; rfl
        have he := HE.out
        rw [hr] at he
        have he2 : some (([] : List Int), (2 : Int)) = some (r1, r2) := he
        simp only [Option.some.injEq, Prod.mk.injEq] at he2
        obtain ⟨rfl, rfl⟩ := he2
        clear hnd hr he ha hx HE
        go_wp2_with (go_at_call 30; (with_reducible refine Hat.out.mono ?_); clear Hat; rintro e w1 ⟨⟨n, t, q, rfl⟩, hb⟩; have HB1 := Lib.hid hb; clear hb)
        go_ret2
        exact ⟨_, rfl, Kd.R_nil _ _ _ _ _, HB.out.trans (HB1.out.mono HB.out.size)⟩
      | some x =>
        have Hat := Lib.hid (atoi_ok p hps x ha wr)
        rw [ha] at hnd
        have HN2 : Hid (numsFrom (acc ++ [x]) (ps.drop (j + 1)) = numsFrom [] ps) := Lib.hid (by rw [← HN.out, hnd]; rfl)
        clear hnd ha hx HN
        go_wp2_with (first | (go_at_call 30; (with_reducible refine Hat.out.mono ?_); clear Hat; rintro e w1 ⟨rfl, hb⟩; have HB1 := Lib.hid hb; have HO1 := Lib.hid (Kd.R_below HO.out hb); have HL1 := Lib.hid (HL.out.below hb); clear hb) | ((with_reducible refine gate_builtin (b := .append) (xs := #[.tmp 24, .tmp 26]) rfl ?_); at_builtin; refine Kd.R_append (Kd.int .i64) (w0 := w) w.heap.size rfl (.tmp 24) (.tmp 26) 22 3 (.int .i64 0) 8 rfl Tryd.underlying22 info3 rfl (by decide) (by omega) u2 acc x [.int .i64 x] (fun q => q ≠ w.heap.size) (fun _ => False) rfl rfl ?aP (fun _ hk => hk.elim) ?aF ?aO ?aB ?aS ?aL ?_; (case aP => exact rfl); (case aB => exact HB.out.trans (HB1.out.mono HB.out.size)); (case aF => exact (fun q hq => Nat.ne_of_gt (Nat.lt_of_lt_of_le HL1.out.1 hq))); (case aO => exact HO1.out); (case aS => exact below_size (HB.out.trans (HB1.out.mono HB.out.size))); (case aL => omega); intro v2 w2 ho hb hg hat; have HB2 := Lib.hid hb; have HO2 := Lib.hid ho; have HL2 := Lib.hid (HL1.out.grown hg (Kd.R_away HO1.out (fun _ hq => hq))); clear ho hb hg hat))
        refine ⟨⟨j + 1, acc ++ [x], hlt, by simp; omega, rfl, HN2, HO2, HL2, HB2⟩, ?_⟩
        · show ps.length - ((j : Int) + 1).toNat < ps.length - ((j : Int)).toNat
          omega
    · have hd : decide (j < ps.length) = false := decide_eq_false hlt
      have hd2 : decide ((j : Int) < (ps.length : Int)) = false := decide_eq_false (by omega)
      have hn : numsFrom [] ps = some acc := by rw [← HN.out, List.drop_eq_nil_of_le (Nat.le_of_not_lt hlt)]; rfl
      have he := HE.out
      rw [hn] at he
      have he2 : ((script_Put.f k acc).bind fun t => if t.toList = a0.toList then some (acc, (0 : Int)) else some ([], 2)) = some (r1, r2) := he
      obtain ⟨t, ht, he3⟩ := Option.bind_eq_some_iff.mp he2
      clear he he2 hn HE HN
      obtain ⟨A1, c1, rfl⟩ := Kd.R_slice HO.out
      have Hput := Lib.hid (script_Put.calls k A1 c1 acc t wr (HG.out.below HB.out) (Kd.R_reads' HO.out).2.2 (Kd.R_reads' HO.out).2.1 ht)
      clear ht
      by_cases c22 : t.toList = a0.toList
      · rw [if_pos c22] at he3
        have c22b0 : (t.toList == a0.toList) = true := beq_iff_eq.mpr c22
        have c22b1 : (t.toList != a0.toList) = false := bne_eq_false_iff_eq.mpr c22
        clear c22
        simp only [Option.some.injEq, Prod.mk.injEq] at he3
        obtain ⟨rfl, rfl⟩ := he3
        go_wp2_with (go_at_call 16; (with_reducible refine Hput.out.mono ?_); clear Hput; rintro e w1 ⟨rfl, hb⟩; have HB1 := Lib.hid hb; have HO1 := Lib.hid (Kd.R_below HO.out hb); clear hb)
        go_ret2
        exact ⟨_, rfl, Kd.R_mono HO1.out (fun _ _ => trivial), HB.out.trans (HB1.out.mono HB.out.size)⟩
      · rw [if_neg c22] at he3
        have c22b0 : (t.toList == a0.toList) = false := beq_eq_false_iff_ne.mpr c22
        have c22b1 : (t.toList != a0.toList) = true := bne_iff_ne.mpr c22
        clear c22
        simp only [Option.some.injEq, Prod.mk.injEq] at he3
        obtain ⟨rfl, rfl⟩ := he3
        go_wp2_with (go_at_call 16; (with_reducible refine Hput.out.mono ?_); clear Hput; rintro e w1 ⟨rfl, hb⟩; have HB1 := Lib.hid hb; have HO1 := Lib.hid (Kd.R_below HO.out hb); clear hb)
        go_ret2
        exact ⟨_, rfl, Kd.R_nil _ _ _ _ _, HB.out.trans (HB1.out.mono HB.out.size)⟩
theorem script_Parse.calls (k : Nat) (a0 : ByteArray) (r1 : List Int) (r2 : Int) (w : World) (hG : GL w) (h : script_Parse.f k a0 = some (r1, r2)) :
    Calls Tryd.prog 11 #[.string a0] w fun e w' => ∃ v0_ : Value, e = .returned (.tuple #[v0_, .int .i64 r2]) ∧ Kd.R (Kd.int .i64) 3 w' w.heap.size (fun _ => True) v0_ r1 ∧ Below w.heap.size w w' := by
  unfold script_Parse.f at h
  by_cases h0 : a0.toList = ([] : List UInt8)
  · rw [if_pos h0] at h
    simp only [Option.some.injEq, Prod.mk.injEq] at h
    obtain ⟨rfl, rfl⟩ := h
    have c2b0 : (a0.toList == ([] : List UInt8)) = true := beq_iff_eq.mpr h0
    have c2b1 : (a0.toList != ([] : List UInt8)) = false := bne_eq_false_iff_eq.mpr h0
    clear h0 hG
    go_enter Tryd.func11, Tryd.ntmps11
    go_wp2
    go_ret2
    exact ⟨_, rfl, Kd.R_nil _ _ _ _ _, Below.refl _ _⟩
  · rw [if_neg h0] at h
    by_cases hs : a0.size ≤ 10000
    · rw [if_pos hs] at h
      exact parse_calls k a0 r1 r2 w hG hs h0 h
    · rw [if_neg hs] at h
      cases h
end Go.Proofs.YthifdmelanbgmaaDoor.Given
