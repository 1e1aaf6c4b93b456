/- Texts of this seat, joined. -/
import Derived.Test.YtmcjccigglekpaaGreatDoorL2
import Derived.Lib.Strings
import Derived.Lib.Slices
import Derived.Lib.Walk
import Derived.Lib.Builder
import Derived.Lib.AppendStr
import Derived.Lib.UnsafeStr
import Derived.Lib.Hide
import Derived.Laws.Externs
import Derived.Shelf.RegionOpenPlain
import Derived.Test.YtmcjccigglekpaaGreatDoorL1
import Derived.StillTailTactics
import Derived.OrdersHeld
import Derived.Deep.RegionHeld3
namespace Go.Proofs.YtmcjccigglekpaaGreatDoor.Given
open Go Go.RowKit Go.Proofs Go.Proofs.YtmcjccigglekpaaGreatDoorW.PrintWords Go.Proofs.YtmcjccigglekpaaGreatDoorW.PrintLast Go.Proofs.YtmcjccigglekpaaGreatDoorW.PrintMore Go.Proofs.YtmcjccigglekpaaGreatDoor.P

/-- Block b is a pen of ours (from B on) that holds the text t. -/
def Pen (B b : Nat) (t : ByteArray) (w : World) : Prop := Lib.IsBuilder 65 5 B b (Lib.strCells t) w
abbrev PenU (B b : Nat) (t : ByteArray) (w : World) : Prop := Lib.BuilderAt 65 5 B b (.pointer (some ⟨b, 0, none⟩)) (Lib.strCells t) w

theorem strCells_append (s t : ByteArray) : Lib.strCells (s ++ t) = Lib.strCells s ++ Lib.strCells t := by
 unfold Lib.strCells
 rw [ByteArray.data_append, Array.toList_append, List.map_append]
theorem builderAt_below {T e : TypeId} {B b : Nat} {p : Value} {bs : List Value} {w w' : World} (h : Lib.BuilderAt T e B b p bs w) (hb : Below w.heap.size w w') : Lib.BuilderAt T e B b p bs w' := by
 have hlt := h.lt
 obtain ⟨hB, v, hk, ho, hn⟩ := h
 refine ⟨hB, v, (hb.block b hlt).trans hk, ⟨ho.1, ?_⟩, hn⟩
 rcases ho.2 with h | ⟨g, cap, cur, hv, h1, h2, h3⟩
 ·exact .inl h
 ·exact .inr ⟨g, cap, cur, hv, h1, (hb.block g (by rcases Nat.lt_or_ge g w.heap.size with h' | h'; exact h'; simp [Array.getElem?_eq_none h'] at h2)).trans h2, h3⟩
theorem Pen.below {B b : Nat} {t : ByteArray} {w w' : World} (h : Pen B b t w) (hb : Below w.heap.size w w') : Pen B b t w' :=
 h.elim (fun h => .inl (builderAt_below h hb)) (fun h => .inr (builderAt_below h hb))

/-- Blocks that are no bytes, and not b, are as they were. -/
def Kept (b : Nat) (w w' : World) : Prop := ∀ k cs T z, k ≠ b → T ≠ 5 → w.heap[k]? = some (.cells cs T z) → w'.heap[k]? = some (.cells cs T z)
theorem Kept.refl (b : Nat) (w : World) : Kept b w w := fun _ _ _ _ _ _ h => h
theorem Kept.trans {b : Nat} {w w1 w2 : World} (h : Kept b w w1) (k : Kept b w1 w2) : Kept b w w2 := fun i cs T z a c e => k i cs T z a c (h i cs T z a c e)
theorem heap_lt {w : World} {k : Nat} {o : Obj} (h : w.heap[k]? = some o) : k < w.heap.size := by
 rcases Nat.lt_or_ge k w.heap.size with h' | h'
 ·exact h'
 ·simp [Array.getElem?_eq_none h'] at h
theorem Kept.below {b : Nat} {w w1 w2 : World} (h : Kept b w w1) (hb : Below w1.heap.size w1 w2) : Kept b w w2 := fun i cs T z a c e => (hb.block i (heap_lt (h i cs T z a c e))).trans (h i cs T z a c e)
theorem Kept.alloc {b : Nat} {w w1 : World} (h : Kept b w w1) (o : Obj) : Kept b w (w1.alloc o) := h.below ((Below.refl _ _).alloc (Nat.le_refl _) _)
theorem Kept.set {b : Nat} {w w1 : World} (h : Kept b w w1) (i : Nat) (u : Value) : Kept b w (w1.setCell ⟨b, i, none⟩ u) := fun k cs T z a c e => (heap_setCell_other w1 ⟨b, i, none⟩ k u a).trans (h k cs T z a c e)
theorem Kept.grown {b B n s : Nat} {xs : List Value} {v : Value} {w w1 w2 : World} (h : Kept b w w1) (ho : w1.ownsRow B 5 s v n xs) (hg : w1.grownBy w2 v.ownBlock) : Kept b w w2 := fun k cs T z a c e => by
 have h1 := h k cs T z a c e
 rw [hg.block k (heap_lt h1) ?_]
 ·exact h1
 ·intro hk
  rcases ho.2 with ⟨hv, _⟩ | ⟨g, cap, cur, hv, _, h2, _⟩
  ·rw [hv] at hk; cases hk
  ·rw [hv] at hk
   injection hk with hk
   subst hk
   rw [h1] at h2
   injection h2 with h2
   injection h2 with _ h2 _
   exact c h2

set_option maxHeartbeats 1000000 in
set_option maxRecDepth 100000 in
theorem pen_copyCheck_used (b : Nat) (w : World) (h0 : w.cell? ⟨b, 0, none⟩ = some (.pointer (some ⟨b, 0, none⟩))) :
  Calls Tryz.prog 100 #[.pointer (some ⟨b, 0, none⟩)] w fun e w' => e = .returned (.tuple #[]) ∧ w' = w := by
 obtain ⟨j, hj, _⟩ := Option.map_eq_some_iff.1 (show (Tryz.prog.info? 63).map (·.size) = some 2 by kernel_rfl)
 go_enter Tryz.func100, Tryz.ntmps100
 go_wp2
 rw [Lib.run_neq_ptr_same w _ Tryz.underlying61 hj]
 go_wp2
 go_end0
 exact ⟨rfl, rfl⟩

set_option maxHeartbeats 1000000 in
set_option maxRecDepth 100000 in
theorem pen_copyCheck_fresh (b : Nat) (w : World) (h0 : w.cell? ⟨b, 0, none⟩ = some (.pointer none)) (hsh : w.shape? b = some (65, 2)) (hfz : w.frozen? ⟨b, 0, none⟩ = false) :
  Calls Tryz.prog 100 #[.pointer (some ⟨b, 0, none⟩)] w fun e w' => e = .returned (.tuple #[]) ∧ w' = w.setCell ⟨b, 0, none⟩ (.pointer (some ⟨b, 0, none⟩)) := by
 obtain ⟨j, hj, hjs⟩ := Option.map_eq_some_iff.1 (show (Tryz.prog.info? 63).map (·.size) = some 2 by kernel_rfl)
 go_enter Tryz.func100, Tryz.ntmps100
 go_wp2
 rw [Lib.run_to_unsafe w ⟨b, 0, none⟩ Tryz.underlying61 Tryz.underlying220 hj (by rw [hjs]; decide) hsh (Nat.zero_lt_succ 1)]
 simp only [Result.andThen]
 rw [Oper.upon_value]
 go_wp2
 rw [run_callFunc_extern Tryz.func145 (by kernel_rfl) (by kernel_rfl) (by kernel_rfl) (e := Extern.AbiNoEscape.same) (by kernel_rfl)]
 rw [Lib.run_noEscape]
 simp only [Result.andThen]
 rw [Oper.upon_value]
 go_wp2
 rw [Lib.run_from_unsafe w ⟨b, 0, none⟩ Tryz.underlying220 Tryz.underlying61 hj hsh (by kernel_rfl)]
 simp only [Result.andThen]
 rw [Oper.upon_value]
 go_wp2
 go_end0
 exact ⟨rfl, rfl⟩

theorem pen_copyCheck (B b : Nat) (t : ByteArray) (w : World) (h : Pen B b t w) :
  Calls Tryz.prog 100 #[.pointer (some ⟨b, 0, none⟩)] w fun e w' => e = .returned (.tuple #[]) ∧ (PenU B b t w' ∧ Below B w w' ∧ Kept b w w') := by
 rcases h with h | h
 ·refine (pen_copyCheck_fresh b w h.cell0 h.shape h.frozen0).mono ?_
  rintro e w' ⟨rfl, rfl⟩
  exact ⟨rfl, h.used _, (Below.refl B w).setCell (p := ⟨b, 0, none⟩) h.1 _, (Kept.refl b w).set 0 _⟩
 ·refine (pen_copyCheck_used b w h.cell0).mono ?_
  rintro e w' ⟨rfl, rfl⟩
  exact ⟨rfl, h, Below.refl B _, Kept.refl b _⟩

set_option maxHeartbeats 2000000 in
set_option maxRecDepth 100000 in
theorem pen_WriteByte (B b : Nat) (t : ByteArray) (c : UInt8) (w : World) (h : Pen B b t w) (hlen : t.size + 1 ≤ 140737488355328) (hBw : B ≤ w.heap.size) :
  Calls Tryz.prog 61 #[.pointer (some ⟨b, 0, none⟩), .int .u8 c.toNat] w fun e w' => e = .returned .nilIface ∧ (Pen B b (t ++ ⟨#[c]⟩) w' ∧ Below B w w' ∧ Kept b w w') := by
 rw [← Lib.strCells_length t] at hlen
 obtain ⟨i0, hi, hz0, hz1, hz2⟩ := info_parts (show (Tryz.prog.info? 5).map (fun i => (i.zero, i.size, i.bytes)) = some (some (.int .u8 0), 1, 1) by kernel_rfl)
 go_enter Tryz.func61, Tryz.ntmps61
 go_wp2_with (go_at_call 100; refine (pen_copyCheck B b t _ h).mono ?_)
 rintro e w1 ⟨rfl, h1, hb1, hk1⟩
 obtain ⟨hB, v, hbk, hown, hne⟩ := h1
 have c0 : w1.cell? ⟨b, 0, none⟩ = some (.pointer (some ⟨b, 0, none⟩)) := by rw [Lib.cell_of_heap hbk]; rfl
 have c1 : w1.cell? ⟨b, 1, none⟩ = some v := by rw [Lib.cell_of_heap hbk]; rfl
 go_wp2_with (at_builtin; refine wpList_append_own _ rfl _ _ 48 rfl B 5 i0 (.int .u8 0) 1 1 Tryz.underlying48 hi hz0 hz1 hz2 rfl (by decide) _ _ _ rfl (hown.alloc _) ⟨w1.heap.size, 0, none⟩ 1 1 [.int .u8 c.toNat] rfl rfl ?c1 ?c2 ?c3 ?c4 ?c5 ?_)
 case c1 =>
  intro j u hj
  match j, hj with
  | 0, hj => simp at hj; subst hj; simp [Addr.add]
 case c2 => intro u hu; simp at hu; subst hu; rfl
 case c3 => unfold maxLen; omega
 case c4 => omega
 case c5 => have := hb1.size; simp; omega
 intro v' w2 hown' hgrow _
 have hlt : b < w1.heap.size := by
  rcases Nat.lt_or_ge b w1.heap.size with h' | h'
  ·exact h'
  ·simp [Array.getElem?_eq_none h'] at hbk
 have hb2 : w2.heap[b]? = some (.cells #[.pointer (some ⟨b, 0, none⟩), v] 65 (0, 0)) := by
  rw [hgrow.block b (by simp; omega) (fun e => hne e.symm), Lib.alloc_old w1 _ b hlt]
  exact hbk
 have d0 : w2.cell? ⟨b, 0, none⟩ = some (.pointer (some ⟨b, 0, none⟩)) := by rw [Lib.cell_of_heap hb2]; rfl
 have d1 : w2.cell? ⟨b, 1, none⟩ = some v := by rw [Lib.cell_of_heap hb2]; rfl
 have f1 : w2.frozen? ⟨b, 1, none⟩ = false := Lib.frozen_of_heap hb2 1
 obtain ⟨g, cap, rfl⟩ : ∃ g cap, v' = .slice (some ⟨g, 0, none⟩) ((Lib.strCells t).length + 1) cap := by
  rcases hown'.2 with ⟨_, h0⟩ | ⟨g, cap, cur, hv, _⟩
  ·omega
  ·exact ⟨g, cap, hv⟩
 go_wp2
 go_ret
 refine ⟨rfl, ?_, ?_, ?_⟩
 ·refine .inr ?_
  rw [strCells_append]
  exact Lib.BuilderAt.put (T := 65) (e := 5) hB hb2 (bs' := Lib.strCells t ++ [.int .u8 c.toNat]) (by simpa using hown') (by decide)
 ·exact ((hb1.alloc (by have := hb1.size; omega) _).grown hgrow (by have := hb1.size; simp; omega) (fun k hk => (hown.lt k hk).1)).setCell (p := ⟨b, 1, none⟩) hB _
 ·exact ((hk1.alloc _).grown (hown.alloc _) hgrow).set 1 _

set_option maxHeartbeats 2000000 in
set_option maxRecDepth 100000 in
theorem pen_WriteString (B b : Nat) (t s : ByteArray) (w : World) (h : Pen B b t w) (hlen : t.size + s.size ≤ 140737488355328) (hBw : B ≤ w.heap.size) :
  Calls Tryz.prog 60 #[.pointer (some ⟨b, 0, none⟩), .string s] w fun e w' => e = .returned (.tuple #[.int .i64 s.size, .nilIface]) ∧ (Pen B b (t ++ s) w' ∧ Below B w w' ∧ Kept b w w') := by
 rw [← Lib.strCells_length t] at hlen
 obtain ⟨i0, hi, hz0, hz1, hz2⟩ := info_parts (show (Tryz.prog.info? 5).map (fun i => (i.zero, i.size, i.bytes)) = some (some (.int .u8 0), 1, 1) by kernel_rfl)
 go_enter Tryz.func60, Tryz.ntmps60
 go_wp2_with (go_at_call 100; refine (pen_copyCheck B b t _ h).mono ?_)
 rintro e w1 ⟨rfl, h1, hb1, hk1⟩
 obtain ⟨hB, v, hbk, hown, hne⟩ := h1
 have c0 : w1.cell? ⟨b, 0, none⟩ = some (.pointer (some ⟨b, 0, none⟩)) := by rw [Lib.cell_of_heap hbk]; rfl
 have c1 : w1.cell? ⟨b, 1, none⟩ = some v := by rw [Lib.cell_of_heap hbk]; rfl
 go_wp2_with (at_builtin; refine Lib.wpList_append_own_string _ rfl _ _ 48 9 rfl B 5 i0 Tryz.underlying48 Tryz.underlying9 hi hz0 hz1 hz2 _ _ _ rfl hown s rfl ?c3 ?c4 ?c5 ?_)
 case c3 => unfold maxLen; omega
 case c4 => omega
 case c5 => have := hb1.size; omega
 intro v' w2 hown' hgrow _
 have hlt : b < w1.heap.size := by
  rcases Nat.lt_or_ge b w1.heap.size with h' | h'
  ·exact h'
  ·simp [Array.getElem?_eq_none h'] at hbk
 have hb2 : w2.heap[b]? = some (.cells #[.pointer (some ⟨b, 0, none⟩), v] 65 (0, 0)) := by
  rw [hgrow.block b hlt (fun e => hne e.symm)]
  exact hbk
 have d0 : w2.cell? ⟨b, 0, none⟩ = some (.pointer (some ⟨b, 0, none⟩)) := by rw [Lib.cell_of_heap hb2]; rfl
 have d1 : w2.cell? ⟨b, 1, none⟩ = some v := by rw [Lib.cell_of_heap hb2]; rfl
 have f1 : w2.frozen? ⟨b, 1, none⟩ = false := Lib.frozen_of_heap hb2 1
 obtain ⟨ao, n', cap, rfl⟩ : ∃ ao n' cap, v' = .slice ao n' cap := by
  rcases hown'.2 with ⟨hv, _⟩ | ⟨g, cap, cur, hv, _⟩
  ·exact ⟨_, _, _, hv⟩
  ·exact ⟨_, _, _, hv⟩
 go_wp2
 go_ret2
 refine ⟨rfl, ?_, ?_, ?_⟩
 ·refine .inr ?_
  rw [strCells_append]
  exact Lib.BuilderAt.put (T := 65) (e := 5) hB hb2 (bs' := Lib.strCells t ++ Lib.strCells s) (by simpa [Lib.strCells_length] using hown') (by decide)
 ·exact (hb1.grown hgrow (by have := hb1.size; omega) (fun k hk => (hown.lt k hk).1)).setCell (p := ⟨b, 1, none⟩) hB _
 ·exact (hk1.grown hown hgrow).set 1 _

set_option maxHeartbeats 1000000 in
set_option maxRecDepth 100000 in
theorem pen_String (B b : Nat) (t : ByteArray) (w : World) (h : Pen B b t w) (h0 : 0 < t.size) :
  Calls Tryz.prog 30 #[.pointer (some ⟨b, 0, none⟩)] w fun e w' => e = .returned (.string t) ∧ Below B w w' := by
 obtain ⟨p, hB, v, hbk, hown, hne⟩ : ∃ p, Lib.BuilderAt 65 5 B b p (Lib.strCells t) w := by
  rcases h with h | h
  ·exact ⟨_, h⟩
  ·exact ⟨_, h⟩
 rw [Lib.strCells_eq] at hown
 obtain ⟨l, hl⟩ : ∃ l, t.data.toList = l := ⟨_, rfl⟩
 obtain rfl : t = ⟨l.toArray⟩ := by rw [← hl, Array.toArray_toList]
 have hz : l.length ≠ 0 := by
  have hq : (⟨l.toArray⟩ : ByteArray).size = l.length := rfl
  omega
 have h1 : l ≠ [] := fun e => hz (by rw [e]; rfl)
 rw [hl, Lib.byteCells_length] at hown
 obtain ⟨g, cap, cur, rfl, hbg, hg, hnc, hcm, hcs, htake⟩ : ∃ g cap cur, v = .slice (some ⟨g, 0, none⟩) l.length cap ∧ B ≤ g ∧ w.heap[g]? = some (.cells cur 5 (0, 0)) ∧ l.length ≤ cap ∧ cap ≤ maxLen ∧ cur.size = cap * 1 ∧ cur.toList.take (l.length * 1) = Lib.byteCells l := by
  rcases hown.2 with ⟨_, hz'⟩ | ⟨g, cap, cur, hv, r⟩
  ·exact absurd hz' hz
  ·exact ⟨g, cap, cur, hv, r⟩
 have c1 : w.drew.cell? ⟨b, 1, none⟩ = some (.slice (some ⟨g, 0, none⟩) l.length cap) := by
  have : w.drew.heap[b]? = some (.cells #[p, .slice (some ⟨g, 0, none⟩) l.length cap] 65 (0, 0)) := hbk
  rw [Lib.cell_of_heap this]; rfl
 have hSD : (Builtin.unsafeSliceData_ #[48] 146 #[.slice (some ⟨g, 0, none⟩) l.length cap]).run Tryz.prog w.drew = .ok (.pointer (some ⟨g, 0, none⟩)) w.drew :=
  Lib.run_unsafeSliceData_row _ _ _ _ _ _ (by omega)
 have hUS : (Builtin.unsafeString_ #[146, 3] 9 #[.pointer (some ⟨g, 0, none⟩), .int .i64 l.length]).run Tryz.prog w.drew = .ok (.string ⟨l.toArray⟩) (w.drew.freeze ⟨g, 0, none⟩ l.length) := by
  refine Lib.run_unsafeString_row w.drew 146 3 9 5 Tryz.underlying146 (by kernel_rfl) g cur.size (by have hg' : w.drew.heap[g]? = some (.cells cur 5 (0, 0)) := hg; simp [World.shape?, hg']) l h1 (by omega) (by unfold maxLen at hcm; omega) ?_
  intro j x hx
  have := hown.cells (g := g) rfl j (.int .u8 x.toNat) (by simp [Lib.byteCells, hx])
  exact this
 have mixed : Tryz.prog.follows .mixedOrders = true := by kernel_rfl
 clear hl
 go_enter Tryz.func30, Tryz.ntmps30
 go_wp2
 go_region_o
 all_goals (go_wp2; go_ret; exact ⟨rfl, Lib.below_freeze (Below.drew (Below.refl B w)) (p := ⟨g, 0, none⟩) hbg _⟩)
end Go.Proofs.YtmcjccigglekpaaGreatDoor.Given
namespace Go.Proofs.YtmcjccigglekpaaGreatDoor.Given
open Go Go.RowKit Go.Proofs Go.Proofs.YtmcjccigglekpaaGreatDoorW.PrintWords Go.Proofs.YtmcjccigglekpaaGreatDoorW.PrintLast Go.Proofs.YtmcjccigglekpaaGreatDoorW.PrintMore Go.Proofs.YtmcjccigglekpaaGreatDoor.P

def cellsN (l : List ByteArray) (k : Nat) : Array Value := (((l.take k).map numS ++ List.replicate (l.length - k) 0).map (Value.int .i64)).toArray
theorem cellsN_size (l : List ByteArray) (k : Nat) (hk : k ≤ l.length) : (cellsN l k).size = l.length := by simp [cellsN]; omega
theorem cellsN_get (l : List ByteArray) (k : Nat) (hk : k < l.length) : (cellsN l k)[k]? = some (.int .i64 0) := by
 have hl : ((l.take k).map numS).length = k := by rw [List.length_map, List.length_take]; omega
 unfold cellsN
 rw [List.getElem?_toArray, List.getElem?_map, List.getElem?_append_right (by omega), hl, Nat.sub_self, List.getElem?_replicate, if_pos (by omega)]
 rfl
theorem cellsN_set (l : List ByteArray) (k : Nat) (hk : k < l.length) : (cellsN l k).setIfInBounds k (.int .i64 (numS l[k])) = cellsN l (k + 1) := by
 have hl : ((l.take k).map numS).length = k := by rw [List.length_map, List.length_take]; omega
 have hr : List.replicate (l.length - k) (0 : Int) = 0 :: List.replicate (l.length - (k + 1)) 0 := by
  rw [← List.replicate_succ, show l.length - (k + 1) + 1 = l.length - k by omega]
 unfold cellsN
 rw [List.setIfInBounds_toArray, ← List.map_set]
 congr 2
 rw [List.set_append_right _ _ (by omega), hl, Nat.sub_self, hr, List.set_cons_zero, List.take_succ_eq_append_getElem hk, List.map_append, List.append_assoc]
 rfl
theorem made_cellsN (l : List ByteArray) : madeCells #[.int .i64 0] l.length = cellsN l 0 := by
 unfold madeCells cellsN
 apply Array.ext
 ·simp
 ·intro i h1 h2
  simp [Nat.mod_one]

set_option maxRecDepth 100000 in
set_option maxHeartbeats 1000000 in
theorem numbers_calls (A : Option Addr) (c : Nat) (l : List ByteArray) (hl : ∀ x ∈ l, x.size ≤ 1000000) (hm : l.length ≤ 1000000) (w : World) (hG : GL w) (hr : Kd.C Kd.string w A l.length l) :
  Calls Tryz.prog 47 #[.slice A l.length c] w fun e w' => e = .returned (.slice (some ⟨w.heap.size, 0, none⟩) l.length l.length) ∧ w'.heap[w.heap.size]? = some (.cells (cellsN l l.length) 2 (0, 0)) ∧ Below w.heap.size w w' := by
 obtain ⟨i0, hi, hz0, hz1, hz2⟩ := info_parts (show (Tryz.prog.info? 2).map (fun i => (i.zero, i.size, i.bytes)) = some (some (.int .i64 0), 1, 8) by kernel_rfl)
 have hmk := run_makeSlice (P := Tryz.prog) w 104 2 i0 (.int .i64 0) Tryz.underlying104 hi hz0 .i64 .i64 (l.length : Int) (l.length : Int) (by omega) (by omega) (by rw [hz1]; omega) (by rw [hz2]; omega) (by omega)
 rw [Int.toNat_natCast, hz1] at hmk
 go_enter Tryz.func47, Tryz.ntmps47
 go_wp2
 have HG := Lib.hid hG
 have HL := Lib.hid hl
 clear hG hl hmk
 go_loopw [11] (fun v wr => ∃ k : Nat, k ≤ l.length ∧ v = .int .i64 k ∧ wr.heap[w.heap.size]? = some (.cells (cellsN l k) 2 (0, 0)) ∧ Below w.heap.size w wr) (fun v _ => l.length - (intOf v).toNat)
 case atStart => exact ⟨0, Nat.zero_le _, rfl, by rw [← made_cellsN l]; exact heap_alloc_new w _, (Below.refl _ _).alloc (Nat.le_refl _) _⟩
 case round =>
  obtain ⟨k, hk, rfl, hblk, hB⟩ := hrel
  by_cases hlt : k < l.length
  ·have hd : decide ((k : Int) < (l.length : Int)) = true := decide_eq_true (by omega)
   have i2 : decide (0 ≤ (k : Int)) = true := decide_eq_true (by omega)
   have j2 : decide (k < l.length) = true := decide_eq_true hlt
   obtain ⟨ad, e1, hx⟩ := Kd.at_string (Kd.C_below hr hB) (k : Int) (by omega) (by omega)
   subst e1
   rw [Int.toNat_natCast, show rdOf ByteArray.empty l (k : Int) = l[k] by unfold rdOf; rw [Int.toNat_natCast, List.getD_eq_getElem?_getD, List.getElem?_eq_getElem hlt]; rfl] at hx
   have hset := cellsN_set l k hlt
   have D := Lib.hid (fun w' (h' : GL w') => pint_calls l[k] (HL.out _ (List.getElem_mem hlt)) w' h')
   generalize l[k] = s at *
   generalize numS s = n at *
   have HS := Lib.hid hset
   clear hset
   have hin : k < (cellsN l k).size := by rw [cellsN_size l k hk]; exact hlt
   go_wp2_with (go_at_call 90; (with_reducible refine (D.out _ ?_).mono ?_); clear D; (exact HG.out.below hB); rintro e w2 ⟨⟨ev, rfl⟩, hb2⟩; have n2 := (hb2.block _ (heap_lt hblk)).trans hblk; have c2 := (blk_cell n2 k).trans (cellsN_get l k hlt); have f2 := blk_frozen n2 k)
   have hB2 := hB.trans (hb2.mono hB.size)
   refine ⟨⟨k + 1, hlt, rfl, ?_, hB2.setCell (p := ⟨w.heap.size, k, none⟩) (Nat.le_refl _) _⟩, ?_⟩
   ·rw [← HS.out]
    exact blk_set n2 k _
   ·show l.length - ((k : Int) + 1).toNat < l.length - ((k : Int)).toNat
    omega
  ·have hd : decide ((k : Int) < (l.length : Int)) = false := decide_eq_false (by omega)
   obtain rfl : k = l.length := by omega
   go_wp2
   go_ret
   exact ⟨rfl, hblk, hB⟩
end Go.Proofs.YtmcjccigglekpaaGreatDoor.Given
namespace Go.Proofs.YtmcjccigglekpaaGreatDoor.Given
open Go Go.RowKit Go.Proofs Go.Proofs.YtmcjccigglekpaaGreatDoorW.PrintWords Go.Proofs.YtmcjccigglekpaaGreatDoorW.PrintLast Go.Proofs.YtmcjccigglekpaaGreatDoorW.PrintMore Go.Proofs.YtmcjccigglekpaaGreatDoor.P

/-- The types of the blocks that a reader writes. -/
def stTys : List Nat := [70, 3, 29, 87, 56, 76, 59, 95, 82, 106]
/-- All other blocks are as they were. -/
def Rest (w w' : World) : Prop := w.heap.size ≤ w'.heap.size ∧ ∀ (k : Nat) (o : Obj), w.heap[k]? = some o → (∀ cs T z, o = Obj.cells cs T z → T ∉ stTys) → w'.heap[k]? = some o
theorem Rest.refl (w : World) : Rest w w := ⟨Nat.le_refl _, fun _ _ h _ => h⟩
theorem Rest.trans {a b c : World} (h : Rest a b) (k : Rest b c) : Rest a c := ⟨Nat.le_trans h.1 k.1, fun i o ho hn => k.2 i o (h.2 i o ho hn) hn⟩
theorem Rest.of_below {a b : World} (h : Below a.heap.size a b) : Rest a b := ⟨h.size, fun k _ ho _ => (h.block k (blk_lt ho)).trans ho⟩
theorem Rest.below {a b c : World} (h : Rest a b) (k : Below b.heap.size b c) : Rest a c := h.trans (Rest.of_below k)
theorem Rest.alloc {a b : World} (h : Rest a b) (o : Obj) : Rest a (b.alloc o) := h.below ((Below.refl _ _).alloc (Nat.le_refl _) _)
theorem Rest.drew {a b : World} (h : Rest a b) : Rest a b.drew := h
theorem Rest.grown {a b c : World} (h : Rest a b) {row : Option Nat} (hg : b.grownBy c row) (hr : ∀ k, row = some k → ∃ cs T z, b.heap[k]? = some (.cells cs T z) ∧ T ∈ stTys) : Rest a c := by
 refine h.trans ⟨hg.size, fun k o ho hn => (hg.block k (blk_lt ho) ?_).trans ho⟩
 intro he
 obtain ⟨cs, T, z, hc, hT⟩ := hr k he.symm
 rw [ho] at hc
 exact hn cs T z (Option.some.inj hc) hT
theorem Rest.own {a b c : World} {base e size n : Nat} {v : Value} {xs : List Value} (h : Rest a b) (ho : b.ownsRow base e size v n xs) (hT : e ∈ stTys) (hg : b.grownBy c v.ownBlock) : Rest a c :=
 h.grown hg (fun k hk => (own_typed ho k hk).elim fun cs hc => ⟨cs, e, (0, 0), hc, hT⟩)
theorem Rest.set {a b : World} (h : Rest a b) {g T : Nat} {cs : Array Value} (hb : b.heap[g]? = some (.cells cs T (0, 0))) (hT : T ∈ stTys) (i : Nat) (u : Value) : Rest a (b.setCell ⟨g, i, none⟩ u) := by
 refine h.trans ⟨by simp [World.setCell], fun k o ho hn => ?_⟩
 by_cases hk : k = g
 ·subst hk
  rw [ho] at hb
  exact absurd hT (hn _ _ _ (Option.some.inj hb))
 ·exact (Below.heap_setCell b ⟨g, i, none⟩ u k hk).trans ho
theorem Rest.block {w w' : World} (h : Rest w w') {g T : Nat} {cs : Array Value} (hb : w.heap[g]? = some (.cells cs T (0, 0))) (hT : T ∉ stTys) : w'.heap[g]? = some (.cells cs T (0, 0)) :=
 h.2 g _ hb (fun cs' T' z e => by injection e with _ e2 _; exact e2 ▸ hT)

/-- The slices of a state. -/
structure Rv where
 (v0 v1 v2 v3 v4 v5 v6 v7 : Value)
/-- The state's rows are the reader's own; row i's blocks have colour i. -/
structure Rows (B r : Nat) (col : Nat → Nat) (h : Rv) (s : St) (w : World) : Prop where
 cr : col r = 8
 r0 : Kd.R k70 70 w B (fun k => col k = 0) h.v0 s.th
 r1 : Kd.S (Kd.slice 3 (Kd.int .i64)) 29 w B (fun k => col k = 1) h.v1 s.fr
 r2 : Kd.S (Kd.slice 87 k87) 56 w B (fun k => col k = 2) h.v2 s.no
 r3 : Kd.R k76 76 w B (fun k => col k = 3) h.v3 s.tr
 r4 : Kd.S k59 59 w B (fun k => col k = 4) h.v4 s.po
 r5 : Kd.S (Kd.slice 3 (Kd.int .i64)) 29 w B (fun k => col k = 5) h.v5 s.li
 r6 : Kd.R (Kd.int .i64) 3 w B (fun k => col k = 6) h.v6 s.ro
 r7 : Kd.R k82 82 w B (fun k => col k = 7) h.v7 s.sw
/-- What is new has colour i. -/
def newCol (col : Nat → Nat) (n i : Nat) (k : Nat) : Nat := if k < n then col k else i
theorem newCol_lt {col : Nat → Nat} {n i k : Nat} (h : k < n) : newCol col n i k = col k := if_pos h
theorem newCol_ge {col : Nat → Nat} {n i k : Nat} (h : n ≤ k) : newCol col n i k = i := if_neg (by omega)
section
variable {B r : Nat} {col : Nat → Nat} {h : Rv} {s : St} {w w1 : World} {α : Type} {d : Kd α} {e base : Nat} {v : Value} {xs : List α}
theorem R_recol {i j : Nat} (hR : d.R e w base (fun k => col k = j) v xs) (hj : j ≠ i) (hj8 : j < 8) (hm : ∀ k, k < w.heap.size → col k ≠ i → col k ≠ 8 → w1.heap[k]? = w.heap[k]?) : d.R e w1 base (fun k => newCol col w.heap.size i k = j) v xs :=
 Kd.R_mono (Kd.R_step (Kd.R_bound hR) (fun k hk hlt => hm k hlt (by have := hk.1; omega) (by have := hk.1; omega))) (fun k hk => (newCol_lt hk.2.2.1).trans hk.1)
theorem S_recol {i j : Nat} (hR : Kd.S d e w base (fun k => col k = j) v xs) (hj : j ≠ i) (hj8 : j < 8) (hm : ∀ k, k < w.heap.size → col k ≠ i → col k ≠ 8 → w1.heap[k]? = w.heap[k]?) : Kd.S d e w1 base (fun k => newCol col w.heap.size i k = j) v xs :=
 Kd.S_mono (Kd.S_step (Kd.S_bound hR) (fun k hk hlt => hm k hlt (by have := hk.1; omega) (by have := hk.1; omega))) (fun k hk => (newCol_lt hk.2.2.1).trans hk.1)
/-- Nothing of the rows has been written. -/
theorem Rows.still (H : Rows B r col h s w) (hm : ∀ k, k < w.heap.size → col k ≠ 8 → w1.heap[k]? = w.heap[k]?) : Rows B r col h s w1 :=
 ⟨H.cr, Kd.R_step H.r0 (fun k hk hl => hm k hl (by omega)), Kd.S_step H.r1 (fun k hk hl => hm k hl (by omega)), Kd.S_step H.r2 (fun k hk hl => hm k hl (by omega)), Kd.R_step H.r3 (fun k hk hl => hm k hl (by omega)), Kd.S_step H.r4 (fun k hk hl => hm k hl (by omega)), Kd.S_step H.r5 (fun k hk hl => hm k hl (by omega)), Kd.R_step H.r6 (fun k hk hl => hm k hl (by omega)), Kd.R_step H.r7 (fun k hk hl => hm k hl (by omega))⟩
theorem Rows.below (H : Rows B r col h s w) (hb : Below w.heap.size w w1) : Rows B r col h s w1 := H.still (fun k hl _ => hb.block k hl)
theorem Rows.setR (H : Rows B r col h s w) (i : Nat) (u : Value) : Rows B r col h s (w.setCell ⟨r, i, none⟩ u) :=
 H.still (fun k _ hk => Below.heap_setCell w ⟨r, i, none⟩ u k (fun e => hk (e ▸ H.cr)))
/-- All rows but number i, behind a step that wrote row i, the reader, and what is new. -/
structure RowsBut (i : Nat) (B r : Nat) (col : Nat → Nat) (h : Rv) (s : St) (w : World) : Prop where
 cr : col r = 8
 r0 : 0 ≠ i → Kd.R k70 70 w B (fun k => col k = 0) h.v0 s.th
 r1 : 1 ≠ i → Kd.S (Kd.slice 3 (Kd.int .i64)) 29 w B (fun k => col k = 1) h.v1 s.fr
 r2 : 2 ≠ i → Kd.S (Kd.slice 87 k87) 56 w B (fun k => col k = 2) h.v2 s.no
 r3 : 3 ≠ i → Kd.R k76 76 w B (fun k => col k = 3) h.v3 s.tr
 r4 : 4 ≠ i → Kd.S k59 59 w B (fun k => col k = 4) h.v4 s.po
 r5 : 5 ≠ i → Kd.S (Kd.slice 3 (Kd.int .i64)) 29 w B (fun k => col k = 5) h.v5 s.li
 r6 : 6 ≠ i → Kd.R (Kd.int .i64) 3 w B (fun k => col k = 6) h.v6 s.ro
 r7 : 7 ≠ i → Kd.R k82 82 w B (fun k => col k = 7) h.v7 s.sw
theorem Rows.but (H : Rows B r col h s w) (i : Nat) (hr : r < w.heap.size) (hm : ∀ k, k < w.heap.size → col k ≠ i → col k ≠ 8 → w1.heap[k]? = w.heap[k]?) : RowsBut i B r (newCol col w.heap.size i) h s w1 :=
 ⟨(newCol_lt hr).trans H.cr, fun hi => R_recol H.r0 hi (by decide) hm, fun hi => S_recol H.r1 hi (by decide) hm, fun hi => S_recol H.r2 hi (by decide) hm, fun hi => R_recol H.r3 hi (by decide) hm, fun hi => S_recol H.r4 hi (by decide) hm, fun hi => S_recol H.r5 hi (by decide) hm, fun hi => R_recol H.r6 hi (by decide) hm, fun hi => R_recol H.r7 hi (by decide) hm⟩
end

/-- The reader's cells. -/
abbrev Rv.cells (h : Rv) (wv nv : Value) (p : Int) (bad : Bool) : Array Value := #[h.v0, h.v1, h.v2, h.v3, h.v4, h.v5, h.v6, h.v7, wv, nv, .int .i64 p, .bool bad]
/-- A reader that has read s; p: the port that is read. -/
structure Rd (B r : Nat) (h : Rv) (s : St) (p : Int) (bad : Bool) (wv nv : Value) (w : World) : Prop where
 blk : w.heap[r]? = some (.cells (h.cells wv nv p bad) 106 (0, 0))
 base : B ≤ r
 rows : ∃ col, Rows B r col h s w
 eq : s.no.length = s.po.length
 port : p = -1 ∨ 0 ≤ p ∧ p < s.po.length
theorem Rd.below {B r : Nat} {h : Rv} {s : St} {p : Int} {bad : Bool} {wv nv : Value} {w w1 : World} (H : Rd B r h s p bad wv nv w) (hb : Below w.heap.size w w1) : Rd B r h s p bad wv nv w1 :=
 ⟨blk_below H.blk hb, H.base, H.rows.imp (fun _ hr => hr.below hb), H.eq, H.port⟩
theorem Rd.alloc {B r : Nat} {h : Rv} {s : St} {p : Int} {bad : Bool} {wv nv : Value} {w : World} (H : Rd B r h s p bad wv nv w) (o : Obj) : Rd B r h s p bad wv nv (w.alloc o) := H.below ((Below.refl _ _).alloc (Nat.le_refl _) _)
theorem Rd.drew {B r : Nat} {h : Rv} {s : St} {p : Int} {bad : Bool} {wv nv : Value} {w : World} (H : Rd B r h s p bad wv nv w) : Rd B r h s p bad wv nv w.drew := ⟨H.blk, H.base, H.rows.imp (fun _ hr => hr.below (below_drew (Below.refl _ _))), H.eq, H.port⟩
theorem Rd.setBad {B r : Nat} {h : Rv} {s : St} {p : Int} {bad : Bool} {wv nv : Value} {w : World} (H : Rd B r h s p bad wv nv w) (b : Bool) : Rd B r h s p b wv nv (w.setCell ⟨r, 11, none⟩ (.bool b)) :=
 ⟨blk_put H.blk 11 _ rfl, H.base, H.rows.imp (fun _ hr => hr.setR 11 _), H.eq, H.port⟩
theorem Rd.setPort {B r : Nat} {h : Rv} {s : St} {p : Int} {bad : Bool} {wv nv : Value} {w : World} (H : Rd B r h s p bad wv nv w) (q : Int) (hq : 0 ≤ q ∧ q < s.po.length) : Rd B r h s q bad wv nv (w.setCell ⟨r, 10, none⟩ (.int .i64 q)) :=
 ⟨blk_put H.blk 10 _ rfl, H.base, H.rows.imp (fun _ hr => hr.setR 10 _), H.eq, .inr hq⟩
theorem Rd.setW {B r : Nat} {h : Rv} {s : St} {p : Int} {bad : Bool} {wv nv : Value} {w : World} (H : Rd B r h s p bad wv nv w) (u : Value) : Rd B r h s p bad u nv (w.setCell ⟨r, 8, none⟩ u) :=
 ⟨blk_put H.blk 8 _ rfl, H.base, H.rows.imp (fun _ hr => hr.setR 8 _), H.eq, H.port⟩
theorem Rd.setN {B r : Nat} {h : Rv} {s : St} {p : Int} {bad : Bool} {wv nv : Value} {w : World} (H : Rd B r h s p bad wv nv w) (u : Value) : Rd B r h s p bad wv u (w.setCell ⟨r, 9, none⟩ u) :=
 ⟨blk_put H.blk 9 _ rfl, H.base, H.rows.imp (fun _ hr => hr.setR 9 _), H.eq, H.port⟩

/-- A row that stays whatever a reader does. -/
def RowC {α : Type} (d : Kd α) (w : World) (A : Option Addr) (xs : List α) : Prop := ∀ w', Rest w w' → d.C w' A xs.length xs
theorem RowC.on {α : Type} {d : Kd α} {w w1 : World} {A : Option Addr} {xs : List α} (h : RowC d w A xs) (k : Rest w w1) : RowC d w1 A xs := fun w' hr => h w' (k.trans hr)
theorem RowC.now {α : Type} {d : Kd α} {w : World} {A : Option Addr} {xs : List α} (h : RowC d w A xs) : d.C w A xs.length xs := h w (Rest.refl w)
/-- The words and the numbers of a line. -/
structure Line (w : World) (wv nv : Value) (ws : List ByteArray) (ns : List Int) : Prop where
 ex : ∃ A c A' c', wv = .slice A ws.length c ∧ nv = .slice A' ns.length c' ∧ RowC Kd.string w A ws ∧ RowC (Kd.int .i64) w A' ns
 eq : ns = ws.map numS
theorem Line.on {w w1 : World} {wv nv : Value} {ws : List ByteArray} {ns : List Int} (h : Line w wv nv ws ns) (k : Rest w w1) : Line w1 wv nv ws ns := by
 obtain ⟨⟨A, c, A', c', e1, e2, h1, h2⟩, e⟩ := h
 exact ⟨⟨A, c, A', c', e1, e2, h1.on k, h2.on k⟩, e⟩
theorem Line.nth {w : World} {wv nv : Value} {ws : List ByteArray} {ns : List Int} (h : Line w wv nv ws ns) : ∃ A c A' c', wv = .slice A ws.length c ∧ nv = .slice A' ws.length c' ∧
  (∀ k, (hk : k < ws.length) → ∀ w', Rest w w' → ∃ ad, A = some ad ∧ w'.cell? (ad.add k) = some (.string ws[k])) ∧
  (∀ k, (hk : k < ws.length) → ∀ w', Rest w w' → ∃ ad, A' = some ad ∧ w'.cell? (ad.add k) = some (.int .i64 (numS ws[k]))) := by
 obtain ⟨⟨A, c, A', c', e1, e2, h1, h2⟩, e⟩ := h
 have hl : ns.length = ws.length := by rw [e, List.length_map]
 refine ⟨A, c, A', c', e1, by rw [e2, hl], fun k hk w' hr => ?_, fun k hk w' hr => ?_⟩
 ·obtain ⟨ad, ea, hx⟩ := Kd.at_string (h1 w' hr) (k : Int) (by omega) (by omega)
  rw [Int.toNat_natCast, show rdOf ByteArray.empty ws (k : Int) = ws[k] by unfold rdOf; rw [Int.toNat_natCast, List.getD_eq_getElem?_getD, List.getElem?_eq_getElem hk]; rfl] at hx
  exact ⟨ad, ea, hx⟩
 ·obtain ⟨ad, ea, hx⟩ := Kd.at_int (h2 w' hr) (k : Int) (by omega) (by omega)
  rw [Int.toNat_natCast, show rd ns (k : Int) = numS ws[k] by unfold rd; subst e; rw [Int.toNat_natCast, List.getD_eq_getElem?_getD, List.getElem?_map, List.getElem?_eq_getElem hk]; rfl] at hx
  exact ⟨ad, ea, hx⟩
/-- All blocks that were, but those of S, are as they were. -/
structure But (S : Nat → Prop) (w w' : World) : Prop where
 os : w'.os = w.os
 tape : w'.tape = w.tape
 output : w'.output = w.output
 size : w.heap.size ≤ w'.heap.size
 block : ∀ k, k < w.heap.size → ¬ S k → w'.heap[k]? = w.heap[k]?
section
variable {S S' : Nat → Prop} {w w1 w2 : World}
theorem But.refl (S : Nat → Prop) (w : World) : But S w w := ⟨rfl, rfl, rfl, Nat.le_refl _, fun _ _ _ => rfl⟩
theorem But.mono (h : But S w w1) (hs : ∀ k, S k → S' k) : But S' w w1 := ⟨h.os, h.tape, h.output, h.size, fun k hk hn => h.block k hk (fun hS => hn (hs k hS))⟩
theorem But.then_ (h : But S w w1) (k : But S' w1 w2) (hs : ∀ k, S' k → S k ∨ w.heap.size ≤ k) : But S w w2 :=
 ⟨k.os.trans h.os, k.tape.trans h.tape, k.output.trans h.output, Nat.le_trans h.size k.size, fun i hi hn => (k.block i (Nat.lt_of_lt_of_le hi h.size) (fun hS => (hs i hS).elim hn (fun hge => by omega))).trans (h.block i hi hn)⟩
theorem But.trans (h : But S w w1) (k : But S w1 w2) : But S w w2 := h.then_ k (fun _ hk => .inl hk)
theorem But.of_below (hb : Below w.heap.size w w1) : But S w w1 := ⟨hb.os, hb.tape, hb.output, hb.size, fun k hk _ => hb.block k hk⟩
theorem But.below (h : But S w w1) (hb : Below w1.heap.size w1 w2) : But S w w2 := h.trans (But.of_below hb)
theorem But.alloc (h : But S w w1) (o : Obj) : But S w (w1.alloc o) := h.below ((Below.refl _ _).alloc (Nat.le_refl _) _)
theorem But.drew (h : But S w w1) : But S w w1.drew := ⟨h.os, h.tape, h.output, h.size, h.block⟩
theorem But.drewN (h : But S w w1) (n : Nat) : But S w (w1.drewN n) := ⟨h.os, h.tape, h.output, h.size, h.block⟩
theorem But.grown (h : But S w w1) {row : Option Nat} (hg : w1.grownBy w2 row) (hr : ∀ k, row = some k → S k ∨ w.heap.size ≤ k) : But S w w2 :=
 h.then_ (S' := fun k => row = some k) ⟨hg.os, hg.tape, hg.output, hg.size, fun k hk hn => hg.block k hk (fun e => hn e.symm)⟩ hr
theorem But.set (h : But S w w1) {b : Nat} (i : Nat) (u : Value) (hb : S b ∨ w.heap.size ≤ b) : But S w (w1.setCell ⟨b, i, none⟩ u) :=
 h.then_ (S' := fun k => k = b) ⟨rfl, rfl, rfl, by simp [World.setCell], fun k _ hn => Below.heap_setCell w1 ⟨b, i, none⟩ u k hn⟩ (fun k hk => hk ▸ hb)
theorem But.toBelow (h : But S w w1) {B : Nat} (hB : B ≤ w.heap.size) (hs : ∀ k, S k → B ≤ k) : Below B w w1 :=
 ⟨h.os, h.tape, h.output, h.size, fun k hk => h.block k (by omega) (fun hS => by have := hs k hS; omega)⟩
theorem But.rest (h : But S w w1) (hs : ∀ k, S k → k < w.heap.size → ∃ cs T z, w.heap[k]? = some (.cells cs T z) ∧ T ∈ stTys) : Rest w w1 :=
 ⟨h.size, fun k o ho hn => (h.block k (blk_lt ho) (fun hS => by
  obtain ⟨cs, T, z, hc, hT⟩ := hs k hS (blk_lt ho)
  rw [ho] at hc
  exact hn cs T z (Option.some.inj hc) hT)).trans ho⟩
end
section
variable {B r : Nat} {h : Rv} {s : St} {p p' : Int} {bad bad' : Bool} {wv nv wv' nv' : Value} {w w1 : World}
theorem Rd.still (H : Rd B r h s p bad wv nv w) (hm : But (fun k => k = r) w w1) (hb : w1.heap[r]? = some (.cells (h.cells wv' nv' p bad') 106 (0, 0))) : Rd B r h s p bad' wv' nv' w1 :=
 ⟨hb, H.base, H.rows.imp (fun _ hr => hr.still (fun k hk h8 => hm.block k hk (fun e => h8 (e ▸ hr.cr)))), H.eq, H.port⟩
theorem Rd.lt (H : Rd B r h s p bad wv nv w) : r < w.heap.size := blk_lt H.blk
theorem Rd.rest (H : Rd B r h s p bad wv nv w) (hm : But (fun k => k = r) w w1) : Rest w w1 :=
 hm.rest (fun k hk _ => ⟨_, _, _, hk ▸ H.blk, by decide⟩)
theorem Rd.toBelow (H : Rd B r h s p bad wv nv w) (hm : But (fun k => k = r) w w1) : Below B w w1 :=
 hm.toBelow (Nat.le_trans H.base (Nat.le_of_lt H.lt)) (fun k hk => hk ▸ H.base)
end
end Go.Proofs.YtmcjccigglekpaaGreatDoor.Given
namespace Go.Proofs.YtmcjccigglekpaaGreatDoor.Given
open Go Go.RowKit Go.Proofs Go.Proofs.YtmcjccigglekpaaGreatDoorW.PrintWords Go.Proofs.YtmcjccigglekpaaGreatDoorW.PrintLast Go.Proofs.YtmcjccigglekpaaGreatDoorW.PrintMore Go.Proofs.YtmcjccigglekpaaGreatDoor.P

set_option maxRecDepth 100000 in
set_option maxHeartbeats 1000000 in
theorem rd_need_ok {B r : Nat} {h : Rv} {s : St} {p : Int} {A : Option Addr} {c : Nat} {nv : Value} {w : World} {ws : List ByteArray} (H : Rd B r h s p false (.slice A ws.length c) nv w) (k : Int) (hk : (ws.length : Int) = k) :
  Calls Tryz.prog 111 #[.pointer (some ⟨r, 0, none⟩), .int .i64 k] w fun e w' => e = .returned (.bool true) ∧ (Rd B r h s p false (.slice A ws.length c) nv w' ∧ But (fun k => k = r) w w') := by
 have hb := H.blk
 have c8 := (blk_cell hb 8).trans (show _ = some (Value.slice A ws.length c) from rfl)
 have c11 := (blk_cell hb 11).trans (show _ = some (Value.bool false) from rfl)
 have f11 := blk_frozen hb 11
 have hn : ((ws.length : Int) != k) = false := by rw [bne_eq_false_iff_eq]; exact hk
 have D1 := Lib.hid (H.setBad false)
 have D2 := Lib.hid ((But.refl (fun k => k = r) w).set 11 (.bool false) (.inl rfl))
 clear hk hb H
 go_enter Tryz.func111, Tryz.ntmps111
 go_wp2
 go_ret
 exact ⟨rfl, D1.out, D2.out⟩
set_option maxRecDepth 100000 in
set_option maxHeartbeats 1000000 in
theorem rd_need_no {B r : Nat} {h : Rv} {s : St} {p : Int} {A : Option Addr} {c : Nat} {nv : Value} {w : World} {ws : List ByteArray} (H : Rd B r h s p false (.slice A ws.length c) nv w) (k : Int) (hk : (ws.length : Int) ≠ k) :
  Calls Tryz.prog 111 #[.pointer (some ⟨r, 0, none⟩), .int .i64 k] w fun e w' => e = .returned (.bool false) ∧ (Rd B r h s p true (.slice A ws.length c) nv w' ∧ But (fun k => k = r) w w') := by
 have hb := H.blk
 have c8 := (blk_cell hb 8).trans (show _ = some (Value.slice A ws.length c) from rfl)
 have c11 := (blk_cell hb 11).trans (show _ = some (Value.bool false) from rfl)
 have f11 := blk_frozen hb 11
 have hn : ((ws.length : Int) != k) = true := by rw [bne_iff_ne]; exact hk
 have D1 := Lib.hid (H.setBad true)
 have D2 := Lib.hid ((But.refl (fun k => k = r) w).set 11 (.bool true) (.inl rfl))
 clear hk hb H
 go_enter Tryz.func111, Tryz.ntmps111
 go_wp2
 go_ret
 exact ⟨rfl, D1.out, D2.out⟩

theorem rd_rows_reads {B r : Nat} {h : Rv} {s : St} {p : Int} {bad : Bool} {wv nv : Value} {w : World} (H : Rd B r h s p bad wv nv w) :
  (∃ A c, h.v2 = .slice A s.no.length c ∧ s.no.length ≤ c) ∧ (∃ A c, h.v4 = .slice A s.po.length c ∧ s.po.length ≤ c) := by
 obtain ⟨col, hr⟩ := H.rows
 obtain ⟨A, c, e, hl, _⟩ := Kd.S_reads hr.r2
 obtain ⟨A', c', e', hl', _⟩ := Kd.S_reads hr.r4
 exact ⟨⟨A, c, e, hl⟩, A', c', e', hl'⟩

theorem add_zero_ (ad : Addr) : ad.add 0 = ad := by unfold Addr.add; cases ad with | mk b o s => cases s <;> simp
set_option maxRecDepth 100000 in
set_option maxHeartbeats 1000000 in
/-- object: the first word's place. -/
theorem rd_object_ok {B r : Nat} {h : Rv} {s : St} {p : Int} {A' : Option Addr} {c' : Nat} {wv : Value} {w : World} {ws : List ByteArray} (H : Rd B r h s p false wv (.slice A' ws.length c') w) (hl : 0 < ws.length)
  (hN : ∀ w', Rest w w' → ∃ ad, A' = some ad ∧ w'.cell? (ad.add 0) = some (.int .i64 (numS ws[0]))) (h1 : 0 ≤ numS ws[0]) (h2 : numS ws[0] < s.po.length) :
  Calls Tryz.prog 113 #[.pointer (some ⟨r, 0, none⟩)] w fun e w' => e = .returned (.tuple #[.int .i64 (numS ws[0]), .bool true]) ∧ ∃ m, w' = w.drewN m := by
 obtain ⟨ad, rfl, hx⟩ := hN w (Rest.refl w)
 rw [add_zero_] at hx
 obtain ⟨_, A4, c4, e4, hl4⟩ := rd_rows_reads H
 have hb := H.blk
 have c4' := (blk_cell hb 4).trans (show _ = some h.v4 from rfl)
 have c9 := (blk_cell hb 9).trans (show _ = some (Value.slice (some ad) ws.length c') from rfl)
 rw [e4] at c4'
 generalize numS ws[0] = n at *
 have h1' : decide (n < 0) = false := decide_eq_false (by omega)
 have h2' : decide ((s.po.length : Int) ≤ n) = false := decide_eq_false (by omega)
 clear hb H hN e4
 go_enter Tryz.func113, Tryz.ntmps113
 go_wp2
 go_quiet (fail)
 go_wp2
 go_ret2
 exact ⟨rfl, _, rfl⟩
set_option maxRecDepth 100000 in
set_option maxHeartbeats 1000000 in
theorem rd_object_no {B r : Nat} {h : Rv} {s : St} {p : Int} {A' : Option Addr} {c' : Nat} {wv : Value} {w : World} {ws : List ByteArray} (H : Rd B r h s p false wv (.slice A' ws.length c') w) (hl : 0 < ws.length)
  (hN : ∀ w', Rest w w' → ∃ ad, A' = some ad ∧ w'.cell? (ad.add 0) = some (.int .i64 (numS ws[0]))) (h12 : ¬ (0 ≤ numS ws[0] ∧ numS ws[0] < s.po.length)) :
  Calls Tryz.prog 113 #[.pointer (some ⟨r, 0, none⟩)] w fun e w' => e = .returned (.tuple #[.int .i64 0, .bool false]) ∧ (Rd B r h s p true wv (.slice (A') ws.length c') w' ∧ But (fun k => k = r) w w') := by
 obtain ⟨ad, rfl, hx⟩ := hN w (Rest.refl w)
 rw [add_zero_] at hx
 obtain ⟨_, A4, c4, e4, hl4⟩ := rd_rows_reads H
 have hb := H.blk
 have c4' := (blk_cell hb 4).trans (show _ = some h.v4 from rfl)
 have c9 := (blk_cell hb 9).trans (show _ = some (Value.slice (some ad) ws.length c') from rfl)
 have c11 := (blk_cell hb 11).trans (show _ = some (Value.bool false) from rfl)
 have f11 := blk_frozen hb 11
 rw [e4] at c4'
 generalize numS ws[0] = n at *
 have D1 := Lib.hid (fun m => ((H.below (pw_below_drewN (Below.refl _ w) m)).setBad true))
 have D2 := Lib.hid (fun m => ((But.refl (fun k => k = r) w).drewN m).set 11 (.bool true) (.inl rfl))
 clear hb H hN e4
 by_cases h1 : 0 ≤ n
 ·have h1' : decide (n < 0) = false := decide_eq_false (by omega)
  have h2' : decide ((s.po.length : Int) ≤ n) = true := decide_eq_true (by omega)
  clear h12
  go_enter Tryz.func113, Tryz.ntmps113
  go_wp2
  go_quiet (fail)
  go_wp2
  go_ret2
  exact ⟨rfl, D1.out _, D2.out _⟩
 ·have h1' : decide (n < 0) = true := decide_eq_true (by omega)
  clear h12
  go_enter Tryz.func113, Tryz.ntmps113
  go_wp2
  go_quiet (fail)
  go_wp2
  go_ret2
  exact ⟨rfl, D1.out _, D2.out _⟩
end Go.Proofs.YtmcjccigglekpaaGreatDoor.Given
namespace Go.Proofs.YtmcjccigglekpaaGreatDoor.Given
open Go Go.RowKit Go.Proofs Go.Proofs.YtmcjccigglekpaaGreatDoorW.PrintWords Go.Proofs.YtmcjccigglekpaaGreatDoorW.PrintLast Go.Proofs.YtmcjccigglekpaaGreatDoorW.PrintMore Go.Proofs.YtmcjccigglekpaaGreatDoor.P


/-- A word's two numbers. -/
def keyI (x : ByteArray) : S74 := ⟨numS (cutA x ⟨#[46]⟩), numS (cutB x ⟨#[46]⟩)⟩
theorem cutA_size (x sep : ByteArray) (n : Nat) (h : x.size ≤ n) : (cutA x sep).size ≤ n ∧ (cutB x sep).size ≤ n := by
 have hx : x.data.toList.length = x.size := by rw [Array.length_toList]; rfl
 unfold cutA cutB Lib.cut
 split
 ·refine ⟨?_, ?_⟩
  ·show (List.take _ _).toArray.size ≤ n
   rw [List.size_toArray, List.length_take]; omega
  ·show (List.drop _ _).toArray.size ≤ n
   rw [List.size_toArray, List.length_drop]; omega
 ·refine ⟨?_, ?_⟩
  ·show (x.data.toList).toArray.size ≤ n
   rw [List.size_toArray]; omega
  ·show ([] : List UInt8).toArray.size ≤ n
   simp

/-- A region whose first n operations only read. -/
theorem still_tail {P : Program} {id : Nat} {Q : Exit → Act → World → Prop} {a : Act} {w : World} {l : List Oper} (n : Nat) (hm : P.follows .mixedOrders = true) (hB : Region.lexTailB .any l.toArray n = true) (wd : World) (hwd : w.drew = wd)
  (h : wpStill P l.toArray wd (fun a' => wpList P l.toArray Q (l.drop n) a' wd) (l.take n) a) : (Code.region id l.toArray true).wp P Q a w := by
 subst hwd
 exact wp_region_still_tail n hm hB h
theorem strRow2 {w0 : World} {g : Nat} {a b : ByteArray} (h : g = w0.heap.size) : Kd.C Kd.string (w0.alloc (.cells #[.string a, .string b] 9)) (some ⟨g, 0, none⟩) [a, b].length [a, b] := by
 subst h
 refine ⟨rfl, by simp, fun _ => ⟨_, rfl, fun j p hj => ?_⟩⟩
 have hb := blk_new w0 (.cells #[.string a, .string b] 9)
 refine ⟨[.string p], rfl, rfl, fun i u hu => ?_⟩
 cases i with
 | succ i => simp at hu
 | zero =>
  obtain rfl := Option.some.inj hu
  match j, hj with
  | 0, hj => obtain rfl := Option.some.inj hj; exact (blk_cell hb 0).trans rfl
  | 1, hj => obtain rfl := Option.some.inj hj; exact (blk_cell hb 1).trans rfl
  | j + 2, hj => simp at hj
theorem blk_on {w w1 : World} {g : Nat} {o : Obj} (h : w.heap[g]? = some o) (hb : Below w.heap.size w w1) : w1.heap[g]? = some o := blk_below h hb
theorem below_back {B : Nat} {a b c : World} (h : Below B a b) (hB : B ≤ b.heap.size) (k : Below b.heap.size b c) : Below B a c := h.trans (k.mono hB)
theorem numbers2 {w0 : World} {g : Nat} {a b : ByteArray} (h : g = w0.heap.size) (ha : a.size ≤ 1000000) (hb : b.size ≤ 1000000) (hG : GL (w0.alloc (.cells #[.string a, .string b] 9))) :
  Calls Tryz.prog 47 #[.slice (some ⟨g, 0, none⟩) 2 2] (w0.alloc (.cells #[.string a, .string b] 9)) fun e w' => ∃ g', e = .returned (.slice (some ⟨g', 0, none⟩) 2 2) ∧ w'.heap[g']? = some (.cells #[.int .i64 (numS a), .int .i64 (numS b)] 2 (0, 0)) ∧ Below (w0.alloc (.cells #[.string a, .string b] 9)).heap.size (w0.alloc (.cells #[.string a, .string b] 9)) w' :=
 (numbers_calls (some ⟨g, 0, none⟩) 2 [a, b] (by intro y hy; simp at hy; rcases hy with rfl | rfl <;> omega) (by simp) _ hG (strRow2 h)).mono fun _ _ ⟨h1, h2, h3⟩ => ⟨_, h1, h2, h3⟩
set_option maxRecDepth 100000 in
set_option maxHeartbeats 1600000 in
theorem rd_keyAt {B r : Nat} {h : Rv} {s : St} {p : Int} {bad : Bool} {A : Option Addr} {c : Nat} {nv : Value} {w : World} {ws : List ByteArray} (H : Rd B r h s p bad (.slice A ws.length c) nv w) (hG : GL w) (k : Nat) (kv : Int) (hkv : kv = k) (hk : k < ws.length)
  (hx : ∃ ad, A = some ad ∧ w.cell? (ad.add k) = some (.string ws[k])) (hs : ws[k].size ≤ 1000000) :
  Calls Tryz.prog 114 #[.pointer (some ⟨r, 0, none⟩), .int .i64 kv] w fun e w' => e = .returned (.agg #[.int .i64 (keyI ws[k]).f0, .int .i64 (keyI ws[k]).f1]) ∧ (Rd B r h s p (bad || !cutC ws[k] ⟨#[46]⟩) (.slice A ws.length c) nv w' ∧ But (fun k => k = r) w w') := by
 subst hkv
 obtain ⟨ad, rfl, hx⟩ := hx
 have hcs := cutA_size ws[k] ⟨#[46]⟩ 1000000 hs
 have hb := H.blk
 have Dc := Lib.hid (fun w' (h' : GL w') => cut_calls ws[k] ⟨#[46]⟩ hs w' h')
 unfold keyI
 generalize cutA ws[k] ⟨#[46]⟩ = xa at *
 generalize cutB ws[k] ⟨#[46]⟩ = xb at *
 generalize cutC ws[k] ⟨#[46]⟩ = xc at *
 generalize ws[k] = x at *
 have HRd := Lib.hid H
 have HBr := H.base
 have hlt := blk_lt hb
 have q1 : Below w.heap.size w (w.alloc (.cells #[.int .i64 0, .int .i64 0] 74)) := (Below.refl _ _).alloc (Nat.le_refl _) _
 have hb1 := blk_on hb q1
 have hk0 := blk_new w (.cells #[.int .i64 0, .int .i64 0] 74)
 have hx1 := pw_cell_below q1 hx
 have hG1 := hG.below q1
 have c8 := (blk_cell hb1 8).trans (show _ = some (Value.slice (some ad) ws.length c) from rfl)
 have i2 : decide (0 ≤ (k : Int)) = true := decide_eq_true (by omega)
 have j2 : decide (k < ws.length) = true := decide_eq_true hk
 clear H hG hx hb
 go_enter Tryz.func114, Tryz.ntmps114
 go_wp2_with fail
 have hgs : w.heap.size < (w.alloc (.cells #[.int .i64 0, .int .i64 0] 74)).heap.size := by simp
 generalize w.alloc (.cells #[.int .i64 0, .int .i64 0] 74) = wa at *
 generalize hg : w.heap.size = g at *
 have hgr : g ≠ r := by omega
 go_wp2_with (go_at_call 88; (with_reducible refine (Dc.out _ hG1).mono ?_); clear Dc; rintro e w2 ⟨rfl, m, rfl⟩)
 have q3 : Below wa.heap.size wa ((wa.drewN m).alloc (.cells #[.string xa, .string xb] 9)) := (pw_below_drewN (Below.refl wa.heap.size wa) m).alloc (Nat.le_refl wa.heap.size) _
 have hG3 := hG1.below q3
 have Dn := Lib.hid (numbers2 (w0 := wa.drewN m) (g := wa.heap.size) (a := xa) (b := xb) rfl hcs.1 hcs.2 hG3)
 generalize (wa.drewN m).alloc (.cells #[.string xa, .string xb] 9) = w3 at *
 clear hG1 hG3 c8 hx1 i2 j2 hcs
 go_wp2_with (go_at_call 47; (with_reducible refine Dn.out.mono ?_); clear Dn; rintro e w4 ⟨g4, rfl, n4, b4⟩; have q4 : Below wa.heap.size wa w4 := q3.trans (b4.mono q3.size);have hb4 := blk_on hb1 q4; have hk4 := blk_on hk0 q4; have c11 := (blk_cell hb4 11).trans (show _ = some (Value.bool bad) from rfl); have f11 := blk_frozen hb4 11)
 all_goals
  generalize hw5 : w4.setCell ⟨r, 11, none⟩ _ = w5 at *
  obtain ⟨wd, hwd⟩ : ∃ wd, w5.drew = wd := ⟨_, rfl⟩
  have hn5 : wd.heap[g4]? = some (.cells #[.int .i64 (numS xa), .int .i64 (numS xb)] 2 (0, 0)) := by rw [← hwd, ← hw5]; exact blk_drew (blk_far n4 (blk_ne n4 hb4 (by decide)) _)
  have hk5 : wd.heap[g]? = some (.cells #[.int .i64 0, .int .i64 0] 74 (0, 0)) := by rw [← hwd, ← hw5]; exact blk_drew (blk_far hk4 (blk_ne hk4 hb4 (by decide)) _)
  have m0 := (blk_cell hn5 0).trans (show _ = some (Value.int .i64 (numS xa)) from rfl)
  have m1 := (blk_cell hn5 1).trans (show _ = some (Value.int .i64 (numS xb)) from rfl)
  have k0 := (blk_cell hk5 0).trans (show _ = some (Value.int .i64 0) from rfl)
  have k1 := (blk_cell hk5 1).trans (show _ = some (Value.int .i64 0) from rfl)
  have g0 := blk_frozen hk5 0
  have g1 := blk_frozen hk5 1
  have HW5 := Lib.hid hw5
  have HWD := Lib.hid hwd
  refine still_tail 7 (by kernel_rfl) (by kernel_rfl) wd hwd ?_
  clear hw5 hwd
  simp only [List.take_succ_cons, List.take_zero, List.drop_succ_cons, List.drop_zero]
  repeat still_step
  refine wpStill_nil ?_
  go_wp2
  have F : But (fun k => k = r) w wd := by
   rw [← HWD.out, ← HW5.out]
   exact ((((But.refl (fun k => k = r) w).below (hg ▸ q1)).below q4).set 11 _ (.inl rfl)).drew
  have hbd : wd.heap[r]? = some (.cells (h.cells (.slice (some ad) ws.length c) nv p (bad || !xc)) 106 (0, 0)) := by
   rw [← HWD.out, ← HW5.out]
   first
    | (have eb : bad = true := by assumption
       rw [show (bad || !xc) = true by rw [eb]; rfl]
       exact blk_drew (blk_put hb4 11 _ rfl))
    | (have eb : bad = false := by (first | assumption | exact eq_false_of_ne_true (by assumption))
       rw [show (bad || !xc) = !xc by rw [eb]; rfl]
       exact blk_drew (blk_put hb4 11 _ rfl))
  have F2 := (F.set (b := g) 0 (.int .i64 (numS xa)) (.inr (Nat.le_of_eq hg))).set (b := g) 1 (.int .i64 (numS xb)) (.inr (Nat.le_of_eq hg))
  have hbz := blk_far (blk_far hbd (p := ⟨g, 0, none⟩) (Ne.symm hgr) (.int .i64 (numS xa))) (p := ⟨g, 1, none⟩) (Ne.symm hgr) (.int .i64 (numS xb))
  exact bodyPost_ret (v := .agg #[.int .i64 (numS xa), .int .i64 (numS xb)]) (by simp [results, Tryz.results114, k0, k1, go_sem]) rfl ⟨rfl, HRd.out.still F2 hbz, F2⟩
end Go.Proofs.YtmcjccigglekpaaGreatDoor.Given
namespace Go.Proofs.YtmcjccigglekpaaGreatDoor.Given
open Go Go.RowKit Go.Proofs Go.Proofs.YtmcjccigglekpaaGreatDoorW.PrintWords Go.Proofs.YtmcjccigglekpaaGreatDoorW.PrintLast Go.Proofs.YtmcjccigglekpaaGreatDoorW.PrintMore Go.Proofs.YtmcjccigglekpaaGreatDoor.P

set_option maxRecDepth 100000 in
set_option maxHeartbeats 2000000 in
theorem rd_places {r : Nat} {cs : Array Value} {w : World} {A' : Option Addr} {c' : Nat} {ns : List Int} (hb : w.heap[r]? = some (.cells cs 106 (0, 0))) (h9 : cs[9]? = some (.slice A' ns.length c')) (hC : Kd.C (Kd.int .i64) w A' ns.length ns) (hl : ns.length ≤ 1000000) :
  Calls Tryz.prog 117 #[.pointer (some ⟨r, 0, none⟩)] w fun e w' => ∃ v : Value, e = .returned v ∧ Kd.R (Kd.int .i64) 3 w' w.heap.size (fun _ => True) v ns ∧ Below w.heap.size w w' := by
 have c9 := (blk_cell hb 9).trans h9
 have HC := Lib.hid hC
 have HB := Aside0.mk (Below.refl w.heap.size w)
 clear hb h9 hC
 go_enter Tryz.func117, Tryz.ntmps117
 go_wp2
 go_loopw [3, 11] (fun v3 v11 w' => ∃ k : Nat, k ≤ ns.length ∧ v11 = .int .i64 k ∧ Aside0 (Kd.R (Kd.int .i64) 3 w' w.heap.size (fun _ => True) v3 (ns.take k)) ∧ Aside0 (Below w.heap.size w w')) (fun _ v11 _ => ns.length - (intOf v11).toNat)
 case atStart => exact ⟨0, Nat.zero_le _, rfl, ⟨Kd.R_nil _ _ _ _ _⟩, HB⟩
 case round =>
  clear HB c9
  obtain ⟨k, hk, rfl, HO, HB⟩ := hrel
  by_cases hlt : k < ns.length
  ·have hd : decide ((k : Int) < (ns.length : Int)) = true := decide_eq_true (by omega)
   have i2 : decide (0 ≤ (k : Int)) = true := decide_eq_true (by omega)
   have j2 : decide (k < ns.length) = true := decide_eq_true hlt
   obtain ⟨ad, e1, hx⟩ := Kd.at_int (Kd.C_below HC.out HB.out) (k : Int) (by omega) (by omega)
   subst e1
   rw [Int.toNat_natCast, show rd ns (k : Int) = ns[k] by unfold rd; rw [Int.toNat_natCast, List.getD_eq_getElem?_getD, List.getElem?_eq_getElem hlt]; rfl] at hx
   have ht : (ns.take k).length ≤ 1000000 := by rw [List.length_take]; omega
   have hsn := Lib.hid (List.take_succ_eq_append_getElem hlt)
   generalize ns[k] = x at *
   generalize ns.take k = xs at *
   go_wp2_with (first | ((with_reducible refine gate_builtin (b := .append) (xs := #[.tmp 15, .tmp 17]) rfl ?_); at_builtin; refine Kd.R_append (Kd.int .i64) (w0 := w) w.heap.size rfl (.tmp 15) (.tmp 17) 29 3 (.int .i64 0) 8 rfl Tryz.underlying29 info3 rfl (by decide) (by omega) _ xs x [.int .i64 x] (fun _ => True) (fun _ => False) rfl rfl ?aP (fun _ hk => hk.elim) ?aF ?aO ?aB ?aS ?aL ?_; (case aP => exact rfl); (case aB => exact HB.out); (case aF => exact (fun _ _ => trivial)); (case aO => exact HO.out); (case aS => exact HB.out.size); (case aL => omega); intro v1 w1 HR1 HB1 _ _; obtain ⟨A1, c1, rfl⟩ := Kd.R_slice HR1; have HR2 := Aside0.mk HR1; have HB2 := Aside0.mk HB1; clear HR1 HB1))
   refine ⟨⟨k + 1, hlt, rfl, ⟨?_⟩, HB2⟩, ?_⟩
   ·rw [hsn.out]
    have := HR2.out
    rw [List.length_append, List.length_singleton] at this
    exact this
   ·show ns.length - ((k : Int) + 1).toNat < ns.length - ((k : Int)).toNat
    omega
  ·have hd : decide ((k : Int) < (ns.length : Int)) = false := decide_eq_false (by omega)
   obtain rfl : k = ns.length := by omega
   rw [List.take_length] at HO
   go_wp2
   go_ret
   exact ⟨_, rfl, HO.out, HB.out⟩
set_option maxRecDepth 100000 in
set_option maxHeartbeats 1000000 in
theorem rd_thing1 {r b : Nat} {cs : Array Value} {w : World} {A' : Option Addr} {c' : Nat} {n : Nat} {ad : Addr} (x : Int) (hp : w.cell? ⟨b, 0, none⟩ = some (.pointer (some ⟨r, 0, none⟩))) (hb : w.heap[r]? = some (.cells cs 106 (0, 0))) (h9 : cs[9]? = some (.slice A' n c')) (k : Nat) (kv : Int) (hkv : kv = k) (hk : k < n) (hA : A' = some ad) (hx : w.cell? (ad.add k) = some (.int .i64 x)) :
  Calls Tryz.prog 112 #[.int .i64 kv, .pointer (some ⟨b, 0, none⟩)] w fun e w' => e = .returned (.int .i64 x) ∧ w' = w := by
 subst hkv hA
 have c9 := (blk_cell hb 9).trans h9
 have i2 : decide (0 ≤ (k : Int)) = true := decide_eq_true (by omega)
 have j2 : decide (k < n) = true := decide_eq_true hk
 clear hb h9
 go_enter Tryz.func112, Tryz.ntmps112
 go_wp2
 go_ret
 exact ⟨rfl, rfl⟩
end Go.Proofs.YtmcjccigglekpaaGreatDoor.Given
namespace Go.Proofs.YtmcjccigglekpaaGreatDoor.Given
open Go Go.RowKit Go.Proofs Go.Proofs.YtmcjccigglekpaaGreatDoorW.PrintWords Go.Proofs.YtmcjccigglekpaaGreatDoorW.PrintLast Go.Proofs.YtmcjccigglekpaaGreatDoorW.PrintMore Go.Proofs.YtmcjccigglekpaaGreatDoor.P

/-- What a line's method leaves. -/
def RdPost (B r : Nat) (o : Option (St × Int)) (w : World) (e : Ending) (w' : World) : Prop :=
 e = .returned (.tuple #[]) ∧ Below B w w' ∧ Rest w w' ∧ ∃ h s p wv nv, Rd B r h s p o.isNone wv nv w' ∧ ∀ x, o = some x → x = (s, p)
section
variable {B r : Nat} {col : Nat → Nat} {h : Rv} {s : St} {p p' : Int} {bad bad' : Bool} {wv nv wv' nv' v1 : Value} {w w1 : World} {α : Type} {d : Kd α} {e : Nat} {v : Value} {xs : List α}
theorem R_colored {i : Nat} (hR : d.R e w B (fun k => col k = i) v xs) (hb : Below w.heap.size w w1) : d.R e w1 B (fun k => newCol col w.heap.size i k = i) v xs :=
 Kd.R_mono (Kd.R_below (Kd.R_bound hR) hb) (fun _ hk => (newCol_lt hk.2.2.1).trans hk.1)
theorem S_colored {i : Nat} (hR : Kd.S d e w B (fun k => col k = i) v xs) (hb : Below w.heap.size w w1) : Kd.S d e w1 B (fun k => newCol col w.heap.size i k = i) v xs :=
 Kd.S_mono (Kd.S_below (Kd.S_bound hR) hb) (fun _ hk => (newCol_lt hk.2.2.1).trans hk.1)
theorem R_coloredB {i : Nat} (hr8 : col r = 8) (hi : i < 8) (hR : d.R e w B (fun k => col k = i) v xs) (hb : But (fun k => k = r) w w1) : d.R e w1 B (fun k => newCol col w.heap.size i k = i) v xs :=
 Kd.R_mono (Kd.R_step (Kd.R_bound hR) (fun k hk hl => hb.block k hl (fun e => by have := hk.1; subst e; omega))) (fun _ hk => (newCol_lt hk.2.2.1).trans hk.1)
theorem S_coloredB {i : Nat} (hr8 : col r = 8) (hi : i < 8) (hR : Kd.S d e w B (fun k => col k = i) v xs) (hb : But (fun k => k = r) w w1) : Kd.S d e w1 B (fun k => newCol col w.heap.size i k = i) v xs :=
 Kd.S_mono (Kd.S_step (Kd.S_bound hR) (fun k hk hl => hb.block k hl (fun e => by have := hk.1; subst e; omega))) (fun _ hk => (newCol_lt hk.2.2.1).trans hk.1)
theorem new_ok {n i : Nat} : ∀ k, n ≤ k → newCol col n i k = i := fun _ hk => newCol_ge hk
/-- A step that wrote the reader and the row's block. -/
theorem But.restRow (F : But (fun k => k = r ∨ some k = v.ownBlock) w w1) {cs : Array Value} (hb : w.heap[r]? = some (.cells cs 106 (0, 0))) (hR : ∃ inner, w.ownsRow B e d.sz v xs.length inner) (he : e ∈ stTys) : Rest w w1 :=
 F.rest (fun k hk _ => by
  rcases hk with rfl | hk
  ·exact ⟨_, _, _, hb, by decide⟩
  ·obtain ⟨inner, ho⟩ := hR
   obtain ⟨cells, hc⟩ := own_typed ho k hk.symm
   exact ⟨_, _, _, hc, he⟩)
theorem But.restBlk {g T : Nat} (F : But (fun k => k = r ∨ k = g) w w1) {cs cs' : Array Value} (hb : w.heap[r]? = some (.cells cs 106 (0, 0))) (hg : w.heap[g]? = some (.cells cs' T (0, 0))) (hT : T ∈ stTys) : Rest w w1 :=
 F.rest (fun k hk _ => by
  rcases hk with rfl | rfl
  ·exact ⟨_, _, _, hb, by decide⟩
  ·exact ⟨_, _, _, hg, hT⟩)
theorem But.belowRow (F : But (fun k => k = r ∨ some k = v.ownBlock) w w1) (hr : B ≤ r) (hlt : r < w.heap.size) (hR : ∃ inner, w.ownsRow B e d.sz v xs.length inner) : Below B w w1 :=
 F.toBelow (by omega) (fun k hk => by
  rcases hk with rfl | hk
  ·exact hr
  ·obtain ⟨inner, ho⟩ := hR
   exact own_base ho k hk.symm)
theorem Rows.put0 (H : Rows B r col h s w) (hr : r < w.heap.size) {x' : List S70} (F : But (fun k => k = r ∨ col k = 0) w w1) (T1 : Kd.R k70 70 w1 B (fun k => newCol col w.heap.size 0 k = 0) v1 x') :
  Rows B r (newCol col w.heap.size 0) { h with v0 := v1 } { s with th := x' } w1 := by
 have U := H.but (w1 := w1) 0 hr (fun k hk hi h8 => F.block k hk (fun hS => hS.elim (fun e => h8 (e ▸ H.cr)) hi))
 exact ⟨U.cr, T1, U.r1 (by decide), U.r2 (by decide), U.r3 (by decide), U.r4 (by decide), U.r5 (by decide), U.r6 (by decide), U.r7 (by decide)⟩
theorem Rows.put1 (H : Rows B r col h s w) (hr : r < w.heap.size) {x' : List (List Int)} (F : But (fun k => k = r ∨ col k = 1) w w1) (T1 : Kd.S (Kd.slice 3 (Kd.int .i64)) 29 w1 B (fun k => newCol col w.heap.size 1 k = 1) v1 x') :
  Rows B r (newCol col w.heap.size 1) { h with v1 := v1 } { s with fr := x' } w1 := by
 have U := H.but (w1 := w1) 1 hr (fun k hk hi h8 => F.block k hk (fun hS => hS.elim (fun e => h8 (e ▸ H.cr)) hi))
 exact ⟨U.cr, U.r0 (by decide), T1, U.r2 (by decide), U.r3 (by decide), U.r4 (by decide), U.r5 (by decide), U.r6 (by decide), U.r7 (by decide)⟩
theorem Rows.put2 (H : Rows B r col h s w) (hr : r < w.heap.size) {x' : List (List S87)} (F : But (fun k => k = r ∨ col k = 2) w w1) (T1 : Kd.S (Kd.slice 87 k87) 56 w1 B (fun k => newCol col w.heap.size 2 k = 2) v1 x') :
  Rows B r (newCol col w.heap.size 2) { h with v2 := v1 } { s with no := x' } w1 := by
 have U := H.but (w1 := w1) 2 hr (fun k hk hi h8 => F.block k hk (fun hS => hS.elim (fun e => h8 (e ▸ H.cr)) hi))
 exact ⟨U.cr, U.r0 (by decide), U.r1 (by decide), T1, U.r3 (by decide), U.r4 (by decide), U.r5 (by decide), U.r6 (by decide), U.r7 (by decide)⟩
theorem Rows.put3 (H : Rows B r col h s w) (hr : r < w.heap.size) {x' : List S76} (F : But (fun k => k = r ∨ col k = 3) w w1) (T1 : Kd.R k76 76 w1 B (fun k => newCol col w.heap.size 3 k = 3) v1 x') :
  Rows B r (newCol col w.heap.size 3) { h with v3 := v1 } { s with tr := x' } w1 := by
 have U := H.but (w1 := w1) 3 hr (fun k hk hi h8 => F.block k hk (fun hS => hS.elim (fun e => h8 (e ▸ H.cr)) hi))
 exact ⟨U.cr, U.r0 (by decide), U.r1 (by decide), U.r2 (by decide), T1, U.r4 (by decide), U.r5 (by decide), U.r6 (by decide), U.r7 (by decide)⟩
theorem Rows.put4 (H : Rows B r col h s w) (hr : r < w.heap.size) {x' : List S59} (F : But (fun k => k = r ∨ col k = 4) w w1) (T1 : Kd.S k59 59 w1 B (fun k => newCol col w.heap.size 4 k = 4) v1 x') :
  Rows B r (newCol col w.heap.size 4) { h with v4 := v1 } { s with po := x' } w1 := by
 have U := H.but (w1 := w1) 4 hr (fun k hk hi h8 => F.block k hk (fun hS => hS.elim (fun e => h8 (e ▸ H.cr)) hi))
 exact ⟨U.cr, U.r0 (by decide), U.r1 (by decide), U.r2 (by decide), U.r3 (by decide), T1, U.r5 (by decide), U.r6 (by decide), U.r7 (by decide)⟩
theorem Rows.put5 (H : Rows B r col h s w) (hr : r < w.heap.size) {x' : List (List Int)} (F : But (fun k => k = r ∨ col k = 5) w w1) (T1 : Kd.S (Kd.slice 3 (Kd.int .i64)) 29 w1 B (fun k => newCol col w.heap.size 5 k = 5) v1 x') :
  Rows B r (newCol col w.heap.size 5) { h with v5 := v1 } { s with li := x' } w1 := by
 have U := H.but (w1 := w1) 5 hr (fun k hk hi h8 => F.block k hk (fun hS => hS.elim (fun e => h8 (e ▸ H.cr)) hi))
 exact ⟨U.cr, U.r0 (by decide), U.r1 (by decide), U.r2 (by decide), U.r3 (by decide), U.r4 (by decide), T1, U.r6 (by decide), U.r7 (by decide)⟩
theorem Rows.put6 (H : Rows B r col h s w) (hr : r < w.heap.size) {x' : List Int} (F : But (fun k => k = r ∨ col k = 6) w w1) (T1 : Kd.R (Kd.int .i64) 3 w1 B (fun k => newCol col w.heap.size 6 k = 6) v1 x') :
  Rows B r (newCol col w.heap.size 6) { h with v6 := v1 } { s with ro := x' } w1 := by
 have U := H.but (w1 := w1) 6 hr (fun k hk hi h8 => F.block k hk (fun hS => hS.elim (fun e => h8 (e ▸ H.cr)) hi))
 exact ⟨U.cr, U.r0 (by decide), U.r1 (by decide), U.r2 (by decide), U.r3 (by decide), U.r4 (by decide), U.r5 (by decide), T1, U.r7 (by decide)⟩
theorem Rows.put7 (H : Rows B r col h s w) (hr : r < w.heap.size) {x' : List S82} (F : But (fun k => k = r ∨ col k = 7) w w1) (T1 : Kd.R k82 82 w1 B (fun k => newCol col w.heap.size 7 k = 7) v1 x') :
  Rows B r (newCol col w.heap.size 7) { h with v7 := v1 } { s with sw := x' } w1 := by
 have U := H.but (w1 := w1) 7 hr (fun k hk hi h8 => F.block k hk (fun hS => hS.elim (fun e => h8 (e ▸ H.cr)) hi))
 exact ⟨U.cr, U.r0 (by decide), U.r1 (by decide), U.r2 (by decide), U.r3 (by decide), U.r4 (by decide), U.r5 (by decide), U.r6 (by decide), T1⟩
theorem pre0 (H : Rd B r h s p bad wv nv w) (F : But (fun k => k = r) w w1) : ∃ col, Rows B r col h s w ∧ Kd.R k70 70 w1 B (fun k => newCol col w.heap.size 0 k = 0) h.v0 s.th ∧ (∀ k, w1.heap.size ≤ k → newCol col w.heap.size 0 k = 0) := by
 obtain ⟨col, hr⟩ := H.rows
 exact ⟨col, hr, R_coloredB hr.cr (by decide) hr.r0 F, fun k hk => newCol_ge (Nat.le_trans F.size hk)⟩
theorem app0 {w2 : World} {x' : List S70} (H : Rd B r h s p bad wv nv w) (hr : Rows B r col h s w) (F : But (fun k => k = r) w w1) (hb : w1.heap[r]? = some (.cells (h.cells wv' nv' p bad') 106 (0, 0))) (HR : Kd.R k70 70 w2 B (fun k => newCol col w.heap.size 0 k = 0) v1 x') (hg : w1.grownBy w2 h.v0.ownBlock) :
  Rd B r { h with v0 := v1 } { s with th := x' } p bad' wv' nv' (w2.setCell ⟨r, 0, none⟩ v1) ∧ Below B w (w2.setCell ⟨r, 0, none⟩ v1) ∧ Rest w (w2.setCell ⟨r, 0, none⟩ v1) := by
 have F4 : But (fun k => k = r ∨ some k = h.v0.ownBlock) w (w2.setCell ⟨r, 0, none⟩ v1) := ((F.mono (fun _ hk => .inl hk)).grown hg (fun k hk => .inl (.inr hk.symm))).set 0 v1 (.inl (.inl rfl))
 have hrR := hr.r0
 have hne : some r ≠ h.v0.ownBlock := Kd.R_ne hrR H.blk (by decide)
 have h8 : ∀ k, newCol col w.heap.size 0 k = 0 → k ≠ r := fun k hk e => by
  subst e
  rw [newCol_lt H.lt, hr.cr] at hk
  omega
 refine ⟨⟨blk_put (blk_grown hb hg hne) 0 v1 rfl, H.base, ⟨_, hr.put0 H.lt (F4.mono (fun k hk => hk.elim .inl (fun hk => .inr (hrR.1 k hk.symm)))) (Kd.R_step HR (fun k hk _ => Below.heap_setCell _ ⟨r, 0, none⟩ _ k (h8 k hk)))⟩, H.eq, H.port⟩, F4.belowRow H.base H.lt (Kd.R_own hrR), F4.restRow H.blk (Kd.R_own hrR) (by decide)⟩
theorem pre1 (H : Rd B r h s p bad wv nv w) (F : But (fun k => k = r) w w1) : ∃ col, Rows B r col h s w ∧ Kd.S (Kd.slice 3 (Kd.int .i64)) 29 w1 B (fun k => newCol col w.heap.size 1 k = 1) h.v1 s.fr ∧ (∀ k, w1.heap.size ≤ k → newCol col w.heap.size 1 k = 1) := by
 obtain ⟨col, hr⟩ := H.rows
 exact ⟨col, hr, S_coloredB hr.cr (by decide) hr.r1 F, fun k hk => newCol_ge (Nat.le_trans F.size hk)⟩
theorem app1 {w2 : World} {x' : List (List Int)} (H : Rd B r h s p bad wv nv w) (hr : Rows B r col h s w) (F : But (fun k => k = r) w w1) (hb : w1.heap[r]? = some (.cells (h.cells wv' nv' p bad') 106 (0, 0))) (HR : Kd.S (Kd.slice 3 (Kd.int .i64)) 29 w2 B (fun k => newCol col w.heap.size 1 k = 1) v1 x') (hg : w1.grownBy w2 h.v1.ownBlock) :
  Rd B r { h with v1 := v1 } { s with fr := x' } p bad' wv' nv' (w2.setCell ⟨r, 1, none⟩ v1) ∧ Below B w (w2.setCell ⟨r, 1, none⟩ v1) ∧ Rest w (w2.setCell ⟨r, 1, none⟩ v1) := by
 have F4 : But (fun k => k = r ∨ some k = h.v1.ownBlock) w (w2.setCell ⟨r, 1, none⟩ v1) := ((F.mono (fun _ hk => .inl hk)).grown hg (fun k hk => .inl (.inr hk.symm))).set 1 v1 (.inl (.inl rfl))
 have hrR := Kd.S_R hr.r1
 have hne : some r ≠ h.v1.ownBlock := Kd.R_ne hrR H.blk (by decide)
 have h8 : ∀ k, newCol col w.heap.size 1 k = 1 → k ≠ r := fun k hk e => by
  subst e
  rw [newCol_lt H.lt, hr.cr] at hk
  omega
 refine ⟨⟨blk_put (blk_grown hb hg hne) 1 v1 rfl, H.base, ⟨_, hr.put1 H.lt (F4.mono (fun k hk => hk.elim .inl (fun hk => .inr (hrR.1 k hk.symm)))) (Kd.S_step HR (fun k hk _ => Below.heap_setCell _ ⟨r, 1, none⟩ _ k (h8 k hk)))⟩, H.eq, H.port⟩, F4.belowRow H.base H.lt (Kd.R_own hrR), F4.restRow H.blk (Kd.R_own hrR) (by decide)⟩
theorem pre3 (H : Rd B r h s p bad wv nv w) (F : But (fun k => k = r) w w1) : ∃ col, Rows B r col h s w ∧ Kd.R k76 76 w1 B (fun k => newCol col w.heap.size 3 k = 3) h.v3 s.tr ∧ (∀ k, w1.heap.size ≤ k → newCol col w.heap.size 3 k = 3) := by
 obtain ⟨col, hr⟩ := H.rows
 exact ⟨col, hr, R_coloredB hr.cr (by decide) hr.r3 F, fun k hk => newCol_ge (Nat.le_trans F.size hk)⟩
theorem app3 {w2 : World} {x' : List S76} (H : Rd B r h s p bad wv nv w) (hr : Rows B r col h s w) (F : But (fun k => k = r) w w1) (hb : w1.heap[r]? = some (.cells (h.cells wv' nv' p bad') 106 (0, 0))) (HR : Kd.R k76 76 w2 B (fun k => newCol col w.heap.size 3 k = 3) v1 x') (hg : w1.grownBy w2 h.v3.ownBlock) :
  Rd B r { h with v3 := v1 } { s with tr := x' } p bad' wv' nv' (w2.setCell ⟨r, 3, none⟩ v1) ∧ Below B w (w2.setCell ⟨r, 3, none⟩ v1) ∧ Rest w (w2.setCell ⟨r, 3, none⟩ v1) := by
 have F4 : But (fun k => k = r ∨ some k = h.v3.ownBlock) w (w2.setCell ⟨r, 3, none⟩ v1) := ((F.mono (fun _ hk => .inl hk)).grown hg (fun k hk => .inl (.inr hk.symm))).set 3 v1 (.inl (.inl rfl))
 have hrR := hr.r3
 have hne : some r ≠ h.v3.ownBlock := Kd.R_ne hrR H.blk (by decide)
 have h8 : ∀ k, newCol col w.heap.size 3 k = 3 → k ≠ r := fun k hk e => by
  subst e
  rw [newCol_lt H.lt, hr.cr] at hk
  omega
 refine ⟨⟨blk_put (blk_grown hb hg hne) 3 v1 rfl, H.base, ⟨_, hr.put3 H.lt (F4.mono (fun k hk => hk.elim .inl (fun hk => .inr (hrR.1 k hk.symm)))) (Kd.R_step HR (fun k hk _ => Below.heap_setCell _ ⟨r, 3, none⟩ _ k (h8 k hk)))⟩, H.eq, H.port⟩, F4.belowRow H.base H.lt (Kd.R_own hrR), F4.restRow H.blk (Kd.R_own hrR) (by decide)⟩
theorem pre5 (H : Rd B r h s p bad wv nv w) (F : But (fun k => k = r) w w1) : ∃ col, Rows B r col h s w ∧ Kd.S (Kd.slice 3 (Kd.int .i64)) 29 w1 B (fun k => newCol col w.heap.size 5 k = 5) h.v5 s.li ∧ (∀ k, w1.heap.size ≤ k → newCol col w.heap.size 5 k = 5) := by
 obtain ⟨col, hr⟩ := H.rows
 exact ⟨col, hr, S_coloredB hr.cr (by decide) hr.r5 F, fun k hk => newCol_ge (Nat.le_trans F.size hk)⟩
theorem app5 {w2 : World} {x' : List (List Int)} (H : Rd B r h s p bad wv nv w) (hr : Rows B r col h s w) (F : But (fun k => k = r) w w1) (hb : w1.heap[r]? = some (.cells (h.cells wv' nv' p bad') 106 (0, 0))) (HR : Kd.S (Kd.slice 3 (Kd.int .i64)) 29 w2 B (fun k => newCol col w.heap.size 5 k = 5) v1 x') (hg : w1.grownBy w2 h.v5.ownBlock) :
  Rd B r { h with v5 := v1 } { s with li := x' } p bad' wv' nv' (w2.setCell ⟨r, 5, none⟩ v1) ∧ Below B w (w2.setCell ⟨r, 5, none⟩ v1) ∧ Rest w (w2.setCell ⟨r, 5, none⟩ v1) := by
 have F4 : But (fun k => k = r ∨ some k = h.v5.ownBlock) w (w2.setCell ⟨r, 5, none⟩ v1) := ((F.mono (fun _ hk => .inl hk)).grown hg (fun k hk => .inl (.inr hk.symm))).set 5 v1 (.inl (.inl rfl))
 have hrR := Kd.S_R hr.r5
 have hne : some r ≠ h.v5.ownBlock := Kd.R_ne hrR H.blk (by decide)
 have h8 : ∀ k, newCol col w.heap.size 5 k = 5 → k ≠ r := fun k hk e => by
  subst e
  rw [newCol_lt H.lt, hr.cr] at hk
  omega
 refine ⟨⟨blk_put (blk_grown hb hg hne) 5 v1 rfl, H.base, ⟨_, hr.put5 H.lt (F4.mono (fun k hk => hk.elim .inl (fun hk => .inr (hrR.1 k hk.symm)))) (Kd.S_step HR (fun k hk _ => Below.heap_setCell _ ⟨r, 5, none⟩ _ k (h8 k hk)))⟩, H.eq, H.port⟩, F4.belowRow H.base H.lt (Kd.R_own hrR), F4.restRow H.blk (Kd.R_own hrR) (by decide)⟩
theorem pre6 (H : Rd B r h s p bad wv nv w) (F : But (fun k => k = r) w w1) : ∃ col, Rows B r col h s w ∧ Kd.R (Kd.int .i64) 3 w1 B (fun k => newCol col w.heap.size 6 k = 6) h.v6 s.ro ∧ (∀ k, w1.heap.size ≤ k → newCol col w.heap.size 6 k = 6) := by
 obtain ⟨col, hr⟩ := H.rows
 exact ⟨col, hr, R_coloredB hr.cr (by decide) hr.r6 F, fun k hk => newCol_ge (Nat.le_trans F.size hk)⟩
theorem app6 {w2 : World} {x' : List Int} (H : Rd B r h s p bad wv nv w) (hr : Rows B r col h s w) (F : But (fun k => k = r) w w1) (hb : w1.heap[r]? = some (.cells (h.cells wv' nv' p bad') 106 (0, 0))) (HR : Kd.R (Kd.int .i64) 3 w2 B (fun k => newCol col w.heap.size 6 k = 6) v1 x') (hg : w1.grownBy w2 h.v6.ownBlock) :
  Rd B r { h with v6 := v1 } { s with ro := x' } p bad' wv' nv' (w2.setCell ⟨r, 6, none⟩ v1) ∧ Below B w (w2.setCell ⟨r, 6, none⟩ v1) ∧ Rest w (w2.setCell ⟨r, 6, none⟩ v1) := by
 have F4 : But (fun k => k = r ∨ some k = h.v6.ownBlock) w (w2.setCell ⟨r, 6, none⟩ v1) := ((F.mono (fun _ hk => .inl hk)).grown hg (fun k hk => .inl (.inr hk.symm))).set 6 v1 (.inl (.inl rfl))
 have hrR := hr.r6
 have hne : some r ≠ h.v6.ownBlock := Kd.R_ne hrR H.blk (by decide)
 have h8 : ∀ k, newCol col w.heap.size 6 k = 6 → k ≠ r := fun k hk e => by
  subst e
  rw [newCol_lt H.lt, hr.cr] at hk
  omega
 refine ⟨⟨blk_put (blk_grown hb hg hne) 6 v1 rfl, H.base, ⟨_, hr.put6 H.lt (F4.mono (fun k hk => hk.elim .inl (fun hk => .inr (hrR.1 k hk.symm)))) (Kd.R_step HR (fun k hk _ => Below.heap_setCell _ ⟨r, 6, none⟩ _ k (h8 k hk)))⟩, H.eq, H.port⟩, F4.belowRow H.base H.lt (Kd.R_own hrR), F4.restRow H.blk (Kd.R_own hrR) (by decide)⟩
theorem pre7 (H : Rd B r h s p bad wv nv w) (F : But (fun k => k = r) w w1) : ∃ col, Rows B r col h s w ∧ Kd.R k82 82 w1 B (fun k => newCol col w.heap.size 7 k = 7) h.v7 s.sw ∧ (∀ k, w1.heap.size ≤ k → newCol col w.heap.size 7 k = 7) := by
 obtain ⟨col, hr⟩ := H.rows
 exact ⟨col, hr, R_coloredB hr.cr (by decide) hr.r7 F, fun k hk => newCol_ge (Nat.le_trans F.size hk)⟩
theorem app7 {w2 : World} {x' : List S82} (H : Rd B r h s p bad wv nv w) (hr : Rows B r col h s w) (F : But (fun k => k = r) w w1) (hb : w1.heap[r]? = some (.cells (h.cells wv' nv' p bad') 106 (0, 0))) (HR : Kd.R k82 82 w2 B (fun k => newCol col w.heap.size 7 k = 7) v1 x') (hg : w1.grownBy w2 h.v7.ownBlock) :
  Rd B r { h with v7 := v1 } { s with sw := x' } p bad' wv' nv' (w2.setCell ⟨r, 7, none⟩ v1) ∧ Below B w (w2.setCell ⟨r, 7, none⟩ v1) ∧ Rest w (w2.setCell ⟨r, 7, none⟩ v1) := by
 have F4 : But (fun k => k = r ∨ some k = h.v7.ownBlock) w (w2.setCell ⟨r, 7, none⟩ v1) := ((F.mono (fun _ hk => .inl hk)).grown hg (fun k hk => .inl (.inr hk.symm))).set 7 v1 (.inl (.inl rfl))
 have hrR := hr.r7
 have hne : some r ≠ h.v7.ownBlock := Kd.R_ne hrR H.blk (by decide)
 have h8 : ∀ k, newCol col w.heap.size 7 k = 7 → k ≠ r := fun k hk e => by
  subst e
  rw [newCol_lt H.lt, hr.cr] at hk
  omega
 refine ⟨⟨blk_put (blk_grown hb hg hne) 7 v1 rfl, H.base, ⟨_, hr.put7 H.lt (F4.mono (fun k hk => hk.elim .inl (fun hk => .inr (hrR.1 k hk.symm)))) (Kd.R_step HR (fun k hk _ => Below.heap_setCell _ ⟨r, 7, none⟩ _ k (h8 k hk)))⟩, H.eq, H.port⟩, F4.belowRow H.base H.lt (Kd.R_own hrR), F4.restRow H.blk (Kd.R_own hrR) (by decide)⟩
theorem RdPost.yes {o : Option (St × Int)} (hR : Rd B r h s p bad wv nv w1) (hB : Below B w w1) (hT : Rest w w1) (ho : o = if bad = true then none else some (s, p)) : RdPost B r o w (.returned (.tuple #[])) w1 := by
 subst ho
 refine ⟨rfl, hB, hT, h, s, p, wv, nv, ?_, ?_⟩
 ·cases bad <;> exact hR
 ·intro x hx
  cases bad
  ·exact (Option.some.inj hx).symm
  ·cases hx
end
end Go.Proofs.YtmcjccigglekpaaGreatDoor.Given
namespace Go.Proofs.YtmcjccigglekpaaGreatDoor.Given
open Go Go.RowKit
section
variable {P : Program} {ops : Array Oper} {Q : Exit → Act → World → Prop} {md : Region.Mode} {S : World → Prop}
/-- Behind all but the last: the last. -/
def lastQ (P : Program) (ops : Array Oper) (Q : Exit → Act → World → Prop) (m : Nat) : Exit → Act → World → Prop
 | .normal, a, w => wpOp P ops Q m (Q .normal) a w
 | e, a, w => Q e a w
theorem wpOp_lastQ {m i : Nat} {K : Act → World → Prop} {a : Act} {w : World} (h : wpOp P ops (lastQ P ops Q m) i K a w) : wpOp P ops Q i K a w := by
 unfold wpOp at *
 split
 ·rename_i hi; rw [hi] at h; exact h
 ·rename_i o hi
  rw [hi] at h
  dsimp only at h
  split
  ·rename_i hw
   rw [if_pos hw] at h
   refine h.imp (fun h => ?_) (fun h => ⟨h.1, h.2⟩)
   unfold Oper.wp at *
   generalize (execOp a.eval o).run P w = r at *
   cases r with
   | ok n w' =>
    cases n <;> simp only [Oper.upon] at h ⊢
    case value v => exact h
    case skip => exact h
    case defer d => exact h
    case enter f args =>
     refine Calls.mono h fun e w'' he => ?_
     cases e <;> exact he
    case row row args => exact h
   | halt x w' => cases x <;> simp only [Oper.upon] at h ⊢; exact h
  ·rename_i hw
   rw [if_neg hw] at h
   exact h
/-- Is m the last operation, and does it wait for all others? -/
def peelB (md : Region.Mode) (ops : Array Oper) (m : Nat) : Bool :=
 ops.size == m + 1 && ((List.range ops.size).all fun i => match ops[i]? with
  | some o => o.after.all (fun e => !Region.binds md e || decide (e.on < i))
  | none => true) && (List.range m).all fun j => (List.range ops.size).any fun i => match ops[i]? with
  | some o => o.after.any fun e => Region.binds md e && e.on == j
  | none => false
/-- What is listed has all listed that it waits for. -/
def Closed (md : Region.Mode) (ops : Array Oper) (listed : Array Bool) : Prop := ∀ (i : Nat) (o : Oper), ops[i]? = some o → listed.getD i true = true → ∀ e ∈ o.after, Region.binds md e = true → listed.getD e.on false = true
theorem least_false (listed : Array Bool) (m : Nat) (h : ∃ j, j < m ∧ listed.getD j true = false) : ∃ j, j < m ∧ listed.getD j true = false ∧ ∀ i, i < j → listed.getD i true = true := by
 induction m with
 | zero => obtain ⟨j, hj, _⟩ := h; omega
 | succ m ih =>
  by_cases hm : ∃ j, j < m ∧ listed.getD j true = false
  ·obtain ⟨j, h1, h2, h3⟩ := ih hm
   exact ⟨j, by omega, h2, h3⟩
  ·obtain ⟨j, h1, h2⟩ := h
   have hjm : j = m := by
    rcases Nat.lt_or_ge j m with h' | h'
    ·exact absurd ⟨j, h', h2⟩ hm
    ·omega
   subst hjm
   refine ⟨j, h1, h2, fun i hi => ?_⟩
   cases hl : listed.getD i true with
   | true => rfl
   | false => exact absurd ⟨i, hi, hl⟩ hm
theorem getD_set_true' {listed : Array Bool} {i : Nat} (hi : i < listed.size) : (listed.setIfInBounds i true).getD i false = true := by simp [hi]
theorem getD_tf {listed : Array Bool} {i : Nat} (hi : i < listed.size) (d d' : Bool) : listed.getD i d = listed.getD i d' := by
 rw [Array.getD_eq_getD_getElem?, Array.getD_eq_getD_getElem?, Array.getElem?_eq_getElem hi]; rfl
theorem closed_set {listed : Array Bool} {i : Nat} (h : Closed md ops listed) (hi : i ∈ Region.ready md ops listed) : Closed md ops (listed.setIfInBounds i true) := by
 intro j o ho hl e he hb
 by_cases hij : i = j
 ·subst hij
  obtain ⟨_, o', ho', hall⟩ := mem_ready.1 hi
  rw [ho] at ho'
  obtain rfl := Option.some.inj ho'
  exact getD_set_true (hall e he hb)
 ·rw [getD_set_ne true hij] at hl
  exact getD_set_true (h j o ho hl e he hb)
theorem wpAny_last {m : Nat} (hB : peelB md ops m = true) : ∀ (fuel : Nat) (listed : Array Bool) (a : Act) (w : World), listed.size = ops.size → Closed md ops listed → listed.getD m true = false →
  wpAny P md ops (lastQ P ops Q m) fuel (listed.setIfInBounds m true) a w → wpAny P md ops Q (fuel + 1) listed a w := by
 unfold peelB at hB
 simp only [Bool.and_eq_true, beq_iff_eq, List.all_eq_true, List.mem_range] at hB
 obtain ⟨⟨hsz, hall⟩, hsucc⟩ := hB
 have hac : ∀ i o, ops[i]? = some o → ∀ e ∈ o.after, Region.binds md e = true → e.on < i := by
  intro i o ho e he hb
  have h := hall i (Array.getElem?_eq_some_iff.1 ho).1
  rw [ho] at h
  dsimp only at h
  rw [Array.all_eq_true_iff_forall_mem] at h
  have := h e he
  rw [hb] at this
  simpa using this
 have hla : ∀ j, j < m → ∃ (i : Nat) (o : Oper), ops[i]? = some o ∧ ∃ e ∈ o.after, Region.binds md e = true ∧ e.on = j := by
  intro j hj
  have h := hsucc j hj
  rw [List.any_eq_true] at h
  obtain ⟨i, hi, h⟩ := h
  have hlt := List.mem_range.1 hi
  rw [Array.getElem?_eq_getElem hlt] at h
  dsimp only at h
  obtain ⟨e, he, hb⟩ := Array.any_eq_true'.1 h
  simp only [Bool.and_eq_true, beq_iff_eq] at hb
  exact ⟨i, _, Array.getElem?_eq_getElem hlt, e, he, hb⟩
 obtain ⟨om, hom⟩ : ∃ o, ops[m]? = some o := ⟨ops[m], Array.getElem?_eq_getElem (by omega)⟩
 have rdy : ∀ (listed : Array Bool), listed.size = ops.size → ∀ i, i ≠ m → (i ∈ Region.ready md ops (listed.setIfInBounds m true) ↔ i ∈ Region.ready md ops listed) := by
  intro listed hl i him
  rw [mem_ready, mem_ready, getD_set_ne true (Ne.symm him)]
  refine and_congr_right fun _ => exists_congr fun o => and_congr_right fun ho => ?_
  have him' : i < m := by have := (Array.getElem?_eq_some_iff.1 ho).1; omega
  refine forall_congr' fun e => forall_congr' fun he => forall_congr' fun hb => ?_
  have := hac i o ho e he hb
  rw [getD_set_ne false (by omega)]
 have lastR : ∀ (listed : Array Bool), listed.size = ops.size → Closed md ops listed → listed.getD m true = false → (m ∈ Region.ready md ops listed ↔ ∀ j, j < m → listed.getD j true = true) := by
  intro listed hl hcl hm
  constructor
  ·intro hr
   have hrd := (mem_ready.1 hr).2
   have key : ∀ n j, j + n = m → j < m → listed.getD j true = true := by
    intro n
    induction n using Nat.strongRecOn with
    | ind n ih =>
     intro j hjn hj
     obtain ⟨i, o, ho, e, he, hb, rfl⟩ := hla j hj
     have h1 := hac i o ho e he hb
     have h2 := (Array.getElem?_eq_some_iff.1 ho).1
     rw [getD_tf (by omega) true false]
     by_cases him : i = m
     ·subst him
      obtain ⟨o', ho', h⟩ := hrd
      rw [ho] at ho'
      obtain rfl := Option.some.inj ho'
      exact h e he hb
     ·exact hcl i o ho (ih (m - i) (by omega) i (by omega) (by omega)) e he hb
   exact fun j hj => key (m - j) j (by omega) hj
  ·intro h
   rw [mem_ready]
   refine ⟨hm, om, hom, fun e he hb => ?_⟩
   have hlt := hac m om hom e he hb
   rw [getD_tf (by omega) false true]
   exact h _ hlt
 have allL : ∀ (listed : Array Bool), listed.size = ops.size → (∀ i, i < m → i ∉ Region.ready md ops listed) → ∀ j, j < m → listed.getD j true = true := by
  intro listed hl hn j hj
  cases hlj : listed.getD j true with
  | true => rfl
  | false =>
   exfalso
   obtain ⟨i, h1, h2, h3⟩ := least_false listed m ⟨j, hj, hlj⟩
   refine hn i h1 (mem_ready.2 ⟨h2, ops[i]'(by omega), Array.getElem?_eq_getElem (by omega), fun e he hb => ?_⟩)
   have := hac i _ (Array.getElem?_eq_getElem (by omega)) e he hb
   rw [getD_tf (by omega) false true]
   exact h3 _ this
 have fin : ∀ (listed : Array Bool), listed.size = ops.size → listed.getD m true = false → (∀ j, j < m → listed.getD j true = true) → Region.ready md ops (listed.setIfInBounds m true) = [] := by
  intro listed hl hm h
  apply List.eq_nil_iff_forall_not_mem.2
  intro i hi
  obtain ⟨h0, o, ho, _⟩ := mem_ready.1 hi
  have hlt := (Array.getElem?_eq_some_iff.1 ho).1
  by_cases him : i = m
  ·subst him
   rw [getD_tf (d' := false) (by simp; omega), getD_set_true'] at h0
   ·cases h0
   ·omega
  ·rw [getD_set_ne true (Ne.symm him), h i (by omega)] at h0
   cases h0
 intro fuel
 induction fuel with
 | zero =>
  intro listed a w hl hcl hm h
  have hno : ∀ i, i < m → i ∉ Region.ready md ops listed := fun i hi hr => by
   have := (rdy listed hl i (by omega)).2 hr
   rw [h.1] at this
   cases this
  have hmr := (lastR listed hl hcl hm).2 (allL listed hl hno)
  refine ⟨fun h0 => (by rw [h0] at hmr; cases hmr), fun i hi => ?_⟩
  have him : i = m := by
   have := (Array.getElem?_eq_some_iff.1 (mem_ready.1 hi).2.choose_spec.1).1
   rcases Nat.lt_or_ge i m with h' | h'
   ·exact absurd hi (hno i h')
   ·omega
  subst him
  exact wpOp_mono (fun a w hq => ⟨h.1, hq⟩) h.2
 | succ fuel ih =>
  intro listed a w hl hcl hm h
  refine ⟨fun h0 => ?_, fun i hi => ?_⟩
  ·have hmr := (lastR listed hl hcl hm).2 (allL listed hl (fun i _ hr => by rw [h0] at hr; cases hr))
   rw [h0] at hmr
   cases hmr
  ·by_cases him : i = m
   ·subst him
    have he := fin listed hl hm ((lastR listed hl hcl hm).1 hi)
    exact wpOp_mono (fun a w hq => wpAny_done he hq _) (h.1 he)
   ·have h1 := wpOp_lastQ (h.2 i ((rdy listed hl i him).2 hi))
    refine wpOp_mono (fun a' w' hk => ih _ a' w' (by simpa using hl) (closed_set hcl hi) (by rw [getD_set_ne true him]; exact hm) ?_) h1
    rwa [Array.setIfInBounds_comm _ _ (Ne.symm him)] at hk
/-- The operations in an order of one's own: (false, i): it only reads; (true, i): it comes up alone. -/
def wpSch (P : Program) (ops : Array Oper) (Q : Exit → Act → World → Prop) (S : World → Prop) : List (Bool × Nat) → Act → World → Prop
 | [], a, w => Q .normal a w
 | (false, i) :: r, a, w => ∃ o v, ops[i]? = some o ∧ YieldsIf P ops S o v a ∧ wpSch P ops Q S r (a.put o.dst v) w
 | (true, i) :: r, a, w => wpOp P ops Q i (fun a' w' => S w' ∧ wpSch P ops Q S r a' w') a w
def schOk (md : Region.Mode) (ops : Array Oper) : List (Bool × Nat) → Array Bool → Bool
 | [], listed => (Region.ready md ops listed).isEmpty
 | (false, i) :: r, listed => (Region.ready md ops listed).contains i && Region.free md ops listed i && schOk md ops r (listed.setIfInBounds i true)
 | (true, i) :: r, listed => (Region.ready md ops listed == [i]) && schOk md ops r (listed.setIfInBounds i true)
theorem sch_held (hs : Region.noSelect ops = true) (hQ : ∀ c (a : Act) d v w, Q (.panic c) (a.put d v) w → Q (.panic c) a w) : ∀ (sch : List (Bool × Nat)) (listed : Array Bool) (a : Act) (w : World), schOk md ops sch listed = true → S w → wpSch P ops Q S sch a w → wpAnyH P md ops Q S sch.length listed a w := by
 intro sch
 induction sch with
 | nil =>
  intro listed a w hB hS h
  exact ⟨List.isEmpty_iff.1 hB, h⟩
 | cons x r ih =>
  intro listed a w hB hS h
  obtain ⟨b, i⟩ := x
  cases b with
  | false =>
   simp only [schOk, Bool.and_eq_true] at hB
   obtain ⟨⟨h1, h2⟩, h3⟩ := hB
   obtain ⟨o, v, ho, hy, hr⟩ := h
   exact wpAnyH_take ho hs h2 h1 (fun c a w hp => hQ c a _ _ w hp) hy hS (ih _ _ _ h3 hS hr)
  | true =>
   simp only [schOk, Bool.and_eq_true, beq_iff_eq] at hB
   obtain ⟨h1, h3⟩ := hB
   refine ⟨fun h0 => (by rw [h1] at h0; cases h0), fun j hj => ?_⟩
   rw [h1] at hj
   obtain rfl := List.mem_singleton.1 hj
   exact wpOp_mono (fun a' w' hk => ⟨hk.1, ih _ a' w' h3 hk.1 hk.2⟩) h
/-- **The region: all but the last by the order given, then the last.** -/
theorem wp_region_sch {id : Nat} {a : Act} {w : World} {l : List Oper} (S : World → Prop) (m : Nat) (sch : List (Bool × Nat)) (hm : P.follows .mixedOrders = true)
  (hB : (peelB .any l.toArray m && (sch.length == m) && Region.noSelect l.toArray && schOk .any l.toArray sch ((Array.replicate l.toArray.size false).setIfInBounds m true)) = true)
  (hQ : ∀ c (a : Act) d v w, Q (.panic c) (a.put d v) w → Q (.panic c) a w) (wd : World) (hwd : w.drew = wd) (hS : S wd)
  (h : wpSch P l.toArray (lastQ P l.toArray Q m) S sch a wd) : (Code.region id l.toArray true).wp P Q a w := by
 subst hwd
 simp only [Bool.and_eq_true, beq_iff_eq] at hB
 obtain ⟨⟨⟨h1, h2⟩, h3⟩, h4⟩ := hB
 have hsz : l.toArray.size = m + 1 := by
  unfold peelB at h1
  simp only [Bool.and_eq_true, beq_iff_eq] at h1
  exact h1.1.1
 refine wp_region_any hm ?_
 have hx := wpAny_last (P := P) (Q := Q) h1 sch.length (Array.replicate l.toArray.size false) a w.drew (by simp) (fun i o ho hl => absurd hl (by rw [Array.getD_eq_getD_getElem?, Array.getElem?_replicate, if_pos (Array.getElem?_eq_some_iff.1 ho).1]; simp)) (by rw [Array.getD_eq_getD_getElem?, Array.getElem?_replicate, if_pos (by omega)]; rfl) (wpAny_of_held _ _ _ _ (sch_held (Q := lastQ P l.toArray Q m) h3 (fun c a d v w hp => hQ c a d v w hp) sch _ _ _ h4 hS h))
 rw [h2, ← hsz] at hx
 exact hx
/-- One that only reads. -/
theorem sch_pure {i : Nat} {r : List (Bool × Nat)} {a : Act} {w : World} {o : Oper} {l : List Oper} {v : Value} (ho : l[i]? = some o) (hw : Region.wanted o (yielded l.toArray a.tmps) = true) (hy : ∀ w, S w → (execOp a.eval o).run P w = .ok (.value v) w)
  (h : wpSch P l.toArray Q S r (a.put o.dst v) w) : wpSch P l.toArray Q S ((false, i) :: r) a w := ⟨o, v, by simpa using ho, .inl ⟨hw, hy⟩, h⟩
/-- One whose guard strikes it out. -/
theorem sch_skip {i : Nat} {r : List (Bool × Nat)} {a : Act} {w : World} {o : Oper} {l : List Oper} (ho : l[i]? = some o) (hw : Region.wanted o (yielded l.toArray a.tmps) = false)
  (h : wpSch P l.toArray Q S r (a.put o.dst undef) w) : wpSch P l.toArray Q S ((false, i) :: r) a w := ⟨o, undef, by simpa using ho, .inr ⟨hw, rfl⟩, h⟩
/-- One that comes up alone. -/
theorem sch_alone {i : Nat} {r : List (Bool × Nat)} {a : Act} {w : World} {o : Oper} {l : List Oper} (ho : l[i]? = some o)
  (h : ∀ K : Act → World → Prop, Hid (∀ a' w', S w' → wpSch P l.toArray Q S r a' w' → K a' w') → if Region.wanted o (yielded l.toArray a.tmps) = true then Oper.wp P o a w K Q else K (a.put o.dst undef) w) : wpSch P l.toArray Q S ((true, i) :: r) a w := by
 show wpOp P l.toArray Q i (fun a' w' => S w' ∧ wpSch P l.toArray Q S r a' w') a w
 have h' := h (fun a' w' => S w' ∧ wpSch P l.toArray Q S r a' w') (Lib.hid fun a' w' h1 h2 => ⟨h1, h2⟩)
 unfold wpOp
 rw [show l.toArray[i]? = some o by simpa using ho]
 dsimp only
 split
 ·rename_i hw; rw [if_pos hw] at h'; exact .inl h'
 ·rename_i hw; rw [if_neg hw] at h'; exact h'
/-- The last. -/
theorem sch_last {m : Nat} {a : Act} {w : World} {o : Oper} {l : List Oper} (ho : l[m]? = some o)
  (h : ∀ K : Act → World → Prop, Hid (∀ a' w', Q .normal a' w' → K a' w') → if Region.wanted o (yielded l.toArray a.tmps) = true then Oper.wp P o a w K Q else K (a.put o.dst undef) w) : wpSch P l.toArray (lastQ P l.toArray Q m) S [] a w := by
 show wpOp P l.toArray Q m (Q .normal) a w
 have h' := h (Q .normal) (Lib.hid fun _ _ hq => hq)
 unfold wpOp
 rw [show l.toArray[m]? = some o by simpa using ho]
 dsimp only
 split
 ·rename_i hw; rw [if_pos hw] at h'; exact .inl h'
 ·rename_i hw; rw [if_neg hw] at h'; exact h'
end
end Go.Proofs.YtmcjccigglekpaaGreatDoor.Given
namespace Go.Proofs.YtmcjccigglekpaaGreatDoor.Given
open Go Go.RowKit Go.Proofs Go.Proofs.YtmcjccigglekpaaGreatDoorW.PrintWords Go.Proofs.YtmcjccigglekpaaGreatDoorW.PrintLast Go.Proofs.YtmcjccigglekpaaGreatDoorW.PrintMore Go.Proofs.YtmcjccigglekpaaGreatDoor.P

/-- Word i; its number. -/
def wI (ws : List ByteArray) (i : Nat) : ByteArray := ws.getD i ByteArray.empty
def nI (ws : List ByteArray) (i : Nat) : Int := numS (wI ws i)
theorem Line.get {w : World} {wv nv : Value} {ws : List ByteArray} {ns : List Int} (h : Line w wv nv ws ns) : ∃ A c A' c', wv = .slice A ws.length c ∧ nv = .slice A' ws.length c' ∧
  (∀ k, k < ws.length → ∀ w', Rest w w' → ∃ ad, A = some ad ∧ w'.cell? (ad.add k) = some (.string (wI ws k))) ∧
  (∀ k, k < ws.length → ∀ w', Rest w w' → ∃ ad, A' = some ad ∧ w'.cell? (ad.add k) = some (.int .i64 (nI ws k))) := by
 obtain ⟨A, c, A', c', e1, e2, h1, h2⟩ := h.nth
 refine ⟨A, c, A', c', e1, e2, fun k hk w' hr => ?_, fun k hk w' hr => ?_⟩
 ·have e : wI ws k = ws[k] := by unfold wI; rw [List.getD_eq_getElem?_getD, List.getElem?_eq_getElem hk]; rfl
  rw [e]; exact h1 k hk w' hr
 ·have e : nI ws k = numS ws[k] := by unfold nI wI; rw [List.getD_eq_getElem?_getD, List.getElem?_eq_getElem hk]; rfl
  rw [e]; exact h2 k hk w' hr
theorem add_pos (ad : Addr) (k : Nat) (hk : 0 < k) : ad.add k = ⟨ad.block, ad.off + k, none⟩ := by unfold Addr.add; rw [if_neg (by omega)]
theorem some_inj_add {ad ad' : Addr} (h : some ad = some ad') : ad' = ad := (Option.some.inj h).symm
def stepThing (ws : List ByteArray) (s : St) (p : Int) : Option (St × Int) :=
 if ws.length = 8 then some ({ s with th := s.th ++ [⟨nI ws 0, nI ws 1, nI ws 2, nI ws 3, nI ws 4, nI ws 5, nI ws 6, nI ws 7⟩] }, p) else none
theorem But.at_new {r : Nat} {w w1 : World} {o : Obj} (hr : r < w.heap.size) (h : But (fun k => k = r) (w.alloc o) w1) : w1.heap[w.heap.size]? = some o :=
 (h.block _ (by simp) (by omega)).trans (blk_new w o)

set_option maxRecDepth 100000 in
set_option maxHeartbeats 2000000 in
theorem rd_thing {B r : Nat} {h : Rv} {s : St} {p : Int} {wv nv : Value} {w : World} {ws : List ByteArray} {ns : List Int} (H : Rd B r h s p false wv nv w) (L : Line w wv nv ws ns) (hs : s.th.length ≤ 1000000) :
  Calls Tryz.prog 78 #[.pointer (some ⟨r, 0, none⟩)] w (RdPost B r (stepThing ws s p) w) := by
 obtain ⟨A, c, A', c', rfl, rfl, hW, hN⟩ := L.get
 have hlt := H.lt
 have q1 : Below w.heap.size w (w.alloc (.cells #[.pointer (some ⟨r, 0, none⟩)] 102)) := (Below.refl _ _).alloc (Nat.le_refl _) _
 have H1 := H.below q1
 unfold stepThing
 by_cases h8 : ws.length = 8
 ·rw [if_pos h8]
  obtain ⟨ad, rfl, _⟩ := hN 0 (by omega) w (Rest.refl w)
  have Dn := Lib.hid (rd_need_ok H1 8 (by omega))
  have HN := Lib.hid hN
  have hb1 := blk_new w (.cells #[.pointer (some ⟨r, 0, none⟩)] 102)
  have b0 := (blk_cell hb1 0).trans (show _ = some (Value.pointer (some ⟨r, 0, none⟩)) from rfl)
  have Q1 := Lib.hid q1
  have HH := Lib.hid H
  clear hN hW q1 H H1 L hb1
  go_enter Tryz.func78, Tryz.ntmps78
  go_wp2_with (go_at_call 111; (with_reducible refine Dn.out.mono ?_); clear Dn; rintro e w2 ⟨rfl, H2, F2⟩)
  have hb2 := F2.at_new hlt
  have F0 : But (fun k => k = r) w w2 := (But.of_below Q1.out).trans F2
  have H3 : Rd B r h s p false (.slice A ws.length c) (.slice (some ad) ws.length c') w2.drew := H2.drew
  have F3 : But (fun k => k = r) w w2.drew := F0.drew
  have R3 := HH.out.rest F3
  have x7 : w2.drew.cell? ⟨ad.block, ad.off + 7, none⟩ = some (.int .i64 (nI ws 7)) := by
   obtain ⟨ad', e, hx⟩ := HN.out 7 (by omega) _ R3
   obtain rfl := Option.some.inj e
   rwa [add_pos _ 7 (by decide)] at hx
  have hx : ∀ k, k < 8 → ∀ w', Rest w w' → w'.cell? (ad.add k) = some (.int .i64 (nI ws k)) := fun k hk w' hr => by
   obtain ⟨ad', e, hx⟩ := HN.out k (by omega) w' hr
   obtain rfl := Option.some.inj e
   exact hx
  have D := Lib.hid (fun (k : Nat) (kv : Int) (hkv : kv = k) (hk : k < 8) => rd_thing1 (w := w2.drew) (nI ws k) ((blk_cell hb2 0).trans (show _ = some (Value.pointer (some ⟨r, 0, none⟩)) from rfl)) H3.blk (show _ = some (Value.slice (some ad) ws.length c') from rfl) k kv hkv (by omega) rfl (hx k hk _ R3))
  obtain ⟨col, hrows, HO, HF⟩ := pre0 HH.out F3
  have hne : some r ≠ h.v0.ownBlock := Kd.R_ne HO H3.blk (by decide)
  have B3 := HH.out.toBelow F3
  have hsz : w.heap.size ≤ w2.drew.heap.size := F3.size
  have HBase := H3.base
  have HROW := Lib.hid hrows
  have H3b := Lib.hid H3.blk
  have F3' := Lib.hid F3
  have HX := Lib.hid hx
  have hboxne : some w.heap.size ≠ h.v0.ownBlock := Kd.R_ne HO (show w2.drew.heap[w.heap.size]? = _ from hb2) (by decide)
  obtain ⟨inner, hown⟩ := Kd.R_own HO
  have HW := Lib.hid (fun (w1 : World) (hg1 : w2.drew.grownBy w1 h.v0.ownBlock) => R3.own hown (by decide) hg1)
  have HB2 := Lib.hid (show w2.drew.heap[w.heap.size]? = _ from hb2)
  have hr0 := (blk_cell H3.blk 0).trans (show _ = some h.v0 from rfl)
  have hr0a := fun o => (pw_cell_below (below_alloc (Below.refl _ _) o) hr0 : (w2.drew.alloc o).cell? ⟨r, 0, none⟩ = some h.v0)
  have SD : w2.drew.cell? ⟨w.heap.size, 0, none⟩ = some (.pointer (some ⟨r, 0, none⟩)) ∧ w2.drew.cell? ⟨r, 0, none⟩ = some h.v0 ∧ w2.drew.cell? ⟨r, 9, none⟩ = some (.slice (some ad) ws.length c') ∧ w2.drew.cell? ⟨ad.block, ad.off + 7, none⟩ = some (.int .i64 (nI ws 7)) := ⟨(blk_cell hb2 0).trans rfl, (blk_cell H3.blk 0).trans rfl, (blk_cell H3.blk 9).trans rfl, x7⟩
  have SA := Lib.hid (fun o => (⟨pw_cell_below (below_alloc (Below.refl _ _) o) SD.1, pw_cell_below (below_alloc (Below.refl _ _) o) SD.2.1, pw_cell_below (below_alloc (Below.refl _ _) o) SD.2.2.1, pw_cell_below (below_alloc (Below.refl _ _) o) SD.2.2.2⟩ : (w2.drew.alloc o).cell? ⟨w.heap.size, 0, none⟩ = some (.pointer (some ⟨r, 0, none⟩)) ∧ (w2.drew.alloc o).cell? ⟨r, 0, none⟩ = some h.v0 ∧ (w2.drew.alloc o).cell? ⟨r, 9, none⟩ = some (.slice (some ad) ws.length c') ∧ (w2.drew.alloc o).cell? ⟨ad.block, ad.off + 7, none⟩ = some (.int .i64 (nI ws 7))))
  have SW := Lib.hid (fun (w1 : World) (hg1 : w2.drew.grownBy w1 h.v0.ownBlock) => (⟨(blk_cell (blk_grown HB2.out hg1 hboxne) 0).trans rfl, (blk_cell (blk_grown H3b.out hg1 hne) 0).trans rfl, (blk_cell (blk_grown H3b.out hg1 hne) 9).trans rfl, by have := HX.out 7 (by omega) w1 (HW.out w1 hg1); rwa [add_pos _ 7 (by decide)] at this⟩ : w1.cell? ⟨w.heap.size, 0, none⟩ = some (.pointer (some ⟨r, 0, none⟩)) ∧ w1.cell? ⟨r, 0, none⟩ = some h.v0 ∧ w1.cell? ⟨r, 9, none⟩ = some (.slice (some ad) ws.length c') ∧ w1.cell? ⟨ad.block, ad.off + 7, none⟩ = some (.int .i64 (nI ws 7))))
  clear hown hx H3 F3 R3 x7 hb2 F0 H2 F2
  refine wp_region_sch (fun w' => w'.cell? ⟨w.heap.size, 0, none⟩ = some (.pointer (some ⟨r, 0, none⟩)) ∧ w'.cell? ⟨r, 0, none⟩ = some h.v0 ∧ w'.cell? ⟨r, 9, none⟩ = some (.slice (some ad) ws.length c') ∧ w'.cell? ⟨ad.block, ad.off + 7, none⟩ = some (.int .i64 (nI ws 7))) 34 [(false, 0), (false, 1), (false, 2), (false, 3), (false, 4), (false, 5), (false, 6), (false, 7), (false, 9), (false, 11), (false, 13), (false, 15), (false, 17), (false, 19), (false, 21), (false, 22), (false, 23), (false, 24), (false, 25), (false, 26), (true, 8), (true, 10), (true, 12), (true, 14), (true, 16), (true, 18), (true, 20), (false, 27), (true, 28), (true, 29), (false, 30), (false, 31), (false, 32), (false, 33)] (by kernel_rfl) (by kernel_rfl) (fun _ a d _ _ h => by cases d <;> exact h) _ rfl SD ?_
  have SD' := Lib.hid SD
  clear SD
  dsimp only
  repeat (refine' sch_pure rfl rfl ?_ ?_; rotate_left; · (rintro w' ⟨s1, s2, s3, s4⟩; go_simp <;> rfl)
          simp only [Act.put, List.setIfInBounds_toArray, List.set_cons_zero, List.set_cons_succ])
  (refine sch_alone rfl (fun K hK => ?_); go_simp; refine (D.out 0 0 rfl (by omega)).mono ?_; rintro e w' ⟨rfl, rfl⟩; refine hK.out _ _ SD'.out ?_; clear hK K)
  try simp only [Act.put, List.setIfInBounds_toArray, List.set_cons_zero, List.set_cons_succ]
  (refine sch_alone rfl (fun K hK => ?_); go_simp; refine (D.out 1 1 rfl (by omega)).mono ?_; rintro e w' ⟨rfl, rfl⟩; refine hK.out _ _ SD'.out ?_; clear hK K)
  try simp only [Act.put, List.setIfInBounds_toArray, List.set_cons_zero, List.set_cons_succ]
  (refine sch_alone rfl (fun K hK => ?_); go_simp; refine (D.out 2 2 rfl (by omega)).mono ?_; rintro e w' ⟨rfl, rfl⟩; refine hK.out _ _ SD'.out ?_; clear hK K)
  try simp only [Act.put, List.setIfInBounds_toArray, List.set_cons_zero, List.set_cons_succ]
  (refine sch_alone rfl (fun K hK => ?_); go_simp; refine (D.out 3 3 rfl (by omega)).mono ?_; rintro e w' ⟨rfl, rfl⟩; refine hK.out _ _ SD'.out ?_; clear hK K)
  try simp only [Act.put, List.setIfInBounds_toArray, List.set_cons_zero, List.set_cons_succ]
  (refine sch_alone rfl (fun K hK => ?_); go_simp; refine (D.out 4 4 rfl (by omega)).mono ?_; rintro e w' ⟨rfl, rfl⟩; refine hK.out _ _ SD'.out ?_; clear hK K)
  try simp only [Act.put, List.setIfInBounds_toArray, List.set_cons_zero, List.set_cons_succ]
  (refine sch_alone rfl (fun K hK => ?_); go_simp; refine (D.out 5 5 rfl (by omega)).mono ?_; rintro e w' ⟨rfl, rfl⟩; refine hK.out _ _ SD'.out ?_; clear hK K)
  try simp only [Act.put, List.setIfInBounds_toArray, List.set_cons_zero, List.set_cons_succ]
  (refine sch_alone rfl (fun K hK => ?_); go_simp; refine (D.out 6 6 rfl (by omega)).mono ?_; rintro e w' ⟨rfl, rfl⟩; refine hK.out _ _ SD'.out ?_; clear hK K)
  try simp only [Act.put, List.setIfInBounds_toArray, List.set_cons_zero, List.set_cons_succ]
  repeat (refine' sch_pure rfl rfl ?_ ?_; rotate_left; · (rintro w' ⟨s1, s2, s3, s4⟩; go_simp <;> rfl)
          simp only [Act.put, List.setIfInBounds_toArray, List.set_cons_zero, List.set_cons_succ])
  (refine sch_alone rfl (fun K hK => ?_); go_simp; refine hK.out _ _ (SA.out _) ?_; clear hK K)
  (refine sch_alone rfl (fun K hK => ?_); refine Kd.R_append_step k70 (w0 := w) B (by rfl) (.tmp 12) (.tmp 34) _ 70 _ 64 (by rfl) rfl info70 rfl (by decide) (by omega) h.v0 s.th ⟨nI ws 0, nI ws 1, nI ws 2, nI ws 3, nI ws 4, nI ws 5, nI ws 6, nI ws 7⟩ _ _ (fun _ => False) rfl rfl (k70_mkM _ _ _ _) (fun _ hk => hk.elim) HF HO B3 (by omega) (by omega) ?_; intro v1 w1 HR1 HB1 hg1 hat1; refine hK.out _ _ (SW.out w1 hg1) ?_; clear hK K)
  obtain ⟨A1, c1, rfl⟩ := Kd.R_slice HR1
  try simp only [Act.put, List.setIfInBounds_toArray, List.set_cons_zero, List.set_cons_succ]
  repeat (refine' sch_pure rfl rfl ?_ ?_; rotate_left; · (rintro w' ⟨s1, s2, s3, s4⟩; go_simp <;> rfl)
          simp only [Act.put, List.setIfInBounds_toArray, List.set_cons_zero, List.set_cons_succ])
  have hb5 := blk_grown H3b.out hg1 hne
  have c0 := (blk_cell hb5 0).trans (show _ = some h.v0 from rfl)
  have g0 := blk_frozen hb5 0
  refine sch_last rfl (fun K hK => ?_)
  go_simp
  refine hK.out _ _ ?_
  go_wp2
  go_end0
  obtain ⟨a1, a2, a3⟩ := app0 HH.out HROW.out F3'.out H3b.out HR1 hg1
  rw [List.length_append, List.length_singleton] at a1 a2 a3
  exact RdPost.yes a1 a2 a3 rfl
 ·rw [if_neg h8]
  have Dn := Lib.hid (rd_need_no H1 8 (by omega))
  have hb1 := blk_new w (.cells #[.pointer (some ⟨r, 0, none⟩)] 102)
  have b0 := (blk_cell hb1 0).trans (show _ = some (Value.pointer (some ⟨r, 0, none⟩)) from rfl)
  have Q1 := Lib.hid q1
  have HH := Lib.hid H
  clear hN hW q1 H H1 L hb1
  go_enter Tryz.func78, Tryz.ntmps78
  go_wp2_with (go_at_call 111; (with_reducible refine Dn.out.mono ?_); clear Dn; rintro e w2 ⟨rfl, H2, F2⟩)
  go_end0
  have F0 : But (fun k => k = r) w w2 := (But.of_below Q1.out).trans F2
  exact RdPost.yes H2 (HH.out.toBelow F0) (HH.out.rest F0) rfl
end Go.Proofs.YtmcjccigglekpaaGreatDoor.Given
namespace Go.Proofs.YtmcjccigglekpaaGreatDoor.Given
open Go Go.RowKit Go.Proofs Go.Proofs.YtmcjccigglekpaaGreatDoorW.PrintWords Go.Proofs.YtmcjccigglekpaaGreatDoorW.PrintLast Go.Proofs.YtmcjccigglekpaaGreatDoorW.PrintMore Go.Proofs.YtmcjccigglekpaaGreatDoor.P

/-- The library's variables, whatever is done from B on. -/
def GLB (B : Nat) (w : World) : Prop := ∀ w', Below B w w' → GL w'
theorem GLB.on {B : Nat} {w w' : World} (h : GLB B w) (hb : Below B w w') : GLB B w' := fun _ h2 => h _ (hb.trans h2)
theorem GLB.here {B : Nat} {w : World} (h : GLB B w) : GL w := h w (Below.refl _ _)
theorem GLB.of {w : World} (h : GL w) : GLB w.heap.size w := fun _ hb => h.below hb

/-- A pen that holds t, and what it needs. -/
structure Pw (B b : Nat) (t : ByteArray) (w : World) : Prop where
 pen : Pen B b t w
 base : B ≤ w.heap.size
 gl : GLB B w
theorem Pw.below {B b : Nat} {t : ByteArray} {w w' : World} (h : Pw B b t w) (hb : Below w.heap.size w w') : Pw B b t w' :=
 ⟨h.pen.below hb, Nat.le_trans h.base hb.size, h.gl.on (hb.mono h.base)⟩
/-- What a pen's method leaves. -/
def PPost (B b : Nat) (t : ByteArray) (v : Value) (w : World) (e : Ending) (w' : World) : Prop := e = .returned v ∧ Pw B b t w' ∧ Below B w w' ∧ Kept b w w'
theorem pw_step {B b : Nat} {t : ByteArray} {w w' : World} (h : Pw B b t w) {t' : ByteArray} (hp : Pen B b t' w') (hb : Below B w w') : Pw B b t' w' :=
 ⟨hp, Nat.le_trans h.base hb.size, h.gl.on hb⟩

theorem pfin {B b : Nat} {w w1 w2 w3 : World} (hB : B ≤ w1.heap.size) (hb1 : Below B w w1) (hk1 : Kept b w w1) (hb2 : Below w1.drew.heap.size w1.drew w2) (hb3 : Below B w2 w3) (hk3 : Kept b w2 w3) : Below B w w3 ∧ Kept b w w3 :=
 have hd : Below w1.heap.size w1 w2 := ((Below.refl _ _).drew).trans hb2
 ⟨(hb1.trans (hd.mono hB)).trans hb3, (hk1.below hd).trans hk3⟩

theorem wByte (B b : Nat) (t : ByteArray) (c : UInt8) (w : World) (h : Pw B b t w) (hlen : t.size + 1 ≤ 140737488355328) :
  Calls Tryz.prog 61 #[.pointer (some ⟨b, 0, none⟩), .int .u8 c.toNat] w (PPost B b (t ++ ⟨#[c]⟩) .nilIface w) := by
 refine (pen_WriteByte B b t c w h.pen hlen h.base).mono ?_
 rintro e w' ⟨rfl, h1, h2, h3⟩
 exact ⟨rfl, pw_step h h1 h2, h2, h3⟩
theorem wString (B b : Nat) (t s : ByteArray) (w : World) (h : Pw B b t w) (hlen : t.size + s.size ≤ 140737488355328) :
  Calls Tryz.prog 60 #[.pointer (some ⟨b, 0, none⟩), .string s] w (PPost B b (t ++ s) (.tuple #[.int .i64 s.size, .nilIface]) w) := by
 refine (pen_WriteString B b t s w h.pen hlen h.base).mono ?_
 rintro e w' ⟨rfl, h1, h2, h3⟩
 exact ⟨rfl, pw_step h h1 h2, h2, h3⟩

set_option maxHeartbeats 400000 in
theorem pen_word (B b : Nat) (t s : ByteArray) (w : World) (h : Pw B b t w) (hlen : t.size + s.size ≤ 140737488355328) :
  Calls Tryz.prog 21 #[.pointer (some ⟨b, 0, none⟩), .string s] w (PPost B b (t ++ s) (.pointer (some ⟨b, 0, none⟩)) w) := by
 have D := Lib.hid (wString B b t s w h hlen)
 clear h hlen
 go_enter Tryz.func21, Tryz.ntmps21
 go_wp2_with (go_at_call 60; (with_reducible refine D.out.mono ?_); clear D; rintro e w1 ⟨rfl, h1⟩)
 go_ret
 exact ⟨rfl, h1⟩

set_option maxHeartbeats 400000 in
theorem pen_end (B b : Nat) (t : ByteArray) (w : World) (h : Pw B b t w) (hlen : t.size + 1 ≤ 140737488355328) :
  Calls Tryz.prog 23 #[.pointer (some ⟨b, 0, none⟩)] w (PPost B b (t ++ ⟨#[10]⟩) (.tuple #[]) w) := by
 have D := Lib.hid (show Calls Tryz.prog 61 #[.pointer (some ⟨b, 0, none⟩), .int .u8 10] w (PPost B b (t ++ ⟨#[10]⟩) .nilIface w) from wByte B b t 10 w h hlen)
 clear h hlen
 go_enter Tryz.func23, Tryz.ntmps23
 go_wp2_with (go_at_call 61; (with_reducible refine D.out.mono ?_); clear D; rintro e w1 ⟨rfl, h1⟩)
 go_end0
 exact ⟨rfl, h1⟩

set_option maxHeartbeats 400000 in
theorem pen_wide (B b : Nat) (t : ByteArray) (n : Int) (hn : R64 n) (w : World) (h : Pw B b t w) (hlen : t.size + (1 + (itoS n).size) ≤ 140737488355328) :
  Calls Tryz.prog 24 #[.pointer (some ⟨b, 0, none⟩), .int .i64 n] w (PPost B b (t ++ (⟨#[32]⟩ ++ itoS n)) (.pointer (some ⟨b, 0, none⟩)) w) := by
 have D := Lib.hid (show Calls Tryz.prog 61 #[.pointer (some ⟨b, 0, none⟩), .int .u8 32] w (PPost B b (t ++ ⟨#[32]⟩) .nilIface w) from wByte B b t 32 w h (by omega))
 have D1 : Hid (∀ w', Pw B b (t ++ ⟨#[32]⟩) w' → Calls Tryz.prog 63 #[.int .i64 n, .int .i64 10] w' fun e w'' => e = .returned (.string (itoS n)) ∧ Below w'.heap.size w' w'') := Lib.hid fun w' h' => fmt_calls n hn w' h'.gl.here
 have D2 : Hid (∀ w', Pw B b (t ++ ⟨#[32]⟩) w' → Calls Tryz.prog 60 #[.pointer (some ⟨b, 0, none⟩), .string (itoS n)] w' (PPost B b (t ++ ⟨#[32]⟩ ++ itoS n) (.tuple #[.int .i64 (itoS n).size, .nilIface]) w')) := Lib.hid fun w' h' => wString B b (t ++ ⟨#[32]⟩) (itoS n) w' h' (by rw [ByteArray.size_append]; have : (⟨#[32]⟩ : ByteArray).size = 1 := rfl; omega)
 rw [← ByteArray.append_assoc]
 clear h hlen
 generalize itoS n = s at *
 go_enter Tryz.func24, Tryz.ntmps24
 go_wp2_with (go_at_call 61; (with_reducible refine D.out.mono ?_); clear D; rintro e w1 ⟨rfl, h1, hb1, hk1⟩)
 go_region_held3 (fun _ => True) (exact trivial) (first | (go_at_call 63; (with_reducible refine (D1.out _ ?_).mono ?_); clear D1; (exact h1.below (Below.refl _ _).drew); rintro e w2 ⟨rfl, hb2⟩) | (go_at_call 60; (with_reducible refine (D2.out _ ?_).mono ?_); clear D2; (exact (h1.below (Below.refl _ _).drew).below hb2); rintro e w3 ⟨rfl, h3, hb3, hk3⟩))
 go_wp2
 go_ret
 exact ⟨rfl, h3, pfin h1.base hb1 hk1 hb2 hb3 hk3⟩

/-- Numbers, a space ahead of each. -/
def numsT : List Int → ByteArray
 | [] => ⟨#[]⟩
 | n :: l => ⟨#[32]⟩ ++ itoS n ++ numsT l
theorem numsT_append (l : List Int) (n : Int) : numsT (l ++ [n]) = numsT l ++ (⟨#[32]⟩ ++ itoS n) := by
 induction l with
 | nil => show ⟨#[32]⟩ ++ itoS n ++ ⟨#[]⟩ = ⟨#[]⟩ ++ (⟨#[32]⟩ ++ itoS n); exact (ByteArray.append_empty).trans (ByteArray.empty_append).symm
 | cons m l ih =>
  show ⟨#[32]⟩ ++ itoS m ++ numsT (l ++ [n]) = ⟨#[32]⟩ ++ itoS m ++ numsT l ++ (⟨#[32]⟩ ++ itoS n)
  rw [ih, ByteArray.append_assoc (b := numsT l)]
theorem numsT_take (l : List Int) (k : Nat) (hk : k < l.length) : numsT (l.take (k + 1)) = numsT (l.take k) ++ (⟨#[32]⟩ ++ itoS l[k]) := by
 rw [List.take_succ_eq_append_getElem hk, numsT_append]
theorem numsT_take_size (l : List Int) (k : Nat) : (numsT (l.take k)).size ≤ (numsT l).size := by
 induction l generalizing k with
 | nil => rw [List.take_nil]; exact Nat.le_refl _
 | cons m l ih =>
  cases k with
  | zero => exact Nat.zero_le _
  | succ k =>
   show (⟨#[32]⟩ ++ itoS m ++ numsT (l.take k)).size ≤ (⟨#[32]⟩ ++ itoS m ++ numsT l).size
   rw [ByteArray.size_append, ByteArray.size_append (b := numsT l)]
   exact Nat.add_le_add_left (ih k) _

/-- A row that stays to be read. -/
def RowStays (B b : Nat) (A : Option Addr) (l : List Int) (w : World) : Prop := ∀ w', Below B w w' → Kept b w w' → ∀ (j : Nat) (hj : j < l.length), ∃ ad, A = some ad ∧ w'.cell? (ad.add j) = some (.int .i64 l[j])

set_option maxRecDepth 100000 in
set_option maxHeartbeats 1000000 in
theorem pen_number (B b : Nat) (t : ByteArray) (A : Option Addr) (c : Nat) (l : List Int) (hl : ∀ n ∈ l, R64 n) (w : World) (h : Pw B b t w) (hr : RowStays B b A l w) (hm : l.length ≤ 9223372036854775807) (hlen : t.size + (numsT l).size ≤ 140737488355328) :
  Calls Tryz.prog 22 #[.pointer (some ⟨b, 0, none⟩), .slice A l.length c] w (PPost B b (t ++ numsT l) (.pointer (some ⟨b, 0, none⟩)) w) := by
 have HR := Lib.hid hr
 have HH := Lib.hid h
 have HN := Lib.hid hl
 have HM := Lib.hid hlen
 clear h hr hl hlen
 go_enter Tryz.func22, Tryz.ntmps22
 go_wp2
 go_loopw [9] (fun v wr => ∃ k : Nat, k ≤ l.length ∧ v = .int .i64 k ∧ Hid (Pw B b (t ++ numsT (l.take k)) wr) ∧ Below B w wr ∧ Kept b w wr) (fun v _ => l.length - (intOf v).toNat)
 case atStart => exact ⟨0, Nat.zero_le _, rfl, Lib.hid (by have e : t ++ numsT (l.take 0) = t := ByteArray.append_empty; rw [e]; exact HH.out), Below.refl _ _, Kept.refl _ _⟩
 case round =>
  obtain ⟨k, hk, rfl, hp, hB, hK⟩ := hrel
  by_cases hlt : k < l.length
  ·have hd : decide ((k : Int) < (l.length : Int)) = true := decide_eq_true (by omega)
   have i2 : decide (0 ≤ (k : Int)) = true := decide_eq_true (by omega)
   have j2 : decide (k < l.length) = true := decide_eq_true hlt
   obtain ⟨ad, rfl, hx⟩ := HR.out wr hB hK k hlt
   have h64 := HN.out l[k] (List.getElem_mem hlt)
   have hsz := numsT_take_size l (k + 1)
   rw [numsT_take l k hlt, ByteArray.size_append, ByteArray.size_append] at hsz
   have h1s : (⟨#[32]⟩ : ByteArray).size = 1 := rfl
   have hM := HM.out
   have hts := numsT_take l k hlt
   have D1 : ∀ w', GL w' → Calls Tryz.prog 62 #[.int .i64 l[k]] w' fun e w'' => e = .returned (.string (itoS l[k])) ∧ Below w'.heap.size w' w'' := fun w' h' => itoa_calls l[k] h64 w' h'
   generalize numsT (l.take k) = q at *
   generalize itoS l[k] = s at *
   have D := Lib.hid (show Calls Tryz.prog 61 #[.pointer (some ⟨b, 0, none⟩), .int .u8 32] wr (PPost B b (t ++ q ++ ⟨#[32]⟩) .nilIface wr) from wByte B b (t ++ q) 32 wr hp.out (by rw [ByteArray.size_append]; omega))
   have D2 : Hid (∀ w', Pw B b (t ++ q ++ ⟨#[32]⟩) w' → Calls Tryz.prog 60 #[.pointer (some ⟨b, 0, none⟩), .string s] w' (PPost B b (t ++ q ++ ⟨#[32]⟩ ++ s) (.tuple #[.int .i64 s.size, .nilIface]) w')) := Lib.hid fun w' h' => wString B b _ s w' h' (by rw [ByteArray.size_append, ByteArray.size_append]; omega)
   have D1 := Lib.hid D1
   have HT : Hid (numsT (l.take (k + 1)) = q ++ (⟨#[32]⟩ ++ s)) := Lib.hid hts
   clear hM hsz hts h64 h1s
   go_wp2_with (go_at_call 61; (with_reducible refine D.out.mono ?_); clear D; rintro e w1 ⟨rfl, h1, hb1, hk1⟩)
   go_region_held3 (fun _ => True) (exact trivial) (first | (go_at_call 62; (with_reducible refine (D1.out _ ?_).mono ?_); clear D1; (exact (h1.below (Below.refl _ _).drew).gl.here); rintro e w2 ⟨rfl, hb2⟩) | (go_at_call 60; (with_reducible refine (D2.out _ ?_).mono ?_); clear D2; (exact (h1.below (Below.refl _ _).drew).below hb2); rintro e w3 ⟨rfl, h3, hb3, hk3⟩))
   go_wp2
   have hf := pfin h1.base hb1 hk1 hb2 hb3 hk3
   refine ⟨⟨k + 1, hlt, rfl, ?_, hB.trans hf.1, hK.trans hf.2⟩, ?_⟩
   ·rw [HT.out, ← ByteArray.append_assoc, ← ByteArray.append_assoc]
    exact Lib.hid h3
   ·show l.length - ((k : Int) + 1).toNat < l.length - ((k : Int)).toNat
    omega
  ·have hd : decide ((k : Int) < (l.length : Int)) = false := decide_eq_false (by omega)
   obtain rfl : k = l.length := by omega
   rw [List.take_length] at hp
   go_wp2
   go_ret
   exact ⟨rfl, hp.out, hB, hK⟩
end Go.Proofs.YtmcjccigglekpaaGreatDoor.Given
namespace Go.Proofs.YtmcjccigglekpaaGreatDoor.Given
open Go Go.RowKit Go.Proofs Go.Proofs.YtmcjccigglekpaaGreatDoorW.PrintWords Go.Proofs.YtmcjccigglekpaaGreatDoorW.PrintLast Go.Proofs.YtmcjccigglekpaaGreatDoorW.PrintMore Go.Proofs.YtmcjccigglekpaaGreatDoor.P

theorem info76 : (Tryz.prog.info? 76).map (fun i => (i.zero, i.size, i.bytes)) = some (some (.agg #[.int .i64 0, .int .i64 0, .int .i64 0, .bool false]), 4, 32) := by kernel_rfl
theorem info82 : (Tryz.prog.info? 82).map (fun i => (i.zero, i.size, i.bytes)) = some (some (.agg #[.bool false, .int .i64 0, .int .i64 0, .bool false]), 4, 32) := by kernel_rfl
theorem info95 : (Tryz.prog.info? 95).map (fun i => (i.zero, i.size, i.bytes)) = some (some (.agg #[.int .i64 0, .int .i64 0, .int .i64 0, .bool false, .int .i64 0, .int .i64 0, .int .i64 0, .bool false]), 8, 64) := by kernel_rfl
theorem info59 : (Tryz.prog.info? 59).map (fun i => (i.zero, i.size, i.bytes)) = some (some (.agg #[.int .i64 0, .int .i64 0, .slice none 0 0]), 3, 40) := by kernel_rfl
theorem info87 : (Tryz.prog.info? 87).map (fun i => (i.zero, i.size, i.bytes)) = some (some (.agg #[.int .i64 0, .int .i64 0, .int .i64 0, .int .i64 0, .int .i64 0]), 5, 40) := by kernel_rfl
theorem info56 : (Tryz.prog.info? 56).map (fun i => (i.zero, i.size, i.bytes)) = some (some (.slice none 0 0), 1, 24) := by kernel_rfl
/-- Is a word a yes? -/
def yesI (x : ByteArray) : Bool := x.toList == [49]
/-- A word's key, and whether it is one. -/
def keyOk (x : ByteArray) : Bool := cutC x ⟨#[46]⟩
def stepBranch (ws : List ByteArray) (s : St) (p : Int) : Option (St × Int) :=
 if ws.length = 3 then (if (!keyOk (wI ws 1)) = true then none else some ({ s with tr := s.tr ++ [⟨keyI (wI ws 1), nI ws 0, yesI (wI ws 2)⟩] }, p)) else none
theorem rd_keyAt' {B r : Nat} {h : Rv} {s : St} {p : Int} {bad : Bool} {A : Option Addr} {c : Nat} {nv : Value} {w : World} {ws : List ByteArray} (H : Rd B r h s p bad (.slice A ws.length c) nv w) (hG : GL w) (k : Nat) (kv : Int) (hkv : kv = k) (hk : k < ws.length)
  (hx : ∃ ad, A = some ad ∧ w.cell? (ad.add k) = some (.string (wI ws k))) (hs : (wI ws k).size ≤ 1000000) :
  Calls Tryz.prog 114 #[.pointer (some ⟨r, 0, none⟩), .int .i64 kv] w fun e w' => e = .returned (.agg #[.int .i64 (keyI (wI ws k)).f0, .int .i64 (keyI (wI ws k)).f1]) ∧ (Rd B r h s p (bad || !keyOk (wI ws k)) (.slice A ws.length c) nv w' ∧ But (fun k => k = r) w w') := by
 have e : wI ws k = ws[k] := by unfold wI; rw [List.getD_eq_getElem?_getD, List.getElem?_eq_getElem hk]; rfl
 rw [e] at hx hs ⊢
 exact rd_keyAt H hG k kv hkv hk hx hs

set_option maxRecDepth 100000 in
set_option maxHeartbeats 4000000 in
theorem rd_branch {B r : Nat} {h : Rv} {s : St} {p : Int} {wv nv : Value} {w : World} {ws : List ByteArray} {ns : List Int} (H : Rd B r h s p false wv nv w) (L : Line w wv nv ws ns) (hG : GLB B w) (hw : ∀ i, (wI ws i).size ≤ 1000000) (hs : s.tr.length ≤ 1000000) :
  Calls Tryz.prog 81 #[.pointer (some ⟨r, 0, none⟩)] w (RdPost B r (stepBranch ws s p) w) := by
 generalize hoo : stepBranch ws s p = oo
 have HOO := Lib.hid hoo
 clear hoo
 obtain ⟨A, c, A', c', rfl, rfl, hW, hN⟩ := L.get
 have hlt := H.lt
 by_cases h8 : ws.length = 3
 ·obtain ⟨ad, rfl, _⟩ := hW 0 (by omega) w (Rest.refl w)
  obtain ⟨ad', rfl, _⟩ := hN 0 (by omega) w (Rest.refl w)
  have xW2 : ∀ W, Rest w W → W.cell? ⟨ad.block, ad.off + 2, none⟩ = some (.string (wI ws 2)) := fun W hr => by
   obtain ⟨q, e, hx⟩ := hW 2 (by omega) W hr
   obtain rfl := Option.some.inj e
   rwa [add_pos _ 2 (by decide)] at hx
  have xN0 : ∀ W, Rest w W → W.cell? ad' = some (.int .i64 (nI ws 0)) := fun W hr => by
   obtain ⟨q, e, hx⟩ := hN 0 (by omega) W hr
   obtain rfl := Option.some.inj e
   rwa [add_zero_] at hx
  have SG := Lib.hid (fun (W : World) (bad' : Bool) (hb : W.heap[r]? = some (.cells (h.cells (.slice (some ad) ws.length c) (.slice (some ad') ws.length c') p bad') 106 (0, 0))) (hr : Rest w W) => (⟨(blk_cell hb 3).trans rfl, (blk_cell hb 8).trans rfl, (blk_cell hb 9).trans rfl, xW2 W hr, xN0 W hr⟩ : W.cell? ⟨r, 3, none⟩ = some h.v3 ∧ W.cell? ⟨r, 8, none⟩ = some (.slice (some ad) ws.length c) ∧ W.cell? ⟨r, 9, none⟩ = some (.slice (some ad') ws.length c') ∧ W.cell? ⟨ad.block, ad.off + 2, none⟩ = some (.string (wI ws 2)) ∧ W.cell? ad' = some (.int .i64 (nI ws 0))))
  have HW1 := Lib.hid (hW 1 (by omega))
  have Dn := Lib.hid (rd_need_ok H 3 (by omega))
  have HH := Lib.hid H
  have HG := Lib.hid hG
  have k1 := hw 1
  clear hN hW H L hG hw xW2 xN0
  go_enter Tryz.func81, Tryz.ntmps81
  go_wp2_with (go_at_call 111; (with_reducible refine Dn.out.mono ?_); clear Dn; rintro e w2 ⟨rfl, H2, F2⟩)
  obtain ⟨wd, hwd⟩ : ∃ wd, w2.drew = wd := ⟨_, rfl⟩
  have H3 : Rd B r h s p false (.slice (some ad) ws.length c) (.slice (some ad') ws.length c') wd := hwd ▸ H2.drew
  have F3 : But (fun k => k = r) w wd := hwd ▸ F2.drew
  refine wp_region_sch (fun w' => w'.cell? ⟨r, 3, none⟩ = some h.v3 ∧ w'.cell? ⟨r, 8, none⟩ = some (.slice (some ad) ws.length c) ∧ w'.cell? ⟨r, 9, none⟩ = some (.slice (some ad') ws.length c') ∧ w'.cell? ⟨ad.block, ad.off + 2, none⟩ = some (.string (wI ws 2)) ∧ w'.cell? ad' = some (.int .i64 (nI ws 0))) 27 [(false, 0), (false, 1), (false, 2), (false, 3), (false, 4), (false, 5), (false, 6), (false, 7), (false, 8), (false, 9), (false, 10), (false, 11), (false, 12), (false, 14), (false, 15), (false, 16), (false, 17), (false, 18), (false, 19), (false, 20), (true, 13), (false, 21), (true, 22), (true, 23), (false, 24), (false, 25), (false, 26)] (by kernel_rfl) (by kernel_rfl) (fun _ a d _ _ h => by cases d <;> exact h) wd hwd (SG.out wd _ H3.blk (HH.out.rest F3)) ?_
  clear hwd F2 H2
  have B3 := HH.out.toBelow F3
  have Dk := Lib.hid (rd_keyAt' H3 (HG.out.on B3).here 1 1 rfl (by omega) (HW1.out wd (HH.out.rest F3)) k1)
  have HR3 := Lib.hid H3
  clear H3
  try dsimp only
  repeat (refine' sch_pure rfl rfl ?_ ?_; rotate_left; · (rintro w' ⟨s0, s1, s2, s3, s4⟩; go_simp <;> rfl)
          simp only [Act.put, List.setIfInBounds_toArray, List.set_cons_zero, List.set_cons_succ])
  (refine sch_alone rfl (fun K hK => ?_); go_simp; refine Dk.out.mono ?_; rintro e w4 ⟨rfl, H4, F4⟩; have F5 := F3.trans F4; refine hK.out _ _ (SG.out w4 _ H4.blk (HH.out.rest F5)) ?_; clear hK K)
  try simp only [Act.put, List.setIfInBounds_toArray, List.set_cons_zero, List.set_cons_succ]
  repeat (refine' sch_pure rfl rfl ?_ ?_; rotate_left; · (rintro w' ⟨s0, s1, s2, s3, s4⟩; go_simp <;> rfl)
          simp only [Act.put, List.setIfInBounds_toArray, List.set_cons_zero, List.set_cons_succ])
  obtain ⟨col, hrows, HO, HF⟩ := pre3 HH.out F5
  have hne : some r ≠ h.v3.ownBlock := Kd.R_ne HO H4.blk (by decide)
  obtain ⟨inner, hown⟩ := Kd.R_own HO
  have B4 := HH.out.toBelow F5
  have hsz := F5.size
  have hBase := HH.out.base
  have hlt4 := H4.lt
  (refine sch_alone rfl (fun K hK => ?_); go_simp; refine hK.out _ _ (SG.out _ _ (blk_alloc H4.blk _) ((HH.out.rest F5).alloc _)) ?_; clear hK K)
  (refine sch_alone rfl (fun K hK => ?_); refine Kd.R_append_step k76 (w0 := w) B (by rfl) (.tmp 9) (.tmp 26) _ 76 _ 32 (by rfl) rfl info76 rfl (by decide) (by omega) h.v3 s.tr ⟨keyI (wI ws 1), nI ws 0, yesI (wI ws 2)⟩ _ _ (fun _ => False) rfl rfl (k76_mkM _ _ _ _) (fun _ hk => hk.elim) HF HO B4 (by omega) (by omega) ?_; intro v1 w5 HR1 HB1 hg1 hat1; refine hK.out _ _ (SG.out w5 _ (blk_grown H4.blk hg1 hne) ((HH.out.rest F5).own hown (by decide) hg1)) ?_; clear hK K)
  obtain ⟨A1, c1, rfl⟩ := Kd.R_slice HR1
  try simp only [Act.put, List.setIfInBounds_toArray, List.set_cons_zero, List.set_cons_succ]
  repeat (refine' sch_pure rfl rfl ?_ ?_; rotate_left; · (rintro w' ⟨s0, s1, s2, s3, s4⟩; go_simp <;> rfl)
          simp only [Act.put, List.setIfInBounds_toArray, List.set_cons_zero, List.set_cons_succ])
  have hb5 := blk_grown H4.blk hg1 hne
  have c0 := (blk_cell hb5 3).trans (show _ = some h.v3 from rfl)
  have g0 := blk_frozen hb5 3
  refine sch_last rfl (fun K hK => ?_)
  go_simp
  refine hK.out _ _ ?_
  go_wp2
  go_end0
  obtain ⟨a1, a2, a3⟩ := app3 HH.out hrows F5 H4.blk HR1 hg1
  rw [List.length_append, List.length_singleton] at a1 a2 a3
  exact RdPost.yes a1 a2 a3 (by rw [← HOO.out]; unfold stepBranch; rw [if_pos h8]; cases keyOk (wI ws 1) <;> rfl)
 ·have Dn := Lib.hid (rd_need_no H 3 (by omega))
  have HH := Lib.hid H
  clear hN hW H L hG hw
  go_enter Tryz.func81, Tryz.ntmps81
  go_wp2_with (go_at_call 111; (with_reducible refine Dn.out.mono ?_); clear Dn; rintro e w2 ⟨rfl, H2, F2⟩)
  go_end0
  exact RdPost.yes H2 (HH.out.toBelow F2) (HH.out.rest F2) (by rw [← HOO.out]; unfold stepBranch; rw [if_neg h8]; rfl)
end Go.Proofs.YtmcjccigglekpaaGreatDoor.Given
