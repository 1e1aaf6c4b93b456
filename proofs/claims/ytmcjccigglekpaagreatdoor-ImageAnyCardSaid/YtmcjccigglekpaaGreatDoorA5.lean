/- Texts of this seat, joined. -/
import Derived.Test.YtmcjccigglekpaaGreatDoorA4
import Derived.Test.YtmcjccigglekpaaGreatDoorA3
namespace Go.Proofs.YtmcjccigglekpaaGreatDoor.Given
open Go Go.RowKit Go.Proofs Go.Proofs.YtmcjccigglekpaaGreatDoorW.PrintWords Go.Proofs.YtmcjccigglekpaaGreatDoorW.PrintLast Go.Proofs.YtmcjccigglekpaaGreatDoorW.PrintMore Go.Proofs.YtmcjccigglekpaaGreatDoor.P

set_option maxRecDepth 100000 in
set_option maxHeartbeats 2000000 in
theorem rd_places {r : Nat} {cs : Array Value} {w : World} {A' : Option Addr} {c' : Nat} {ns : List Int} (hb : w.heap[r]? = some (.cells cs 106 (0, 0))) (h9 : cs[9]? = some (.slice A' ns.length c')) (hC : Kd.C (Kd.int .i64) w A' ns.length ns) (hl : ns.length ≤ 1000000) :
  Calls Tryz.prog 117 #[.pointer (some ⟨r, 0, none⟩)] w fun e w' => ∃ v : Value, e = .returned v ∧ Kd.R (Kd.int .i64) 3 w' w.heap.size (fun _ => True) v ns ∧ Below w.heap.size w w' := by
 have c9 := (blk_cell hb 9).trans h9
 have HC := Lib.hid hC
 have HB := Aside0.mk (Below.refl w.heap.size w)
 clear hb h9 hC
 go_enter Tryz.func117, Tryz.ntmps117
 go_wp2
 go_loopw [3, 11] (fun v3 v11 w' => ∃ k : Nat, k ≤ ns.length ∧ v11 = .int .i64 k ∧ Aside0 (Kd.R (Kd.int .i64) 3 w' w.heap.size (fun _ => True) v3 (ns.take k)) ∧ Aside0 (Below w.heap.size w w')) (fun _ v11 _ => ns.length - (intOf v11).toNat)
 case atStart => exact ⟨0, Nat.zero_le _, rfl, ⟨Kd.R_nil _ _ _ _ _⟩, HB⟩
 case round =>
  clear HB c9
  obtain ⟨k, hk, rfl, HO, HB⟩ := hrel
  by_cases hlt : k < ns.length
  ·have hd : decide ((k : Int) < (ns.length : Int)) = true := decide_eq_true (by omega)
   have i2 : decide (0 ≤ (k : Int)) = true := decide_eq_true (by omega)
   have j2 : decide (k < ns.length) = true := decide_eq_true hlt
   obtain ⟨ad, e1, hx⟩ := Kd.at_int (Kd.C_below HC.out HB.out) (k : Int) (by omega) (by omega)
   subst e1
   rw [Int.toNat_natCast, show rd ns (k : Int) = ns[k] by unfold rd; rw [Int.toNat_natCast, List.getD_eq_getElem?_getD, List.getElem?_eq_getElem hlt]; rfl] at hx
   have ht : (ns.take k).length ≤ 1000000 := by rw [List.length_take]; omega
   have hsn := Lib.hid (List.take_succ_eq_append_getElem hlt)
   generalize ns[k] = x at *
   generalize ns.take k = xs at *
   go_wp2_with (first | ((with_reducible refine gate_builtin (b := .append) (xs := #[.tmp 15, .tmp 17]) rfl ?_); at_builtin; refine Kd.R_append (Kd.int .i64) (w0 := w) w.heap.size rfl (.tmp 15) (.tmp 17) 29 3 (.int .i64 0) 8 rfl Tryz.underlying29 info3 rfl (by decide) (by omega) _ xs x [.int .i64 x] (fun _ => True) (fun _ => False) rfl rfl ?aP (fun _ hk => hk.elim) ?aF ?aO ?aB ?aS ?aL ?_; (case aP => exact rfl); (case aB => exact HB.out); (case aF => exact (fun _ _ => trivial)); (case aO => exact HO.out); (case aS => exact HB.out.size); (case aL => omega); intro v1 w1 HR1 HB1 _ _; obtain ⟨A1, c1, rfl⟩ := Kd.R_slice HR1; have HR2 := Aside0.mk HR1; have HB2 := Aside0.mk HB1; clear HR1 HB1))
   refine ⟨⟨k + 1, hlt, rfl, ⟨?_⟩, HB2⟩, ?_⟩
   ·rw [hsn.out]
    have := HR2.out
    rw [List.length_append, List.length_singleton] at this
    exact this
   ·show ns.length - ((k : Int) + 1).toNat < ns.length - ((k : Int)).toNat
    omega
  ·have hd : decide ((k : Int) < (ns.length : Int)) = false := decide_eq_false (by omega)
   obtain rfl : k = ns.length := by omega
   rw [List.take_length] at HO
   go_wp2
   go_ret
   exact ⟨_, rfl, HO.out, HB.out⟩
set_option maxRecDepth 100000 in
set_option maxHeartbeats 1000000 in
theorem rd_thing1 {r b : Nat} {cs : Array Value} {w : World} {A' : Option Addr} {c' : Nat} {n : Nat} {ad : Addr} (x : Int) (hp : w.cell? ⟨b, 0, none⟩ = some (.pointer (some ⟨r, 0, none⟩))) (hb : w.heap[r]? = some (.cells cs 106 (0, 0))) (h9 : cs[9]? = some (.slice A' n c')) (k : Nat) (kv : Int) (hkv : kv = k) (hk : k < n) (hA : A' = some ad) (hx : w.cell? (ad.add k) = some (.int .i64 x)) :
  Calls Tryz.prog 112 #[.int .i64 kv, .pointer (some ⟨b, 0, none⟩)] w fun e w' => e = .returned (.int .i64 x) ∧ w' = w := by
 subst hkv hA
 have c9 := (blk_cell hb 9).trans h9
 have i2 : decide (0 ≤ (k : Int)) = true := decide_eq_true (by omega)
 have j2 : decide (k < n) = true := decide_eq_true hk
 clear hb h9
 go_enter Tryz.func112, Tryz.ntmps112
 go_wp2
 go_ret
 exact ⟨rfl, rfl⟩
end Go.Proofs.YtmcjccigglekpaaGreatDoor.Given
namespace Go.Proofs.YtmcjccigglekpaaGreatDoor.Given
open Go Go.RowKit Go.Proofs Go.Proofs.YtmcjccigglekpaaGreatDoorW.PrintWords Go.Proofs.YtmcjccigglekpaaGreatDoorW.PrintLast Go.Proofs.YtmcjccigglekpaaGreatDoorW.PrintMore Go.Proofs.YtmcjccigglekpaaGreatDoor.P

/-- What a line's method leaves. -/
def RdPost (B r : Nat) (o : Option (St × Int)) (w : World) (e : Ending) (w' : World) : Prop :=
 e = .returned (.tuple #[]) ∧ Below B w w' ∧ Rest w w' ∧ ∃ h s p wv nv, Rd B r h s p o.isNone wv nv w' ∧ ∀ x, o = some x → x = (s, p)
section
variable {B r : Nat} {col : Nat → Nat} {h : Rv} {s : St} {p p' : Int} {bad bad' : Bool} {wv nv wv' nv' v1 : Value} {w w1 : World} {α : Type} {d : Kd α} {e : Nat} {v : Value} {xs : List α}
theorem R_colored {i : Nat} (hR : d.R e w B (fun k => col k = i) v xs) (hb : Below w.heap.size w w1) : d.R e w1 B (fun k => newCol col w.heap.size i k = i) v xs :=
 Kd.R_mono (Kd.R_below (Kd.R_bound hR) hb) (fun _ hk => (newCol_lt hk.2.2.1).trans hk.1)
theorem S_colored {i : Nat} (hR : Kd.S d e w B (fun k => col k = i) v xs) (hb : Below w.heap.size w w1) : Kd.S d e w1 B (fun k => newCol col w.heap.size i k = i) v xs :=
 Kd.S_mono (Kd.S_below (Kd.S_bound hR) hb) (fun _ hk => (newCol_lt hk.2.2.1).trans hk.1)
theorem R_coloredB {i : Nat} (hr8 : col r = 8) (hi : i < 8) (hR : d.R e w B (fun k => col k = i) v xs) (hb : But (fun k => k = r) w w1) : d.R e w1 B (fun k => newCol col w.heap.size i k = i) v xs :=
 Kd.R_mono (Kd.R_step (Kd.R_bound hR) (fun k hk hl => hb.block k hl (fun e => by have := hk.1; subst e; omega))) (fun _ hk => (newCol_lt hk.2.2.1).trans hk.1)
theorem S_coloredB {i : Nat} (hr8 : col r = 8) (hi : i < 8) (hR : Kd.S d e w B (fun k => col k = i) v xs) (hb : But (fun k => k = r) w w1) : Kd.S d e w1 B (fun k => newCol col w.heap.size i k = i) v xs :=
 Kd.S_mono (Kd.S_step (Kd.S_bound hR) (fun k hk hl => hb.block k hl (fun e => by have := hk.1; subst e; omega))) (fun _ hk => (newCol_lt hk.2.2.1).trans hk.1)
theorem new_ok {n i : Nat} : ∀ k, n ≤ k → newCol col n i k = i := fun _ hk => newCol_ge hk
/-- A step that wrote the reader and the row's block. -/
theorem But.restRow (F : But (fun k => k = r ∨ some k = v.ownBlock) w w1) {cs : Array Value} (hb : w.heap[r]? = some (.cells cs 106 (0, 0))) (hR : ∃ inner, w.ownsRow B e d.sz v xs.length inner) (he : e ∈ stTys) : Rest w w1 :=
 F.rest (fun k hk _ => by
  rcases hk with rfl | hk
  ·exact ⟨_, _, _, hb, by decide⟩
  ·obtain ⟨inner, ho⟩ := hR
   obtain ⟨cells, hc⟩ := own_typed ho k hk.symm
   exact ⟨_, _, _, hc, he⟩)
theorem But.restBlk {g T : Nat} (F : But (fun k => k = r ∨ k = g) w w1) {cs cs' : Array Value} (hb : w.heap[r]? = some (.cells cs 106 (0, 0))) (hg : w.heap[g]? = some (.cells cs' T (0, 0))) (hT : T ∈ stTys) : Rest w w1 :=
 F.rest (fun k hk _ => by
  rcases hk with rfl | rfl
  ·exact ⟨_, _, _, hb, by decide⟩
  ·exact ⟨_, _, _, hg, hT⟩)
theorem But.belowRow (F : But (fun k => k = r ∨ some k = v.ownBlock) w w1) (hr : B ≤ r) (hlt : r < w.heap.size) (hR : ∃ inner, w.ownsRow B e d.sz v xs.length inner) : Below B w w1 :=
 F.toBelow (by omega) (fun k hk => by
  rcases hk with rfl | hk
  ·exact hr
  ·obtain ⟨inner, ho⟩ := hR
   exact own_base ho k hk.symm)
theorem Rows.put0 (H : Rows B r col h s w) (hr : r < w.heap.size) {x' : List S70} (F : But (fun k => k = r ∨ col k = 0) w w1) (T1 : Kd.R k70 70 w1 B (fun k => newCol col w.heap.size 0 k = 0) v1 x') :
  Rows B r (newCol col w.heap.size 0) { h with v0 := v1 } { s with th := x' } w1 := by
 have U := H.but (w1 := w1) 0 hr (fun k hk hi h8 => F.block k hk (fun hS => hS.elim (fun e => h8 (e ▸ H.cr)) hi))
 exact ⟨U.cr, T1, U.r1 (by decide), U.r2 (by decide), U.r3 (by decide), U.r4 (by decide), U.r5 (by decide), U.r6 (by decide), U.r7 (by decide)⟩
theorem Rows.put1 (H : Rows B r col h s w) (hr : r < w.heap.size) {x' : List (List Int)} (F : But (fun k => k = r ∨ col k = 1) w w1) (T1 : Kd.S (Kd.slice 3 (Kd.int .i64)) 29 w1 B (fun k => newCol col w.heap.size 1 k = 1) v1 x') :
  Rows B r (newCol col w.heap.size 1) { h with v1 := v1 } { s with fr := x' } w1 := by
 have U := H.but (w1 := w1) 1 hr (fun k hk hi h8 => F.block k hk (fun hS => hS.elim (fun e => h8 (e ▸ H.cr)) hi))
 exact ⟨U.cr, U.r0 (by decide), T1, U.r2 (by decide), U.r3 (by decide), U.r4 (by decide), U.r5 (by decide), U.r6 (by decide), U.r7 (by decide)⟩
theorem Rows.put2 (H : Rows B r col h s w) (hr : r < w.heap.size) {x' : List (List S87)} (F : But (fun k => k = r ∨ col k = 2) w w1) (T1 : Kd.S (Kd.slice 87 k87) 56 w1 B (fun k => newCol col w.heap.size 2 k = 2) v1 x') :
  Rows B r (newCol col w.heap.size 2) { h with v2 := v1 } { s with no := x' } w1 := by
 have U := H.but (w1 := w1) 2 hr (fun k hk hi h8 => F.block k hk (fun hS => hS.elim (fun e => h8 (e ▸ H.cr)) hi))
 exact ⟨U.cr, U.r0 (by decide), U.r1 (by decide), T1, U.r3 (by decide), U.r4 (by decide), U.r5 (by decide), U.r6 (by decide), U.r7 (by decide)⟩
theorem Rows.put3 (H : Rows B r col h s w) (hr : r < w.heap.size) {x' : List S76} (F : But (fun k => k = r ∨ col k = 3) w w1) (T1 : Kd.R k76 76 w1 B (fun k => newCol col w.heap.size 3 k = 3) v1 x') :
  Rows B r (newCol col w.heap.size 3) { h with v3 := v1 } { s with tr := x' } w1 := by
 have U := H.but (w1 := w1) 3 hr (fun k hk hi h8 => F.block k hk (fun hS => hS.elim (fun e => h8 (e ▸ H.cr)) hi))
 exact ⟨U.cr, U.r0 (by decide), U.r1 (by decide), U.r2 (by decide), T1, U.r4 (by decide), U.r5 (by decide), U.r6 (by decide), U.r7 (by decide)⟩
theorem Rows.put4 (H : Rows B r col h s w) (hr : r < w.heap.size) {x' : List S59} (F : But (fun k => k = r ∨ col k = 4) w w1) (T1 : Kd.S k59 59 w1 B (fun k => newCol col w.heap.size 4 k = 4) v1 x') :
  Rows B r (newCol col w.heap.size 4) { h with v4 := v1 } { s with po := x' } w1 := by
 have U := H.but (w1 := w1) 4 hr (fun k hk hi h8 => F.block k hk (fun hS => hS.elim (fun e => h8 (e ▸ H.cr)) hi))
 exact ⟨U.cr, U.r0 (by decide), U.r1 (by decide), U.r2 (by decide), U.r3 (by decide), T1, U.r5 (by decide), U.r6 (by decide), U.r7 (by decide)⟩
theorem Rows.put5 (H : Rows B r col h s w) (hr : r < w.heap.size) {x' : List (List Int)} (F : But (fun k => k = r ∨ col k = 5) w w1) (T1 : Kd.S (Kd.slice 3 (Kd.int .i64)) 29 w1 B (fun k => newCol col w.heap.size 5 k = 5) v1 x') :
  Rows B r (newCol col w.heap.size 5) { h with v5 := v1 } { s with li := x' } w1 := by
 have U := H.but (w1 := w1) 5 hr (fun k hk hi h8 => F.block k hk (fun hS => hS.elim (fun e => h8 (e ▸ H.cr)) hi))
 exact ⟨U.cr, U.r0 (by decide), U.r1 (by decide), U.r2 (by decide), U.r3 (by decide), U.r4 (by decide), T1, U.r6 (by decide), U.r7 (by decide)⟩
theorem Rows.put6 (H : Rows B r col h s w) (hr : r < w.heap.size) {x' : List Int} (F : But (fun k => k = r ∨ col k = 6) w w1) (T1 : Kd.R (Kd.int .i64) 3 w1 B (fun k => newCol col w.heap.size 6 k = 6) v1 x') :
  Rows B r (newCol col w.heap.size 6) { h with v6 := v1 } { s with ro := x' } w1 := by
 have U := H.but (w1 := w1) 6 hr (fun k hk hi h8 => F.block k hk (fun hS => hS.elim (fun e => h8 (e ▸ H.cr)) hi))
 exact ⟨U.cr, U.r0 (by decide), U.r1 (by decide), U.r2 (by decide), U.r3 (by decide), U.r4 (by decide), U.r5 (by decide), T1, U.r7 (by decide)⟩
theorem Rows.put7 (H : Rows B r col h s w) (hr : r < w.heap.size) {x' : List S82} (F : But (fun k => k = r ∨ col k = 7) w w1) (T1 : Kd.R k82 82 w1 B (fun k => newCol col w.heap.size 7 k = 7) v1 x') :
  Rows B r (newCol col w.heap.size 7) { h with v7 := v1 } { s with sw := x' } w1 := by
 have U := H.but (w1 := w1) 7 hr (fun k hk hi h8 => F.block k hk (fun hS => hS.elim (fun e => h8 (e ▸ H.cr)) hi))
 exact ⟨U.cr, U.r0 (by decide), U.r1 (by decide), U.r2 (by decide), U.r3 (by decide), U.r4 (by decide), U.r5 (by decide), U.r6 (by decide), T1⟩
theorem pre0 (H : Rd B r h s p bad wv nv w) (F : But (fun k => k = r) w w1) : ∃ col, Rows B r col h s w ∧ Kd.R k70 70 w1 B (fun k => newCol col w.heap.size 0 k = 0) h.v0 s.th ∧ (∀ k, w1.heap.size ≤ k → newCol col w.heap.size 0 k = 0) := by
 obtain ⟨col, hr⟩ := H.rows
 exact ⟨col, hr, R_coloredB hr.cr (by decide) hr.r0 F, fun k hk => newCol_ge (Nat.le_trans F.size hk)⟩
theorem app0 {w2 : World} {x' : List S70} (H : Rd B r h s p bad wv nv w) (hr : Rows B r col h s w) (F : But (fun k => k = r) w w1) (hb : w1.heap[r]? = some (.cells (h.cells wv' nv' p bad') 106 (0, 0))) (HR : Kd.R k70 70 w2 B (fun k => newCol col w.heap.size 0 k = 0) v1 x') (hg : w1.grownBy w2 h.v0.ownBlock) :
  Rd B r { h with v0 := v1 } { s with th := x' } p bad' wv' nv' (w2.setCell ⟨r, 0, none⟩ v1) ∧ Below B w (w2.setCell ⟨r, 0, none⟩ v1) ∧ Rest w (w2.setCell ⟨r, 0, none⟩ v1) := by
 have F4 : But (fun k => k = r ∨ some k = h.v0.ownBlock) w (w2.setCell ⟨r, 0, none⟩ v1) := ((F.mono (fun _ hk => .inl hk)).grown hg (fun k hk => .inl (.inr hk.symm))).set 0 v1 (.inl (.inl rfl))
 have hrR := hr.r0
 have hne : some r ≠ h.v0.ownBlock := Kd.R_ne hrR H.blk (by decide)
 have h8 : ∀ k, newCol col w.heap.size 0 k = 0 → k ≠ r := fun k hk e => by
  subst e
  rw [newCol_lt H.lt, hr.cr] at hk
  omega
 refine ⟨⟨blk_put (blk_grown hb hg hne) 0 v1 rfl, H.base, ⟨_, hr.put0 H.lt (F4.mono (fun k hk => hk.elim .inl (fun hk => .inr (hrR.1 k hk.symm)))) (Kd.R_step HR (fun k hk _ => Below.heap_setCell _ ⟨r, 0, none⟩ _ k (h8 k hk)))⟩, H.eq, H.port⟩, F4.belowRow H.base H.lt (Kd.R_own hrR), F4.restRow H.blk (Kd.R_own hrR) (by decide)⟩
theorem pre1 (H : Rd B r h s p bad wv nv w) (F : But (fun k => k = r) w w1) : ∃ col, Rows B r col h s w ∧ Kd.S (Kd.slice 3 (Kd.int .i64)) 29 w1 B (fun k => newCol col w.heap.size 1 k = 1) h.v1 s.fr ∧ (∀ k, w1.heap.size ≤ k → newCol col w.heap.size 1 k = 1) := by
 obtain ⟨col, hr⟩ := H.rows
 exact ⟨col, hr, S_coloredB hr.cr (by decide) hr.r1 F, fun k hk => newCol_ge (Nat.le_trans F.size hk)⟩
theorem app1 {w2 : World} {x' : List (List Int)} (H : Rd B r h s p bad wv nv w) (hr : Rows B r col h s w) (F : But (fun k => k = r) w w1) (hb : w1.heap[r]? = some (.cells (h.cells wv' nv' p bad') 106 (0, 0))) (HR : Kd.S (Kd.slice 3 (Kd.int .i64)) 29 w2 B (fun k => newCol col w.heap.size 1 k = 1) v1 x') (hg : w1.grownBy w2 h.v1.ownBlock) :
  Rd B r { h with v1 := v1 } { s with fr := x' } p bad' wv' nv' (w2.setCell ⟨r, 1, none⟩ v1) ∧ Below B w (w2.setCell ⟨r, 1, none⟩ v1) ∧ Rest w (w2.setCell ⟨r, 1, none⟩ v1) := by
 have F4 : But (fun k => k = r ∨ some k = h.v1.ownBlock) w (w2.setCell ⟨r, 1, none⟩ v1) := ((F.mono (fun _ hk => .inl hk)).grown hg (fun k hk => .inl (.inr hk.symm))).set 1 v1 (.inl (.inl rfl))
 have hrR := Kd.S_R hr.r1
 have hne : some r ≠ h.v1.ownBlock := Kd.R_ne hrR H.blk (by decide)
 have h8 : ∀ k, newCol col w.heap.size 1 k = 1 → k ≠ r := fun k hk e => by
  subst e
  rw [newCol_lt H.lt, hr.cr] at hk
  omega
 refine ⟨⟨blk_put (blk_grown hb hg hne) 1 v1 rfl, H.base, ⟨_, hr.put1 H.lt (F4.mono (fun k hk => hk.elim .inl (fun hk => .inr (hrR.1 k hk.symm)))) (Kd.S_step HR (fun k hk _ => Below.heap_setCell _ ⟨r, 1, none⟩ _ k (h8 k hk)))⟩, H.eq, H.port⟩, F4.belowRow H.base H.lt (Kd.R_own hrR), F4.restRow H.blk (Kd.R_own hrR) (by decide)⟩
theorem pre3 (H : Rd B r h s p bad wv nv w) (F : But (fun k => k = r) w w1) : ∃ col, Rows B r col h s w ∧ Kd.R k76 76 w1 B (fun k => newCol col w.heap.size 3 k = 3) h.v3 s.tr ∧ (∀ k, w1.heap.size ≤ k → newCol col w.heap.size 3 k = 3) := by
 obtain ⟨col, hr⟩ := H.rows
 exact ⟨col, hr, R_coloredB hr.cr (by decide) hr.r3 F, fun k hk => newCol_ge (Nat.le_trans F.size hk)⟩
theorem app3 {w2 : World} {x' : List S76} (H : Rd B r h s p bad wv nv w) (hr : Rows B r col h s w) (F : But (fun k => k = r) w w1) (hb : w1.heap[r]? = some (.cells (h.cells wv' nv' p bad') 106 (0, 0))) (HR : Kd.R k76 76 w2 B (fun k => newCol col w.heap.size 3 k = 3) v1 x') (hg : w1.grownBy w2 h.v3.ownBlock) :
  Rd B r { h with v3 := v1 } { s with tr := x' } p bad' wv' nv' (w2.setCell ⟨r, 3, none⟩ v1) ∧ Below B w (w2.setCell ⟨r, 3, none⟩ v1) ∧ Rest w (w2.setCell ⟨r, 3, none⟩ v1) := by
 have F4 : But (fun k => k = r ∨ some k = h.v3.ownBlock) w (w2.setCell ⟨r, 3, none⟩ v1) := ((F.mono (fun _ hk => .inl hk)).grown hg (fun k hk => .inl (.inr hk.symm))).set 3 v1 (.inl (.inl rfl))
 have hrR := hr.r3
 have hne : some r ≠ h.v3.ownBlock := Kd.R_ne hrR H.blk (by decide)
 have h8 : ∀ k, newCol col w.heap.size 3 k = 3 → k ≠ r := fun k hk e => by
  subst e
  rw [newCol_lt H.lt, hr.cr] at hk
  omega
 refine ⟨⟨blk_put (blk_grown hb hg hne) 3 v1 rfl, H.base, ⟨_, hr.put3 H.lt (F4.mono (fun k hk => hk.elim .inl (fun hk => .inr (hrR.1 k hk.symm)))) (Kd.R_step HR (fun k hk _ => Below.heap_setCell _ ⟨r, 3, none⟩ _ k (h8 k hk)))⟩, H.eq, H.port⟩, F4.belowRow H.base H.lt (Kd.R_own hrR), F4.restRow H.blk (Kd.R_own hrR) (by decide)⟩
theorem pre5 (H : Rd B r h s p bad wv nv w) (F : But (fun k => k = r) w w1) : ∃ col, Rows B r col h s w ∧ Kd.S (Kd.slice 3 (Kd.int .i64)) 29 w1 B (fun k => newCol col w.heap.size 5 k = 5) h.v5 s.li ∧ (∀ k, w1.heap.size ≤ k → newCol col w.heap.size 5 k = 5) := by
 obtain ⟨col, hr⟩ := H.rows
 exact ⟨col, hr, S_coloredB hr.cr (by decide) hr.r5 F, fun k hk => newCol_ge (Nat.le_trans F.size hk)⟩
theorem app5 {w2 : World} {x' : List (List Int)} (H : Rd B r h s p bad wv nv w) (hr : Rows B r col h s w) (F : But (fun k => k = r) w w1) (hb : w1.heap[r]? = some (.cells (h.cells wv' nv' p bad') 106 (0, 0))) (HR : Kd.S (Kd.slice 3 (Kd.int .i64)) 29 w2 B (fun k => newCol col w.heap.size 5 k = 5) v1 x') (hg : w1.grownBy w2 h.v5.ownBlock) :
  Rd B r { h with v5 := v1 } { s with li := x' } p bad' wv' nv' (w2.setCell ⟨r, 5, none⟩ v1) ∧ Below B w (w2.setCell ⟨r, 5, none⟩ v1) ∧ Rest w (w2.setCell ⟨r, 5, none⟩ v1) := by
 have F4 : But (fun k => k = r ∨ some k = h.v5.ownBlock) w (w2.setCell ⟨r, 5, none⟩ v1) := ((F.mono (fun _ hk => .inl hk)).grown hg (fun k hk => .inl (.inr hk.symm))).set 5 v1 (.inl (.inl rfl))
 have hrR := Kd.S_R hr.r5
 have hne : some r ≠ h.v5.ownBlock := Kd.R_ne hrR H.blk (by decide)
 have h8 : ∀ k, newCol col w.heap.size 5 k = 5 → k ≠ r := fun k hk e => by
  subst e
  rw [newCol_lt H.lt, hr.cr] at hk
  omega
 refine ⟨⟨blk_put (blk_grown hb hg hne) 5 v1 rfl, H.base, ⟨_, hr.put5 H.lt (F4.mono (fun k hk => hk.elim .inl (fun hk => .inr (hrR.1 k hk.symm)))) (Kd.S_step HR (fun k hk _ => Below.heap_setCell _ ⟨r, 5, none⟩ _ k (h8 k hk)))⟩, H.eq, H.port⟩, F4.belowRow H.base H.lt (Kd.R_own hrR), F4.restRow H.blk (Kd.R_own hrR) (by decide)⟩
theorem pre6 (H : Rd B r h s p bad wv nv w) (F : But (fun k => k = r) w w1) : ∃ col, Rows B r col h s w ∧ Kd.R (Kd.int .i64) 3 w1 B (fun k => newCol col w.heap.size 6 k = 6) h.v6 s.ro ∧ (∀ k, w1.heap.size ≤ k → newCol col w.heap.size 6 k = 6) := by
 obtain ⟨col, hr⟩ := H.rows
 exact ⟨col, hr, R_coloredB hr.cr (by decide) hr.r6 F, fun k hk => newCol_ge (Nat.le_trans F.size hk)⟩
theorem app6 {w2 : World} {x' : List Int} (H : Rd B r h s p bad wv nv w) (hr : Rows B r col h s w) (F : But (fun k => k = r) w w1) (hb : w1.heap[r]? = some (.cells (h.cells wv' nv' p bad') 106 (0, 0))) (HR : Kd.R (Kd.int .i64) 3 w2 B (fun k => newCol col w.heap.size 6 k = 6) v1 x') (hg : w1.grownBy w2 h.v6.ownBlock) :
  Rd B r { h with v6 := v1 } { s with ro := x' } p bad' wv' nv' (w2.setCell ⟨r, 6, none⟩ v1) ∧ Below B w (w2.setCell ⟨r, 6, none⟩ v1) ∧ Rest w (w2.setCell ⟨r, 6, none⟩ v1) := by
 have F4 : But (fun k => k = r ∨ some k = h.v6.ownBlock) w (w2.setCell ⟨r, 6, none⟩ v1) := ((F.mono (fun _ hk => .inl hk)).grown hg (fun k hk => .inl (.inr hk.symm))).set 6 v1 (.inl (.inl rfl))
 have hrR := hr.r6
 have hne : some r ≠ h.v6.ownBlock := Kd.R_ne hrR H.blk (by decide)
 have h8 : ∀ k, newCol col w.heap.size 6 k = 6 → k ≠ r := fun k hk e => by
  subst e
  rw [newCol_lt H.lt, hr.cr] at hk
  omega
 refine ⟨⟨blk_put (blk_grown hb hg hne) 6 v1 rfl, H.base, ⟨_, hr.put6 H.lt (F4.mono (fun k hk => hk.elim .inl (fun hk => .inr (hrR.1 k hk.symm)))) (Kd.R_step HR (fun k hk _ => Below.heap_setCell _ ⟨r, 6, none⟩ _ k (h8 k hk)))⟩, H.eq, H.port⟩, F4.belowRow H.base H.lt (Kd.R_own hrR), F4.restRow H.blk (Kd.R_own hrR) (by decide)⟩
theorem pre7 (H : Rd B r h s p bad wv nv w) (F : But (fun k => k = r) w w1) : ∃ col, Rows B r col h s w ∧ Kd.R k82 82 w1 B (fun k => newCol col w.heap.size 7 k = 7) h.v7 s.sw ∧ (∀ k, w1.heap.size ≤ k → newCol col w.heap.size 7 k = 7) := by
 obtain ⟨col, hr⟩ := H.rows
 exact ⟨col, hr, R_coloredB hr.cr (by decide) hr.r7 F, fun k hk => newCol_ge (Nat.le_trans F.size hk)⟩
theorem app7 {w2 : World} {x' : List S82} (H : Rd B r h s p bad wv nv w) (hr : Rows B r col h s w) (F : But (fun k => k = r) w w1) (hb : w1.heap[r]? = some (.cells (h.cells wv' nv' p bad') 106 (0, 0))) (HR : Kd.R k82 82 w2 B (fun k => newCol col w.heap.size 7 k = 7) v1 x') (hg : w1.grownBy w2 h.v7.ownBlock) :
  Rd B r { h with v7 := v1 } { s with sw := x' } p bad' wv' nv' (w2.setCell ⟨r, 7, none⟩ v1) ∧ Below B w (w2.setCell ⟨r, 7, none⟩ v1) ∧ Rest w (w2.setCell ⟨r, 7, none⟩ v1) := by
 have F4 : But (fun k => k = r ∨ some k = h.v7.ownBlock) w (w2.setCell ⟨r, 7, none⟩ v1) := ((F.mono (fun _ hk => .inl hk)).grown hg (fun k hk => .inl (.inr hk.symm))).set 7 v1 (.inl (.inl rfl))
 have hrR := hr.r7
 have hne : some r ≠ h.v7.ownBlock := Kd.R_ne hrR H.blk (by decide)
 have h8 : ∀ k, newCol col w.heap.size 7 k = 7 → k ≠ r := fun k hk e => by
  subst e
  rw [newCol_lt H.lt, hr.cr] at hk
  omega
 refine ⟨⟨blk_put (blk_grown hb hg hne) 7 v1 rfl, H.base, ⟨_, hr.put7 H.lt (F4.mono (fun k hk => hk.elim .inl (fun hk => .inr (hrR.1 k hk.symm)))) (Kd.R_step HR (fun k hk _ => Below.heap_setCell _ ⟨r, 7, none⟩ _ k (h8 k hk)))⟩, H.eq, H.port⟩, F4.belowRow H.base H.lt (Kd.R_own hrR), F4.restRow H.blk (Kd.R_own hrR) (by decide)⟩
theorem RdPost.yes {o : Option (St × Int)} (hR : Rd B r h s p bad wv nv w1) (hB : Below B w w1) (hT : Rest w w1) (ho : o = if bad = true then none else some (s, p)) : RdPost B r o w (.returned (.tuple #[])) w1 := by
 subst ho
 refine ⟨rfl, hB, hT, h, s, p, wv, nv, ?_, ?_⟩
 ·cases bad <;> exact hR
 ·intro x hx
  cases bad
  ·exact (Option.some.inj hx).symm
  ·cases hx
end
end Go.Proofs.YtmcjccigglekpaaGreatDoor.Given
namespace Go.Proofs.YtmcjccigglekpaaGreatDoor.Given
open Go Go.RowKit Go.Proofs Go.Proofs.YtmcjccigglekpaaGreatDoorW.PrintWords Go.Proofs.YtmcjccigglekpaaGreatDoorW.PrintLast Go.Proofs.YtmcjccigglekpaaGreatDoorW.PrintMore Go.Proofs.YtmcjccigglekpaaGreatDoor.P

/-- Word i; its number. -/
def wI (ws : List ByteArray) (i : Nat) : ByteArray := ws.getD i ByteArray.empty
def nI (ws : List ByteArray) (i : Nat) : Int := numS (wI ws i)
theorem Line.get {w : World} {wv nv : Value} {ws : List ByteArray} {ns : List Int} (h : Line w wv nv ws ns) : ∃ A c A' c', wv = .slice A ws.length c ∧ nv = .slice A' ws.length c' ∧
  (∀ k, k < ws.length → ∀ w', Rest w w' → ∃ ad, A = some ad ∧ w'.cell? (ad.add k) = some (.string (wI ws k))) ∧
  (∀ k, k < ws.length → ∀ w', Rest w w' → ∃ ad, A' = some ad ∧ w'.cell? (ad.add k) = some (.int .i64 (nI ws k))) := by
 obtain ⟨A, c, A', c', e1, e2, h1, h2⟩ := h.nth
 refine ⟨A, c, A', c', e1, e2, fun k hk w' hr => ?_, fun k hk w' hr => ?_⟩
 ·have e : wI ws k = ws[k] := by unfold wI; rw [List.getD_eq_getElem?_getD, List.getElem?_eq_getElem hk]; rfl
  rw [e]; exact h1 k hk w' hr
 ·have e : nI ws k = numS ws[k] := by unfold nI wI; rw [List.getD_eq_getElem?_getD, List.getElem?_eq_getElem hk]; rfl
  rw [e]; exact h2 k hk w' hr
theorem add_pos (ad : Addr) (k : Nat) (hk : 0 < k) : ad.add k = ⟨ad.block, ad.off + k, none⟩ := by unfold Addr.add; rw [if_neg (by omega)]
theorem some_inj_add {ad ad' : Addr} (h : some ad = some ad') : ad' = ad := (Option.some.inj h).symm
def stepThing (ws : List ByteArray) (s : St) (p : Int) : Option (St × Int) :=
 if ws.length = 8 then some ({ s with th := s.th ++ [⟨nI ws 0, nI ws 1, nI ws 2, nI ws 3, nI ws 4, nI ws 5, nI ws 6, nI ws 7⟩] }, p) else none
theorem But.at_new {r : Nat} {w w1 : World} {o : Obj} (hr : r < w.heap.size) (h : But (fun k => k = r) (w.alloc o) w1) : w1.heap[w.heap.size]? = some o :=
 (h.block _ (by simp) (by omega)).trans (blk_new w o)

set_option maxRecDepth 100000 in
set_option maxHeartbeats 2000000 in
theorem rd_thing {B r : Nat} {h : Rv} {s : St} {p : Int} {wv nv : Value} {w : World} {ws : List ByteArray} {ns : List Int} (H : Rd B r h s p false wv nv w) (L : Line w wv nv ws ns) (hs : s.th.length ≤ 1000000) :
  Calls Tryz.prog 78 #[.pointer (some ⟨r, 0, none⟩)] w (RdPost B r (stepThing ws s p) w) := by
 obtain ⟨A, c, A', c', rfl, rfl, hW, hN⟩ := L.get
 have hlt := H.lt
 have q1 : Below w.heap.size w (w.alloc (.cells #[.pointer (some ⟨r, 0, none⟩)] 102)) := (Below.refl _ _).alloc (Nat.le_refl _) _
 have H1 := H.below q1
 unfold stepThing
 by_cases h8 : ws.length = 8
 ·rw [if_pos h8]
  obtain ⟨ad, rfl, _⟩ := hN 0 (by omega) w (Rest.refl w)
  have Dn := Lib.hid (rd_need_ok H1 8 (by omega))
  have HN := Lib.hid hN
  have hb1 := blk_new w (.cells #[.pointer (some ⟨r, 0, none⟩)] 102)
  have b0 := (blk_cell hb1 0).trans (show _ = some (Value.pointer (some ⟨r, 0, none⟩)) from rfl)
  have Q1 := Lib.hid q1
  have HH := Lib.hid H
  clear hN hW q1 H H1 L hb1
  go_enter Tryz.func78, Tryz.ntmps78
  go_wp2_with (go_at_call 111; (with_reducible refine Dn.out.mono ?_); clear Dn; rintro e w2 ⟨rfl, H2, F2⟩)
  have hb2 := F2.at_new hlt
  have F0 : But (fun k => k = r) w w2 := (But.of_below Q1.out).trans F2
  have H3 : Rd B r h s p false (.slice A ws.length c) (.slice (some ad) ws.length c') w2.drew := H2.drew
  have F3 : But (fun k => k = r) w w2.drew := F0.drew
  have R3 := HH.out.rest F3
  have x7 : w2.drew.cell? ⟨ad.block, ad.off + 7, none⟩ = some (.int .i64 (nI ws 7)) := by
   obtain ⟨ad', e, hx⟩ := HN.out 7 (by omega) _ R3
   obtain rfl := Option.some.inj e
   rwa [add_pos _ 7 (by decide)] at hx
  have hx : ∀ k, k < 8 → ∀ w', Rest w w' → w'.cell? (ad.add k) = some (.int .i64 (nI ws k)) := fun k hk w' hr => by
   obtain ⟨ad', e, hx⟩ := HN.out k (by omega) w' hr
   obtain rfl := Option.some.inj e
   exact hx
  have D := Lib.hid (fun (k : Nat) (kv : Int) (hkv : kv = k) (hk : k < 8) => rd_thing1 (w := w2.drew) (nI ws k) ((blk_cell hb2 0).trans (show _ = some (Value.pointer (some ⟨r, 0, none⟩)) from rfl)) H3.blk (show _ = some (Value.slice (some ad) ws.length c') from rfl) k kv hkv (by omega) rfl (hx k hk _ R3))
  obtain ⟨col, hrows, HO, HF⟩ := pre0 HH.out F3
  have hne : some r ≠ h.v0.ownBlock := Kd.R_ne HO H3.blk (by decide)
  have B3 := HH.out.toBelow F3
  have hsz : w.heap.size ≤ w2.drew.heap.size := F3.size
  have HBase := H3.base
  have HROW := Lib.hid hrows
  have H3b := Lib.hid H3.blk
  have F3' := Lib.hid F3
  have HX := Lib.hid hx
  have hboxne : some w.heap.size ≠ h.v0.ownBlock := Kd.R_ne HO (show w2.drew.heap[w.heap.size]? = _ from hb2) (by decide)
  obtain ⟨inner, hown⟩ := Kd.R_own HO
  have HW := Lib.hid (fun (w1 : World) (hg1 : w2.drew.grownBy w1 h.v0.ownBlock) => R3.own hown (by decide) hg1)
  have HB2 := Lib.hid (show w2.drew.heap[w.heap.size]? = _ from hb2)
  have hr0 := (blk_cell H3.blk 0).trans (show _ = some h.v0 from rfl)
  have hr0a := fun o => (pw_cell_below (below_alloc (Below.refl _ _) o) hr0 : (w2.drew.alloc o).cell? ⟨r, 0, none⟩ = some h.v0)
  have SD : w2.drew.cell? ⟨w.heap.size, 0, none⟩ = some (.pointer (some ⟨r, 0, none⟩)) ∧ w2.drew.cell? ⟨r, 0, none⟩ = some h.v0 ∧ w2.drew.cell? ⟨r, 9, none⟩ = some (.slice (some ad) ws.length c') ∧ w2.drew.cell? ⟨ad.block, ad.off + 7, none⟩ = some (.int .i64 (nI ws 7)) := ⟨(blk_cell hb2 0).trans rfl, (blk_cell H3.blk 0).trans rfl, (blk_cell H3.blk 9).trans rfl, x7⟩
  have SA := Lib.hid (fun o => (⟨pw_cell_below (below_alloc (Below.refl _ _) o) SD.1, pw_cell_below (below_alloc (Below.refl _ _) o) SD.2.1, pw_cell_below (below_alloc (Below.refl _ _) o) SD.2.2.1, pw_cell_below (below_alloc (Below.refl _ _) o) SD.2.2.2⟩ : (w2.drew.alloc o).cell? ⟨w.heap.size, 0, none⟩ = some (.pointer (some ⟨r, 0, none⟩)) ∧ (w2.drew.alloc o).cell? ⟨r, 0, none⟩ = some h.v0 ∧ (w2.drew.alloc o).cell? ⟨r, 9, none⟩ = some (.slice (some ad) ws.length c') ∧ (w2.drew.alloc o).cell? ⟨ad.block, ad.off + 7, none⟩ = some (.int .i64 (nI ws 7))))
  have SW := Lib.hid (fun (w1 : World) (hg1 : w2.drew.grownBy w1 h.v0.ownBlock) => (⟨(blk_cell (blk_grown HB2.out hg1 hboxne) 0).trans rfl, (blk_cell (blk_grown H3b.out hg1 hne) 0).trans rfl, (blk_cell (blk_grown H3b.out hg1 hne) 9).trans rfl, by have := HX.out 7 (by omega) w1 (HW.out w1 hg1); rwa [add_pos _ 7 (by decide)] at this⟩ : w1.cell? ⟨w.heap.size, 0, none⟩ = some (.pointer (some ⟨r, 0, none⟩)) ∧ w1.cell? ⟨r, 0, none⟩ = some h.v0 ∧ w1.cell? ⟨r, 9, none⟩ = some (.slice (some ad) ws.length c') ∧ w1.cell? ⟨ad.block, ad.off + 7, none⟩ = some (.int .i64 (nI ws 7))))
  clear hown hx H3 F3 R3 x7 hb2 F0 H2 F2
  refine wp_region_sch (fun w' => w'.cell? ⟨w.heap.size, 0, none⟩ = some (.pointer (some ⟨r, 0, none⟩)) ∧ w'.cell? ⟨r, 0, none⟩ = some h.v0 ∧ w'.cell? ⟨r, 9, none⟩ = some (.slice (some ad) ws.length c') ∧ w'.cell? ⟨ad.block, ad.off + 7, none⟩ = some (.int .i64 (nI ws 7))) 34 [(false, 0), (false, 1), (false, 2), (false, 3), (false, 4), (false, 5), (false, 6), (false, 7), (false, 9), (false, 11), (false, 13), (false, 15), (false, 17), (false, 19), (false, 21), (false, 22), (false, 23), (false, 24), (false, 25), (false, 26), (true, 8), (true, 10), (true, 12), (true, 14), (true, 16), (true, 18), (true, 20), (false, 27), (true, 28), (true, 29), (false, 30), (false, 31), (false, 32), (false, 33)] (by kernel_rfl) (by kernel_rfl) (fun _ a d _ _ h => by cases d <;> exact h) _ rfl SD ?_
  have SD' := Lib.hid SD
  clear SD
  dsimp only
  repeat (refine' sch_pure rfl rfl ?_ ?_; rotate_left; · (rintro w' ⟨s1, s2, s3, s4⟩; go_simp <;> rfl)
          simp only [Act.put, List.setIfInBounds_toArray, List.set_cons_zero, List.set_cons_succ])
  (refine sch_alone rfl (fun K hK => ?_); go_simp; refine (D.out 0 0 rfl (by omega)).mono ?_; rintro e w' ⟨rfl, rfl⟩; refine hK.out _ _ SD'.out ?_; clear hK K)
  try simp only [Act.put, List.setIfInBounds_toArray, List.set_cons_zero, List.set_cons_succ]
  (refine sch_alone rfl (fun K hK => ?_); go_simp; refine (D.out 1 1 rfl (by omega)).mono ?_; rintro e w' ⟨rfl, rfl⟩; refine hK.out _ _ SD'.out ?_; clear hK K)
  try simp only [Act.put, List.setIfInBounds_toArray, List.set_cons_zero, List.set_cons_succ]
  (refine sch_alone rfl (fun K hK => ?_); go_simp; refine (D.out 2 2 rfl (by omega)).mono ?_; rintro e w' ⟨rfl, rfl⟩; refine hK.out _ _ SD'.out ?_; clear hK K)
  try simp only [Act.put, List.setIfInBounds_toArray, List.set_cons_zero, List.set_cons_succ]
  (refine sch_alone rfl (fun K hK => ?_); go_simp; refine (D.out 3 3 rfl (by omega)).mono ?_; rintro e w' ⟨rfl, rfl⟩; refine hK.out _ _ SD'.out ?_; clear hK K)
  try simp only [Act.put, List.setIfInBounds_toArray, List.set_cons_zero, List.set_cons_succ]
  (refine sch_alone rfl (fun K hK => ?_); go_simp; refine (D.out 4 4 rfl (by omega)).mono ?_; rintro e w' ⟨rfl, rfl⟩; refine hK.out _ _ SD'.out ?_; clear hK K)
  try simp only [Act.put, List.setIfInBounds_toArray, List.set_cons_zero, List.set_cons_succ]
  (refine sch_alone rfl (fun K hK => ?_); go_simp; refine (D.out 5 5 rfl (by omega)).mono ?_; rintro e w' ⟨rfl, rfl⟩; refine hK.out _ _ SD'.out ?_; clear hK K)
  try simp only [Act.put, List.setIfInBounds_toArray, List.set_cons_zero, List.set_cons_succ]
  (refine sch_alone rfl (fun K hK => ?_); go_simp; refine (D.out 6 6 rfl (by omega)).mono ?_; rintro e w' ⟨rfl, rfl⟩; refine hK.out _ _ SD'.out ?_; clear hK K)
  try simp only [Act.put, List.setIfInBounds_toArray, List.set_cons_zero, List.set_cons_succ]
  repeat (refine' sch_pure rfl rfl ?_ ?_; rotate_left; · (rintro w' ⟨s1, s2, s3, s4⟩; go_simp <;> rfl)
          simp only [Act.put, List.setIfInBounds_toArray, List.set_cons_zero, List.set_cons_succ])
  (refine sch_alone rfl (fun K hK => ?_); go_simp; refine hK.out _ _ (SA.out _) ?_; clear hK K)
  (refine sch_alone rfl (fun K hK => ?_); refine Kd.R_append_step k70 (w0 := w) B (by rfl) (.tmp 12) (.tmp 34) _ 70 _ 64 (by rfl) rfl info70 rfl (by decide) (by omega) h.v0 s.th ⟨nI ws 0, nI ws 1, nI ws 2, nI ws 3, nI ws 4, nI ws 5, nI ws 6, nI ws 7⟩ _ _ (fun _ => False) rfl rfl (k70_mkM _ _ _ _) (fun _ hk => hk.elim) HF HO B3 (by omega) (by omega) ?_; intro v1 w1 HR1 HB1 hg1 hat1; refine hK.out _ _ (SW.out w1 hg1) ?_; clear hK K)
  obtain ⟨A1, c1, rfl⟩ := Kd.R_slice HR1
  try simp only [Act.put, List.setIfInBounds_toArray, List.set_cons_zero, List.set_cons_succ]
  repeat (refine' sch_pure rfl rfl ?_ ?_; rotate_left; · (rintro w' ⟨s1, s2, s3, s4⟩; go_simp <;> rfl)
          simp only [Act.put, List.setIfInBounds_toArray, List.set_cons_zero, List.set_cons_succ])
  have hb5 := blk_grown H3b.out hg1 hne
  have c0 := (blk_cell hb5 0).trans (show _ = some h.v0 from rfl)
  have g0 := blk_frozen hb5 0
  refine sch_last rfl (fun K hK => ?_)
  go_simp
  refine hK.out _ _ ?_
  go_wp2
  go_end0
  obtain ⟨a1, a2, a3⟩ := app0 HH.out HROW.out F3'.out H3b.out HR1 hg1
  rw [List.length_append, List.length_singleton] at a1 a2 a3
  exact RdPost.yes a1 a2 a3 rfl
 ·rw [if_neg h8]
  have Dn := Lib.hid (rd_need_no H1 8 (by omega))
  have hb1 := blk_new w (.cells #[.pointer (some ⟨r, 0, none⟩)] 102)
  have b0 := (blk_cell hb1 0).trans (show _ = some (Value.pointer (some ⟨r, 0, none⟩)) from rfl)
  have Q1 := Lib.hid q1
  have HH := Lib.hid H
  clear hN hW q1 H H1 L hb1
  go_enter Tryz.func78, Tryz.ntmps78
  go_wp2_with (go_at_call 111; (with_reducible refine Dn.out.mono ?_); clear Dn; rintro e w2 ⟨rfl, H2, F2⟩)
  go_end0
  have F0 : But (fun k => k = r) w w2 := (But.of_below Q1.out).trans F2
  exact RdPost.yes H2 (HH.out.toBelow F0) (HH.out.rest F0) rfl
end Go.Proofs.YtmcjccigglekpaaGreatDoor.Given
namespace Go.Proofs.YtmcjccigglekpaaGreatDoor.Given
open Go Go.RowKit Go.Proofs Go.Proofs.YtmcjccigglekpaaGreatDoorW.PrintWords Go.Proofs.YtmcjccigglekpaaGreatDoorW.PrintLast Go.Proofs.YtmcjccigglekpaaGreatDoorW.PrintMore Go.Proofs.YtmcjccigglekpaaGreatDoor.P

theorem info76 : (Tryz.prog.info? 76).map (fun i => (i.zero, i.size, i.bytes)) = some (some (.agg #[.int .i64 0, .int .i64 0, .int .i64 0, .bool false]), 4, 32) := by kernel_rfl
theorem info82 : (Tryz.prog.info? 82).map (fun i => (i.zero, i.size, i.bytes)) = some (some (.agg #[.bool false, .int .i64 0, .int .i64 0, .bool false]), 4, 32) := by kernel_rfl
theorem info95 : (Tryz.prog.info? 95).map (fun i => (i.zero, i.size, i.bytes)) = some (some (.agg #[.int .i64 0, .int .i64 0, .int .i64 0, .bool false, .int .i64 0, .int .i64 0, .int .i64 0, .bool false]), 8, 64) := by kernel_rfl
theorem info59 : (Tryz.prog.info? 59).map (fun i => (i.zero, i.size, i.bytes)) = some (some (.agg #[.int .i64 0, .int .i64 0, .slice none 0 0]), 3, 40) := by kernel_rfl
theorem info87 : (Tryz.prog.info? 87).map (fun i => (i.zero, i.size, i.bytes)) = some (some (.agg #[.int .i64 0, .int .i64 0, .int .i64 0, .int .i64 0, .int .i64 0]), 5, 40) := by kernel_rfl
theorem info56 : (Tryz.prog.info? 56).map (fun i => (i.zero, i.size, i.bytes)) = some (some (.slice none 0 0), 1, 24) := by kernel_rfl
/-- Is a word a yes? -/
def yesI (x : ByteArray) : Bool := x.toList == [49]
/-- A word's key, and whether it is one. -/
def keyOk (x : ByteArray) : Bool := cutC x ⟨#[46]⟩
def stepBranch (ws : List ByteArray) (s : St) (p : Int) : Option (St × Int) :=
 if ws.length = 3 then (if (!keyOk (wI ws 1)) = true then none else some ({ s with tr := s.tr ++ [⟨keyI (wI ws 1), nI ws 0, yesI (wI ws 2)⟩] }, p)) else none
theorem rd_keyAt' {B r : Nat} {h : Rv} {s : St} {p : Int} {bad : Bool} {A : Option Addr} {c : Nat} {nv : Value} {w : World} {ws : List ByteArray} (H : Rd B r h s p bad (.slice A ws.length c) nv w) (hG : GL w) (k : Nat) (kv : Int) (hkv : kv = k) (hk : k < ws.length)
  (hx : ∃ ad, A = some ad ∧ w.cell? (ad.add k) = some (.string (wI ws k))) (hs : (wI ws k).size ≤ 1000000) :
  Calls Tryz.prog 114 #[.pointer (some ⟨r, 0, none⟩), .int .i64 kv] w fun e w' => e = .returned (.agg #[.int .i64 (keyI (wI ws k)).f0, .int .i64 (keyI (wI ws k)).f1]) ∧ (Rd B r h s p (bad || !keyOk (wI ws k)) (.slice A ws.length c) nv w' ∧ But (fun k => k = r) w w') := by
 have e : wI ws k = ws[k] := by unfold wI; rw [List.getD_eq_getElem?_getD, List.getElem?_eq_getElem hk]; rfl
 rw [e] at hx hs ⊢
 exact rd_keyAt H hG k kv hkv hk hx hs

set_option maxRecDepth 100000 in
set_option maxHeartbeats 4000000 in
theorem rd_branch {B r : Nat} {h : Rv} {s : St} {p : Int} {wv nv : Value} {w : World} {ws : List ByteArray} {ns : List Int} (H : Rd B r h s p false wv nv w) (L : Line w wv nv ws ns) (hG : GLB B w) (hw : ∀ i, (wI ws i).size ≤ 1000000) (hs : s.tr.length ≤ 1000000) :
  Calls Tryz.prog 81 #[.pointer (some ⟨r, 0, none⟩)] w (RdPost B r (stepBranch ws s p) w) := by
 generalize hoo : stepBranch ws s p = oo
 have HOO := Lib.hid hoo
 clear hoo
 obtain ⟨A, c, A', c', rfl, rfl, hW, hN⟩ := L.get
 have hlt := H.lt
 by_cases h8 : ws.length = 3
 ·obtain ⟨ad, rfl, _⟩ := hW 0 (by omega) w (Rest.refl w)
  obtain ⟨ad', rfl, _⟩ := hN 0 (by omega) w (Rest.refl w)
  have xW2 : ∀ W, Rest w W → W.cell? ⟨ad.block, ad.off + 2, none⟩ = some (.string (wI ws 2)) := fun W hr => by
   obtain ⟨q, e, hx⟩ := hW 2 (by omega) W hr
   obtain rfl := Option.some.inj e
   rwa [add_pos _ 2 (by decide)] at hx
  have xN0 : ∀ W, Rest w W → W.cell? ad' = some (.int .i64 (nI ws 0)) := fun W hr => by
   obtain ⟨q, e, hx⟩ := hN 0 (by omega) W hr
   obtain rfl := Option.some.inj e
   rwa [add_zero_] at hx
  have SG := Lib.hid (fun (W : World) (bad' : Bool) (hb : W.heap[r]? = some (.cells (h.cells (.slice (some ad) ws.length c) (.slice (some ad') ws.length c') p bad') 106 (0, 0))) (hr : Rest w W) => (⟨(blk_cell hb 3).trans rfl, (blk_cell hb 8).trans rfl, (blk_cell hb 9).trans rfl, xW2 W hr, xN0 W hr⟩ : W.cell? ⟨r, 3, none⟩ = some h.v3 ∧ W.cell? ⟨r, 8, none⟩ = some (.slice (some ad) ws.length c) ∧ W.cell? ⟨r, 9, none⟩ = some (.slice (some ad') ws.length c') ∧ W.cell? ⟨ad.block, ad.off + 2, none⟩ = some (.string (wI ws 2)) ∧ W.cell? ad' = some (.int .i64 (nI ws 0))))
  have HW1 := Lib.hid (hW 1 (by omega))
  have Dn := Lib.hid (rd_need_ok H 3 (by omega))
  have HH := Lib.hid H
  have HG := Lib.hid hG
  have k1 := hw 1
  clear hN hW H L hG hw xW2 xN0
  go_enter Tryz.func81, Tryz.ntmps81
  go_wp2_with (go_at_call 111; (with_reducible refine Dn.out.mono ?_); clear Dn; rintro e w2 ⟨rfl, H2, F2⟩)
  obtain ⟨wd, hwd⟩ : ∃ wd, w2.drew = wd := ⟨_, rfl⟩
  have H3 : Rd B r h s p false (.slice (some ad) ws.length c) (.slice (some ad') ws.length c') wd := hwd ▸ H2.drew
  have F3 : But (fun k => k = r) w wd := hwd ▸ F2.drew
  refine wp_region_sch (fun w' => w'.cell? ⟨r, 3, none⟩ = some h.v3 ∧ w'.cell? ⟨r, 8, none⟩ = some (.slice (some ad) ws.length c) ∧ w'.cell? ⟨r, 9, none⟩ = some (.slice (some ad') ws.length c') ∧ w'.cell? ⟨ad.block, ad.off + 2, none⟩ = some (.string (wI ws 2)) ∧ w'.cell? ad' = some (.int .i64 (nI ws 0))) 27 [(false, 0), (false, 1), (false, 2), (false, 3), (false, 4), (false, 5), (false, 6), (false, 7), (false, 8), (false, 9), (false, 10), (false, 11), (false, 12), (false, 14), (false, 15), (false, 16), (false, 17), (false, 18), (false, 19), (false, 20), (true, 13), (false, 21), (true, 22), (true, 23), (false, 24), (false, 25), (false, 26)] (by kernel_rfl) (by kernel_rfl) (fun _ a d _ _ h => by cases d <;> exact h) wd hwd (SG.out wd _ H3.blk (HH.out.rest F3)) ?_
  clear hwd F2 H2
  have B3 := HH.out.toBelow F3
  have Dk := Lib.hid (rd_keyAt' H3 (HG.out.on B3).here 1 1 rfl (by omega) (HW1.out wd (HH.out.rest F3)) k1)
  have HR3 := Lib.hid H3
  clear H3
  try dsimp only
  repeat (refine' sch_pure rfl rfl ?_ ?_; rotate_left; · (rintro w' ⟨s0, s1, s2, s3, s4⟩; go_simp <;> rfl)
          simp only [Act.put, List.setIfInBounds_toArray, List.set_cons_zero, List.set_cons_succ])
  (refine sch_alone rfl (fun K hK => ?_); go_simp; refine Dk.out.mono ?_; rintro e w4 ⟨rfl, H4, F4⟩; have F5 := F3.trans F4; refine hK.out _ _ (SG.out w4 _ H4.blk (HH.out.rest F5)) ?_; clear hK K)
  try simp only [Act.put, List.setIfInBounds_toArray, List.set_cons_zero, List.set_cons_succ]
  repeat (refine' sch_pure rfl rfl ?_ ?_; rotate_left; · (rintro w' ⟨s0, s1, s2, s3, s4⟩; go_simp <;> rfl)
          simp only [Act.put, List.setIfInBounds_toArray, List.set_cons_zero, List.set_cons_succ])
  obtain ⟨col, hrows, HO, HF⟩ := pre3 HH.out F5
  have hne : some r ≠ h.v3.ownBlock := Kd.R_ne HO H4.blk (by decide)
  obtain ⟨inner, hown⟩ := Kd.R_own HO
  have B4 := HH.out.toBelow F5
  have hsz := F5.size
  have hBase := HH.out.base
  have hlt4 := H4.lt
  (refine sch_alone rfl (fun K hK => ?_); go_simp; refine hK.out _ _ (SG.out _ _ (blk_alloc H4.blk _) ((HH.out.rest F5).alloc _)) ?_; clear hK K)
  (refine sch_alone rfl (fun K hK => ?_); refine Kd.R_append_step k76 (w0 := w) B (by rfl) (.tmp 9) (.tmp 26) _ 76 _ 32 (by rfl) rfl info76 rfl (by decide) (by omega) h.v3 s.tr ⟨keyI (wI ws 1), nI ws 0, yesI (wI ws 2)⟩ _ _ (fun _ => False) rfl rfl (k76_mkM _ _ _ _) (fun _ hk => hk.elim) HF HO B4 (by omega) (by omega) ?_; intro v1 w5 HR1 HB1 hg1 hat1; refine hK.out _ _ (SG.out w5 _ (blk_grown H4.blk hg1 hne) ((HH.out.rest F5).own hown (by decide) hg1)) ?_; clear hK K)
  obtain ⟨A1, c1, rfl⟩ := Kd.R_slice HR1
  try simp only [Act.put, List.setIfInBounds_toArray, List.set_cons_zero, List.set_cons_succ]
  repeat (refine' sch_pure rfl rfl ?_ ?_; rotate_left; · (rintro w' ⟨s0, s1, s2, s3, s4⟩; go_simp <;> rfl)
          simp only [Act.put, List.setIfInBounds_toArray, List.set_cons_zero, List.set_cons_succ])
  have hb5 := blk_grown H4.blk hg1 hne
  have c0 := (blk_cell hb5 3).trans (show _ = some h.v3 from rfl)
  have g0 := blk_frozen hb5 3
  refine sch_last rfl (fun K hK => ?_)
  go_simp
  refine hK.out _ _ ?_
  go_wp2
  go_end0
  obtain ⟨a1, a2, a3⟩ := app3 HH.out hrows F5 H4.blk HR1 hg1
  rw [List.length_append, List.length_singleton] at a1 a2 a3
  exact RdPost.yes a1 a2 a3 (by rw [← HOO.out]; unfold stepBranch; rw [if_pos h8]; cases keyOk (wI ws 1) <;> rfl)
 ·have Dn := Lib.hid (rd_need_no H 3 (by omega))
  have HH := Lib.hid H
  clear hN hW H L hG hw
  go_enter Tryz.func81, Tryz.ntmps81
  go_wp2_with (go_at_call 111; (with_reducible refine Dn.out.mono ?_); clear Dn; rintro e w2 ⟨rfl, H2, F2⟩)
  go_end0
  exact RdPost.yes H2 (HH.out.toBelow F2) (HH.out.rest F2) (by rw [← HOO.out]; unfold stepBranch; rw [if_neg h8]; rfl)
end Go.Proofs.YtmcjccigglekpaaGreatDoor.Given
namespace Go.Proofs.YtmcjccigglekpaaGreatDoor.Given
open Go Go.RowKit Go.Proofs Go.Proofs.YtmcjccigglekpaaGreatDoorW.PrintWords Go.Proofs.YtmcjccigglekpaaGreatDoorW.PrintLast Go.Proofs.YtmcjccigglekpaaGreatDoorW.PrintMore Go.Proofs.YtmcjccigglekpaaGreatDoor.P

def stepCore (ws : List ByteArray) (s : St) (p : Int) : Option (St × Int) :=
 if ws.length = 4 then (if (!keyOk (wI ws 3)) = true then none else some ({ s with ro := s.ro ++ [nI ws 0], sw := s.sw ++ [⟨yesI (wI ws 1), keyI (wI ws 3), yesI (wI ws 2)⟩] }, p)) else none

set_option maxRecDepth 100000 in
set_option maxHeartbeats 4000000 in
theorem rd_core {B r : Nat} {h : Rv} {s : St} {p : Int} {wv nv : Value} {w : World} {ws : List ByteArray} {ns : List Int} (H : Rd B r h s p false wv nv w) (L : Line w wv nv ws ns) (hG : GLB B w) (hw : ∀ i, (wI ws i).size ≤ 1000000) (hs : s.ro.length ≤ 1000000) (hs7 : s.sw.length ≤ 1000000) :
  Calls Tryz.prog 84 #[.pointer (some ⟨r, 0, none⟩)] w (RdPost B r (stepCore ws s p) w) := by
 generalize hoo : stepCore ws s p = oo
 have HOO := Lib.hid hoo
 clear hoo
 obtain ⟨A, c, A', c', rfl, rfl, hW, hN⟩ := L.get
 have hlt := H.lt
 by_cases h8 : ws.length = 4
 ·obtain ⟨ad, rfl, _⟩ := hW 0 (by omega) w (Rest.refl w)
  obtain ⟨ad', rfl, _⟩ := hN 0 (by omega) w (Rest.refl w)
  have xW1 : ∀ W, Rest w W → W.cell? ⟨ad.block, ad.off + 1, none⟩ = some (.string (wI ws 1)) := fun W hr => by
   obtain ⟨q, e, hx⟩ := hW 1 (by omega) W hr
   obtain rfl := Option.some.inj e
   rwa [add_pos _ 1 (by decide)] at hx
  have xW2 : ∀ W, Rest w W → W.cell? ⟨ad.block, ad.off + 2, none⟩ = some (.string (wI ws 2)) := fun W hr => by
   obtain ⟨q, e, hx⟩ := hW 2 (by omega) W hr
   obtain rfl := Option.some.inj e
   rwa [add_pos _ 2 (by decide)] at hx
  have xN0 : ∀ W, Rest w W → W.cell? ad' = some (.int .i64 (nI ws 0)) := fun W hr => by
   obtain ⟨q, e, hx⟩ := hN 0 (by omega) W hr
   obtain rfl := Option.some.inj e
   rwa [add_zero_] at hx
  have SG := Lib.hid (fun (W : World) (bad' : Bool) (hb : W.heap[r]? = some (.cells (h.cells (.slice (some ad) ws.length c) (.slice (some ad') ws.length c') p bad') 106 (0, 0))) (hr : Rest w W) => (⟨(blk_cell hb 6).trans rfl, (blk_cell hb 9).trans rfl, xN0 W hr⟩ : W.cell? ⟨r, 6, none⟩ = some h.v6 ∧ W.cell? ⟨r, 9, none⟩ = some (.slice (some ad') ws.length c') ∧ W.cell? ad' = some (.int .i64 (nI ws 0))))
  have HW3 := Lib.hid (hW 3 (by omega))
  have X1 := Lib.hid xW1
  have X2 := Lib.hid xW2
  have Dn := Lib.hid (rd_need_ok H 4 (by omega))
  have HH := Lib.hid H
  have HG := Lib.hid hG
  have k1 := hw 3
  clear hN hW H L hG hw xW1 xW2 xN0
  go_enter Tryz.func84, Tryz.ntmps84
  go_wp2_with (go_at_call 111; (with_reducible refine Dn.out.mono ?_); clear Dn; rintro e w2 ⟨rfl, H2, F2⟩)
  obtain ⟨wd, hwd⟩ : ∃ wd, w2.drew = wd := ⟨_, rfl⟩
  have H3 : Rd B r h s p false (.slice (some ad) ws.length c) (.slice (some ad') ws.length c') wd := hwd ▸ H2.drew
  have F3 : But (fun k => k = r) w wd := hwd ▸ F2.drew
  refine wp_region_sch (fun w' => w'.cell? ⟨r, 6, none⟩ = some h.v6 ∧ w'.cell? ⟨r, 9, none⟩ = some (.slice (some ad') ws.length c') ∧ w'.cell? ad' = some (.int .i64 (nI ws 0))) 17 [(false, 0), (false, 1), (false, 2), (false, 3), (false, 4), (false, 5), (false, 6), (false, 7), (false, 8), (false, 9), (false, 10), (false, 11), (true, 12), (true, 13), (false, 14), (false, 15), (false, 16)] (by kernel_rfl) (by kernel_rfl) (fun _ a d _ _ h => by cases d <;> exact h) wd hwd (SG.out wd _ H3.blk (HH.out.rest F3)) ?_
  clear hwd F2 H2
  try dsimp only
  repeat (refine' sch_pure rfl rfl ?_ ?_; rotate_left; · (rintro w' ⟨s0, s1, s2⟩; go_simp <;> rfl)
          simp only [Act.put, List.setIfInBounds_toArray, List.set_cons_zero, List.set_cons_succ])
  obtain ⟨col, hrows, HO, HF⟩ := pre6 HH.out F3
  have hne : some r ≠ h.v6.ownBlock := Kd.R_ne HO H3.blk (by decide)
  obtain ⟨inner, hown⟩ := Kd.R_own HO
  have B4 := HH.out.toBelow F3
  have hsz := F3.size
  have hBase := HH.out.base
  have hlt4 := H3.lt
  (refine sch_alone rfl (fun K hK => ?_); go_simp; refine hK.out _ _ (SG.out _ _ (blk_alloc H3.blk _) ((HH.out.rest F3).alloc _)) ?_; clear hK K)
  (refine sch_alone rfl (fun K hK => ?_); refine Kd.R_append_step (Kd.int .i64) (w0 := w) B (by rfl) (.tmp 9) (.tmp 16) _ 3 _ 8 (by rfl) rfl info3 rfl (by decide) (by omega) h.v6 s.ro (nI ws 0) _ _ (fun _ => False) rfl rfl rfl (fun _ hk => hk.elim) HF HO B4 (by omega) (by omega) ?_; intro v1 w5 HR1 HB1 hg1 hat1; refine hK.out _ _ (SG.out w5 _ (blk_grown H3.blk hg1 hne) ((HH.out.rest F3).own hown (by decide) hg1)) ?_; clear hK K)
  obtain ⟨A1, c1, rfl⟩ := Kd.R_slice HR1
  try simp only [Act.put, List.setIfInBounds_toArray, List.set_cons_zero, List.set_cons_succ]
  repeat (refine' sch_pure rfl rfl ?_ ?_; rotate_left; · (rintro w' ⟨s0, s1, s2⟩; go_simp <;> rfl)
          simp only [Act.put, List.setIfInBounds_toArray, List.set_cons_zero, List.set_cons_succ])
  have hb5 := blk_grown H3.blk hg1 hne
  have c0 := (blk_cell hb5 6).trans (show _ = some h.v6 from rfl)
  have g0 := blk_frozen hb5 6
  refine sch_last rfl (fun K hK => ?_)
  go_simp
  refine hK.out _ _ ?_
  obtain ⟨a1, a2, a3⟩ := app6 HH.out hrows F3 H3.blk HR1 hg1
  rw [List.length_append, List.length_singleton] at a1 a2 a3
  obtain ⟨h2, hh2⟩ : ∃ h2, { h with v6 := Value.slice A1 (s.ro.length + 1) c1 } = h2 := ⟨_, rfl⟩
  rw [hh2] at a1
  have hs7' : ({ s with ro := s.ro ++ [nI ws 0] } : St).sw.length ≤ 1000000 := hs7
  obtain ⟨s2, hs2⟩ : ∃ s2, { s with ro := s.ro ++ [nI ws 0] } = s2 := ⟨_, rfl⟩
  rw [hs2] at a1 hs7'
  generalize w5.setCell ⟨r, 6, none⟩ (Value.slice A1 (s.ro.length + 1) c1) = w6 at *
  have HH6 := Lib.hid a1
  have xW1 := X1.out
  have xW2 := X2.out
  have HS2 := Lib.hid hs2
  have HH2 := Lib.hid hh2
  have SG2 := Lib.hid (fun (W : World) (bad' : Bool) (hb : W.heap[r]? = some (.cells (h2.cells (.slice (some ad) ws.length c) (.slice (some ad') ws.length c') p bad') 106 (0, 0))) (hr : Rest w W) => (⟨(blk_cell hb 7).trans rfl, (blk_cell hb 8).trans rfl, xW1 W hr, xW2 W hr⟩ : W.cell? ⟨r, 7, none⟩ = some h2.v7 ∧ W.cell? ⟨r, 8, none⟩ = some (.slice (some ad) ws.length c) ∧ W.cell? ⟨ad.block, ad.off + 1, none⟩ = some (.string (wI ws 1)) ∧ W.cell? ⟨ad.block, ad.off + 2, none⟩ = some (.string (wI ws 2))))
  clear xW1 xW2 hs2 hh2 HO hown HF hrows hne HR1 HB1 hg1 hat1 hb5 c0 g0 SG hs hs7
  clear B4 HH F3 H3
  go_wp2_with fail
  obtain ⟨wd2, hwd⟩ : ∃ wd2, w6.drew = wd2 := ⟨_, rfl⟩
  have H3 : Rd B r h2 s2 p false (.slice (some ad) ws.length c) (.slice (some ad') ws.length c') wd2 := hwd ▸ a1.drew
  have F3 : But (fun k => k = r) w6 wd2 := hwd ▸ (But.refl _ _).drew
  refine wp_region_sch (fun w' => w'.cell? ⟨r, 7, none⟩ = some h2.v7 ∧ w'.cell? ⟨r, 8, none⟩ = some (.slice (some ad) ws.length c) ∧ w'.cell? ⟨ad.block, ad.off + 1, none⟩ = some (.string (wI ws 1)) ∧ w'.cell? ⟨ad.block, ad.off + 2, none⟩ = some (.string (wI ws 2))) 28 [(false, 0), (false, 1), (false, 2), (false, 3), (false, 4), (false, 5), (false, 6), (false, 7), (false, 8), (false, 9), (false, 10), (false, 11), (false, 12), (false, 13), (false, 14), (false, 15), (false, 16), (false, 17), (false, 18), (false, 19), (false, 20), (true, 21), (false, 22), (true, 23), (true, 24), (false, 25), (false, 26), (false, 27)] (by kernel_rfl) (by kernel_rfl) (fun _ a d _ _ h => by cases d <;> exact h) wd2 hwd (SG2.out wd2 _ H3.blk (a3.trans (a1.rest F3))) ?_
  clear hwd
  have Dk := Lib.hid (rd_keyAt' H3 (HG.out.on (a2.trans (a1.toBelow F3))).here 3 3 rfl (by omega) (HW3.out wd2 (a3.trans (a1.rest F3))) k1)
  clear H3 a1
  try dsimp only
  repeat (refine' sch_pure rfl rfl ?_ ?_; rotate_left; · (rintro w' ⟨s0, s1, s2, s3⟩; go_simp <;> rfl)
          simp only [Act.put, List.setIfInBounds_toArray, List.set_cons_zero, List.set_cons_succ])
  (refine sch_alone rfl (fun K hK => ?_); go_simp; refine Dk.out.mono ?_; rintro e w4 ⟨rfl, H4, F4⟩; have F5 := F3.trans F4; refine hK.out _ _ (SG2.out w4 _ H4.blk (a3.trans (HH6.out.rest F5))) ?_; clear hK K)
  try simp only [Act.put, List.setIfInBounds_toArray, List.set_cons_zero, List.set_cons_succ]
  repeat (refine' sch_pure rfl rfl ?_ ?_; rotate_left; · (rintro w' ⟨s0, s1, s2, s3⟩; go_simp <;> rfl)
          simp only [Act.put, List.setIfInBounds_toArray, List.set_cons_zero, List.set_cons_succ])
  obtain ⟨col, hrows, HO, HF⟩ := pre7 HH6.out F5
  have hne : some r ≠ h2.v7.ownBlock := Kd.R_ne HO H4.blk (by decide)
  obtain ⟨inner, hown⟩ := Kd.R_own HO
  have B4 := HH6.out.toBelow F5
  have hsz := F5.size
  have hBase := HH6.out.base
  have hlt4 := H4.lt
  (refine sch_alone rfl (fun K hK => ?_); go_simp; refine hK.out _ _ (SG2.out _ _ (blk_alloc H4.blk _) (a3.trans ((HH6.out.rest F5).alloc _))) ?_; clear hK K)
  (refine sch_alone rfl (fun K hK => ?_); refine Kd.R_append_step k82 (w0 := w6) B (by rfl) (.tmp 26) (.tmp 44) _ 82 _ 32 (by rfl) rfl info82 rfl (by decide) (by omega) h2.v7 s2.sw ⟨yesI (wI ws 1), keyI (wI ws 3), yesI (wI ws 2)⟩ _ _ (fun _ => False) rfl rfl (k82_mkM _ _ _ _) (fun _ hk => hk.elim) HF HO B4 (by omega) (by omega) ?_; intro v1 w9 HR1 HB1 hg1 hat1; refine hK.out _ _ (SG2.out w9 _ (blk_grown H4.blk hg1 hne) (a3.trans ((HH6.out.rest F5).own hown (by decide) hg1))) ?_; clear hK K)
  obtain ⟨A1, c1, rfl⟩ := Kd.R_slice HR1
  try simp only [Act.put, List.setIfInBounds_toArray, List.set_cons_zero, List.set_cons_succ]
  repeat (refine' sch_pure rfl rfl ?_ ?_; rotate_left; · (rintro w' ⟨s0, s1, s2, s3⟩; go_simp <;> rfl)
          simp only [Act.put, List.setIfInBounds_toArray, List.set_cons_zero, List.set_cons_succ])
  have hb5 := blk_grown H4.blk hg1 hne
  have c0 := (blk_cell hb5 7).trans (show _ = some h2.v7 from rfl)
  have g0 := blk_frozen hb5 7
  refine sch_last rfl (fun K hK => ?_)
  go_simp
  refine hK.out _ _ ?_
  go_wp2
  go_end0
  obtain ⟨d1, d2, d3⟩ := app7 HH6.out hrows F5 H4.blk HR1 hg1
  rw [List.length_append, List.length_singleton] at d1 d2 d3
  exact RdPost.yes d1 (a2.trans d2) (a3.trans d3) (by rw [← HOO.out, ← HS2.out]; unfold stepCore; rw [if_pos h8]; cases keyOk (wI ws 3) <;> rfl)
 ·have Dn := Lib.hid (rd_need_no H 4 (by omega))
  have HH := Lib.hid H
  clear hN hW H L hG hw
  go_enter Tryz.func84, Tryz.ntmps84
  go_wp2_with (go_at_call 111; (with_reducible refine Dn.out.mono ?_); clear Dn; rintro e w2 ⟨rfl, H2, F2⟩)
  go_end0
  exact RdPost.yes H2 (HH.out.toBelow F2) (HH.out.rest F2) (by rw [← HOO.out]; unfold stepCore; rw [if_neg h8]; rfl)
end Go.Proofs.YtmcjccigglekpaaGreatDoor.Given
namespace Go.Proofs.YtmcjccigglekpaaGreatDoor.Given
open Go Go.RowKit Go.Proofs Go.Proofs.YtmcjccigglekpaaGreatDoorW.PrintWords Go.Proofs.YtmcjccigglekpaaGreatDoorW.PrintLast Go.Proofs.YtmcjccigglekpaaGreatDoorW.PrintMore Go.Proofs.YtmcjccigglekpaaGreatDoor.P

def stepFree (ws : List ByteArray) (s : St) (p : Int) : Option (St × Int) := some ({ s with fr := s.fr ++ [ws.map numS] }, p)
set_option maxRecDepth 100000 in
set_option maxHeartbeats 4000000 in
theorem rd_free {B r : Nat} {h : Rv} {s : St} {p : Int} {wv nv : Value} {w : World} {ws : List ByteArray} {ns : List Int} (H : Rd B r h s p false wv nv w) (L : Line w wv nv ws ns) (hl : ns.length ≤ 1000000) (hs : s.fr.length ≤ 1000000) :
  Calls Tryz.prog 85 #[.pointer (some ⟨r, 0, none⟩)] w (RdPost B r (stepFree ws s p) w) := by
 generalize hoo : stepFree ws s p = oo
 have HOO := Lib.hid hoo
 clear hoo
 obtain ⟨⟨A, c, A', c', e1, e2, _, hN⟩, hns⟩ := L
 subst e2
 have HNS := Lib.hid hns
 clear hns e1
 have hlt := H.lt
 have SG := Lib.hid (fun (W : World) (bad' : Bool) (hb : W.heap[r]? = some (.cells (h.cells wv (.slice A' ns.length c') p bad') 106 (0, 0))) (hr : Rest w W) => ((blk_cell hb 1).trans rfl : W.cell? ⟨r, 1, none⟩ = some h.v1))
 have HH := Lib.hid H
 obtain ⟨wd, hwd⟩ : ∃ wd, w.drew = wd := ⟨_, rfl⟩
 have H3 : Rd B r h s p false wv (.slice A' ns.length c') wd := hwd ▸ H.drew
 have F3 : But (fun k => k = r) w wd := hwd ▸ (But.refl _ _).drew
 have Dk := Lib.hid (rd_places H3.blk (show _ = some (Value.slice A' ns.length c') from rfl) (hN wd (HH.out.rest F3)) hl)
 clear hN H
 go_enter Tryz.func85, Tryz.ntmps85
 go_wp2_with fail
 refine wp_region_sch (fun w' => w'.cell? ⟨r, 1, none⟩ = some h.v1) 15 [(false, 0), (false, 1), (false, 2), (false, 3), (false, 4), (false, 5), (false, 6), (false, 7), (true, 8), (true, 9), (true, 10), (false, 11), (false, 12), (false, 13), (false, 14)] (by kernel_rfl) (by kernel_rfl) (fun _ a d _ _ h => by cases d <;> exact h) wd hwd (SG.out wd _ H3.blk (HH.out.rest F3)) ?_
 clear hwd
 try dsimp only
 repeat (refine' sch_pure rfl rfl ?_ ?_; rotate_left; · (rintro w' s0; go_simp <;> rfl)
         simp only [Act.put, List.setIfInBounds_toArray, List.set_cons_zero, List.set_cons_succ])
 (refine sch_alone rfl (fun K hK => ?_); go_simp; refine Dk.out.mono ?_; rintro e w4 ⟨v, rfl, HP, B34⟩; have H4 := H3.below B34; have F5 := F3.below B34; obtain ⟨Ap, cp, rfl⟩ := Kd.R_slice HP; refine hK.out _ _ (SG.out w4 _ H4.blk (HH.out.rest F5)) ?_; clear hK K)
 try simp only [Act.put, List.setIfInBounds_toArray, List.set_cons_zero, List.set_cons_succ]
 have hsz3 := F3.size
 have hBase3 := H3.base
 have hlt3 := H3.lt
 have HP2 := Kd.M_row (Kd.R_mono (Kd.R_lower (Kd.R_bound HP) (show B ≤ wd.heap.size by omega)) (ok' := fun k => wd.heap.size ≤ k) (fun k hk => hk.2.1))
 have HOK : ∀ col, Rows B r col h s w → ∀ k, wd.heap.size ≤ k → newCol col w.heap.size 1 k = 1 ∧ some k ≠ h.v1.ownBlock := fun col hr k hk => ⟨newCol_ge (by omega), fun e => by have := Kd.R_lt (Kd.S_R hr.r1) k e.symm; omega⟩
 repeat (refine' sch_pure rfl rfl ?_ ?_; rotate_left; · (rintro w' s0; go_simp <;> rfl)
         simp only [Act.put, List.setIfInBounds_toArray, List.set_cons_zero, List.set_cons_succ])
 obtain ⟨col, hrows, HO, HF⟩ := pre1 HH.out F5
 have hne : some r ≠ h.v1.ownBlock := Kd.R_ne (Kd.S_R HO) H4.blk (by decide)
 obtain ⟨inner, hown⟩ := Kd.R_own (Kd.S_R HO)
 have B4 := HH.out.toBelow F5
 have hsz := F5.size
 have hBase := HH.out.base
 have hlt4 := H4.lt
 (refine sch_alone rfl (fun K hK => ?_); go_simp; refine hK.out _ _ (SG.out _ _ (blk_alloc H4.blk _) ((HH.out.rest F5).alloc _)) ?_; clear hK K)
 (refine sch_alone rfl (fun K hK => ?_); refine Kd.S_append_step (Kd.slice 3 (Kd.int .i64)) (w0 := w) B (by rfl) (.tmp 8) (.tmp 11) _ 29 _ 24 (by rfl) rfl info29 rfl (by decide) (by omega) h.v1 s.fr ns _ _ (fun k => wd.heap.size ≤ k) rfl rfl HP2 (HOK col hrows) HF (Kd.S_mono (Kd.S_step (Kd.S_bound hrows.r1) (fun k hk hl => F5.block k hl (fun e => by have := hk.1; subst e; have := hrows.cr; omega))) (fun k hk => ⟨(newCol_lt hk.2.2.1).trans hk.1, by have := hk.2.2.1; omega⟩)) B4 (by omega) (by omega) ?_; intro v1 w5 HR1 HB1 hg1 hat1; refine hK.out _ _ (SG.out w5 _ (blk_grown H4.blk hg1 hne) ((HH.out.rest F5).own hown (by decide) hg1)) ?_; clear hK K)
 obtain ⟨A1, c1, rfl⟩ := Kd.S_slice HR1
 try simp only [Act.put, List.setIfInBounds_toArray, List.set_cons_zero, List.set_cons_succ]
 repeat (refine' sch_pure rfl rfl ?_ ?_; rotate_left; · (rintro w' s0; go_simp <;> rfl)
         simp only [Act.put, List.setIfInBounds_toArray, List.set_cons_zero, List.set_cons_succ])
 have hb5 := blk_grown H4.blk hg1 hne
 have c0 := (blk_cell hb5 1).trans (show _ = some h.v1 from rfl)
 have g0 := blk_frozen hb5 1
 refine sch_last rfl (fun K hK => ?_)
 go_simp
 refine hK.out _ _ ?_
 go_wp2
 go_end0
 obtain ⟨a1, a2, a3⟩ := app1 HH.out hrows F5 H4.blk HR1 hg1
 rw [List.length_append, List.length_singleton] at a1 a2 a3
 exact RdPost.yes a1 a2 a3 (by rw [← HOO.out, HNS.out]; rfl)
def stepLimbo (ws : List ByteArray) (s : St) (p : Int) : Option (St × Int) := some ({ s with li := s.li ++ [ws.map numS] }, p)
set_option maxRecDepth 100000 in
set_option maxHeartbeats 4000000 in
theorem rd_limbo {B r : Nat} {h : Rv} {s : St} {p : Int} {wv nv : Value} {w : World} {ws : List ByteArray} {ns : List Int} (H : Rd B r h s p false wv nv w) (L : Line w wv nv ws ns) (hl : ns.length ≤ 1000000) (hs : s.li.length ≤ 1000000) :
  Calls Tryz.prog 86 #[.pointer (some ⟨r, 0, none⟩)] w (RdPost B r (stepLimbo ws s p) w) := by
 generalize hoo : stepLimbo ws s p = oo
 have HOO := Lib.hid hoo
 clear hoo
 obtain ⟨⟨A, c, A', c', e1, e2, _, hN⟩, hns⟩ := L
 subst e2
 have HNS := Lib.hid hns
 clear hns e1
 have hlt := H.lt
 have SG := Lib.hid (fun (W : World) (bad' : Bool) (hb : W.heap[r]? = some (.cells (h.cells wv (.slice A' ns.length c') p bad') 106 (0, 0))) (hr : Rest w W) => ((blk_cell hb 5).trans rfl : W.cell? ⟨r, 5, none⟩ = some h.v5))
 have HH := Lib.hid H
 obtain ⟨wd, hwd⟩ : ∃ wd, w.drew = wd := ⟨_, rfl⟩
 have H3 : Rd B r h s p false wv (.slice A' ns.length c') wd := hwd ▸ H.drew
 have F3 : But (fun k => k = r) w wd := hwd ▸ (But.refl _ _).drew
 have Dk := Lib.hid (rd_places H3.blk (show _ = some (Value.slice A' ns.length c') from rfl) (hN wd (HH.out.rest F3)) hl)
 clear hN H
 go_enter Tryz.func86, Tryz.ntmps86
 go_wp2_with fail
 refine wp_region_sch (fun w' => w'.cell? ⟨r, 5, none⟩ = some h.v5) 13 [(false, 0), (false, 1), (false, 2), (false, 3), (false, 4), (false, 5), (false, 6), (true, 7), (true, 8), (true, 9), (false, 10), (false, 11), (false, 12)] (by kernel_rfl) (by kernel_rfl) (fun _ a d _ _ h => by cases d <;> exact h) wd hwd (SG.out wd _ H3.blk (HH.out.rest F3)) ?_
 clear hwd
 try dsimp only
 repeat (refine' sch_pure rfl rfl ?_ ?_; rotate_left; · (rintro w' s0; go_simp <;> rfl)
         simp only [Act.put, List.setIfInBounds_toArray, List.set_cons_zero, List.set_cons_succ])
 (refine sch_alone rfl (fun K hK => ?_); go_simp; refine Dk.out.mono ?_; rintro e w4 ⟨v, rfl, HP, B34⟩; have H4 := H3.below B34; have F5 := F3.below B34; obtain ⟨Ap, cp, rfl⟩ := Kd.R_slice HP; refine hK.out _ _ (SG.out w4 _ H4.blk (HH.out.rest F5)) ?_; clear hK K)
 try simp only [Act.put, List.setIfInBounds_toArray, List.set_cons_zero, List.set_cons_succ]
 have hsz3 := F3.size
 have hBase3 := H3.base
 have hlt3 := H3.lt
 have HP2 := Kd.M_row (Kd.R_mono (Kd.R_lower (Kd.R_bound HP) (show B ≤ wd.heap.size by omega)) (ok' := fun k => wd.heap.size ≤ k) (fun k hk => hk.2.1))
 have HOK : ∀ col, Rows B r col h s w → ∀ k, wd.heap.size ≤ k → newCol col w.heap.size 5 k = 5 ∧ some k ≠ h.v5.ownBlock := fun col hr k hk => ⟨newCol_ge (by omega), fun e => by have := Kd.R_lt (Kd.S_R hr.r5) k e.symm; omega⟩
 repeat (refine' sch_pure rfl rfl ?_ ?_; rotate_left; · (rintro w' s0; go_simp <;> rfl)
         simp only [Act.put, List.setIfInBounds_toArray, List.set_cons_zero, List.set_cons_succ])
 obtain ⟨col, hrows, HO, HF⟩ := pre5 HH.out F5
 have hne : some r ≠ h.v5.ownBlock := Kd.R_ne (Kd.S_R HO) H4.blk (by decide)
 obtain ⟨inner, hown⟩ := Kd.R_own (Kd.S_R HO)
 have B4 := HH.out.toBelow F5
 have hsz := F5.size
 have hBase := HH.out.base
 have hlt4 := H4.lt
 (refine sch_alone rfl (fun K hK => ?_); go_simp; refine hK.out _ _ (SG.out _ _ (blk_alloc H4.blk _) ((HH.out.rest F5).alloc _)) ?_; clear hK K)
 (refine sch_alone rfl (fun K hK => ?_); refine Kd.S_append_step (Kd.slice 3 (Kd.int .i64)) (w0 := w) B (by rfl) (.tmp 7) (.tmp 10) _ 29 _ 24 (by rfl) rfl info29 rfl (by decide) (by omega) h.v5 s.li ns _ _ (fun k => wd.heap.size ≤ k) rfl rfl HP2 (HOK col hrows) HF (Kd.S_mono (Kd.S_step (Kd.S_bound hrows.r5) (fun k hk hl => F5.block k hl (fun e => by have := hk.1; subst e; have := hrows.cr; omega))) (fun k hk => ⟨(newCol_lt hk.2.2.1).trans hk.1, by have := hk.2.2.1; omega⟩)) B4 (by omega) (by omega) ?_; intro v1 w5 HR1 HB1 hg1 hat1; refine hK.out _ _ (SG.out w5 _ (blk_grown H4.blk hg1 hne) ((HH.out.rest F5).own hown (by decide) hg1)) ?_; clear hK K)
 obtain ⟨A1, c1, rfl⟩ := Kd.S_slice HR1
 try simp only [Act.put, List.setIfInBounds_toArray, List.set_cons_zero, List.set_cons_succ]
 repeat (refine' sch_pure rfl rfl ?_ ?_; rotate_left; · (rintro w' s0; go_simp <;> rfl)
         simp only [Act.put, List.setIfInBounds_toArray, List.set_cons_zero, List.set_cons_succ])
 have hb5 := blk_grown H4.blk hg1 hne
 have c0 := (blk_cell hb5 5).trans (show _ = some h.v5 from rfl)
 have g0 := blk_frozen hb5 5
 refine sch_last rfl (fun K hK => ?_)
 go_simp
 refine hK.out _ _ ?_
 go_wp2
 go_end0
 obtain ⟨a1, a2, a3⟩ := app5 HH.out hrows F5 H4.blk HR1 hg1
 rw [List.length_append, List.length_singleton] at a1 a2 a3
 exact RdPost.yes a1 a2 a3 (by rw [← HOO.out, HNS.out]; rfl)
end Go.Proofs.YtmcjccigglekpaaGreatDoor.Given
namespace Go.Proofs.YtmcjccigglekpaaGreatDoor.Given
open Go Go.RowKit Go.Proofs Go.Proofs.YtmcjccigglekpaaGreatDoorW.PrintWords Go.Proofs.YtmcjccigglekpaaGreatDoorW.PrintLast Go.Proofs.YtmcjccigglekpaaGreatDoorW.PrintMore Go.Proofs.YtmcjccigglekpaaGreatDoor.P

theorem nI_at {ws : List ByteArray} {i : Nat} (hk : i < ws.length) : nI ws i = numS ws[i] := by unfold nI wI; rw [List.getD_eq_getElem?_getD, List.getElem?_eq_getElem hk]; rfl
theorem rd_object_ok' {B r : Nat} {h : Rv} {s : St} {p : Int} {A' : Option Addr} {c' : Nat} {wv : Value} {w : World} {ws : List ByteArray} (H : Rd B r h s p false wv (.slice A' ws.length c') w) (hl : 0 < ws.length)
  (hN : ∃ ad, A' = some ad ∧ ∀ w', Rest w w' → w'.cell? ad = some (.int .i64 (nI ws 0))) (h1 : 0 ≤ nI ws 0) (h2 : nI ws 0 < s.po.length) :
  Calls Tryz.prog 113 #[.pointer (some ⟨r, 0, none⟩)] w fun e w' => e = .returned (.tuple #[.int .i64 (nI ws 0), .bool true]) ∧ ∃ m, w' = w.drewN m := by
 rw [nI_at hl] at *
 exact rd_object_ok H hl (fun w' hr => hN.elim fun ad ha => ⟨ad, ha.1, by rw [add_zero_]; exact ha.2 w' hr⟩) h1 h2
theorem rd_object_no' {B r : Nat} {h : Rv} {s : St} {p : Int} {A' : Option Addr} {c' : Nat} {wv : Value} {w : World} {ws : List ByteArray} (H : Rd B r h s p false wv (.slice A' ws.length c') w) (hl : 0 < ws.length)
  (hN : ∃ ad, A' = some ad ∧ ∀ w', Rest w w' → w'.cell? ad = some (.int .i64 (nI ws 0))) (h12 : ¬ (0 ≤ nI ws 0 ∧ nI ws 0 < s.po.length)) :
  Calls Tryz.prog 113 #[.pointer (some ⟨r, 0, none⟩)] w fun e w' => e = .returned (.tuple #[.int .i64 0, .bool false]) ∧ (Rd B r h s p true wv (.slice A' ws.length c') w' ∧ But (fun k => k = r) w w') := by
 rw [nI_at hl] at *
 exact rd_object_no H hl (fun w' hr => hN.elim fun ad ha => ⟨ad, ha.1, by rw [add_zero_]; exact ha.2 w' hr⟩) h12

section
variable {α : Type} {d' : Kd α} {e' e B g n cap : Nat} {W : World} {xs : List (List α)} {ok okg : Nat → Prop}
/-- A row of one's own put into a row of rows. -/
theorem S_put1 (h : Kd.S (Kd.slice e' d') e W B (fun k => ok k ∧ ¬ okg k) (.slice (some ⟨g, 0, none⟩) n cap) xs) (k : Nat) (hk : k < n) {v : Value} {x' : List α} (hR : d'.R e' W B okg v x') (hg : ∀ k, okg k → ok k ∧ k ≠ g) :
  Kd.S (Kd.slice e' d') e (W.setCell ⟨g, k, none⟩ v) B ok (.slice (some ⟨g, 0, none⟩) n cap) (xs.set k x') := by
 obtain ⟨oki, c, hcl, _, _, _, _, hH⟩ := Kd.S_elem h [] (k : Int) (by omega) (by omega)
 have hcl1 : c.length = 1 := hcl
 have hM := Kd.M_row hR
 have h2 := (Kd.S_seg (okg := okg) hH (by omega) (by omega) (seg := [v]) (j := 0) (show 0 + 1 ≤ 1 by omega) (x' := x') (okp := okg) (by
  have hz : c.take 0 ++ [v] ++ c.drop (0 + [v].length) = [v] := by
   match c, hcl1 with
   | [x], _ => rfl
  rw [hz]; exact hM) (fun k hk => .inr hk) hg).1
 rw [Int.toNat_natCast] at h2
 have e1 : k * (Kd.slice e' d').sz + 0 = k := by show k * 1 + 0 = k; omega
 rw [e1] at h2
 exact h2
theorem S_cell1 {okq : Nat → Prop} (h : Kd.S (Kd.slice e' d') e W B okq (.slice (some ⟨g, 0, none⟩) n cap) xs) (k : Nat) (hk : k < n) : ∃ u, W.cell? ⟨g, k, none⟩ = some u ∧ W.frozen? ⟨g, k, none⟩ = false := by
 obtain ⟨oki, c, hcl, _, hcc, hfr, _, _⟩ := Kd.S_elem h [] (k : Int) (by omega) (by omega)
 have hcl1 : c.length = 1 := hcl
 have h1 := hcc 0 _ (List.getElem?_eq_getElem (by omega))
 have h2 := hfr 0
 rw [Int.toNat_natCast] at h1 h2
 have e1 : k * (Kd.slice e' d').sz + 0 = k := by show k * 1 + 0 = k; omega
 rw [e1] at h1 h2
 exact ⟨_, h1, h2⟩
end
def zcap : S87 := ⟨0, 0, 0, 0, 0⟩
def stepNode (ws : List ByteArray) (s : St) (p : Int) : Option (St × Int) :=
 if ws.length = 1 then (if 0 ≤ nI ws 0 ∧ nI ws 0 < s.po.length then some ({ s with no := s.no.set (nI ws 0).toNat (List.replicate 8 zcap) }, p) else none) else none

set_option maxRecDepth 100000 in
set_option maxHeartbeats 4000000 in
theorem rd_node {B r : Nat} {h : Rv} {s : St} {p : Int} {wv nv : Value} {w : World} {ws : List ByteArray} {ns : List Int} (H : Rd B r h s p false wv nv w) (L : Line w wv nv ws ns) :
  Calls Tryz.prog 79 #[.pointer (some ⟨r, 0, none⟩)] w (RdPost B r (stepNode ws s p) w) := by
 generalize hoo : stepNode ws s p = oo
 have HOO := Lib.hid hoo
 clear hoo
 obtain ⟨A, c, A', c', rfl, rfl, hW, hN⟩ := L.get
 have hlt := H.lt
 by_cases h8 : ws.length = 1
 ·obtain ⟨ad', rfl, _⟩ := hN 0 (by omega) w (Rest.refl w)
  have xN0 : ∀ W, Rest w W → W.cell? ad' = some (.int .i64 (nI ws 0)) := fun W hr => by
   obtain ⟨q, e, hx⟩ := hN 0 (by omega) W hr
   obtain rfl := Option.some.inj e
   rwa [add_zero_] at hx
  have Dn := Lib.hid (rd_need_ok H 1 (by omega))
  have HH := Lib.hid H
  have XN := Lib.hid xN0
  by_cases h12 : 0 ≤ nI ws 0 ∧ nI ws 0 < s.po.length
  ·have Do := Lib.hid (fun w2 (H2 : Rd B r h s p false (.slice A ws.length c) (.slice (some ad') ws.length c') w2) (hr : Rest w w2) => rd_object_ok' H2 (by omega) ⟨ad', rfl, fun w' h' => XN.out w' (hr.trans h')⟩ h12.1 h12.2)
   have HE : Hid (oo = some ({ s with no := s.no.set (nI ws 0).toNat (List.replicate 8 zcap) }, p)) := Lib.hid (by rw [← HOO.out]; unfold stepNode; rw [if_pos h8, if_pos h12])
   obtain ⟨o, ho⟩ := Int.eq_ofNat_of_zero_le h12.1
   have ho2 : o < s.no.length := by rw [H.eq]; omega
   rw [ho] at Do HE
   rw [Int.toNat_natCast] at HE
   obtain ⟨col, hrows⟩ := H.rows
   obtain ⟨g, cap, hv2, hBg, hgl, cells, hgb⟩ := Kd.S_form hrows.r2 (by omega)
   have hcg : col g = 2 := (Kd.S_R hrows.r2).1 g (by rw [hv2]; simp [Value.ownBlock])
   have hgr : g ≠ r := fun e => by have := hrows.cr; rw [← e, hcg] at this; omega
   have i2 : decide (0 ≤ (o : Int)) = true := decide_eq_true (by omega)
   have j2 : decide (o < s.no.length) = true := decide_eq_true ho2
   have SG := Lib.hid (fun (W : World) (bad' : Bool) (hb : W.heap[r]? = some (.cells (h.cells (.slice A ws.length c) (.slice (some ad') ws.length c') p bad') 106 (0, 0))) => ((blk_cell hb 2).trans (show _ = some h.v2 from rfl) : W.cell? ⟨r, 2, none⟩ = some h.v2))
   rw [hv2] at SG
   have HRO := Lib.hid hrows
   have HV2 := Lib.hid hv2
   clear hN hW H L xN0 hrows hv2 HOO h12 ho XN
   go_enter Tryz.func79, Tryz.ntmps79
   go_wp2_with (first
    | (go_at_call 111; (with_reducible refine Dn.out.mono ?_); clear Dn; rintro e w2 ⟨rfl, H2, F2⟩)
    | (go_at_call 113; (with_reducible refine (Do.out w2 H2 (HH.out.rest F2)).mono ?_); clear Do; rintro e w2' ⟨rfl, m, rfl⟩))
   obtain ⟨wd, hwd⟩ : ∃ wd, (w2.drewN m).drew = wd := ⟨_, rfl⟩
   have F3 : But (fun k => k = r) w wd := hwd ▸ (F2.drewN m).drew
   have H3 : Rd B r h s p false (.slice A ws.length c) (.slice (some ad') ws.length c') wd := HH.out.still F3 (hwd ▸ H2.blk)
   refine wp_region_sch (fun w' => w'.cell? ⟨r, 2, none⟩ = some (.slice (some ⟨g, 0, none⟩) s.no.length cap)) 8 [(false, 0), (false, 1), (false, 2), (false, 3), (false, 4), (false, 5), (true, 6), (false, 7)] (by kernel_rfl) (by kernel_rfl) (fun _ a d _ _ h => by cases d <;> exact h) wd hwd (SG.out wd _ H3.blk) ?_
   clear hwd F2 H2
   try dsimp only
   repeat (refine' sch_pure rfl rfl ?_ ?_; rotate_left; · (rintro w' s0; go_simp <;> rfl)
           simp only [Act.put, List.setIfInBounds_toArray, List.set_cons_zero, List.set_cons_succ])
   have hsz := F3.size
   have hlt3 := H3.lt
   have hBase := H3.base
   have B3 := HH.out.toBelow F3
   (refine sch_alone rfl (fun K hK => ?_); refine Kd.R_make_step k87 wd.heap.size 87 (by rfl) (N := 18) rfl _ _ _ rfl 8 rfl rfl rfl (.agg #[.int .i64 0, .int .i64 0, .int .i64 0, .int .i64 0, .int .i64 0]) 40 info87 rfl (by decide) (by decide) zcap (ok := fun _ => True) (okp := fun _ => False) (k87_mkM _ _ _ zcap) (fun _ hk => hk.elim) trivial (by decide) (by decide) (w0 := wd) (Below.refl _ _) (Nat.le_refl _) ?_; intro v1 w5 HR1 HB1 hg1 hat1; refine hK.out _ _ (SG.out w5 _ (blk_grown H3.blk hg1 (by simp))) ?_; clear hK K)
   obtain ⟨A1, c1, rfl⟩ := Kd.R_slice HR1
   rw [List.length_replicate, show Int.toNat 8 = 8 from rfl] at HR1
   try simp only [Act.put, List.setIfInBounds_toArray, List.set_cons_zero, List.set_cons_succ]
   repeat (refine' sch_pure rfl rfl ?_ ?_; rotate_left; · (rintro w' s0; go_simp <;> rfl)
           simp only [Act.put, List.setIfInBounds_toArray, List.set_cons_zero, List.set_cons_succ])
   have F5 : But (fun k => k = r) w w5 := F3.grown hg1 (by simp)
   have HS5 : Kd.S (Kd.slice 87 k87) 56 w5 B (fun k => newCol col w.heap.size 2 k = 2 ∧ ¬ wd.heap.size ≤ k) (.slice (some ⟨g, 0, none⟩) s.no.length cap) s.no := by
    rw [← HV2.out]
    exact Kd.S_mono (Kd.S_step (Kd.S_bound HRO.out.r2) (fun k hk hl => F5.block k hl (fun e => by have := hk.1; subst e; have := HRO.out.cr; omega))) (fun k hk => ⟨(newCol_lt hk.2.2.1).trans hk.1, by have := hk.2.2.1; omega⟩)
   obtain ⟨u, cu, fu⟩ := S_cell1 HS5 o ho2
   have hb5 := blk_grown H3.blk hg1 (by simp)
   refine sch_last rfl (fun K hK => ?_)
   go_simp
   refine hK.out _ _ ?_
   go_wp2
   go_end0
   have T1 := S_put1 HS5 o ho2 (Kd.R_mono (Kd.R_lower (Kd.R_bound HR1) (show B ≤ wd.heap.size by omega)) (ok' := fun k => wd.heap.size ≤ k) (fun k hk => hk.2.1)) (fun k hk => ⟨newCol_ge (by omega), by omega⟩)
   rw [← HV2.out] at T1
   have F6 : But (fun k => k = r ∨ k = g) w (w5.setCell ⟨g, o, none⟩ (.slice A1 8 c1)) := (F5.mono (fun k hk => .inl hk)).set o _ (.inl (.inr rfl))
   have hR6 := HRO.out.put2 HH.out.lt (F6.mono (fun k hk => hk.elim .inl (fun e => .inr (e ▸ hcg)))) T1
   have hRd : Rd B r h { s with no := s.no.set o (List.replicate 8 zcap) } p false (.slice A ws.length c) (.slice (some ad') ws.length c') (w5.setCell ⟨g, o, none⟩ (.slice A1 8 c1)) :=
    ⟨blk_far hb5 (p := ⟨g, o, none⟩) (Ne.symm hgr) _, HH.out.base, ⟨_, hR6⟩, by show (s.no.set _ _).length = _; rw [List.length_set]; exact HH.out.eq, HH.out.port⟩
   exact RdPost.yes hRd (F6.toBelow (by omega) (fun k hk => hk.elim (fun e => e ▸ hBase) (fun e => e ▸ hBg))) (F6.restBlk HH.out.blk hgb (by decide)) HE.out
  ·have Do := Lib.hid (fun w2 (H2 : Rd B r h s p false (.slice A ws.length c) (.slice (some ad') ws.length c') w2) (hr : Rest w w2) => rd_object_no' H2 (by omega) ⟨ad', rfl, fun w' h' => XN.out w' (hr.trans h')⟩ h12)
   have HE : Hid (oo = none) := Lib.hid (by rw [← HOO.out]; unfold stepNode; rw [if_pos h8, if_neg h12])
   clear hN hW H L xN0 HOO h12 XN
   go_enter Tryz.func79, Tryz.ntmps79
   go_wp2_with (first
    | (go_at_call 111; (with_reducible refine Dn.out.mono ?_); clear Dn; rintro e w2 ⟨rfl, H2, F2⟩)
    | (go_at_call 113; (with_reducible refine (Do.out w2 H2 (HH.out.rest F2)).mono ?_); clear Do; rintro e w2' ⟨rfl, H3, F3⟩))
   go_end0
   exact RdPost.yes H3 (HH.out.toBelow (F2.trans F3)) (HH.out.rest (F2.trans F3)) HE.out
 ·have Dn := Lib.hid (rd_need_no H 1 (by omega))
  have HH := Lib.hid H
  clear hN hW H L
  go_enter Tryz.func79, Tryz.ntmps79
  go_wp2_with (go_at_call 111; (with_reducible refine Dn.out.mono ?_); clear Dn; rintro e w2 ⟨rfl, H2, F2⟩)
  go_end0
  exact RdPost.yes H2 (HH.out.toBelow F2) (HH.out.rest F2) (by rw [← HOO.out]; unfold stepNode; rw [if_neg h8]; rfl)
end Go.Proofs.YtmcjccigglekpaaGreatDoor.Given
namespace Go.Proofs.YtmcjccigglekpaaGreatDoor.Given
open Go Go.RowKit Go.Proofs Go.Proofs.YtmcjccigglekpaaGreatDoorW.PrintWords Go.Proofs.YtmcjccigglekpaaGreatDoorW.PrintLast Go.Proofs.YtmcjccigglekpaaGreatDoorW.PrintMore Go.Proofs.YtmcjccigglekpaaGreatDoor.P

def zport : S59 := ⟨0, 0, []⟩
def stepSize (ws : List ByteArray) (s : St) (p : Int) : Option (St × Int) :=
 if ws.length = 2 then (if 0 ≤ nI ws 0 ∧ nI ws 0 ≤ 64 ∧ s.no.length = 0 then some ({ s with no := List.replicate (nI ws 0).toNat [], po := List.replicate (nI ws 0).toNat zport }, p) else none) else none
theorem Rd.setBad' {B r : Nat} {h : Rv} {s : St} {p : Int} {bad : Bool} {wv nv : Value} {w w2 : World} (H : Rd B r h s p bad wv nv w) (F : But (fun k => k = r) w w2) (hb : w2.heap[r]? = some (.cells (h.cells wv nv p bad) 106 (0, 0))) : Rd B r h s p true wv nv (w2.setCell ⟨r, 11, none⟩ (.bool true)) ∧ But (fun k => k = r) w (w2.setCell ⟨r, 11, none⟩ (.bool true)) :=
 ⟨(H.still F hb).setBad true, F.set 11 _ (.inl rfl)⟩

set_option maxRecDepth 100000 in
set_option maxHeartbeats 4000000 in
theorem rd_size {B r : Nat} {h : Rv} {s : St} {p : Int} {wv nv : Value} {w : World} {ws : List ByteArray} {ns : List Int} (H : Rd B r h s p false wv nv w) (L : Line w wv nv ws ns) :
  Calls Tryz.prog 77 #[.pointer (some ⟨r, 0, none⟩)] w (RdPost B r (stepSize ws s p) w) := by
 generalize hoo : stepSize ws s p = oo
 have HOO := Lib.hid hoo
 clear hoo
 obtain ⟨A, c, A', c', rfl, rfl, hW, hN⟩ := L.get
 have hlt := H.lt
 by_cases h8 : ws.length = 2
 ·obtain ⟨ad', rfl, _⟩ := hN 0 (by omega) w (Rest.refl w)
  have xN0 : ∀ W, Rest w W → W.cell? ad' = some (.int .i64 (nI ws 0)) := fun W hr => by
   obtain ⟨q, e, hx⟩ := hN 0 (by omega) W hr
   obtain rfl := Option.some.inj e
   rwa [add_zero_] at hx
  have Dn := Lib.hid (rd_need_ok H 2 (by omega))
  have HH := Lib.hid H
  have XN := Lib.hid xN0
  obtain ⟨⟨A2, c2, e2, hl2⟩, _⟩ := rd_rows_reads H
  have HE2 := Lib.hid e2
  have hq : Hid (nI ws 0 = nI ws 0) := Lib.hid rfl
  generalize hm : nI ws 0 = m at hq XN xN0
  have HM := Lib.hid hm
  clear e2 hN hW H L xN0 hm hq
  by_cases h12 : 0 ≤ m ∧ m ≤ 64 ∧ s.no.length = 0
  ·have HE : Hid (oo = some ({ s with no := List.replicate m.toNat [], po := List.replicate m.toNat zport }, p)) := Lib.hid (by rw [← HOO.out]; unfold stepSize; rw [if_pos h8, HM.out, if_pos h12])
   have hp : p = -1 := by
    have h1 := HH.out.port
    have h2 := HH.out.eq
    omega
   have HP := Lib.hid hp
   obtain ⟨k, rfl⟩ := Int.eq_ofNat_of_zero_le h12.1
   have hk64 : k ≤ 64 := by omega
   have hz := Lib.hid h12.2.2
   have b1 : decide ((k : Int) < 0) = false := decide_eq_false (by omega)
   have b2 : decide (64 < (k : Int)) = false := decide_eq_false (by omega)
   have b3 : decide (0 < (s.no.length : Int)) = false := decide_eq_false (by omega)
   have b4 : decide (0 < s.no.length) = false := decide_eq_false (by omega)
   have HB := Lib.hid (fun w2 (H2 : Rd B r h s p false (.slice A ws.length c) (.slice (some ad') ws.length c') w2) => (⟨(blk_cell H2.blk 2).trans (show _ = some h.v2 from rfl), (blk_cell H2.blk 9).trans rfl⟩ : w2.cell? ⟨r, 2, none⟩ = some h.v2 ∧ w2.cell? ⟨r, 9, none⟩ = some (.slice (some ad') ws.length c')))
   rw [HE2.out] at HB
   obtain ⟨col, hrows⟩ := HH.out.rows
   have HRO := Lib.hid hrows
   have h8r := hrows.cr
   have hBr := HH.out.base
   clear hrows
   clear h12 HOO hp
   go_enter Tryz.func77, Tryz.ntmps77
   go_wp2_with (first | (go_at_call 111; (with_reducible refine Dn.out.mono ?_); clear Dn; rintro e w2 ⟨rfl, H2, F2⟩; have xn := XN.out w2 (HH.out.rest F2); obtain ⟨k2, k9⟩ := HB.out w2 H2; have f2 := blk_frozen H2.blk 2) | (refine Kd.S_make (Kd.slice 87 k87) (w0 := w) B 56 rfl (N := 39) rfl _ _ _ rfl (k : Int) rfl rfl rfl (.slice none 0 0) 24 info56 rfl (by decide) (by decide) ([] : List S87) (ok := fun i => newCol col w.heap.size 2 i = 2) (okp := fun _ => False) (Kd.M_row (Kd.R_nil _ _ _ _ _)) (fun _ hk => hk.elim) (newCol_ge F2.size) (by omega) (by omega) (HH.out.toBelow F2) (Nat.le_trans hBr (Nat.le_of_lt H2.lt)) ?_; intro v1 w5 HR1 HB1 hg1 hat1; obtain ⟨A1, c1, rfl⟩ := Kd.S_slice HR1; rw [Int.toNat_natCast, List.length_replicate] at HR1; have hb5 := blk_grown H2.blk hg1 (by simp); have hb6 := blk_set hb5 2 (.slice A1 k c1); have F6 := (F2.grown hg1 (by simp)).set 2 (.slice A1 k c1) (.inl rfl); have xn6 := XN.out _ (HH.out.rest F6); have k2' := (blk_cell hb5 2).trans (show _ = some h.v2 from rfl); have f2' := blk_frozen hb5 2; have k9' := (blk_cell hb6 9).trans (show _ = some (Value.slice (some ad') ws.length c') from rfl)) | (refine Kd.S_make k59 (w0 := w) B 59 rfl (N := 50) rfl _ _ _ rfl (k : Int) rfl rfl rfl (.agg #[.int .i64 0, .int .i64 0, .slice none 0 0]) 40 info59 rfl (by decide) (by decide) zport (ok := fun i => newCol (newCol col w.heap.size 2) (w5.setCell ⟨r, 2, none⟩ (.slice A1 k c1)).heap.size 4 i = 4) (okp := fun _ => False) (k59_mkM _ _ _ zport (Kd.R_nil _ _ _ _ _)) (fun _ hk => hk.elim) (newCol_ge (Nat.le_refl _)) (by omega) (by omega) (HH.out.toBelow F6) (Nat.le_trans hBr (Nat.le_of_lt (blk_lt hb6))) ?_; intro v1 w7 HR2 HB2 hg2 hat2; obtain ⟨A4, c4, rfl⟩ := Kd.S_slice HR2; rw [Int.toNat_natCast, List.length_replicate] at HR2; have hb7 := blk_grown hb6 hg2 (by simp); have k4' := (blk_cell hb7 4).trans (show _ = some h.v4 from rfl); have f4' := blk_frozen hb7 4))
   go_end0
   have hnr : ∀ i, newCol col w.heap.size 2 i = 2 → i ≠ r := fun i hi e => by subst e; rw [newCol_lt hlt, h8r] at hi; omega
   have T1 : Kd.S (Kd.slice 87 k87) 56 (w5.setCell ⟨r, 2, none⟩ (.slice A1 k c1)) B (fun i => newCol col w.heap.size 2 i = 2) (.slice A1 k c1) (List.replicate k []) := Kd.S_step HR1 (fun i hi _ => Below.heap_setCell _ ⟨r, 2, none⟩ _ i (hnr i hi))
   have R6 := HRO.out.put2 hlt (F6.mono (fun _ hk => .inl hk)) T1
   have hlt6 := blk_lt hb6
   generalize w5.setCell ⟨r, 2, none⟩ (.slice A1 k c1) = w6 at *
   have hnr4 : ∀ i, newCol (newCol col w.heap.size 2) w6.heap.size 4 i = 4 → i ≠ r := fun i hi e => by subst e; rw [newCol_lt hlt6, R6.cr] at hi; omega
   have F8 : But (fun i => i = r) w6 (w7.setCell ⟨r, 4, none⟩ (.slice A4 k c4)) := ((But.refl _ _).grown hg2 (by simp)).set 4 _ (.inl rfl)
   have T2 : Kd.S k59 59 (w7.setCell ⟨r, 4, none⟩ (.slice A4 k c4)) B (fun i => newCol (newCol col w.heap.size 2) w6.heap.size 4 i = 4) (.slice A4 k c4) (List.replicate k zport) := Kd.S_step HR2 (fun i hi _ => Below.heap_setCell _ ⟨r, 4, none⟩ _ i (hnr4 i hi))
   have R8 := R6.put4 hlt6 (F8.mono (fun _ hk => .inl hk)) T2
   have F := F6.trans F8
   have hRd : Rd B r { h with v2 := .slice A1 k c1, v4 := .slice A4 k c4 } { s with no := List.replicate k [], po := List.replicate k zport } p false (.slice A ws.length c) (.slice (some ad') ws.length c') (w7.setCell ⟨r, 4, none⟩ (.slice A4 k c4)) :=
    ⟨blk_put hb7 4 _ rfl, hBr, ⟨_, R8⟩, by show (List.replicate _ _).length = (List.replicate _ _).length; rw [List.length_replicate, List.length_replicate], .inl HP.out⟩
   exact RdPost.yes hRd (HH.out.toBelow F) (HH.out.rest F) HE.out
  ·have HE : Hid (oo = none) := Lib.hid (by rw [← HOO.out]; unfold stepSize; rw [if_pos h8, HM.out, if_neg h12])
   have HB := Lib.hid (fun w2 (H2 : Rd B r h s p false (.slice A ws.length c) (.slice (some ad') ws.length c') w2) => (⟨(blk_cell H2.blk 2).trans (show _ = some h.v2 from rfl), (blk_cell H2.blk 9).trans rfl, (blk_cell H2.blk 11).trans rfl⟩ : w2.cell? ⟨r, 2, none⟩ = some h.v2 ∧ w2.cell? ⟨r, 9, none⟩ = some (.slice (some ad') ws.length c') ∧ w2.cell? ⟨r, 11, none⟩ = some (.bool false)))
   rw [HE2.out] at HB
   have hcase : m < 0 ∨ ¬ m < 0 ∧ (64 < m ∨ ¬ 64 < m ∧ 0 < s.no.length) := by omega
   clear h12 HOO
   rcases hcase with c0 | ⟨c0, c1 | ⟨c1, c3⟩⟩
   ·have b1 : decide (m < 0) = true := decide_eq_true c0
    clear c0
    go_enter Tryz.func77, Tryz.ntmps77
    go_wp2_with (go_at_call 111; (with_reducible refine Dn.out.mono ?_); clear Dn; rintro e w2 ⟨rfl, H2, F2⟩; have xn := XN.out w2 (HH.out.rest F2); obtain ⟨k2, k9, k11⟩ := HB.out w2 H2; have f11 := blk_frozen H2.blk 11)
    go_end0
    obtain ⟨d1, d2⟩ := HH.out.setBad' F2 H2.blk
    exact RdPost.yes d1 (HH.out.toBelow d2) (HH.out.rest d2) HE.out
   ·have b1 : decide (m < 0) = false := decide_eq_false c0
    have b2 : decide (64 < m) = true := decide_eq_true c1
    clear c0 c1
    go_enter Tryz.func77, Tryz.ntmps77
    go_wp2_with (go_at_call 111; (with_reducible refine Dn.out.mono ?_); clear Dn; rintro e w2 ⟨rfl, H2, F2⟩; have xn := XN.out w2 (HH.out.rest F2); obtain ⟨k2, k9, k11⟩ := HB.out w2 H2; have f11 := blk_frozen H2.blk 11)
    go_end0
    obtain ⟨d1, d2⟩ := HH.out.setBad' F2 H2.blk
    exact RdPost.yes d1 (HH.out.toBelow d2) (HH.out.rest d2) HE.out
   ·have b1 : decide (m < 0) = false := decide_eq_false c0
    have b2 : decide (64 < m) = false := decide_eq_false c1
    have b3 : decide (0 < (s.no.length : Int)) = true := decide_eq_true (by omega)
    have b4 : decide (0 < s.no.length) = true := decide_eq_true c3
    clear c0 c1 c3
    go_enter Tryz.func77, Tryz.ntmps77
    go_wp2_with (go_at_call 111; (with_reducible refine Dn.out.mono ?_); clear Dn; rintro e w2 ⟨rfl, H2, F2⟩; have xn := XN.out w2 (HH.out.rest F2); obtain ⟨k2, k9, k11⟩ := HB.out w2 H2; have f11 := blk_frozen H2.blk 11)
    go_end0
    obtain ⟨d1, d2⟩ := HH.out.setBad' F2 H2.blk
    exact RdPost.yes d1 (HH.out.toBelow d2) (HH.out.rest d2) HE.out
 ·have Dn := Lib.hid (rd_need_no H 2 (by omega))
  have HH := Lib.hid H
  clear hN hW H L
  go_enter Tryz.func77, Tryz.ntmps77
  go_wp2_with (go_at_call 111; (with_reducible refine Dn.out.mono ?_); clear Dn; rintro e w2 ⟨rfl, H2, F2⟩)
  go_end0
  exact RdPost.yes H2 (HH.out.toBelow F2) (HH.out.rest F2) (by rw [← HOO.out]; unfold stepSize; rw [if_neg h8]; rfl)
end Go.Proofs.YtmcjccigglekpaaGreatDoor.Given
namespace Go.Proofs.YtmcjccigglekpaaGreatDoor.Given
open Go Go.RowKit Go.Proofs Go.Proofs.YtmcjccigglekpaaGreatDoorW.PrintWords Go.Proofs.YtmcjccigglekpaaGreatDoorW.PrintLast Go.Proofs.YtmcjccigglekpaaGreatDoorW.PrintMore Go.Proofs.YtmcjccigglekpaaGreatDoor.P

section
variable {B g n cap : Nat} {W : World} {xs : List S59} {ok : Nat → Prop}
theorem S_putPort (h : Kd.S k59 59 W B ok (.slice (some ⟨g, 0, none⟩) n cap) xs) (k : Nat) (hk : k < n) (a b : Int) :
  Kd.S k59 59 (((W.setCell ⟨g, k * 3, none⟩ (.int .i64 a)).setCell ⟨g, k * 3 + 1, none⟩ (.int .i64 b)).setCell ⟨g, k * 3 + 2, none⟩ (.slice none 0 0)) B ok (.slice (some ⟨g, 0, none⟩) n cap) (xs.set k ⟨a, b, []⟩) := by
 obtain ⟨oki, c, hcl, _, _, _, _, hH⟩ := Kd.S_elem h zport (k : Int) (by omega) (by omega)
 have hcl3 : c.length = 3 := hcl
 have h2 := (Kd.S_seg0 hH (by omega) (by omega) (seg := [.int .i64 a, .int .i64 b, .slice none 0 0]) (j := 0) (show 0 + 3 ≤ 3 by omega) (x' := ⟨a, b, []⟩) (okp := fun _ => False) (by
  have hz : c.take 0 ++ [.int .i64 a, .int .i64 b, .slice none 0 0] ++ c.drop (0 + [Value.int .i64 a, .int .i64 b, .slice none 0 0].length) = [.int .i64 a, .int .i64 b, .slice none 0 0] := by
   match c, hcl3 with
   | [x, y, z], _ => rfl
  rw [hz]; exact k59_mkM _ _ _ ⟨a, b, []⟩ (Kd.R_nil _ _ _ _ _)) (fun _ hk => hk.elim)).1
 rw [Int.toNat_natCast] at h2
 exact h2
theorem S_cell3 (h : Kd.S k59 59 W B ok (.slice (some ⟨g, 0, none⟩) n cap) xs) (k : Nat) (hk : k < n) : (∃ u, W.cell? ⟨g, k * 3, none⟩ = some u) ∧ (∃ u, W.cell? ⟨g, k * 3 + 1, none⟩ = some u) ∧ (∃ u, W.cell? ⟨g, k * 3 + 2, none⟩ = some u) ∧ W.frozen? ⟨g, k * 3, none⟩ = false ∧ W.frozen? ⟨g, k * 3 + 1, none⟩ = false ∧ W.frozen? ⟨g, k * 3 + 2, none⟩ = false := by
 obtain ⟨oki, c, hcl, _, hcc, hfr, _, _⟩ := Kd.S_elem h zport (k : Int) (by omega) (by omega)
 have hcl3 : c.length = 3 := hcl
 have h0 := hcc 0 _ (List.getElem?_eq_getElem (by omega))
 have h1 := hcc 1 _ (List.getElem?_eq_getElem (by omega))
 have h2 := hcc 2 _ (List.getElem?_eq_getElem (by omega))
 have f0 := hfr 0
 have f1 := hfr 1
 have f2 := hfr 2
 rw [Int.toNat_natCast] at h0 h1 h2 f0 f1 f2
 exact ⟨⟨_, h0⟩, ⟨_, h1⟩, ⟨_, h2⟩, f0, f1, f2⟩
end
def stepPort (ws : List ByteArray) (s : St) (p : Int) : Option (St × Int) :=
 if ws.length = 3 then (if 0 ≤ nI ws 0 ∧ nI ws 0 < s.po.length then some ({ s with po := s.po.set (nI ws 0).toNat ⟨nI ws 1, nI ws 2, []⟩ }, nI ws 0) else none) else none

set_option maxRecDepth 100000 in
set_option maxHeartbeats 4000000 in
theorem rd_readPort {B r : Nat} {h : Rv} {s : St} {p : Int} {wv nv : Value} {w : World} {ws : List ByteArray} {ns : List Int} (H : Rd B r h s p false wv nv w) (L : Line w wv nv ws ns) :
  Calls Tryz.prog 82 #[.pointer (some ⟨r, 0, none⟩)] w (RdPost B r (stepPort ws s p) w) := by
 generalize hoo : stepPort ws s p = oo
 have HOO := Lib.hid hoo
 clear hoo
 obtain ⟨A, c, A', c', rfl, rfl, hW, hN⟩ := L.get
 have hlt := H.lt
 by_cases h8 : ws.length = 3
 ·obtain ⟨ad', rfl, _⟩ := hN 0 (by omega) w (Rest.refl w)
  have xN0 : ∀ W, Rest w W → W.cell? ad' = some (.int .i64 (nI ws 0)) := fun W hr => by
   obtain ⟨q, e, hx⟩ := hN 0 (by omega) W hr
   obtain rfl := Option.some.inj e
   rwa [add_zero_] at hx
  have xN1 : ∀ W, Rest w W → W.cell? ⟨ad'.block, ad'.off + 1, none⟩ = some (.int .i64 (nI ws 1)) := fun W hr => by
   obtain ⟨q, e, hx⟩ := hN 1 (by omega) W hr
   obtain rfl := Option.some.inj e
   rwa [add_pos _ 1 (by decide)] at hx
  have xN2 : ∀ W, Rest w W → W.cell? ⟨ad'.block, ad'.off + 2, none⟩ = some (.int .i64 (nI ws 2)) := fun W hr => by
   obtain ⟨q, e, hx⟩ := hN 2 (by omega) W hr
   obtain rfl := Option.some.inj e
   rwa [add_pos _ 2 (by decide)] at hx
  have Dn := Lib.hid (rd_need_ok H 3 (by omega))
  have HH := Lib.hid H
  have XN := Lib.hid xN0
  by_cases h12 : 0 ≤ nI ws 0 ∧ nI ws 0 < s.po.length
  ·have Do := Lib.hid (fun w2 (H2 : Rd B r h s p false (.slice A ws.length c) (.slice (some ad') ws.length c') w2) (hr : Rest w w2) => rd_object_ok' H2 (by omega) ⟨ad', rfl, fun w' h' => XN.out w' (hr.trans h')⟩ h12.1 h12.2)
   have HE : Hid (oo = some ({ s with po := s.po.set (nI ws 0).toNat ⟨nI ws 1, nI ws 2, []⟩ }, nI ws 0)) := Lib.hid (by rw [← HOO.out]; unfold stepPort; rw [if_pos h8, if_pos h12])
   obtain ⟨o, ho⟩ := Int.eq_ofNat_of_zero_le h12.1
   have ho2 : o < s.po.length := by omega
   rw [ho] at Do HE
   rw [Int.toNat_natCast] at HE
   obtain ⟨col, hrows⟩ := H.rows
   obtain ⟨g, cap, hv4, hBg, hgl, cells, hgb⟩ := Kd.S_form hrows.r4 (by omega)
   have hcg : col g = 4 := (Kd.S_R hrows.r4).1 g (by rw [hv4]; simp [Value.ownBlock])
   have hgr : g ≠ r := fun e => by have := hrows.cr; rw [← e, hcg] at this; omega
   have i2 : decide (0 ≤ (o : Int)) = true := decide_eq_true (by omega)
   have j2 : decide (o < s.po.length) = true := decide_eq_true ho2
   have SG := Lib.hid (fun (W : World) (bad' : Bool) (hb : W.heap[r]? = some (.cells (h.cells (.slice A ws.length c) (.slice (some ad') ws.length c') p bad') 106 (0, 0))) (hr : Rest w W) => (⟨(blk_cell hb 4).trans (show _ = some h.v4 from rfl), (blk_cell hb 9).trans rfl, xN1 W hr, xN2 W hr⟩ : W.cell? ⟨r, 4, none⟩ = some h.v4 ∧ W.cell? ⟨r, 9, none⟩ = some (.slice (some ad') ws.length c') ∧ W.cell? ⟨ad'.block, ad'.off + 1, none⟩ = some (.int .i64 (nI ws 1)) ∧ W.cell? ⟨ad'.block, ad'.off + 2, none⟩ = some (.int .i64 (nI ws 2))))
   rw [hv4] at SG
   have HRO := Lib.hid hrows
   have HV4 := Lib.hid hv4
   clear hN hW H L xN0 xN1 xN2 hrows hv4 HOO h12 ho XN
   go_enter Tryz.func82, Tryz.ntmps82
   go_wp2_with (first
    | (go_at_call 111; (with_reducible refine Dn.out.mono ?_); clear Dn; rintro e w2 ⟨rfl, H2, F2⟩)
    | (go_at_call 113; (with_reducible refine (Do.out w2 H2 (HH.out.rest F2)).mono ?_); clear Do; rintro e w2' ⟨rfl, m, rfl⟩))
   obtain ⟨wd, hwd⟩ : ∃ wd, (w2.drewN m).drew = wd := ⟨_, rfl⟩
   have F3 : But (fun k => k = r) w wd := hwd ▸ (F2.drewN m).drew
   have H3 : Rd B r h s p false (.slice A ws.length c) (.slice (some ad') ws.length c') wd := HH.out.still F3 (hwd ▸ H2.blk)
   refine wp_region_sch (fun w' => w'.cell? ⟨r, 4, none⟩ = some (.slice (some ⟨g, 0, none⟩) s.po.length cap) ∧ w'.cell? ⟨r, 9, none⟩ = some (.slice (some ad') ws.length c') ∧ w'.cell? ⟨ad'.block, ad'.off + 1, none⟩ = some (.int .i64 (nI ws 1)) ∧ w'.cell? ⟨ad'.block, ad'.off + 2, none⟩ = some (.int .i64 (nI ws 2))) 20 [(false, 0), (false, 1), (false, 2), (false, 3), (false, 4), (false, 5), (false, 6), (false, 7), (false, 8), (false, 9), (false, 10), (false, 11), (false, 12), (false, 13), (false, 14), (false, 15), (false, 16), (false, 17), (false, 18), (false, 19)] (by kernel_rfl) (by kernel_rfl) (fun _ a d _ _ h => by cases d <;> exact h) wd hwd (SG.out wd _ H3.blk (HH.out.rest F3)) ?_
   clear hwd F2 H2
   try dsimp only
   repeat (refine' sch_pure rfl rfl ?_ ?_; rotate_left; · (rintro w' ⟨s0, s1, s2, s3⟩; go_simp <;> rfl)
           simp only [Act.put, List.setIfInBounds_toArray, List.set_cons_zero, List.set_cons_succ])
   have HS3 : Kd.S k59 59 wd B (fun k => newCol col w.heap.size 4 k = 4) (.slice (some ⟨g, 0, none⟩) s.po.length cap) s.po := by
    rw [← HV4.out]
    exact S_coloredB HRO.out.cr (by decide) HRO.out.r4 F3
   obtain ⟨⟨u0, cu0⟩, ⟨u1, cu1⟩, ⟨u2, cu2⟩, fu0, fu1, fu2⟩ := S_cell3 HS3 o ho2
   have hb3 := blk_far (blk_far (blk_far H3.blk (p := ⟨g, o * 3, none⟩) (Ne.symm hgr) (.int .i64 (nI ws 1))) (p := ⟨g, o * 3 + 1, none⟩) (Ne.symm hgr) (.int .i64 (nI ws 2))) (p := ⟨g, o * 3 + 2, none⟩) (Ne.symm hgr) (.slice none 0 0)
   have c10 := (blk_cell hb3 10).trans (show _ = some (Value.int .i64 p) from rfl)
   have f10 := blk_frozen hb3 10
   refine sch_last rfl (fun K hK => ?_)
   go_simp
   refine hK.out _ _ ?_
   go_wp2
   go_end0
   have T1 := S_putPort HS3 o ho2 (nI ws 1) (nI ws 2)
   rw [← HV4.out] at T1
   have F6 : But (fun k => k = r ∨ k = g) w (((wd.setCell ⟨g, o * 3, none⟩ (.int .i64 (nI ws 1))).setCell ⟨g, o * 3 + 1, none⟩ (.int .i64 (nI ws 2))).setCell ⟨g, o * 3 + 2, none⟩ (.slice none 0 0)) := (((F3.mono (fun k hk => .inl hk)).set _ _ (.inl (.inr rfl))).set _ _ (.inl (.inr rfl))).set _ _ (.inl (.inr rfl))
   have hR6 := HRO.out.put4 HH.out.lt (F6.mono (fun k hk => hk.elim .inl (fun e => .inr (e ▸ hcg)))) T1
   have F7 := F6.set 10 (.int .i64 (o : Int)) (.inl (.inl (rfl : r = r)))
   have hRd : Rd B r h { s with po := s.po.set o ⟨nI ws 1, nI ws 2, []⟩ } (o : Int) false (.slice A ws.length c) (.slice (some ad') ws.length c') ((((wd.setCell ⟨g, o * 3, none⟩ (.int .i64 (nI ws 1))).setCell ⟨g, o * 3 + 1, none⟩ (.int .i64 (nI ws 2))).setCell ⟨g, o * 3 + 2, none⟩ (.slice none 0 0)).setCell ⟨r, 10, none⟩ (.int .i64 (o : Int))) :=
    ⟨blk_put hb3 10 _ rfl, HH.out.base, ⟨_, hR6.setR 10 _⟩, by show _ = (s.po.set _ _).length; rw [List.length_set]; exact HH.out.eq, .inr ⟨by omega, by show _ < ((s.po.set _ _).length : Int); rw [List.length_set]; omega⟩⟩
   have hBase := HH.out.base
   exact RdPost.yes hRd (F7.toBelow (by omega) (fun k hk => hk.elim (fun e => e ▸ hBase) (fun e => e ▸ hBg))) (F7.restBlk HH.out.blk hgb (by decide)) HE.out
  ·have Do := Lib.hid (fun w2 (H2 : Rd B r h s p false (.slice A ws.length c) (.slice (some ad') ws.length c') w2) (hr : Rest w w2) => rd_object_no' H2 (by omega) ⟨ad', rfl, fun w' h' => XN.out w' (hr.trans h')⟩ h12)
   have HE : Hid (oo = none) := Lib.hid (by rw [← HOO.out]; unfold stepPort; rw [if_pos h8, if_neg h12])
   clear hN hW H L xN0 xN1 xN2 HOO h12 XN
   go_enter Tryz.func82, Tryz.ntmps82
   go_wp2_with (first
    | (go_at_call 111; (with_reducible refine Dn.out.mono ?_); clear Dn; rintro e w2 ⟨rfl, H2, F2⟩)
    | (go_at_call 113; (with_reducible refine (Do.out w2 H2 (HH.out.rest F2)).mono ?_); clear Do; rintro e w2' ⟨rfl, H3, F3⟩))
   go_end0
   exact RdPost.yes H3 (HH.out.toBelow (F2.trans F3)) (HH.out.rest (F2.trans F3)) HE.out
 ·have Dn := Lib.hid (rd_need_no H 3 (by omega))
  have HH := Lib.hid H
  clear hN hW H L
  go_enter Tryz.func82, Tryz.ntmps82
  go_wp2_with (go_at_call 111; (with_reducible refine Dn.out.mono ?_); clear Dn; rintro e w2 ⟨rfl, H2, F2⟩)
  go_end0
  exact RdPost.yes H2 (HH.out.toBelow F2) (HH.out.rest F2) (by rw [← HOO.out]; unfold stepPort; rw [if_neg h8]; rfl)
end Go.Proofs.YtmcjccigglekpaaGreatDoor.Given
namespace Go.Proofs.YtmcjccigglekpaaGreatDoor.Given
open Go Go.RowKit Go.Proofs Go.Proofs.YtmcjccigglekpaaGreatDoorW.PrintWords Go.Proofs.YtmcjccigglekpaaGreatDoorW.PrintLast Go.Proofs.YtmcjccigglekpaaGreatDoorW.PrintMore Go.Proofs.YtmcjccigglekpaaGreatDoor.P

def waiterI (ws : List ByteArray) : S95 := ⟨nI ws 0, nI ws 1, nI ws 2, yesI (wI ws 3), keyI (wI ws 4), nI ws 5, yesI (wI ws 6)⟩
def moreQ (x : S59) (y : S95) : S59 := ⟨x.f0, x.f1, x.f2 ++ [y]⟩
def stepWait (ws : List ByteArray) (s : St) (p : Int) : Option (St × Int) :=
 if ws.length = 7 ∧ 0 ≤ p then (if (!keyOk (wI ws 4)) = true then none else some ({ s with po := s.po.set p.toNat (moreQ (s.po.getD p.toNat zport) (waiterI ws)) }, p)) else none

set_option maxRecDepth 100000 in
set_option maxHeartbeats 4000000 in
theorem rd_wait {B r : Nat} {h : Rv} {s : St} {p : Int} {wv nv : Value} {w : World} {ws : List ByteArray} {ns : List Int} (H : Rd B r h s p false wv nv w) (L : Line w wv nv ws ns) (hG : GLB B w) (hw : ∀ i, (wI ws i).size ≤ 1000000) (hq : ∀ x ∈ s.po, x.f2.length ≤ 1000000) :
  Calls Tryz.prog 83 #[.pointer (some ⟨r, 0, none⟩)] w (RdPost B r (stepWait ws s p) w) := by
 generalize hoo : stepWait ws s p = oo
 have HOO := Lib.hid hoo
 clear hoo
 obtain ⟨A, c, A', c', rfl, rfl, hW, hN⟩ := L.get
 have hlt := H.lt
 by_cases h8 : ws.length = 7
 ·obtain ⟨ad, rfl, _⟩ := hW 0 (by omega) w (Rest.refl w)
  obtain ⟨ad', rfl, _⟩ := hN 0 (by omega) w (Rest.refl w)
  have Dn := Lib.hid (rd_need_ok H 7 (by omega))
  have HH := Lib.hid H
  by_cases hp : 0 ≤ p
  ·
   have xW3 : ∀ W, Rest w W → W.cell? ⟨ad.block, ad.off + 3, none⟩ = some (.string (wI ws 3)) := fun W hr => by
    obtain ⟨q, e, hx⟩ := hW 3 (by omega) W hr
    obtain rfl := Option.some.inj e
    rwa [add_pos _ 3 (by decide)] at hx
   have xW6 : ∀ W, Rest w W → W.cell? ⟨ad.block, ad.off + 6, none⟩ = some (.string (wI ws 6)) := fun W hr => by
    obtain ⟨q, e, hx⟩ := hW 6 (by omega) W hr
    obtain rfl := Option.some.inj e
    rwa [add_pos _ 6 (by decide)] at hx
   have xN0 : ∀ W, Rest w W → W.cell? ad' = some (.int .i64 (nI ws 0)) := fun W hr => by
    obtain ⟨q, e, hx⟩ := hN 0 (by omega) W hr
    obtain rfl := Option.some.inj e
    rwa [add_zero_] at hx
   have xN1 : ∀ W, Rest w W → W.cell? ⟨ad'.block, ad'.off + 1, none⟩ = some (.int .i64 (nI ws 1)) := fun W hr => by
    obtain ⟨q, e, hx⟩ := hN 1 (by omega) W hr
    obtain rfl := Option.some.inj e
    rwa [add_pos _ 1 (by decide)] at hx
   have xN2 : ∀ W, Rest w W → W.cell? ⟨ad'.block, ad'.off + 2, none⟩ = some (.int .i64 (nI ws 2)) := fun W hr => by
    obtain ⟨q, e, hx⟩ := hN 2 (by omega) W hr
    obtain rfl := Option.some.inj e
    rwa [add_pos _ 2 (by decide)] at hx
   have xN5 : ∀ W, Rest w W → W.cell? ⟨ad'.block, ad'.off + 5, none⟩ = some (.int .i64 (nI ws 5)) := fun W hr => by
    obtain ⟨q, e, hx⟩ := hN 5 (by omega) W hr
    obtain rfl := Option.some.inj e
    rwa [add_pos _ 5 (by decide)] at hx
   obtain ⟨o, rfl⟩ := Int.eq_ofNat_of_zero_le hp
   have ho2 : o < s.po.length := by have := H.port; omega
   obtain ⟨col, hrows⟩ := H.rows
   obtain ⟨g, cap, hv4, hBg, hgl, cells, hgb⟩ := Kd.S_form hrows.r4 (by omega)
   have hcg : col g = 4 := (Kd.S_R hrows.r4).1 g (by rw [hv4]; simp [Value.ownBlock])
   have hgr : g ≠ r := fun e => by have := hrows.cr; rw [← e, hcg] at this; omega
   have i2 : decide (0 ≤ (o : Int)) = true := decide_eq_true (by omega)
   have j2 : decide (o < s.po.length) = true := decide_eq_true ho2
   have b1 : decide ((o : Int) < 0) = false := decide_eq_false (by omega)
   have HS0 := hrows.r4
   rw [hv4] at HS0
   obtain ⟨oki, cc, hcl, hM, hcc, hfr, hoki, hH⟩ := Kd.S_elem HS0 zport (o : Int) (by omega) (by omega)
   rw [Int.toNat_natCast] at hM hcc hfr
   have hqo : (s.po.getD o zport).f2.length ≤ 1000000 := hq _ (by rw [List.getD_eq_getElem?_getD, List.getElem?_eq_getElem ho2]; exact List.getElem_mem ho2)
   have HX : Hid (oo = if (!keyOk (wI ws 4)) = true then none else some ({ s with po := s.po.set o (moreQ (s.po.getD o zport) (waiterI ws)) }, (o : Int))) := Lib.hid (by rw [← HOO.out]; unfold stepWait; rw [if_pos ⟨h8, hp⟩, Int.toNat_natCast])
   generalize s.po.getD o zport = x at *
   obtain ⟨v2, rfl, hR2⟩ := k59_openM hM
   have hc2 : w.cell? ⟨g, o * 3 + 2, none⟩ = some v2 := hcc 2 v2 rfl
   have hn4 : ∀ k, newCol col w.heap.size 4 k = 4 → k ≠ r := fun k hk e => by subst e; rw [newCol_lt hlt, hrows.cr] at hk; omega
   have hH2 := Kd.H_mono hH (ok' := fun k => newCol col w.heap.size 4 k = 4) (fun k hk => by unfold newCol; split; exact hk; rfl)
   have RA := Lib.hid (fun (W : World) (F : But (fun k => k = r) w W) => (Kd.R_mono (Kd.R_step (Kd.R_bound hR2) (fun k hk hl => F.block k hl (fun e => by subst e; have := (hoki _ hk.1).1; have := hrows.cr; omega))) (fun _ hk => hk.1) : Kd.R k95 95 W B oki v2 x.f2))
   have HA := Lib.hid (fun (W : World) (F : But (fun k => k = r) w W) => (Kd.H_step hH2 (fun k hk _ hl => F.block k hl (hn4 k hk)) : Kd.H k59 59 W B (fun k => newCol col w.heap.size 4 k = 4) (.slice (some ⟨g, 0, none⟩) s.po.length cap) s.po (o : Int) oki [.int .i64 x.f0, .int .i64 x.f1, v2]))
   have CA := Lib.hid (fun (W : World) (F : But (fun k => k = r) w W) => ((blk_cell ((F.block g hgl hgr).trans hgb) (o * 3 + 2)).trans ((blk_cell hgb (o * 3 + 2)).symm.trans hc2) : W.cell? ⟨g, o * 3 + 2, none⟩ = some v2))
   have SG := Lib.hid (fun (W : World) (bad' : Bool) (hb : W.heap[r]? = some (.cells (h.cells (.slice (some ad) ws.length c) (.slice (some ad') ws.length c') (o : Int) bad') 106 (0, 0))) (hr : Rest w W) (hv : W.cell? ⟨g, o * 3 + 2, none⟩ = some v2) => (⟨hv, (blk_cell hb 8).trans rfl, (blk_cell hb 9).trans rfl, xW3 W hr, xW6 W hr, xN0 W hr, xN1 W hr, xN2 W hr, xN5 W hr⟩ : W.cell? ⟨g, o * 3 + 2, none⟩ = some v2 ∧ W.cell? ⟨r, 8, none⟩ = some (.slice (some ad) ws.length c) ∧ W.cell? ⟨r, 9, none⟩ = some (.slice (some ad') ws.length c') ∧ W.cell? ⟨ad.block, ad.off + 3, none⟩ = some (.string (wI ws 3)) ∧ W.cell? ⟨ad.block, ad.off + 6, none⟩ = some (.string (wI ws 6)) ∧ W.cell? ad' = some (.int .i64 (nI ws 0)) ∧ W.cell? ⟨ad'.block, ad'.off + 1, none⟩ = some (.int .i64 (nI ws 1)) ∧ W.cell? ⟨ad'.block, ad'.off + 2, none⟩ = some (.int .i64 (nI ws 2)) ∧ W.cell? ⟨ad'.block, ad'.off + 5, none⟩ = some (.int .i64 (nI ws 5))))
   have C2 := Lib.hid (fun w2 (H2 : Rd B r h s (o : Int) false (.slice (some ad) ws.length c) (.slice (some ad') ws.length c') w2) => (⟨(blk_cell H2.blk 4).trans (show _ = some h.v4 from rfl), (blk_cell H2.blk 10).trans rfl⟩ : w2.cell? ⟨r, 4, none⟩ = some h.v4 ∧ w2.cell? ⟨r, 10, none⟩ = some (.int .i64 (o : Int))))
   rw [hv4] at C2
   have HW4 := Lib.hid (hW 4 (by omega))
   have HG := Lib.hid hG
   have k1 := hw 4
   have HRO := Lib.hid hrows
   have HV4 := Lib.hid hv4
   have HOK := Lib.hid hoki
   have HR2 := Lib.hid hR2
   have HN4 := Lib.hid hn4
   clear hN hW H L hG hw hrows hv4 HOO xW3 xW6 xN0 xN1 xN2 xN5 HS0 hH hH2 hM hcc hfr hc2 hoki hR2 hn4 hq hp
   go_enter Tryz.func83, Tryz.ntmps83
   go_wp2_with (go_at_call 111; (with_reducible refine Dn.out.mono ?_); clear Dn; rintro e w2 ⟨rfl, H2, F2⟩; obtain ⟨k4, k10⟩ := C2.out w2 H2)
   go_quiet (fail)
   rename_i nq
   go_wp2_with fail
   obtain ⟨wd, hwd⟩ : ∃ wd, (World.drewN w2 nq).drew = wd := ⟨_, rfl⟩
   have F3 : But (fun k => k = r) w wd := hwd ▸ (F2.drewN nq).drew
   have H3 : Rd B r h s (o : Int) false (.slice (some ad) ws.length c) (.slice (some ad') ws.length c') wd := HH.out.still F3 (hwd ▸ H2.blk)
   refine wp_region_sch (fun w' => w'.cell? ⟨g, o * 3 + 2, none⟩ = some v2 ∧ w'.cell? ⟨r, 8, none⟩ = some (.slice (some ad) ws.length c) ∧ w'.cell? ⟨r, 9, none⟩ = some (.slice (some ad') ws.length c') ∧ w'.cell? ⟨ad.block, ad.off + 3, none⟩ = some (.string (wI ws 3)) ∧ w'.cell? ⟨ad.block, ad.off + 6, none⟩ = some (.string (wI ws 6)) ∧ w'.cell? ad' = some (.int .i64 (nI ws 0)) ∧ w'.cell? ⟨ad'.block, ad'.off + 1, none⟩ = some (.int .i64 (nI ws 1)) ∧ w'.cell? ⟨ad'.block, ad'.off + 2, none⟩ = some (.int .i64 (nI ws 2)) ∧ w'.cell? ⟨ad'.block, ad'.off + 5, none⟩ = some (.int .i64 (nI ws 5))) 50 [(false, 0), (false, 1), (false, 2), (false, 3), (false, 4), (false, 5), (false, 6), (false, 7), (false, 8), (false, 9), (false, 10), (false, 11), (false, 12), (false, 13), (false, 14), (false, 15), (false, 16), (false, 17), (false, 18), (false, 19), (false, 20), (false, 21), (false, 22), (false, 23), (false, 24), (false, 25), (false, 26), (false, 27), (false, 28), (false, 29), (false, 30), (false, 32), (false, 33), (false, 34), (false, 35), (false, 36), (false, 37), (false, 38), (false, 39), (false, 40), (false, 41), (false, 42), (false, 43), (false, 44), (true, 31), (false, 45), (true, 46), (true, 47), (false, 48), (false, 49)] (by kernel_rfl) (by kernel_rfl) (fun _ a d _ _ h => by cases d <;> exact h) wd hwd (SG.out wd _ H3.blk (HH.out.rest F3) (CA.out wd F3)) ?_
   clear hwd F2 H2
   have B3 := HH.out.toBelow F3
   have Dk := Lib.hid (rd_keyAt' H3 (HG.out.on B3).here 4 4 rfl (by omega) (HW4.out wd (HH.out.rest F3)) k1)
   clear H3
   try dsimp only
   repeat (refine' sch_pure rfl rfl ?_ ?_; rotate_left; · (rintro w' ⟨s0, s1, s2, s3, s4, s5, s6, s7, s8⟩; go_simp <;> rfl)
           simp only [Act.put, List.setIfInBounds_toArray, List.set_cons_zero, List.set_cons_succ])
   (refine sch_alone rfl (fun K hK => ?_); go_simp; refine Dk.out.mono ?_; rintro e w4 ⟨rfl, H4, F4⟩; have F5 := F3.trans F4; refine hK.out _ _ (SG.out w4 _ H4.blk (HH.out.rest F5) (CA.out w4 F5)) ?_; clear hK K)
   try simp only [Act.put, List.setIfInBounds_toArray, List.set_cons_zero, List.set_cons_succ]
   repeat (refine' sch_pure rfl rfl ?_ ?_; rotate_left; · (rintro w' ⟨s0, s1, s2, s3, s4, s5, s6, s7, s8⟩; go_simp <;> rfl)
           simp only [Act.put, List.setIfInBounds_toArray, List.set_cons_zero, List.set_cons_succ])
   have HR4 := RA.out w4 F5
   have B4 := HH.out.toBelow F5
   have hsz := F5.size
   have hBase := HH.out.base
   have hH4 := Kd.H_widen (HA.out w4 F5)
   have HFR : ∀ k, w4.heap.size ≤ k → oki k ∨ newCol col w.heap.size 4 k = 4 ∧ w4.heap.size ≤ k := fun k hk => .inr ⟨newCol_ge (by omega), hk⟩
   have HO4 := Kd.R_mono HR4 (ok' := fun k => oki k ∨ newCol col w.heap.size 4 k = 4 ∧ w4.heap.size ≤ k) (fun k hk => .inl hk)
   obtain ⟨inner, hown⟩ := Kd.R_own HR4
   obtain ⟨inner0, hown0⟩ := Kd.R_own HR2.out
   have hne : some r ≠ v2.ownBlock := Kd.R_ne HR4 H4.blk (by decide)
   have hgne : ∀ k, v2.ownBlock = some k → k ≠ g := fun k hk => (HOK.out k (HR2.out.1 k hk)).2
   have hcg4 : w4.heap[g]? = _ := (F5.block g hgl hgr).trans hgb
   have XG := Lib.hid (fun (W : World) (hg : w4.grownBy W v2.ownBlock) => ((blk_cell (blk_grown hcg4 hg (fun e => hgne g e.symm rfl)) (o * 3 + 2)).trans ((blk_cell hcg4 (o * 3 + 2)).symm.trans (CA.out w4 F5)) : W.cell? ⟨g, o * 3 + 2, none⟩ = some v2))
   (refine sch_alone rfl (fun K hK => ?_); go_simp; refine hK.out _ _ (SG.out _ _ (blk_alloc H4.blk _) ((HH.out.rest F5).alloc _) (pw_cell_below (below_alloc (Below.refl _ _) _) (CA.out w4 F5))) ?_; clear hK K)
   (refine sch_alone rfl (fun K hK => ?_); refine Kd.R_append_step k95 (w0 := w) B (by rfl) (.tmp 30) (.tmp 72) _ 95 _ 64 (by rfl) rfl info95 rfl (by decide) (by omega) v2 x.f2 (waiterI ws) _ _ (fun _ => False) rfl rfl (k95_mkM _ _ _ (waiterI ws)) (fun _ hk => hk.elim) HFR HO4 B4 (by omega) (by omega) ?_; intro v1 w5 HR1 HB1 hg1 hat1; refine hK.out _ _ (SG.out w5 _ (blk_grown H4.blk hg1 hne) ((HH.out.rest F5).own hown (by decide) hg1) (XG.out w5 hg1)) ?_; clear hK K)
   obtain ⟨A1, c1, rfl⟩ := Kd.R_slice HR1
   try simp only [Act.put, List.setIfInBounds_toArray, List.set_cons_zero, List.set_cons_succ]
   repeat (refine' sch_pure rfl rfl ?_ ?_; rotate_left; · (rintro w' ⟨s0, s1, s2, s3, s4, s5, s6, s7, s8⟩; go_simp <;> rfl)
           simp only [Act.put, List.setIfInBounds_toArray, List.set_cons_zero, List.set_cons_succ])
   have hb5 := blk_grown H4.blk hg1 hne
   have c0 := XG.out w5 hg1
   have g0 := blk_frozen (blk_grown hcg4 hg1 (fun e => hgne g e.symm rfl)) (o * 3 + 2)
   refine sch_last rfl (fun K hK => ?_)
   go_simp
   refine hK.out _ _ ?_
   go_wp2
   go_end0
   rw [List.length_append, List.length_singleton] at HR1
   have hH5 := Kd.H_grown hH4 hg1 (fun k hk => .inl (HR4.1 k hk))
   have T1 := (Kd.S_seg0 hH5 (by omega) (by omega) (seg := [.slice A1 (x.f2.length + 1) c1]) (j := 2) (show 2 + 1 ≤ 3 by omega) (x' := moreQ x (waiterI ws)) (by
    show Kd.M k59 w5 B _ (moreQ x (waiterI ws)) [.int .i64 x.f0, .int .i64 x.f1, .slice A1 (x.f2.length + 1) c1]
    exact k59_mkM _ _ _ (moreQ x (waiterI ws)) HR1) (fun k hk => hk)).1
   rw [Int.toNat_natCast] at T1
   rw [← HV4.out] at T1
   have F6 : But (fun k => k = r ∨ k = g ∨ some k = v2.ownBlock) w (w5.setCell ⟨g, o * 3 + 2, none⟩ (.slice A1 (x.f2.length + 1) c1)) := ((F5.mono (fun k hk => .inl hk)).grown hg1 (fun k hk => .inl (.inr (.inr hk.symm)))).set _ _ (.inl (.inr (.inl rfl)))
   have hR6 := HRO.out.put4 HH.out.lt (F6.mono (fun k hk => hk.elim .inl (fun hk => .inr (hk.elim (fun e => e ▸ hcg) (fun e => (HOK.out k (HR2.out.1 k e.symm)).1))))) T1
   have hRd : Rd B r h { s with po := s.po.set o (moreQ x (waiterI ws)) } (o : Int) (!keyOk (wI ws 4)) (.slice (some ad) ws.length c) (.slice (some ad') ws.length c') (w5.setCell ⟨g, o * 3 + 2, none⟩ (.slice A1 (x.f2.length + 1) c1)) :=
    ⟨blk_far hb5 (p := ⟨g, o * 3 + 2, none⟩) (Ne.symm hgr) _, HH.out.base, ⟨_, hR6⟩, by show _ = (s.po.set _ _).length; rw [List.length_set]; exact HH.out.eq, .inr ⟨by omega, by show _ < ((s.po.set _ _).length : Int); rw [List.length_set]; omega⟩⟩
   refine RdPost.yes hRd (F6.toBelow (by omega) (fun k hk => hk.elim (fun e => e ▸ hBase) (fun hk => hk.elim (fun e => e ▸ hBg) (fun e => own_base hown0 k e.symm)))) (F6.rest (fun k hk _ => ?_)) HX.out
   rcases hk with rfl | rfl | hk
   ·exact ⟨_, _, _, HH.out.blk, by decide⟩
   ·exact ⟨_, _, _, hgb, by decide⟩
   ·obtain ⟨cq, hq⟩ := own_typed hown0 k hk.symm
    exact ⟨_, _, _, hq, by decide⟩
  ·have HE : Hid (oo = none) := Lib.hid (by rw [← HOO.out]; unfold stepWait; rw [if_neg (fun hq => hp hq.2)])
   have C2 := Lib.hid (fun w2 (H2 : Rd B r h s p false (.slice (some ad) ws.length c) (.slice (some ad') ws.length c') w2) => (⟨(blk_cell H2.blk 10).trans rfl, (blk_cell H2.blk 11).trans rfl⟩ : w2.cell? ⟨r, 10, none⟩ = some (.int .i64 p) ∧ w2.cell? ⟨r, 11, none⟩ = some (.bool false)))
   have b1 : decide (p < 0) = true := decide_eq_true (by omega)
   clear hN hW H L hG hw hp hq
   go_enter Tryz.func83, Tryz.ntmps83
   go_wp2_with (go_at_call 111; (with_reducible refine Dn.out.mono ?_); clear Dn; rintro e w2 ⟨rfl, H2, F2⟩; obtain ⟨k10, k11⟩ := C2.out w2 H2; have f11 := blk_frozen H2.blk 11)
   go_end0
   obtain ⟨d1, d2⟩ := HH.out.setBad' F2 H2.blk
   exact RdPost.yes d1 (HH.out.toBelow d2) (HH.out.rest d2) HE.out
 ·have Dn := Lib.hid (rd_need_no H 7 (by omega))
  have HH := Lib.hid H
  have C2 := Lib.hid (fun w2 (H2 : Rd B r h s p true (.slice A ws.length c) (.slice A' ws.length c') w2) => (blk_cell H2.blk 11).trans (show _ = some (Value.bool true) from rfl))
  clear hN hW H L hG hw hq
  go_enter Tryz.func83, Tryz.ntmps83
  go_wp2_with (go_at_call 111; (with_reducible refine Dn.out.mono ?_); clear Dn; rintro e w2 ⟨rfl, H2, F2⟩; have k11 := C2.out w2 H2; have f11 := blk_frozen H2.blk 11)
  go_end0
  have d1 := H2.setBad true
  have d2 := F2.set 11 (.bool true) (.inl (rfl : r = r))
  exact RdPost.yes d1 (HH.out.toBelow d2) (HH.out.rest d2) (by rw [← HOO.out]; unfold stepWait; rw [if_neg (fun hq => h8 hq.1)]; rfl)
end Go.Proofs.YtmcjccigglekpaaGreatDoor.Given
