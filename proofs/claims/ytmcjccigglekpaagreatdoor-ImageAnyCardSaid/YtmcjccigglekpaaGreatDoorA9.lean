/- Texts of this seat, joined. -/
import Derived.Test.YtmcjccigglekpaaGreatDoorA7
import Derived.Test.YtmcjccigglekpaaGreatDoorA8
import Derived.Test.YtmcjccigglekpaaGreatDoorA1
import Derived.RangeFuncLeaves
import Derived.Test.YtmcjccigglekpaaGreatDoorA3
import Derived.CallsIn
import Derived.OrdersIn
import Derived.RangeFuncCalls
import Derived.Test.YtmcjccigglekpaaGreatDoorA4
namespace Go.Proofs.YtmcjccigglekpaaGreatDoor.Given
open Go Go.RowKit Go.Proofs Go.Proofs.YtmcjccigglekpaaGreatDoorW.PrintWords Go.Proofs.YtmcjccigglekpaaGreatDoorW.PrintLast Go.Proofs.YtmcjccigglekpaaGreatDoorW.PrintMore Go.Proofs.YtmcjccigglekpaaGreatDoor.P Go.Proofs.YtmcjccigglekpaaGreatDoor.Plain

theorem Rows.stillT {B r : Nat} {col : Nat → Nat} {h : Rv} {s : St} {w w1 : World} (H : Rows B r col h s w) (hm : ∀ k cs T, k < w.heap.size → w.heap[k]? = some (.cells cs T (0, 0)) → T ∈ stTys → k ≠ r → w1.heap[k]? = w.heap[k]?) : Rows B r col h s w1 := by
 have h8 : ∀ {i k : Nat}, col k = i → i < 8 → k ≠ r := fun hk hi e => by subst e; have := H.cr; omega
 have go : ∀ {k : Nat} {E : List Nat} {i : Nat}, i < 8 → (∀ q ∈ E, q ∈ stTys) → (col k = i ∧ B ≤ k ∧ k < w.heap.size ∧ ∃ q, q ∈ E ∧ ∃ cells, w.heap[k]? = some (.cells cells q (0, 0))) → w1.heap[k]? = w.heap[k]? := fun hi hE hk => by
  obtain ⟨hc, _, hl, q, hq, cs, hcs⟩ := hk
  exact hm _ cs q hl hcs (hE q hq) (h8 hc hi)
 exact ⟨H.cr, Kd.R_mono (Kd.R_move (Kd.R_bound H.r0) (fun k hk => go (by decide) (by decide) hk)) (fun _ hk => hk.1),
  Kd.S_mono (Kd.S_move (Kd.S_bound H.r1) (fun k hk => go (by decide) (by decide) hk)) (fun _ hk => hk.1),
  Kd.S_mono (Kd.S_move (Kd.S_bound H.r2) (fun k hk => go (by decide) (by decide) hk)) (fun _ hk => hk.1),
  Kd.R_mono (Kd.R_move (Kd.R_bound H.r3) (fun k hk => go (by decide) (by decide) hk)) (fun _ hk => hk.1),
  Kd.S_mono (Kd.S_move (Kd.S_bound H.r4) (fun k hk => go (by decide) (by decide) hk)) (fun _ hk => hk.1),
  Kd.S_mono (Kd.S_move (Kd.S_bound H.r5) (fun k hk => go (by decide) (by decide) hk)) (fun _ hk => hk.1),
  Kd.R_mono (Kd.R_move (Kd.R_bound H.r6) (fun k hk => go (by decide) (by decide) hk)) (fun _ hk => hk.1),
  Kd.R_mono (Kd.R_move (Kd.R_bound H.r7) (fun k hk => go (by decide) (by decide) hk)) (fun _ hk => hk.1)⟩
/-- Whatever keeps the blocks of a reader's types keeps the reader. -/
theorem Rd.stillT {B r : Nat} {h : Rv} {s : St} {p : Int} {bad : Bool} {wv nv : Value} {w w1 : World} (H : Rd B r h s p bad wv nv w) (hm : ∀ k cs T, k < w.heap.size → w.heap[k]? = some (.cells cs T (0, 0)) → T ∈ stTys → w1.heap[k]? = w.heap[k]?) : Rd B r h s p bad wv nv w1 :=
 ⟨(hm _ _ _ H.lt H.blk (by decide)).trans H.blk, H.base, H.rows.imp (fun _ hr => hr.stillT (fun k cs T hl hc hT _ => hm k cs T hl hc hT)), H.eq, H.port⟩

/-- Where things lie. -/
structure At where
 (t2 t3 t4 t5 bx mb r N : Nat)
/-- Between two lines (d = 0), and behind a line's method (d = 1). -/
structure PI (w0 : World) (a : At) (d : Nat) (s : ByteArray) (x : St × Int) (W : World) : Prop where
 box : W.heap[a.bx]? = some (.cells #[.string s] 9 (0, 0))
 res : W.heap[a.t2]? = some (.cells #[.slice none 0 0, .slice none 0 0, .slice none 0 0, .slice none 0 0, .slice none 0 0, .slice none 0 0, .slice none 0 0, .slice none 0 0] 32 (0, 0))
 err : W.heap[a.t3]? = some (.cells #[.int .i64 0] 35 (0, 0))
 rp : W.heap[a.t4]? = some (.cells #[.pointer (some ⟨a.r, 0, none⟩)] 102 (0, 0))
 mp : W.heap[a.t5]? = some (.cells #[.map (some a.mb)] 107 (0, 0))
 mo : W.heap[a.mb]? = some (.map (rdEs 12) 12)
 rd : ∃ h wv nv, Rd w0.heap.size a.r h x.1 x.2 false wv nv W
 bl : Below w0.heap.size w0 W
 gl : GLB w0.heap.size W
 sz : ∃ k, Small k x.1 ∧ k + s.size ≤ a.N + d
 le : s.size ≤ a.N ∧ a.N ≤ 262144
 fi : Fine x.1
theorem PI.step {w0 : World} {a : At} {d : Nat} {s s' : ByteArray} {x : St × Int} {W W1 : World} (H : PI w0 a d s x W) (hb : Below w0.heap.size W W1) (hbox : W1.heap[a.bx]? = some (.cells #[.string s'] 9 (0, 0)))
  (hm : ∀ k cs T, k < W.heap.size → W.heap[k]? = some (.cells cs T (0, 0)) → T ≠ 9 → W1.heap[k]? = W.heap[k]?) (hmo : W1.heap[a.mb]? = W.heap[a.mb]?) (hsz : s'.size ≤ s.size) : PI w0 a d s' x W1 := by
 have go : ∀ {k : Nat} {cs : Array Value} {T : Nat}, W.heap[k]? = some (.cells cs T (0, 0)) → T ≠ 9 → W1.heap[k]? = some (.cells cs T (0, 0)) := fun hc hT => (hm _ _ _ (blk_lt hc) hc hT).trans hc
 obtain ⟨h, wv, nv, hr⟩ := H.rd
 obtain ⟨k, hk, hl⟩ := H.sz
 exact ⟨hbox, go H.res (by decide), go H.err (by decide), go H.rp (by decide), go H.mp (by decide), hmo.trans H.mo, ⟨h, wv, nv, hr.stillT (fun k cs T _ hc hT => hm k cs T (blk_lt hc) hc (by rintro rfl; exact absurd hT (by decide)))⟩, H.bl.trans hb, H.gl.on hb, ⟨k, hk, by omega⟩, ⟨by have := H.le; omega, H.le.2⟩, H.fi⟩
/-- Behind a line that is none. -/
structure PX (w0 : World) (a : At) (W : World) : Prop where
 res : W.heap[a.t2]? = some (.cells #[.slice none 0 0, .slice none 0 0, .slice none 0 0, .slice none 0 0, .slice none 0 0, .slice none 0 0, .slice none 0 0, .slice none 0 0] 32 (0, 0))
 err : W.heap[a.t3]? = some (.cells #[.int .i64 270] 35 (0, 0))
 bl : Below w0.heap.size w0 W
theorem PI.putObj {w0 : World} {a : At} {d : Nat} {s : ByteArray} {x : St × Int} {W : World} {l : Nat} {o o' : Obj} (H : PI w0 a d s x W) (hl : W.heap[l]? = some o) (ho : o.isCells = false) (hmb : l ≠ a.mb) (hw : w0.heap.size ≤ l) : PI w0 a d s x (W.putObj l o') := by
 have hne : ∀ {k : Nat} {cs : Array Value} {T : Nat}, W.heap[k]? = some (.cells cs T (0, 0)) → k ≠ l := fun hc e => by subst e; rw [hl] at hc; obtain rfl := Option.some.inj hc; cases ho
 exact H.step ⟨rfl, rfl, rfl, by simp, fun k hk => World.putObj_heap_other (by omega)⟩ ((World.putObj_heap_other (hne H.box)).trans H.box) (fun k cs T _ hc _ => World.putObj_heap_other (hne hc)) (World.putObj_heap_other (Ne.symm hmb)) (Nat.le_refl _)
theorem PI.below {w0 : World} {a : At} {d : Nat} {s : ByteArray} {x : St × Int} {W W1 : World} (H : PI w0 a d s x W) (hb : Below W.heap.size W W1) : PI w0 a d s x W1 :=
 H.step (hb.mono H.bl.size) (blk_below H.box hb) (fun k _ _ hk _ _ => hb.block k hk) (hb.block _ (blk_lt H.mo)) (Nat.le_refl _)
theorem PI.setBox {w0 : World} {a : At} {d : Nat} {s s' : ByteArray} {x : St × Int} {W : World} (H : PI w0 a d s x W) (hw : w0.heap.size ≤ a.bx) (hs : s'.size ≤ s.size) : PI w0 a d s' x (W.setCell ⟨a.bx, 0, none⟩ (.string s')) := by
 have hne : ∀ {k : Nat} {cs : Array Value} {T : Nat}, W.heap[k]? = some (.cells cs T (0, 0)) → T ≠ 9 → k ≠ a.bx := fun hc hT e => by subst e; rw [H.box] at hc; injection hc with hc; injection hc with _ hc _; exact hT hc.symm
 have hmne : a.mb ≠ a.bx := fun e => by have h1 := H.mo; rw [e, H.box] at h1; cases h1
 exact H.step ((Below.refl _ _).setCell (p := ⟨a.bx, 0, none⟩) hw _) (blk_put H.box 0 _ rfl) (fun k cs T _ hc hT => Below.heap_setCell W ⟨a.bx, 0, none⟩ _ k (hne hc hT)) (Below.heap_setCell W ⟨a.bx, 0, none⟩ _ a.mb hmne) hs
end Go.Proofs.YtmcjccigglekpaaGreatDoor.Given
namespace Go.Proofs.YtmcjccigglekpaaGreatDoor.Given
open Go Go.RowKit Go.Proofs Go.Proofs.YtmcjccigglekpaaGreatDoorW.PrintWords Go.Proofs.YtmcjccigglekpaaGreatDoorW.PrintLast Go.Proofs.YtmcjccigglekpaaGreatDoorW.PrintMore Go.Proofs.YtmcjccigglekpaaGreatDoor.P Go.Proofs.YtmcjccigglekpaaGreatDoor.Plain

def stZ : St := ⟨[], [], [], [], [], [], [], []⟩
def rvZ : Rv := ⟨.slice none 0 0, .slice none 0 0, .slice none 0 0, .slice none 0 0, .slice none 0 0, .slice none 0 0, .slice none 0 0, .slice none 0 0⟩
theorem S_nil_ {α : Type} (d : Kd α) (e : Nat) (w : World) (base : Nat) (ok : Nat → Prop) : Kd.S d e w base ok (.slice none 0 0) [] := ⟨fun _ => 0, Kd.R_nil _ _ _ _ _⟩
theorem Rd.zero {B r : Nat} {W : World} (hb : W.heap[r]? = some (.cells #[.slice none 0 0, .slice none 0 0, .slice none 0 0, .slice none 0 0, .slice none 0 0, .slice none 0 0, .slice none 0 0, .slice none 0 0, .slice none 0 0, .slice none 0 0, .int .i64 (-1), .bool false] 106 (0, 0))) (hB : B ≤ r) :
  Rd B r rvZ stZ (-1) false (.slice none 0 0) (.slice none 0 0) W :=
 ⟨hb, hB, ⟨fun _ => 8, ⟨rfl, Kd.R_nil _ _ _ _ _, S_nil_ _ _ _ _ _, S_nil_ _ _ _ _ _, Kd.R_nil _ _ _ _ _, S_nil_ _ _ _ _ _, S_nil_ _ _ _ _ _, Kd.R_nil _ _ _ _ _, Kd.R_nil _ _ _ _ _⟩⟩, rfl, .inl rfl⟩
theorem stZ_fine : Fine stZ := by
 refine ⟨⟨?_, ?_, ?_, ?_, ?_, ?_⟩, ⟨?_, ?_⟩, ?_, ?_, ?_⟩ <;> simp [stZ]
theorem stZ_small : Small 0 stZ := by
 refine ⟨?_, ?_, ?_, ?_, ?_, ?_, ?_⟩ <;> simp [stZ]
theorem PX.putObj {w0 : World} {a : At} {W : World} {l : Nat} {o o' : Obj} (H : PX w0 a W) (hl : W.heap[l]? = some o) (ho : o.isCells = false) (hw : w0.heap.size ≤ l) : PX w0 a (W.putObj l o') := by
 have hne : ∀ {k : Nat} {cs : Array Value} {T : Nat}, W.heap[k]? = some (.cells cs T (0, 0)) → k ≠ l := fun hc e => by subst e; rw [hl] at hc; obtain rfl := Option.some.inj hc; cases ho
 exact ⟨(World.putObj_heap_other (hne H.res)).trans H.res, (World.putObj_heap_other (hne H.err)).trans H.err, H.bl.trans ⟨rfl, rfl, rfl, by simp, fun k hk => World.putObj_heap_other (by omega)⟩⟩
/-- Behind a line's method. -/
def PJ (w0 : World) (a : At) (s : ByteArray) (x : St × Int) (W : World) : Prop := PI w0 a 1 s x W ∧ s.size ≠ 0
theorem PJ.set {w0 : World} {a : At} {s : ByteArray} {x : St × Int} {W : World} (H : PJ w0 a s x W) (hw : w0.heap.size ≤ a.bx) : PI w0 a 0 (cutB s ⟨#[10]⟩) x (W.setCell ⟨a.bx, 0, none⟩ (.string (cutB s ⟨#[10]⟩))) := by
 have hlt := cutB_lt s H.2
 have h1 := H.1.setBox hw (Nat.le_of_lt hlt)
 obtain ⟨k, hk, hl⟩ := H.1.sz
 exact ⟨h1.box, h1.res, h1.err, h1.rp, h1.mp, h1.mo, h1.rd, h1.bl, h1.gl, ⟨k, hk, by omega⟩, h1.le, h1.fi⟩
/-- Behind a line's method: what the loop knows. -/
theorem PI.line {w0 : World} {a : At} {s : ByteArray} {x y : St × Int} {W W' : World} {e : Ending} {f : Nat} {ws : List ByteArray} (H : PI w0 a 0 s x W) (hs : s.size ≠ 0) (hw : ws.length ≤ 262145) (hst : stepF f ws x = some y) (hp : RdPost w0.heap.size a.r (some y) W e W') :
  PJ w0 a s y W' := by
 obtain ⟨_, hB, hR, h, s', p', wv, nv, hrd, hy⟩ := hp
 obtain rfl := hy y rfl
 have go : ∀ {k : Nat} {cs : Array Value} {T : Nat}, W.heap[k]? = some (.cells cs T (0, 0)) → T ∉ stTys → W'.heap[k]? = some (.cells cs T (0, 0)) := fun hc hT => hR.2 _ _ hc (fun _ _ _ e => by cases e; exact hT)
 obtain ⟨k, hk, hl⟩ := H.sz
 exact ⟨⟨go H.box (by decide), go H.res (by decide), go H.err (by decide), go H.rp (by decide), go H.mp (by decide), hR.2 _ _ H.mo (fun _ _ _ e => by cases e), ⟨h, wv, nv, hrd⟩, H.bl.trans hB, H.gl.on hB, ⟨k + 1, stepF_small hk hst, by omega⟩, H.le, stepF_fine hw H.fi hst⟩, hs⟩
theorem PI.rest {w0 : World} {a : At} {d : Nat} {s : ByteArray} {x : St × Int} {W W1 : World} (H : PI w0 a d s x W) (hR : Rest W W1) (hB : Below w0.heap.size W W1) (hrd : ∃ h wv nv, Rd w0.heap.size a.r h x.1 x.2 false wv nv W1) : PI w0 a d s x W1 := by
 have go : ∀ {k : Nat} {cs : Array Value} {T : Nat}, W.heap[k]? = some (.cells cs T (0, 0)) → T ∉ stTys → W1.heap[k]? = some (.cells cs T (0, 0)) := fun hc hT => hR.2 _ _ hc (fun _ _ _ e => by cases e; exact hT)
 exact ⟨go H.box (by decide), go H.res (by decide), go H.err (by decide), go H.rp (by decide), go H.mp (by decide), hR.2 _ _ H.mo (fun _ _ _ e => by cases e), hrd, H.bl.trans hB, H.gl.on hB, H.sz, H.le, H.fi⟩
theorem Rest.keeps {W W1 : World} (h : Rest W W1) : KeepsOthers W W1 := ⟨h.1, fun k o hk ho => h.2 k o hk (fun cs T z e => by subst e; cases ho)⟩
/-- The zero state is put, and the errno. -/
def putX (a : At) (W : World) : World := ((((((((W.setCell ⟨a.t2, 0, none⟩ (.slice none 0 0)).setCell ⟨a.t2, 1, none⟩ (.slice none 0 0)).setCell ⟨a.t2, 2, none⟩ (.slice none 0 0)).setCell ⟨a.t2, 3, none⟩ (.slice none 0 0)).setCell ⟨a.t2, 4, none⟩ (.slice none 0 0)).setCell ⟨a.t2, 5, none⟩ (.slice none 0 0)).setCell ⟨a.t2, 6, none⟩ (.slice none 0 0)).setCell ⟨a.t2, 7, none⟩ (.slice none 0 0)).setCell ⟨a.t3, 0, none⟩ (.int .i64 270)
theorem putX_keeps (a : At) (W : World) : KeepsOthers W (putX a W) :=
 ((((((((KeepsOthers.setCell _ _ _).trans (KeepsOthers.setCell _ _ _)).trans (KeepsOthers.setCell _ _ _)).trans (KeepsOthers.setCell _ _ _)).trans (KeepsOthers.setCell _ _ _)).trans (KeepsOthers.setCell _ _ _)).trans (KeepsOthers.setCell _ _ _)).trans (KeepsOthers.setCell _ _ _)).trans (KeepsOthers.setCell _ _ _)
theorem putX_PX {w0 : World} {a : At} {W : World} (hr : W.heap[a.t2]? = some (.cells #[.slice none 0 0, .slice none 0 0, .slice none 0 0, .slice none 0 0, .slice none 0 0, .slice none 0 0, .slice none 0 0, .slice none 0 0] 32 (0, 0))) (he : W.heap[a.t3]? = some (.cells #[.int .i64 0] 35 (0, 0))) (hb : Below w0.heap.size w0 W) (h2 : w0.heap.size ≤ a.t2) (h3 : w0.heap.size ≤ a.t3) :
  PX w0 a (putX a W) := by
 have hne : a.t2 ≠ a.t3 := fun e => by rw [e, he] at hr; injection hr with hr; injection hr with hr _ _; have := congrArg Array.size hr; simp at this
 have b1 := blk_put (blk_put (blk_put (blk_put (blk_put (blk_put (blk_put (blk_put hr 0 (.slice none 0 0) rfl) 1 (.slice none 0 0) rfl) 2 (.slice none 0 0) rfl) 3 (.slice none 0 0) rfl) 4 (.slice none 0 0) rfl) 5 (.slice none 0 0) rfl) 6 (.slice none 0 0) rfl) 7 (.slice none 0 0) rfl
 refine ⟨?_, ?_, ?_⟩
 ·exact (Below.heap_setCell _ ⟨a.t3, 0, none⟩ _ _ hne).trans b1
 ·refine blk_put (cs := #[.int .i64 0]) ?_ 0 _ rfl
  iterate 8 refine (Below.heap_setCell _ ⟨a.t2, _, none⟩ _ _ (Ne.symm hne)).trans ?_
  exact he
 ·exact (((((((((hb.setCell (p := ⟨a.t2, 0, none⟩) h2 _).setCell (p := ⟨a.t2, 1, none⟩) h2 _).setCell (p := ⟨a.t2, 2, none⟩) h2 _).setCell (p := ⟨a.t2, 3, none⟩) h2 _).setCell (p := ⟨a.t2, 4, none⟩) h2 _).setCell (p := ⟨a.t2, 5, none⟩) h2 _).setCell (p := ⟨a.t2, 6, none⟩) h2 _).setCell (p := ⟨a.t2, 7, none⟩) h2 _).setCell (p := ⟨a.t3, 0, none⟩) h3 _)
theorem PX.drew {w0 : World} {a : At} {W : World} (H : PX w0 a W) : PX w0 a W.drew := ⟨H.res, H.err, below_drew H.bl⟩
theorem splitB_sizes (sep : ByteArray) (n : Nat) : ∀ (k : Nat) (s : ByteArray), s.size ≤ n → ∀ x ∈ Lib.splitB sep 0 k s, x.size ≤ n
 | 0, s, hs, x, hx => by rw [Lib.splitB, List.mem_singleton] at hx; rw [hx]; exact hs
 | k + 1, s, hs, x, hx => by
  unfold Lib.splitB at hx
  split at hx
  ·rw [List.mem_singleton.1 hx]; exact hs
  ·rcases List.mem_cons.1 hx with h | h
   ·rw [h, ByteArray.size_extract]; omega
   ·exact splitB_sizes sep n k _ (by rw [ByteArray.size_extract]; omega) x h
/-- A line's pieces: the first, the others. -/
theorem pieces_all {s : ByteArray} {n : Nat} (hs : s.size ≤ n) : ∃ p0 ps, piecesB s = p0 :: ps ∧ p0.size ≤ n ∧ (∀ x ∈ ps, x.size ≤ n) ∧ ps.length ≤ n := by
 have h1 : ∀ x ∈ piecesB s, x.size ≤ n := splitB_sizes _ n _ s hs
 have h2 : (piecesB s).length ≤ n + 1 := Nat.le_trans (Lib.splitB_length_le _ _ _ _) (by have := Lib.countB_le sp (by decide) s.size s (Nat.le_refl _); omega)
 have h3 : (piecesB s).length = Lib.countB s sp + 1 := Lib.splitB_all sp (by decide) 0 _ s rfl
 generalize piecesB s = l at *
 cases l with
 | nil => simp at h3
 | cons p0 ps => exact ⟨p0, ps, rfl, h1 _ (List.mem_cons_self ..), fun x hx => h1 x (List.mem_cons_of_mem _ hx), by simpa using h2⟩
theorem wI_size {ws : List ByteArray} {n : Nat} (h : ∀ x ∈ ws, x.size ≤ n) (i : Nat) : (wI ws i).size ≤ n := by
 unfold wI
 rw [List.getD_eq_getElem?_getD]
 cases hk : ws[i]? with
 | none => exact Nat.zero_le _
 | some y => exact h y (List.mem_of_getElem? hk)
theorem strRow {w0 : World} {g : Nat} {l : List ByteArray} (hl : l.length ≤ 1000000) (hw : w0.heap[g]? = some (.cells (l.map Value.string).toArray 9 (0, 0))) : Kd.C Kd.string w0 (some ⟨g, 0, none⟩) l.length l := by
 refine ⟨rfl, by omega, fun _ => ⟨_, rfl, fun j p hj => ?_⟩⟩
 refine ⟨[.string p], rfl, rfl, fun i u hu => ?_⟩
 cases i with
 | succ i => simp at hu
 | zero =>
  obtain rfl := Option.some.inj hu
  have h1 := blk_cell hw j
  rw [show ((l.map Value.string).toArray)[j]? = some (Value.string p) by simp [hj]] at h1
  by_cases hj0 : j = 0
  ·subst hj0; simpa [Addr.add, Kd.string, Kd.scalar] using h1
  ·simpa [Addr.add, Kd.string, Kd.scalar, hj0] using h1
theorem tailRow {w0 : World} {g : Nat} {p0 : ByteArray} {ps : List ByteArray} (hl : ps.length ≤ 262144) (hw : w0.heap[g]? = some (.cells ((p0 :: ps).map Value.string).toArray 9 (0, 0))) : Kd.C Kd.string w0 (if ps.length + 1 = 1 then some ⟨g, 0, none⟩ else some ⟨g, 1, none⟩) ps.length ps := by
 have h := Kd.C_drop (m := 1) (c := ps.length + 1) (strRow (by simp; omega) hw) (by simp) (by simp)
 simpa [Addr.add, Kd.string, Kd.scalar] using h
end Go.Proofs.YtmcjccigglekpaaGreatDoor.Given
namespace Go.Proofs.YtmcjccigglekpaaGreatDoor.Given
open Go Go.RowKit Go.Proofs Go.Proofs.YtmcjccigglekpaaGreatDoorW.PrintWords Go.Proofs.YtmcjccigglekpaaGreatDoorW.PrintLast Go.Proofs.YtmcjccigglekpaaGreatDoorW.PrintMore Go.Proofs.YtmcjccigglekpaaGreatDoor.P Go.Proofs.YtmcjccigglekpaaGreatDoor.Plain

theorem intRow {w0 : World} {g T : Nat} {l : List Int} (hl : l.length ≤ 1000000) (hw : w0.heap[g]? = some (.cells (l.map (Value.int .i64)).toArray T (0, 0))) : Kd.C (Kd.int .i64) w0 (some ⟨g, 0, none⟩) l.length l := by
 refine ⟨rfl, by omega, fun _ => ⟨_, rfl, fun j p hj => ?_⟩⟩
 refine ⟨[.int .i64 p], rfl, rfl, fun i u hu => ?_⟩
 cases i with
 | succ i => simp at hu
 | zero =>
  obtain rfl := Option.some.inj hu
  have h1 := blk_cell hw j
  rw [show ((l.map (Value.int .i64)).toArray)[j]? = some (Value.int .i64 p) by simp [hj]] at h1
  by_cases hj0 : j = 0
  ·subst hj0; simpa [Addr.add, Kd.int, Kd.scalar] using h1
  ·simpa [Addr.add, Kd.int, Kd.scalar, hj0] using h1
theorem cellsN_all (l : List ByteArray) : cellsN l l.length = ((l.map numS).map (Value.int .i64)).toArray := by
 unfold cellsN; simp
theorem tailRow' {w0 : World} {g : Nat} {p0 : ByteArray} {ps : List ByteArray} (hl : ps.length ≤ 262144) (hw : w0.heap[g]? = some (.cells ((p0 :: ps).map Value.string).toArray 9 (0, 0))) : Kd.C Kd.string w0 (if ps = [] then some ⟨g, 0, none⟩ else some ⟨g, 1, none⟩) ps.length ps := by
 have he : (ps.length + 1 = 1) = (ps = []) := by simp
 simp only [← he]
 exact tailRow hl hw
theorem callFunc_rd {w0 : ByteArray} {f : Nat} (hf : lookI w0 = some f) (args : Array Value) (W : World) : (callFunc f args).run Tryz.prog W = .ok (.enter f args) W := by
 have hm := lookI_mem hf
 simp only [rdL, List.map_cons, List.map_nil, List.mem_cons, List.not_mem_nil, or_false] at hm
 rcases hm with rfl | rfl | rfl | rfl | rfl | rfl | rfl | rfl | rfl | rfl | rfl | rfl
 ·exact enters_of Tryz.func76 (by kernel_rfl) rfl _ _
 ·exact enters_of Tryz.func76 (by kernel_rfl) rfl _ _
 ·exact enters_of Tryz.func77 (by kernel_rfl) rfl _ _
 ·exact enters_of Tryz.func78 (by kernel_rfl) rfl _ _
 ·exact enters_of Tryz.func79 (by kernel_rfl) rfl _ _
 ·exact enters_of Tryz.func80 (by kernel_rfl) rfl _ _
 ·exact enters_of Tryz.func81 (by kernel_rfl) rfl _ _
 ·exact enters_of Tryz.func82 (by kernel_rfl) rfl _ _
 ·exact enters_of Tryz.func83 (by kernel_rfl) rfl _ _
 ·exact enters_of Tryz.func84 (by kernel_rfl) rfl _ _
 ·exact enters_of Tryz.func85 (by kernel_rfl) rfl _ _
 ·exact enters_of Tryz.func86 (by kernel_rfl) rfl _ _
/-- The method of a line may be called. -/
theorem line_ready {w0 : World} {a : At} {s : ByteArray} {x : St × Int} {W1 w3 : World} {f g g2 : Nat} {p0 : ByteArray} {ps : List ByteArray} {rv0 : Rv} {wv0 nv0 : Value} (H : PI w0 a 0 s x W1) (hlo : lookI p0 = some f) (hzs : ∀ x ∈ ps, x.size ≤ 262144) (hlen : ps.length ≤ 262144) (hB : Below W1.heap.size W1 w3)
  (HR : Rd w0.heap.size a.r rv0 x.1 x.2 false wv0 nv0 W1) (hbs : W1.heap[g]? = some (.cells ((p0 :: ps).map Value.string).toArray 9 (0, 0))) (hbn : w3.heap[g2]? = some (.cells (cellsN ps ps.length) 2 (0, 0)))
  (r : Nat) (har : a.r = r) (W4 : World) (hW4 : (w3.setCell ⟨r, 8, none⟩ (.slice (if ps = [] then some ⟨g, 0, none⟩ else some ⟨g, 1, none⟩) ps.length ps.length)).setCell ⟨r, 9, none⟩ (.slice (some ⟨g2, 0, none⟩) ps.length ps.length) = W4) :
  PI w0 a 0 s x W4 ∧ KeepsOthers W1 W4 ∧ Calls Tryz.prog f #[.pointer (some ⟨r, 0, none⟩)] W4 (RdPost w0.heap.size r (stepF f ps x) W4) := by
 subst har
 have h3 := HR.below hB
 have h4 := (h3.setW (.slice (if ps = [] then some ⟨g, 0, none⟩ else some ⟨g, 1, none⟩) ps.length ps.length)).setN (.slice (some ⟨g2, 0, none⟩) ps.length ps.length)
 rw [hW4] at h4
 have hR4 : Rest w3 W4 := hW4 ▸ h3.rest (((But.refl (fun k => k = a.r) w3).set 8 _ (.inl rfl)).set 9 _ (.inl rfl))
 have hB4 : Below w0.heap.size w3 W4 := hW4 ▸ h3.toBelow (((But.refl (fun k => k = a.r) w3).set 8 _ (.inl rfl)).set 9 _ (.inl rfl))
 have hR : Rest W1 W4 := (Rest.of_below hB).trans hR4
 have hBB : Below w0.heap.size W1 W4 := (hB.mono H.bl.size).trans hB4
 have hI := H.rest hR hBB ⟨_, _, _, h4⟩
 have hL : Line W4 (.slice (if ps = [] then some ⟨g, 0, none⟩ else some ⟨g, 1, none⟩) ps.length ps.length) (.slice (some ⟨g2, 0, none⟩) ps.length ps.length) ps (ps.map numS) := by
  refine ⟨⟨_, _, _, _, rfl, by rw [List.length_map], fun w' hr => ?_, fun w' hr => ?_⟩, rfl⟩
  ·exact tailRow' hlen ((hR.trans hr).block hbs (by decide))
  ·refine intRow (T := 2) (by rw [List.length_map]; omega) ?_
   rw [← cellsN_all]
   exact (hR4.trans hr).block hbn (by decide)
 obtain ⟨k, hk, hkl⟩ := H.sz
 have hle := H.le
 exact ⟨hI, hR.keeps, rd_all hlo h4 hL hI.gl (fun i => Nat.le_trans (wI_size hzs i) (by omega)) (by rw [List.length_map]; omega) (hk.mono (by omega))⟩
/-- Behind a line's method: where the two results lie. -/
theorem behind {w0 : World} {a : At} {s : ByteArray} {x : St × Int} {W W1 : World} {e : Ending} {o : Option (St × Int)} (H : PI w0 a 0 s x W) (r : Nat) (har : a.r = r) (hp : RdPost w0.heap.size r o W e W1) :
  W1.heap[a.t2]? = some (.cells #[.slice none 0 0, .slice none 0 0, .slice none 0 0, .slice none 0 0, .slice none 0 0, .slice none 0 0, .slice none 0 0, .slice none 0 0] 32 (0, 0)) ∧
  W1.heap[a.t3]? = some (.cells #[.int .i64 0] 35 (0, 0)) ∧
  W1.heap[a.t4]? = some (.cells #[.pointer (some ⟨r, 0, none⟩)] 102 (0, 0)) ∧ Below w0.heap.size w0 W1 ∧ KeepsOthers W W1 ∧ W1.cell? ⟨r, 11, none⟩ = some (.bool o.isNone) := by
 subst har
 obtain ⟨_, hB, hR, h, s', p', wv, nv, hrd, _⟩ := hp
 have go : ∀ {k : Nat} {cs : Array Value} {T : Nat}, W.heap[k]? = some (.cells cs T (0, 0)) → T ∉ stTys → W1.heap[k]? = some (.cells cs T (0, 0)) := fun hc hT => hR.2 _ _ hc (fun _ _ _ e => by cases e; exact hT)
 exact ⟨go H.res (by decide), go H.err (by decide), go H.rp (by decide), H.bl.trans hB, hR.keeps, (blk_cell hrd.blk 11).trans rfl⟩
end Go.Proofs.YtmcjccigglekpaaGreatDoor.Given
namespace Go.Proofs.YtmcjccigglekpaaGreatDoor.Given
open Go Go.RowKit Go.Proofs Go.Proofs.YtmcjccigglekpaaGreatDoorW.PrintWords Go.Proofs.YtmcjccigglekpaaGreatDoorW.PrintLast Go.Proofs.YtmcjccigglekpaaGreatDoorW.PrintMore Go.Proofs.YtmcjccigglekpaaGreatDoor.P Go.Proofs.YtmcjccigglekpaaGreatDoor.Plain

/-- A text as a state, and the errno. -/
def parseI (s : ByteArray) : St × Int := if (s.size : Int) > 262144 then (stZ, 1) else match foldLines stepLine (s.size + 1) s (stZ, -1) with
 | none => (stZ, 270)
 | some y => if stateB y.1 = true ∧ putT y.1 = s then (y.1, 0) else (stZ, 270)
/-- A state's rows, of one's own. -/
structure RowsT (B : Nat) (h : Rv) (s : St) (w : World) : Prop where
 r0 : Kd.R k70 70 w B (fun _ => True) h.v0 s.th
 r1 : Kd.S (Kd.slice 3 (Kd.int .i64)) 29 w B (fun _ => True) h.v1 s.fr
 r2 : Kd.S (Kd.slice 87 k87) 56 w B (fun _ => True) h.v2 s.no
 r3 : Kd.R k76 76 w B (fun _ => True) h.v3 s.tr
 r4 : Kd.S k59 59 w B (fun _ => True) h.v4 s.po
 r5 : Kd.S (Kd.slice 3 (Kd.int .i64)) 29 w B (fun _ => True) h.v5 s.li
 r6 : Kd.R (Kd.int .i64) 3 w B (fun _ => True) h.v6 s.ro
 r7 : Kd.R k82 82 w B (fun _ => True) h.v7 s.sw
theorem Rows.toT {B r : Nat} {col : Nat → Nat} {h : Rv} {s : St} {w : World} (H : Rows B r col h s w) : RowsT B h s w :=
 ⟨Kd.R_mono H.r0 (fun _ _ => trivial), Kd.S_mono H.r1 (fun _ _ => trivial), Kd.S_mono H.r2 (fun _ _ => trivial), Kd.R_mono H.r3 (fun _ _ => trivial), Kd.S_mono H.r4 (fun _ _ => trivial), Kd.S_mono H.r5 (fun _ _ => trivial), Kd.R_mono H.r6 (fun _ _ => trivial), Kd.R_mono H.r7 (fun _ _ => trivial)⟩
theorem RowsT.zero (B : Nat) (w : World) : RowsT B rvZ stZ w := Rows.toT (r := 0) (col := fun _ => 8) ⟨rfl, Kd.R_nil _ _ _ _ _, S_nil_ _ _ _ _ _, S_nil_ _ _ _ _ _, Kd.R_nil _ _ _ _ _, S_nil_ _ _ _ _ _, S_nil_ _ _ _ _ _, Kd.R_nil _ _ _ _ _, Kd.R_nil _ _ _ _ _⟩
def ParsePost (s : ByteArray) (w : World) (e : Ending) (w' : World) : Prop := ∃ h : Rv, e = .returned (.tuple #[.agg #[h.v0, h.v1, h.v2, h.v3, h.v4, h.v5, h.v6, h.v7], .int .i64 (parseI s).2]) ∧ RowsT w.heap.size h (parseI s).1 w' ∧ Below w.heap.size w w'
theorem R_row_ {α : Type} {d : Kd α} {e base : Nat} {ok : Nat → Prop} {w : World} {v : Value} {xs : List α} (h : d.R e w base ok v xs) : ∃ (A : Option Addr) (c : Nat), v = .slice A xs.length c ∧ xs.length ≤ c ∧ d.C w A xs.length xs := by
 obtain ⟨A, c, rfl⟩ := Kd.R_slice h
 exact ⟨A, c, rfl, (Kd.R_reads' h).2.1, (Kd.R_reads' h).2.2⟩
theorem RowsT.sv {B : Nat} {h : Rv} {s : St} {w : World} (H : RowsT B h s w) : ∃ v : Sv, h = ⟨.slice v.A0 s.th.length v.c0, .slice v.A1 s.fr.length v.c1, .slice v.A2 s.no.length v.c2, .slice v.A3 s.tr.length v.c3, .slice v.A4 s.po.length v.c4, .slice v.A5 s.li.length v.c5, .slice v.A6 s.ro.length v.c6, .slice v.A7 s.sw.length v.c7⟩ ∧ v.At s w := by
 obtain ⟨h0, h1, h2, h3, h4, h5, h6, h7⟩ := H
 obtain ⟨A0, c0, e0, l0, k0⟩ := R_row_ h0
 obtain ⟨A1, c1, e1, l1, k1⟩ := R_row_ (Kd.S_R h1)
 obtain ⟨A2, c2, e2, l2, k2⟩ := R_row_ (Kd.S_R h2)
 obtain ⟨A3, c3, e3, l3, k3⟩ := R_row_ h3
 obtain ⟨A4, c4, e4, l4, k4⟩ := R_row_ (Kd.S_R h4)
 obtain ⟨A5, c5, e5, l5, k5⟩ := R_row_ (Kd.S_R h5)
 obtain ⟨A6, c6, e6, l6, k6⟩ := R_row_ h6
 obtain ⟨A7, c7, e7, l7, k7⟩ := R_row_ h7
 refine ⟨⟨A0, A1, A2, A3, A4, A5, A6, A7, c0, c1, c2, c3, c4, c5, c6, c7⟩, ?_, ⟨k0, k1, k2, k3, k4, k5, k6, k7, l0, l1, l2, l3, l4, l5, l6, l7⟩⟩
 obtain ⟨v0, v1, v2, v3, v4, v5, v6, v7⟩ := h
 dsimp only at e0 e1 e2 e3 e4 e5 e6 e7 ⊢
 rw [e0, e1, e2, e3, e4, e5, e6, e7]
/-- The results are read. -/
theorem parse_results {tmps : Array Value} {W : World} {g2 g3 : Nat} {h : Rv} {e : Int} (t2 : tmps.getD 2 undef = .pointer (some ⟨g2, 0, none⟩)) (t3 : tmps.getD 3 undef = .pointer (some ⟨g3, 0, none⟩))
  (b2 : W.heap[g2]? = some (.cells #[h.v0, h.v1, h.v2, h.v3, h.v4, h.v5, h.v6, h.v7] 32 (0, 0))) (b3 : W.heap[g3]? = some (.cells #[.int .i64 e] 35 (0, 0))) :
  (results Tryz.f15 tmps).run Tryz.prog W = .ok (.tuple #[.agg #[h.v0, h.v1, h.v2, h.v3, h.v4, h.v5, h.v6, h.v7], .int .i64 e]) W := by
 have c20 := (blk_cell b2 0).trans (show _ = some h.v0 from rfl)
 have c21 := (blk_cell b2 1).trans (show _ = some h.v1 from rfl)
 have c22 := (blk_cell b2 2).trans (show _ = some h.v2 from rfl)
 have c23 := (blk_cell b2 3).trans (show _ = some h.v3 from rfl)
 have c24 := (blk_cell b2 4).trans (show _ = some h.v4 from rfl)
 have c25 := (blk_cell b2 5).trans (show _ = some h.v5 from rfl)
 have c26 := (blk_cell b2 6).trans (show _ = some h.v6 from rfl)
 have c27 := (blk_cell b2 7).trans (show _ = some h.v7 from rfl)
 have c30 := (blk_cell b3 0).trans (show _ = some (Value.int .i64 e) from rfl)
 rw [Array.getD_eq_getD_getElem?] at t2 t3
 simp only [results, Tryz.f15]
 go_simp
theorem leaves_mark {F : Fence} {n : Nat} {P : Program} {fn : Func} {tmps : Array Value} {R : Ending → World → Prop} {D : Nat} {W : World} (hD : W.heap[D]? = some (.deferred (some []))) (h : ∃ v, (results fn tmps).run P (W.putObj D (.deferred none)) = .ok v (W.putObj D (.deferred none)) ∧ R (.returned v) (W.putObj D (.deferred none))) :
  LeavesInM F n P fn tmps R [{ target := .collected D, args := #[] }] .returning W :=
 ⟨by simp, .inl ⟨D, _, rfl, run_takeDeferred hD, h⟩⟩
/-- A state's cells and an errno are put. -/
def putV (g2 g3 : Nat) (h : Rv) (e : Int) (W : World) : World := ((((((((W.setCell ⟨g2, 0, none⟩ h.v0).setCell ⟨g2, 1, none⟩ h.v1).setCell ⟨g2, 2, none⟩ h.v2).setCell ⟨g2, 3, none⟩ h.v3).setCell ⟨g2, 4, none⟩ h.v4).setCell ⟨g2, 5, none⟩ h.v5).setCell ⟨g2, 6, none⟩ h.v6).setCell ⟨g2, 7, none⟩ h.v7).setCell ⟨g3, 0, none⟩ (.int .i64 e)
theorem putV_other {g2 g3 k : Nat} {h : Rv} {e : Int} {W : World} (h2 : k ≠ g2) (h3 : k ≠ g3) : (putV g2 g3 h e W).heap[k]? = W.heap[k]? := by
 unfold putV
 rw [Below.heap_setCell _ ⟨g3, 0, none⟩ _ k h3]
 iterate 8 rw [Below.heap_setCell _ ⟨g2, _, none⟩ _ k h2]
theorem putV_blk {g2 g3 : Nat} {h : Rv} {e e0 : Int} {W : World} (b2 : W.heap[g2]? = some (.cells #[.slice none 0 0, .slice none 0 0, .slice none 0 0, .slice none 0 0, .slice none 0 0, .slice none 0 0, .slice none 0 0, .slice none 0 0] 32 (0, 0))) (b3 : W.heap[g3]? = some (.cells #[.int .i64 e0] 35 (0, 0))) :
  (putV g2 g3 h e W).heap[g2]? = some (.cells #[h.v0, h.v1, h.v2, h.v3, h.v4, h.v5, h.v6, h.v7] 32 (0, 0)) ∧ (putV g2 g3 h e W).heap[g3]? = some (.cells #[.int .i64 e] 35 (0, 0)) := by
 have hne : g2 ≠ g3 := fun e => by rw [e, b3] at b2; injection b2 with b2; injection b2 with b2 _ _; have := congrArg Array.size b2; simp at this
 obtain ⟨v0, v1, v2, v3, v4, v5, v6, v7⟩ := h
 have b1 := blk_put (blk_put (blk_put (blk_put (blk_put (blk_put (blk_put (blk_put b2 0 v0 rfl) 1 v1 rfl) 2 v2 rfl) 3 v3 rfl) 4 v4 rfl) 5 v5 rfl) 6 v6 rfl) 7 v7 rfl
 unfold putV
 dsimp only
 refine ⟨?_, ?_⟩
 ·simp only [List.setIfInBounds_toArray, List.set_cons_zero, List.set_cons_succ] at b1
  exact (Below.heap_setCell _ ⟨g3, 0, none⟩ _ _ hne).trans b1
 ·refine blk_put (cs := #[.int .i64 e0]) ?_ 0 _ rfl
  iterate 8 refine (Below.heap_setCell _ ⟨g2, _, none⟩ _ _ (Ne.symm hne)).trans ?_
  exact b3
theorem putV_below {B g2 g3 : Nat} {h : Rv} {e : Int} {w W : World} (hb : Below B w W) (h2 : B ≤ g2) (h3 : B ≤ g3) : Below B w (putV g2 g3 h e W) := by
 obtain ⟨v0, v1, v2, v3, v4, v5, v6, v7⟩ := h
 unfold putV
 refine Below.setCell (p := ⟨g3, 0, none⟩) ?_ h3 _
 refine Below.setCell (p := ⟨g2, 7, none⟩) ?_ h2 _
 refine Below.setCell (p := ⟨g2, 6, none⟩) ?_ h2 _
 refine Below.setCell (p := ⟨g2, 5, none⟩) ?_ h2 _
 refine Below.setCell (p := ⟨g2, 4, none⟩) ?_ h2 _
 refine Below.setCell (p := ⟨g2, 3, none⟩) ?_ h2 _
 refine Below.setCell (p := ⟨g2, 2, none⟩) ?_ h2 _
 refine Below.setCell (p := ⟨g2, 1, none⟩) ?_ h2 _
 exact Below.setCell (p := ⟨g2, 0, none⟩) hb h2 _
/-- The end behind a loop: the mark is taken, the results are read. -/
theorem parse_end {F : Fence} {n D g2 g3 : Nat} {tmps : Array Value} {s : ByteArray} {w W : World} {h : Rv} {e : Int} (t2 : tmps.getD 2 undef = .pointer (some ⟨g2, 0, none⟩)) (t3 : tmps.getD 3 undef = .pointer (some ⟨g3, 0, none⟩)) (hD : W.heap[D]? = some (.deferred (some []))) (hwD : w.heap.size ≤ D)
  (b2 : W.heap[g2]? = some (.cells #[h.v0, h.v1, h.v2, h.v3, h.v4, h.v5, h.v6, h.v7] 32 (0, 0))) (b3 : W.heap[g3]? = some (.cells #[.int .i64 e] 35 (0, 0))) (he : e = (parseI s).2) (hB : Below w.heap.size w W) (hr : RowsT w.heap.size h (parseI s).1 (W.putObj D (.deferred none))) :
  LeavesInM F n Tryz.prog Tryz.f15 tmps (ParsePost s w) [{ target := .collected D, args := #[] }] .returning W := by
 have hne : ∀ {k : Nat} {cs : Array Value} {T : Nat}, W.heap[k]? = some (.cells cs T (0, 0)) → k ≠ D := fun hc e => by rw [e, hD] at hc; cases hc
 have hr1 := parse_results (tmps := tmps) (h := h) (e := e) (g2 := g2) (g3 := g3) (W := W.putObj D (.deferred none)) t2 t3 ((World.putObj_heap_other (hne b2)).trans b2) ((World.putObj_heap_other (hne b3)).trans b3)
 have hb1 : Below w.heap.size w (W.putObj D (.deferred none)) := hB.trans ⟨rfl, rfl, rfl, by simp, fun k hk => World.putObj_heap_other (by omega)⟩
 exact leaves_mark hD ⟨_, hr1, h, by rw [he], hr, hb1⟩
theorem parseI_long {s : ByteArray} (h : (s.size : Int) > 262144) : parseI s = (stZ, 1) := if_pos h
theorem parseI_none {s : ByteArray} (h : ¬ (s.size : Int) > 262144) (hf : foldLines stepLine (s.size + 1) s (stZ, -1) = none) : parseI s = (stZ, 270) := by
 unfold parseI; rw [if_neg h, hf]
theorem parseI_some {s : ByteArray} {y : St × Int} (h : ¬ (s.size : Int) > 262144) (hf : foldLines stepLine (s.size + 1) s (stZ, -1) = some y) : parseI s = if stateB y.1 = true ∧ putT y.1 = s then (y.1, 0) else (stZ, 270) := by
 unfold parseI; rw [if_neg h, hf]
theorem blk_new' (w : World) (o : Obj) {n : Nat} (h : w.heap.size = n) : (w.alloc o).heap[n]? = some o := h ▸ heap_alloc_new w o
theorem PI.start {w w1 : World} {s : ByteArray} (hs : s.size ≤ 262144) (hG : GLB w.heap.size w) (hmb : w1.heap[w.heap.size + 1 + 1 + 1 + 1]? = some (.map (rdEs 12) 12))
  (hb1 : Below (w.heap.size + 1 + 1 + 1 + 1) ((((w.alloc (.cells #[.slice none 0 0, .slice none 0 0, .slice none 0 0, .slice none 0 0, .slice none 0 0, .slice none 0 0, .slice none 0 0, .slice none 0 0] 32)).alloc (.cells #[.int .i64 0] 35)).alloc (.cells #[.slice none 0 0, .slice none 0 0, .slice none 0 0, .slice none 0 0, .slice none 0 0, .slice none 0 0, .slice none 0 0, .slice none 0 0, .slice none 0 0, .slice none 0 0, .int .i64 (-1), .bool false] 106)).alloc (.cells #[.pointer (some ⟨w.heap.size + 1 + 1, 0, none⟩)] 102)) w1) (a : At) (ha : a = ⟨w.heap.size, w.heap.size + 1, w.heap.size + 1 + 1 + 1, w1.heap.size, w1.heap.size + 1, w.heap.size + 1 + 1 + 1 + 1, w.heap.size + 1 + 1, s.size⟩) :
  PI w a 0 s (stZ, -1) ((w1.alloc (.cells #[.map (some (w.heap.size + 1 + 1 + 1 + 1))] 107)).alloc (.cells #[.string s] 9)) := by
 subst ha
 have h4 : ((((w.alloc (.cells #[.slice none 0 0, .slice none 0 0, .slice none 0 0, .slice none 0 0, .slice none 0 0, .slice none 0 0, .slice none 0 0, .slice none 0 0] 32)).alloc (.cells #[.int .i64 0] 35)).alloc (.cells #[.slice none 0 0, .slice none 0 0, .slice none 0 0, .slice none 0 0, .slice none 0 0, .slice none 0 0, .slice none 0 0, .slice none 0 0, .slice none 0 0, .slice none 0 0, .int .i64 (-1), .bool false] 106)).alloc (.cells #[.pointer (some ⟨w.heap.size + 1 + 1, 0, none⟩)] 102)).heap.size = w.heap.size + 1 + 1 + 1 + 1 := by simp
 have g0 : ∀ k o, ((((w.alloc (.cells #[.slice none 0 0, .slice none 0 0, .slice none 0 0, .slice none 0 0, .slice none 0 0, .slice none 0 0, .slice none 0 0, .slice none 0 0] 32)).alloc (.cells #[.int .i64 0] 35)).alloc (.cells #[.slice none 0 0, .slice none 0 0, .slice none 0 0, .slice none 0 0, .slice none 0 0, .slice none 0 0, .slice none 0 0, .slice none 0 0, .slice none 0 0, .slice none 0 0, .int .i64 (-1), .bool false] 106)).alloc (.cells #[.pointer (some ⟨w.heap.size + 1 + 1, 0, none⟩)] 102)).heap[k]? = some o → ((w1.alloc (.cells #[.map (some (w.heap.size + 1 + 1 + 1 + 1))] 107)).alloc (.cells #[.string s] 9)).heap[k]? = some o := fun k o h => by
  have hk : k < w.heap.size + 1 + 1 + 1 + 1 := h4 ▸ blk_lt h
  have hz := hb1.size
  rw [h4] at hz
  rw [Below.heap_alloc _ _ _ (by simp; omega), Below.heap_alloc _ _ _ (by omega), hb1.block k hk]
  exact h
 have b2 := blk_alloc (blk_alloc (blk_alloc (blk_new' w (.cells #[.slice none 0 0, .slice none 0 0, .slice none 0 0, .slice none 0 0, .slice none 0 0, .slice none 0 0, .slice none 0 0, .slice none 0 0] 32) rfl) (.cells #[.int .i64 0] 35)) (.cells #[.slice none 0 0, .slice none 0 0, .slice none 0 0, .slice none 0 0, .slice none 0 0, .slice none 0 0, .slice none 0 0, .slice none 0 0, .slice none 0 0, .slice none 0 0, .int .i64 (-1), .bool false] 106)) (.cells #[.pointer (some ⟨w.heap.size + 1 + 1, 0, none⟩)] 102)
 have b3 := blk_alloc (blk_alloc (blk_new' (w.alloc (.cells #[.slice none 0 0, .slice none 0 0, .slice none 0 0, .slice none 0 0, .slice none 0 0, .slice none 0 0, .slice none 0 0, .slice none 0 0] 32)) (.cells #[.int .i64 0] 35) (n := w.heap.size + 1) (by simp)) (.cells #[.slice none 0 0, .slice none 0 0, .slice none 0 0, .slice none 0 0, .slice none 0 0, .slice none 0 0, .slice none 0 0, .slice none 0 0, .slice none 0 0, .slice none 0 0, .int .i64 (-1), .bool false] 106)) (.cells #[.pointer (some ⟨w.heap.size + 1 + 1, 0, none⟩)] 102)
 have br := blk_alloc (blk_new' ((w.alloc (.cells #[.slice none 0 0, .slice none 0 0, .slice none 0 0, .slice none 0 0, .slice none 0 0, .slice none 0 0, .slice none 0 0, .slice none 0 0] 32)).alloc (.cells #[.int .i64 0] 35)) (.cells #[.slice none 0 0, .slice none 0 0, .slice none 0 0, .slice none 0 0, .slice none 0 0, .slice none 0 0, .slice none 0 0, .slice none 0 0, .slice none 0 0, .slice none 0 0, .int .i64 (-1), .bool false] 106) (n := w.heap.size + 1 + 1) (by simp)) (.cells #[.pointer (some ⟨w.heap.size + 1 + 1, 0, none⟩)] 102)
 have b4 := blk_new' (((w.alloc (.cells #[.slice none 0 0, .slice none 0 0, .slice none 0 0, .slice none 0 0, .slice none 0 0, .slice none 0 0, .slice none 0 0, .slice none 0 0] 32)).alloc (.cells #[.int .i64 0] 35)).alloc (.cells #[.slice none 0 0, .slice none 0 0, .slice none 0 0, .slice none 0 0, .slice none 0 0, .slice none 0 0, .slice none 0 0, .slice none 0 0, .slice none 0 0, .slice none 0 0, .int .i64 (-1), .bool false] 106)) (.cells #[.pointer (some ⟨w.heap.size + 1 + 1, 0, none⟩)] 102) (n := w.heap.size + 1 + 1 + 1) (by simp)
 have hbl : Below w.heap.size w ((w1.alloc (.cells #[.map (some (w.heap.size + 1 + 1 + 1 + 1))] 107)).alloc (.cells #[.string s] 9)) := by
  have hz := hb1.size
  rw [h4] at hz
  exact ((((((Below.refl _ _).alloc (Nat.le_refl _) _).alloc (by simp) _).alloc (by simp; omega) _).alloc (by simp; omega) _).trans (hb1.mono (by omega))).alloc (by omega) _ |>.alloc (by simp; omega) _
 refine ⟨blk_new' _ _ (by simp), g0 _ _ b2, g0 _ _ b3, g0 _ _ b4, ?_, ?_, ⟨rvZ, _, _, Rd.zero (g0 _ _ br) (show w.heap.size ≤ w.heap.size + 1 + 1 by omega)⟩, hbl, hG.on hbl, ⟨0, stZ_small, show 0 + s.size ≤ s.size + 0 by omega⟩, ⟨Nat.le_refl _, hs⟩, stZ_fine⟩
 ·rw [Below.heap_alloc _ _ _ (by simp)]
  exact blk_new' _ _ rfl
 ·have := blk_lt hmb
  rw [Below.heap_alloc _ _ _ (by simp; omega), Below.heap_alloc _ _ _ (by omega)]
  exact hmb
theorem st_cells {W : World} {g : Nat} (b : W.heap[g]? = some (.cells #[.slice none 0 0, .slice none 0 0, .slice none 0 0, .slice none 0 0, .slice none 0 0, .slice none 0 0, .slice none 0 0, .slice none 0 0] 32 (0, 0))) :
  W.cell? ⟨g, 0, none⟩ = some (.slice none 0 0) ∧ W.cell? ⟨g, 1, none⟩ = some (.slice none 0 0) ∧ W.cell? ⟨g, 2, none⟩ = some (.slice none 0 0) ∧ W.cell? ⟨g, 3, none⟩ = some (.slice none 0 0) ∧ W.cell? ⟨g, 4, none⟩ = some (.slice none 0 0) ∧ W.cell? ⟨g, 5, none⟩ = some (.slice none 0 0) ∧ W.cell? ⟨g, 6, none⟩ = some (.slice none 0 0) ∧ W.cell? ⟨g, 7, none⟩ = some (.slice none 0 0) ∧ W.frozen? ⟨g, 0, none⟩ = false ∧ W.frozen? ⟨g, 1, none⟩ = false ∧ W.frozen? ⟨g, 2, none⟩ = false ∧ W.frozen? ⟨g, 3, none⟩ = false ∧ W.frozen? ⟨g, 4, none⟩ = false ∧ W.frozen? ⟨g, 5, none⟩ = false ∧ W.frozen? ⟨g, 6, none⟩ = false ∧ W.frozen? ⟨g, 7, none⟩ = false :=
 ⟨(blk_cell b 0).trans rfl, (blk_cell b 1).trans rfl, (blk_cell b 2).trans rfl, (blk_cell b 3).trans rfl, (blk_cell b 4).trans rfl, (blk_cell b 5).trans rfl, (blk_cell b 6).trans rfl, (blk_cell b 7).trans rfl, blk_frozen b 0, blk_frozen b 1, blk_frozen b 2, blk_frozen b 3, blk_frozen b 4, blk_frozen b 5, blk_frozen b 6, blk_frozen b 7⟩
theorem text_ne {x s : ByteArray} (h : ¬ x = s) : (!x.toList == s.toList) = true := by
 rw [ByteArray.toList_eq, ByteArray.toList_eq]
 simp only [Bool.not_eq_true', beq_eq_false_iff_ne, ne_eq]
 intro he
 apply h
 cases x; cases s; congr 1; exact Array.toList_inj.1 he
/-- Behind Put: the results are stored, and read. -/
theorem parse_fin {F : Fence} {n D : Nat} {tmps : Array Value} {s s' : ByteArray} {y : St × Int} {w W w6 : World} {a : At} {h : Rv} {e : Int} (hI : PI w a 0 s' y W) (hdf : W.heap[D]? = some (.deferred (some []))) (hwD : w.heap.size ≤ D) (h2 : w.heap.size ≤ a.t2) (h3 : w.heap.size ≤ a.t3) (he : e = (parseI s).2)
  (hr : ∀ w7, (∀ k cs T, k < W.heap.size → W.heap[k]? = some (.cells cs T (0, 0)) → T ∈ stTys → w7.heap[k]? = W.heap[k]?) → RowsT w.heap.size h (parseI s).1 w7) (hb6 : Below W.heap.size W w6)
  (t2 : tmps.getD 2 undef = .pointer (some ⟨a.t2, 0, none⟩)) (t3 : tmps.getD 3 undef = .pointer (some ⟨a.t3, 0, none⟩)) :
  LeavesInM F n Tryz.prog Tryz.f15 tmps (ParsePost s w) [{ target := .collected D, args := #[] }] .returning (putV a.t2 a.t3 h e w6) := by
 have b6 := putV_blk (h := h) (e := e) (blk_below hI.res hb6) (blk_below hI.err hb6)
 have hD2 : a.t2 ≠ D := fun e => by have := hI.res; rw [e, hdf] at this; cases this
 have hD3 : a.t3 ≠ D := fun e => by have := hI.err; rw [e, hdf] at this; cases this
 have hd6 : (putV a.t2 a.t3 h e w6).heap[D]? = some (.deferred (some [])) := (putV_other (Ne.symm hD2) (Ne.symm hD3)).trans ((hb6.block _ (blk_lt hdf)).trans hdf)
 refine parse_end t2 t3 hd6 hwD b6.1 b6.2 he (putV_below (hI.bl.trans (hb6.mono hI.bl.size)) h2 h3) (hr _ fun k cs T hk hc hT => ?_)
 have k2 : k ≠ a.t2 := fun e => by subst e; rw [hI.res] at hc; injection hc with hc; injection hc with _ hc _; subst hc; exact absurd hT (by decide)
 have k3 : k ≠ a.t3 := fun e => by subst e; rw [hI.err] at hc; injection hc with hc; injection hc with _ hc _; subst hc; exact absurd hT (by decide)
 have kD : k ≠ D := fun e => by subst e; rw [hdf] at hc; cases hc
 rw [World.putObj_heap_other kD, putV_other k2 k3, hb6.block k hk]
end Go.Proofs.YtmcjccigglekpaaGreatDoor.Given
namespace Go.Proofs.YtmcjccigglekpaaGreatDoor.Given
open Go Go.RowKit
section
variable {P : Program} {ops : Array Oper} {md : Region.Mode} {l : Nat} {n : Nat}
def noDefer (ops : Array Oper) : Bool := ops.all fun o => match o.op with
 | .defer _ => false
 | _ => true
theorem noDefer_at {i : Nat} {o : Oper} (h : noDefer ops = true) (ho : ops[i]? = some o) : ∀ c, o.op ≠ .defer c := by
 intro c hc
 obtain ⟨hlt, rfl⟩ := Array.getElem?_eq_some_iff.1 ho
 have := (Array.all_eq_true.1 h) i hlt
 rw [hc] at this
 cases this
theorem rowsIn_wide' {row : String} {args : Array Value} {w : World} {R : Value → World → Prop} (h : Go.Rows P row args w R) : RowsIn (Fence.wide.inRound l) n P row args w R :=
 fun c cs _ => let ⟨v, w', r, s⟩ := h c cs; ⟨v, w', r, stepsIn_wide.2 s⟩
/-- Ways out but the normal one are none. -/
def OnlyN (Q : Act → World → Prop) : Exit → Act → World → Prop := fun e a w => e = .normal ∧ Q a w
theorem onlyN_lets (Q : Act → World → Prop) : ¬ LetsOut (OnlyN Q) := fun ⟨_, _, h⟩ => by cases h.1
theorem uponIn_of_upon {Q : Exit → Act → World → Prop} {o : Oper} {a : Act} {K : Act → World → Prop} {r : Result Next} (h : o.upon P a K Q r) : o.uponIn (Fence.wide.inRound l) n P a K Q r := by
 cases r with
 | ok x w' =>
  cases x <;> simp only [Oper.upon] at h <;> simp only [Oper.uponIn]
  case value v => exact h
  case skip => exact h
  case defer d => exact h
  case enter f args => exact ⟨(fun h => by cases h), CallsIn.inRound l (callsIn_wide.2 (Calls.mono h (fun e w'' he => by cases e <;> exact he)))⟩
  case row row args => exact ⟨(fun h => by cases h), rowsIn_wide' h⟩
 | halt x w' => cases x <;> simp only [Oper.upon] at h <;> simp only [Oper.uponIn]; exact h
theorem wpOpIn_of {Q : Exit → Act → World → Prop} (hn : ¬ LetsOut Q) (hd : noDefer ops = true) {i : Nat} {K : Act → World → Prop} {a : Act} {w : World} (h : wpOp P ops Q i K a w) : wpOpIn (Fence.wide.inRound l) n P ops Q i K a w := by
 unfold wpOp at h
 unfold wpOpIn
 cases ho : ops[i]? with
 | none => rw [ho] at h; exact h
 | some o =>
  rw [ho] at h
  dsimp only at h ⊢
  by_cases hw : Region.wanted o (yielded ops a.tmps) = true
  ·rw [if_pos hw] at h ⊢
   rcases h with h | h
   ·refine ⟨fun _ _ => trivial, ?_⟩
    rw [Oper.semAt_eq _ _ _ (noDefer_at hd ho)]
    exact uponIn_of_upon h
   ·exact absurd h.2 hn
  ·rw [if_neg hw] at h ⊢
   exact ⟨fun _ _ => trivial, h⟩
theorem wpAnyIn_of {Q : Exit → Act → World → Prop} (hn : ¬ LetsOut Q) (hd : noDefer ops = true) : ∀ (fuel : Nat) (listed : Array Bool) (a : Act) (w : World), wpAny P md ops Q fuel listed a w → wpAnyIn (Fence.wide.inRound l) n P md ops Q fuel listed a w
 | 0, _, _, _, h => h
 | fuel + 1, listed, a, w, h => ⟨h.1, fun i hi => wpOpIn_mono (fun a w => wpAnyIn_of hn hd fuel _ a w) (wpOpIn_of hn hd (h.2 i hi))⟩
/-- **In a round: all but the last by the order given, then the last.** -/
theorem wpIn_region_sch {id : Nat} {Q : Exit → Act → World → Prop} {a : Act} {w : World} {l' : List Oper} (S : World → Prop) (m : Nat) (sch : List (Bool × Nat)) (hm : P.follows .mixedOrders = true)
  (hB : (peelB .any l'.toArray m && (sch.length == m) && Region.noSelect l'.toArray && schOk .any l'.toArray sch ((Array.replicate l'.toArray.size false).setIfInBounds m true)) = true) (hd : noDefer l'.toArray = true)
  (wd : World) (hwd : w.drew = wd) (hS : S wd)
  (h : wpSch P l'.toArray (lastQ P l'.toArray (OnlyN (Q .normal)) m) S sch a wd) : (Code.region id l'.toArray true).wpIn (Fence.wide.inRound l) n P Q a w := by
 subst hwd
 refine wpIn_mono (Q := OnlyN (Q .normal)) ?_ (fun e a w hh => by obtain ⟨rfl, hh⟩ := hh; exact hh)
 simp only [Bool.and_eq_true, beq_iff_eq] at hB
 obtain ⟨⟨⟨h1, h2⟩, h3⟩, h4⟩ := hB
 have hsz : l'.toArray.size = m + 1 := by
  unfold peelB at h1
  simp only [Bool.and_eq_true, beq_iff_eq] at h1
  exact h1.1.1
 refine wpIn_region_any hm ?_
 have hx := wpAny_last (P := P) (Q := OnlyN (Q .normal)) h1 sch.length (Array.replicate l'.toArray.size false) a w.drew (by simp) (fun i o ho hl => absurd hl (by rw [Array.getD_eq_getD_getElem?, Array.getElem?_replicate, if_pos (Array.getElem?_eq_some_iff.1 ho).1]; simp)) (by rw [Array.getD_eq_getD_getElem?, Array.getElem?_replicate, if_pos (by omega)]; rfl) (wpAny_of_held _ _ _ _ (sch_held (Q := lastQ P l'.toArray (OnlyN (Q .normal)) m) h3 (fun c a d v w hp => by cases hp.1) sch _ _ _ h4 hS h))
 rw [h2, ← hsz] at hx
 exact wpAnyIn_of (onlyN_lets _) hd _ _ _ _ hx
end
end Go.Proofs.YtmcjccigglekpaaGreatDoor.Given
namespace Go.Proofs.YtmcjccigglekpaaGreatDoor.Given
open Go Go.RowKit Go.Shelf Go.Proofs Go.Proofs.YtmcjccigglekpaaGreatDoorW.PrintWords Go.Proofs.YtmcjccigglekpaaGreatDoorW.PrintLast Go.Proofs.YtmcjccigglekpaaGreatDoorW.PrintMore Go.Proofs.YtmcjccigglekpaaGreatDoor.P Go.Proofs.YtmcjccigglekpaaGreatDoor.Plain
attribute [local go_sem] Oper.semAt_some

/-- All ways end at one place. -/
theorem wpIn_at {F : Fence} {n : Nat} {P : Program} {c : Code} {Q : Exit → Act → World → Prop} {a : Act} {w : World} (A : Act) (Wz : World) (h : c.wpIn F n P (fun e a' w' => e = .normal ∧ a' = A ∧ w' = Wz) a w) (hq : Q .normal A Wz) : c.wpIn F n P Q a w :=
 wpIn_mono h (fun e a' w' hh => by obtain ⟨rfl, rfl, rfl⟩ := hh; exact hq)
theorem lines_calls (s : ByteArray) (w : World) : Calls Tryz.prog 45 #[.string s] w fun e w' => e = .returned (.func (.func 87) #[] #[.pointer (some ⟨w.heap.size, 0, none⟩)]) ∧ w' = w.alloc (.cells #[.string s] 9) := by
 go_enter Tryz.func45, Tryz.ntmps45
 go_wp2
 go_ret
 exact ⟨rfl, rfl⟩
set_option maxRecDepth 100000 in
set_option maxHeartbeats 4000000 in
theorem parse_calls (s : ByteArray) (w : World) (hG : GLB w.heap.size w) : Calls Tryz.prog 15 #[.string s] w (ParsePost s w) := by
 refine (callsIn_wide (n := 3)).1 ?_
 refine callsIn_of_wp_marks Tryz.func15 rfl trivial ?_ rfl
 simp only [Tryz.ntmps15, List.size_toArray, List.length_cons, List.length_nil, Nat.reduceAdd, Nat.reduceSub, Array.replicate_succ, Array.replicate_zero, List.push_toArray, List.append_toArray, List.nil_append, List.cons_append]
 have hF1 : Fence.wide.fn 44 := trivial
 have hF2 : Fence.wide.fn 45 := trivial
 have hF5 : Fence.wide.fn 10 := trivial
 have D1 := Lib.hid (fun w' => (callsIn_wide (n := 2)).2 (readers_calls w'))
 have D2 := Lib.hid (fun w' => (callsIn_wide (n := 2)).2 (lines_calls s w'))
 by_cases hs : (s.size : Int) > 262144
 ·have h1 : decide ((s.size : Int) > 262144) = true := decide_eq_true hs
  have hpi := parseI_long hs
  gi_wp2
  exact ⟨_, parse_results (h := rvZ) rfl rfl (blk_alloc (blk_new' w (.cells #[.slice none 0 0, .slice none 0 0, .slice none 0 0, .slice none 0 0, .slice none 0 0, .slice none 0 0, .slice none 0 0, .slice none 0 0] 32) rfl) _) (blk_new' _ _ (by simp)), rvZ, by rw [hpi], by rw [hpi]; exact RowsT.zero _ _, ((Below.refl _ _).alloc (Nat.le_refl _) _).alloc (by simp) _⟩
 ·have h1 : decide ((s.size : Int) > 262144) = false := decide_eq_false hs
  gi_wp2_with (first | (gi_at_call 44; refine (D1.out _).mono ?_; clear D1; rintro e w1 ⟨rfl, hmb, hb1⟩) | (gi_at_call 45; refine (D2.out _).mono ?_; clear D2; rintro e w2 ⟨rfl, rfl⟩))
  generalize hX : (w1.alloc (Obj.cells #[Value.map (some (w.heap.size + 1 + 1 + 1 + 1))] 107)).alloc (Obj.cells #[Value.string s] 9) = X
  obtain ⟨a, ha⟩ : ∃ a : At, a = ⟨w.heap.size, w.heap.size + 1, w.heap.size + 1 + 1 + 1, w1.heap.size, w1.heap.size + 1, w.heap.size + 1 + 1 + 1 + 1, w.heap.size + 1 + 1, s.size⟩ := ⟨_, rfl⟩
  have hsx : s.size ≤ 262144 := by omega
  have hP : PI w a 0 s (stZ, -1) X := hX ▸ PI.start hsx hG (by simpa using hmb) (by simpa using hb1) a ha
  have hmx : a.mb < X.heap.size := blk_lt hP.mo
  have hbx : w.heap.size ≤ a.bx := by subst ha; have := hb1.size; simp at this ⊢; omega
  have hwx : w.heap.size ≤ X.heap.size := hP.bl.size
  refine wpIn_lines rfl (by decide) (by decide) a.bx (by subst ha; rfl) trivial trivial (fun s hs W hG => (callsIn_wide (n := _)).2 (cut_calls s ⟨#[10]⟩ hs W hG)) (fun x => stepLine x) (PI w a 0) (PJ w a) (PX w a)
   (fun s x W l o o' h hl ho hc => ⟨h.1.putObj ho hc (by omega) (by omega), h.2⟩) (fun s x W h => ⟨_, h.1.box⟩)
   (fun s x W l o o' h hl ho hc => h.putObj ho hc (by omega) (by omega)) (fun W l o o' h hl ho hc => h.putObj ho hc (by omega))
   (fun s x W o h _ => h.below ((Below.refl _ _).alloc (Nat.le_refl _) _)) (fun s x W h => ⟨_, h.box⟩) (fun s x W h => h.gl _ (Below.refl _ _)) (fun s x W h => by have := h.le; omega)
   (fun s x W m h => h.below (pw_below_drewN (Below.refl _ _) m)) (fun s x W h => h.set hbx) s (stZ, -1) hP ?a1 ?hassign ?hbody ?hdone ?hstop
  case hassign =>
   intro l v b W K hK
   gi_wp2
   exact hK
  case hbody =>
   intro l s' x W hs0 hI
   have hle := hI.le
   have hla := (cutA_size s' nl s'.size (Nat.le_refl _)).1
   obtain ⟨la, hla'⟩ : ∃ la, la = cutA s' ⟨#[10]⟩ := ⟨_, rfl⟩
   obtain ⟨wh, hwh'⟩ : ∃ wh, wh = cutC s' ⟨#[10]⟩ := ⟨_, rfl⟩
   rw [← hla', ← hwh']
   replace hla : la.size ≤ 262144 := by rw [hla']; exact Nat.le_trans hla (Nat.le_trans hle.1 hle.2)
   clear hla' hwh'
   obtain ⟨p0, ps, hp, hz0, hzs, hlen⟩ := pieces_all hla
   have hG1 := hI.gl _ (Below.refl _ _)
   have DS := Lib.hid ((callsIn_wide (n := 0)).2 (split_calls la (by omega) W hG1))
   have hmx : Tryz.prog.follows .mixedOrders = true := by kernel_rfl
   have hF3 : Fence.wide.fn 46 := trivial
   have hF4 : Fence.wide.fn 47 := trivial
   have hI1 := hI.below ((Below.refl _ _).alloc (Nat.le_refl _) (.cells ((piecesB la).map Value.string).toArray 9))
   have k5 : (W.alloc (.cells ((piecesB la).map Value.string).toArray 9)).cell? ⟨w1.heap.size, 0, none⟩ = some (.map (some (w.heap.size + 1 + 1 + 1 + 1))) := by have := blk_cell hI1.mp 0; subst ha; exact this.trans rfl
   have kp : (W.alloc (.cells ((piecesB la).map Value.string).toArray 9)).cell? ⟨W.heap.size, 0, none⟩ = some (.string p0) := by
    rw [hp]; exact (blk_cell (blk_new W _) 0).trans rfl
   have hlk := run_look (w := (W.alloc (.cells ((piecesB la).map Value.string).toArray 9)).drew) hI1.mo p0 (by omega)
   rw [show a.mb = w.heap.size + 1 + 1 + 1 + 1 by subst ha; rfl] at hlk
   have hst : stepLine x la wh = match lookI p0 with
    | none => none
    | some f => if wh = true then stepF f ps x else none := by unfold stepLine; rw [hp]; rfl
   rw [hst]
   generalize hW1 : W.alloc (.cells ((piecesB la).map Value.string).toArray 9) = W1 at *
   have hpl : (piecesB la).length = ps.length + 1 := by rw [hp]; rfl
   rw [hpl] at DS
   have hple : (1 : Int) ≤ ↑ps.length + 1 := by omega
   have hrow : Kd.C Kd.string W1 (if ps = [] then some ⟨W.heap.size, 0, none⟩ else some ⟨W.heap.size, 1, none⟩) ps.length ps := by
    have he : (ps.length + 1 = 1) = (ps = []) := by simp
    simp only [← he]
    refine tailRow (p0 := p0) (by omega) ?_
    rw [← hW1, ← hp]
    exact blk_new W _
   have HBS := Lib.hid (show W1.heap[W.heap.size]? = some (.cells ((p0 :: ps).map Value.string).toArray 9 (0, 0)) by rw [← hW1, ← hp]; exact blk_new W _)
   clear hst hp hpl
   have hb2 := hI1.res
   have hb3 := hI1.err
   have hb4 := hI1.rp
   rw [show a.t2 = w.heap.size by subst ha; rfl] at hb2
   rw [show a.t3 = w.heap.size + 1 by subst ha; rfl] at hb3
   rw [show a.t4 = w.heap.size + 1 + 1 + 1 by subst ha; rfl, show a.r = w.heap.size + 1 + 1 by subst ha; rfl] at hb4
   have hrd1 := hI1.rd
   rw [show a.r = w.heap.size + 1 + 1 by subst ha; rfl] at hrd1
   have hkeep := (KeepsOthers.alloc W (.cells ((piecesB la).map Value.string).toArray 9))
   rw [hW1] at hkeep
   have HX := Lib.hid (putX_PX (W := W1) hI1.res hI1.err hI1.bl (by subst ha; exact Nat.le_refl _) (by subst ha; exact Nat.le_succ _)).drew
   have HK := Lib.hid ((hkeep.trans (putX_keeps a W1)).trans (KeepsOthers.drew _))
   rw [show putX a W1 = putX ⟨w.heap.size, w.heap.size + 1, 0, 0, 0, 0, 0, 0⟩ W1 by subst ha; rfl] at HX HK
   unfold putX at HX HK
   have HKW := Lib.hid hkeep
   have HI1 := Lib.hid hI1
   have HA := Lib.hid ha
   clear ha
   clear hI1 hI hP hb1 hmb hkeep
   cases hlo : lookI p0 with
   | none =>
    rw [lookV, hlo] at hlk
    dsimp only [Option.isSome] at hlk ⊢
    have c20 := (blk_cell hb2 0).trans (show _ = some (Value.slice none 0 0) from rfl)
    have c21 := (blk_cell hb2 1).trans (show _ = some (Value.slice none 0 0) from rfl)
    have c22 := (blk_cell hb2 2).trans (show _ = some (Value.slice none 0 0) from rfl)
    have c23 := (blk_cell hb2 3).trans (show _ = some (Value.slice none 0 0) from rfl)
    have c24 := (blk_cell hb2 4).trans (show _ = some (Value.slice none 0 0) from rfl)
    have c25 := (blk_cell hb2 5).trans (show _ = some (Value.slice none 0 0) from rfl)
    have c26 := (blk_cell hb2 6).trans (show _ = some (Value.slice none 0 0) from rfl)
    have c27 := (blk_cell hb2 7).trans (show _ = some (Value.slice none 0 0) from rfl)
    have c30 := (blk_cell hb3 0).trans (show _ = some (Value.int .i64 0) from rfl)
    have f20 := blk_frozen hb2 0
    have f21 := blk_frozen hb2 1
    have f22 := blk_frozen hb2 2
    have f23 := blk_frozen hb2 3
    have f24 := blk_frozen hb2 4
    have f25 := blk_frozen hb2 5
    have f26 := blk_frozen hb2 6
    have f27 := blk_frozen hb2 7
    have f30 := blk_frozen hb3 0
    clear hb2 hb3 hb4
    gi_wp2_with (gi_at_call 46; refine (CallsIn.inRound l DS.out).mono ?_; clear DS; rintro e w2 ⟨rfl, hw2⟩; rw [hw2])
    refine wpIn_region_sch (fun w' => w' = W1.drew) 9 [(false, 0), (false, 1), (false, 2), (false, 3), (false, 4), (false, 5), (false, 6), (false, 7), (false, 8)] (by kernel_rfl) (by kernel_rfl) (by kernel_rfl) W1.drew rfl rfl ?_
    try dsimp only
    repeat (refine' sch_pure rfl rfl ?_ ?_; rotate_left; · (rintro w' rfl; go_simp <;> rfl)
            simp only [Act.put, List.setIfInBounds_toArray, List.set_cons_zero, List.set_cons_succ])
    refine sch_last rfl (fun K hK => ?_)
    go_simp
    refine hK.out _ _ ⟨rfl, ?_⟩
    clear hK K
    gi_wp2
    exact ⟨by with_reducible exact HK.out, rfl, by with_reducible exact HX.out⟩
   | some f =>
    rw [lookV, hlo] at hlk
    dsimp only [Option.isSome] at hlk ⊢
    cases wh with
    | false =>
     rw [if_neg (by decide)]
     have c20 := (blk_cell hb2 0).trans (show _ = some (Value.slice none 0 0) from rfl)
     have c21 := (blk_cell hb2 1).trans (show _ = some (Value.slice none 0 0) from rfl)
     have c22 := (blk_cell hb2 2).trans (show _ = some (Value.slice none 0 0) from rfl)
     have c23 := (blk_cell hb2 3).trans (show _ = some (Value.slice none 0 0) from rfl)
     have c24 := (blk_cell hb2 4).trans (show _ = some (Value.slice none 0 0) from rfl)
     have c25 := (blk_cell hb2 5).trans (show _ = some (Value.slice none 0 0) from rfl)
     have c26 := (blk_cell hb2 6).trans (show _ = some (Value.slice none 0 0) from rfl)
     have c27 := (blk_cell hb2 7).trans (show _ = some (Value.slice none 0 0) from rfl)
     have c30 := (blk_cell hb3 0).trans (show _ = some (Value.int .i64 0) from rfl)
     have f20 := blk_frozen hb2 0
     have f21 := blk_frozen hb2 1
     have f22 := blk_frozen hb2 2
     have f23 := blk_frozen hb2 3
     have f24 := blk_frozen hb2 4
     have f25 := blk_frozen hb2 5
     have f26 := blk_frozen hb2 6
     have f27 := blk_frozen hb2 7
     have f30 := blk_frozen hb3 0
     clear hb2 hb3 hb4
     gi_wp2_with (gi_at_call 46; refine (CallsIn.inRound l DS.out).mono ?_; clear DS; rintro e w2 ⟨rfl, hw2⟩; rw [hw2])
     refine wpIn_region_sch (fun w' => w' = W1.drew) 9 [(false, 0), (false, 1), (false, 2), (false, 3), (false, 4), (false, 5), (false, 6), (false, 7), (false, 8)] (by kernel_rfl) (by kernel_rfl) (by kernel_rfl) W1.drew rfl rfl ?_
     try dsimp only
     repeat (refine' sch_pure rfl rfl ?_ ?_; rotate_left; · (rintro w' rfl; go_simp <;> rfl)
             simp only [Act.put, List.setIfInBounds_toArray, List.set_cons_zero, List.set_cons_succ])
     refine sch_last rfl (fun K hK => ?_)
     go_simp
     refine hK.out _ _ ⟨rfl, ?_⟩
     clear hK K
     gi_wp2
     exact ⟨by with_reducible exact HK.out, rfl, by with_reducible exact HX.out⟩
    | true =>
     rw [if_pos rfl]
     have c40 := (blk_cell hb4 0).trans (show _ = some (Value.pointer (some ⟨w.heap.size + 1 + 1, 0, none⟩)) from rfl)
     have hlt1 := blk_lt hb4
     have DN := Lib.hid (fun (W' : World) (hb : Below W1.heap.size W1 W') => numbers_calls _ ps.length ps (fun x hx => Nat.le_trans (hzs x hx) (by omega)) (by omega) W' (HI1.out.gl W' (hb.mono HI1.out.bl.size)) (Kd.C_below hrow hb))
     have HROW := Lib.hid hrow
     obtain ⟨rv0, wv0, nv0, hRd0⟩ := hrd1
     have HRD := Lib.hid hRd0
     have HB4 := Lib.hid hb4
     clear hb2 hb3 hb4 HX HK hrow hRd0
     gi_wp2_with (gi_at_call 46; refine (CallsIn.inRound l DS.out).mono ?_; clear DS; rintro e w2 ⟨rfl, hw2⟩; rw [hw2]; clear hw2)
     refine wpIn_region_sch (fun w' => w' = W1.drew) 9 [(false, 0), (false, 1), (false, 2), (false, 3), (false, 4), (false, 5), (false, 6), (false, 7), (false, 8)] (by kernel_rfl) (by kernel_rfl) (by kernel_rfl) W1.drew rfl rfl ?_
     try dsimp only
     repeat (refine' sch_pure rfl rfl ?_ ?_; rotate_left; · (rintro w' rfl; go_simp <;> rfl)
             simp only [Act.put, List.setIfInBounds_toArray, List.set_cons_zero, List.set_cons_succ])
     refine sch_last rfl (fun K hK => ?_)
     go_simp
     refine hK.out _ _ ⟨rfl, ?_⟩
     clear hK K
     gi_wp2
     obtain ⟨wd, hwd⟩ : ∃ wd, W1.drew.drew = wd := ⟨_, rfl⟩
     have hbd : Below W1.heap.size W1 wd := hwd ▸ below_drew (below_drew (Below.refl _ _))
     have c40d : wd.cell? ⟨w.heap.size + 1 + 1 + 1, 0, none⟩ = some (.pointer (some ⟨w.heap.size + 1 + 1, 0, none⟩)) := hwd ▸ c40
     have hszd : wd.heap.size = W1.heap.size := by rw [← hwd]; rfl
     refine wpIn_region_sch (fun w' => w'.cell? ⟨w.heap.size + 1 + 1 + 1, 0, none⟩ = some (.pointer (some ⟨w.heap.size + 1 + 1, 0, none⟩))) 12 [(false, 0), (false, 1), (false, 2), (false, 3), (false, 4), (false, 5), (true, 6), (false, 7), (false, 8), (true, 9), (false, 10), (false, 11)] (by kernel_rfl) (by kernel_rfl) (by kernel_rfl) wd hwd c40d ?_
     clear hwd
     try dsimp only
     repeat (refine' sch_pure rfl rfl ?_ ?_; rotate_left; · (rintro w' hs1; go_simp <;> rfl)
             simp only [Act.put, List.setIfInBounds_toArray, List.set_cons_zero, List.set_cons_succ])
     have H3 := HRD.out.below hbd
     have HH3 := Lib.hid H3
     have hlt3 := H3.lt
     have hl3 : w.heap.size + 1 + 1 + 1 < wd.heap.size := by omega
     clear H3
     refine sch_alone rfl (fun K hK => ?_)
     go_simp
     refine (DN.out wd hbd).mono ?_
     rintro e w3 ⟨rfl, hw3, hb3⟩
     have H3 := HH3.out.below hb3
     have hb43 := blk_below (blk_below HB4.out hbd) hb3
     have c403 := (blk_cell hb43 0).trans (show _ = some (Value.pointer (some ⟨w.heap.size + 1 + 1, 0, none⟩)) from rfl)
     have c404 : ∀ u, (w3.setCell ⟨w.heap.size + 1 + 1, 8, none⟩ u).cell? ⟨w.heap.size + 1 + 1 + 1, 0, none⟩ = some (.pointer (some ⟨w.heap.size + 1 + 1, 0, none⟩)) := fun u => (blk_cell (blk_far hb43 (p := ⟨w.heap.size + 1 + 1, 8, none⟩) (show w.heap.size + 1 + 1 + 1 ≠ w.heap.size + 1 + 1 by omega) u) 0).trans rfl
     clear hb43
     have c83 := (blk_cell H3.blk 8).trans (show _ = some wv0 from rfl)
     have f83 := blk_frozen H3.blk 8
     have c93 : ∀ u, (w3.setCell ⟨w.heap.size + 1 + 1, 8, none⟩ u).cell? ⟨w.heap.size + 1 + 1, 9, none⟩ = some nv0 := fun u => (blk_cell (H3.setW u).blk 9).trans rfl
     have f93 : ∀ u, (w3.setCell ⟨w.heap.size + 1 + 1, 8, none⟩ u).frozen? ⟨w.heap.size + 1 + 1, 9, none⟩ = false := fun u => blk_frozen (H3.setW u).blk 9
     refine hK.out _ _ c403 ?_
     clear hK K
     try simp only [Act.put, List.setIfInBounds_toArray, List.set_cons_zero, List.set_cons_succ]
     repeat (refine' sch_pure rfl rfl ?_ ?_; rotate_left; · (rintro w' hs1; go_simp <;> rfl)
             simp only [Act.put, List.setIfInBounds_toArray, List.set_cons_zero, List.set_cons_succ])
     refine sch_alone rfl (fun K hK => ?_)
     go_simp
     refine hK.out _ _ (c404 _) ?_
     clear hK K
     try simp only [Act.put, List.setIfInBounds_toArray, List.set_cons_zero, List.set_cons_succ]
     repeat (refine' sch_pure rfl rfl ?_ ?_; rotate_left; · (rintro w' hs1; go_simp <;> rfl)
             simp only [Act.put, List.setIfInBounds_toArray, List.set_cons_zero, List.set_cons_succ])
     refine sch_last rfl (fun K hK => ?_)
     go_simp
     refine hK.out _ _ ⟨rfl, ?_⟩
     clear hK K
     obtain ⟨W4, hW4⟩ : ∃ W4, (w3.setCell ⟨w.heap.size + 1 + 1, 8, none⟩ (.slice (if ps = [] then some ⟨W.heap.size, 0, none⟩ else some ⟨W.heap.size, 1, none⟩) ps.length ps.length)).setCell ⟨w.heap.size + 1 + 1, 9, none⟩ (.slice (some ⟨W1.heap.size, 0, none⟩) ps.length ps.length) = W4 := ⟨_, rfl⟩
     have hww : w3.heap[W1.heap.size]? = some (.cells (cellsN ps ps.length) 2 (0, 0)) := hszd ▸ hw3
     obtain ⟨hI4, hk4, hc4⟩ := line_ready HI1.out hlo hzs hlen (hbd.trans (hb3.mono (by omega))) ((show a.r = w.heap.size + 1 + 1 by have := HA.out; subst this; rfl) ▸ HRD.out) HBS.out hww (w.heap.size + 1 + 1) (by have := HA.out; subst this; rfl) W4 hW4
     rw [hW4]
     have c44 := (blk_cell hI4.rp 0).trans (show _ = some (Value.pointer (some ⟨a.r, 0, none⟩)) from rfl)
     rw [show a.t4 = w.heap.size + 1 + 1 + 1 by have := HA.out; subst this; rfl, show a.r = w.heap.size + 1 + 1 by have := HA.out; subst this; rfl] at c44
     have HI4 := Lib.hid hI4
     have HK4 := Lib.hid hk4
     have DM := Lib.hid hc4
     have hcf := callFunc_rd hlo #[.pointer (some ⟨w.heap.size + 1 + 1, 0, none⟩)] W4
     clear hI4 hk4 hc4 hW4 hww c404 c403 c83 f83 c93 f93 H3 hw3 hb3 c40d c40 hbd
     generalize (if ps = [] then some (⟨W.heap.size, 0, none⟩ : Addr) else some ⟨W.heap.size, 1, none⟩) = A0
     gi_wp2
     refine ⟨trivial, (CallsIn.inRound l (callsIn_wide.2 DM.out)).mono ?_⟩
     intro e w5 hp5
     have he5 := hp5.1
     subst he5
     obtain ⟨g2, g3, g4, gb, gk, g11⟩ := behind HI4.out _ (by have := HA.out; subst this; rfl) hp5
     rw [show a.t2 = w.heap.size by have := HA.out; subst this; rfl] at g2
     rw [show a.t3 = w.heap.size + 1 by have := HA.out; subst this; rfl] at g3
     rw [show a.t4 = w.heap.size + 1 + 1 + 1 by have := HA.out; subst this; rfl] at g4
     have c45 := (blk_cell g4 0).trans (show _ = some (Value.pointer (some ⟨w.heap.size + 1 + 1, 0, none⟩)) from rfl)
     have HK5 := Lib.hid ((HKW.out.trans HK4.out).trans gk)
     have HP5 := Lib.hid hp5
     have HGB := Lib.hid gb
     clear hp5 gb gk g4 hcf DM
     generalize hoo : stepF f ps x = oo at *
     cases oo with
     | none =>
      dsimp only [Option.isNone] at g11
      have HX : Hid (PX w a (putX ⟨w.heap.size, w.heap.size + 1, 0, 0, 0, 0, 0, 0⟩ w5)) := by
       have := HA.out
       subst this
       exact Lib.hid (putX_PX g2 g3 HGB.out (Nat.le_refl _) (Nat.le_succ _))
      have HKX := Lib.hid (HK5.out.trans (putX_keeps ⟨w.heap.size, w.heap.size + 1, 0, 0, 0, 0, 0, 0⟩ w5))
      unfold putX at HX HKX
      have c20 := (blk_cell g2 0).trans (show _ = some (Value.slice none 0 0) from rfl)
      have c21 := (blk_cell g2 1).trans (show _ = some (Value.slice none 0 0) from rfl)
      have c22 := (blk_cell g2 2).trans (show _ = some (Value.slice none 0 0) from rfl)
      have c23 := (blk_cell g2 3).trans (show _ = some (Value.slice none 0 0) from rfl)
      have c24 := (blk_cell g2 4).trans (show _ = some (Value.slice none 0 0) from rfl)
      have c25 := (blk_cell g2 5).trans (show _ = some (Value.slice none 0 0) from rfl)
      have c26 := (blk_cell g2 6).trans (show _ = some (Value.slice none 0 0) from rfl)
      have c27 := (blk_cell g2 7).trans (show _ = some (Value.slice none 0 0) from rfl)
      have c30 := (blk_cell g3 0).trans (show _ = some (Value.int .i64 0) from rfl)
      have f20 := blk_frozen g2 0
      have f21 := blk_frozen g2 1
      have f22 := blk_frozen g2 2
      have f23 := blk_frozen g2 3
      have f24 := blk_frozen g2 4
      have f25 := blk_frozen g2 5
      have f26 := blk_frozen g2 6
      have f27 := blk_frozen g2 7
      have f30 := blk_frozen g3 0
      clear g2 g3
      gi_wp2
      exact ⟨by with_reducible exact HKX.out, rfl, by with_reducible exact HX.out⟩
     | some y =>
      dsimp only [Option.isNone] at g11
      have HY := Lib.hid (PI.line HI4.out hs0 (by omega) hoo ((show a.r = w.heap.size + 1 + 1 by have := HA.out; subst this; rfl) ▸ HP5.out))
      clear g2 g3 hoo
      gi_wp2
      exact ⟨HK5.out, rfl, HY.out⟩
  case hstop =>
   intro D W hD hf hI hdf
   have hpi := parseI_none (by omega) hf
   have h2 := hI.res
   have h3 := hI.err
   rw [show a.t2 = w.heap.size by subst ha; rfl] at h2
   rw [show a.t3 = w.heap.size + 1 by subst ha; rfl] at h3
   have HE := Lib.hid (fun (tmps : Array Value) (t2 : tmps.getD 2 undef = .pointer (some ⟨w.heap.size, 0, none⟩)) (t3 : tmps.getD 3 undef = .pointer (some ⟨w.heap.size + 1, 0, none⟩)) => parse_end (F := Fence.wide) (n := 3) (s := s) (h := rvZ) (e := 270) t2 t3 hdf (Nat.le_trans hwx hD) h2 h3 (by rw [hpi]) hI.bl (by rw [hpi]; exact RowsT.zero _ _))
   clear hI hdf h2 h3 hpi hf hP
   gi_wp2
   exact HE.out _ rfl rfl
  case hdone =>
   intro D s' y W hD hf hI hdf
   obtain ⟨rv, wv, nv, hrd⟩ := hI.rd
   obtain ⟨col, hrows⟩ := hrd.rows
   obtain ⟨⟨A0, A1, A2, A3, A4, A5, A6, A7, c0, c1, c2, c3, c4, c5, c6, c7⟩, hsv, hat⟩ := hrows.toT.sv
   dsimp only at hsv
   subst hsv
   have hDP := image_Put_calls _ y.1 W hat hI.fi.wf hI.gl.here
   dsimp only [Sv.cells] at hDP
   unfold PutPost at hDP
   have hpi := parseI_some (by omega) hf
   have c44 := (blk_cell hI.rp 0).trans (show _ = some (Value.pointer (some ⟨a.r, 0, none⟩)) from rfl)
   have hrb := hrd.blk
   rw [show a.r = w.heap.size + 1 + 1 by subst ha; rfl] at hrb c44
   rw [show a.t4 = w.heap.size + 1 + 1 + 1 by subst ha; rfl] at c44
   have r0 := (blk_cell hrb 0).trans (show _ = some (Value.slice A0 y.1.th.length c0) from rfl)
   have r1 := (blk_cell hrb 1).trans (show _ = some (Value.slice A1 y.1.fr.length c1) from rfl)
   have r2 := (blk_cell hrb 2).trans (show _ = some (Value.slice A2 y.1.no.length c2) from rfl)
   have r3 := (blk_cell hrb 3).trans (show _ = some (Value.slice A3 y.1.tr.length c3) from rfl)
   have r4 := (blk_cell hrb 4).trans (show _ = some (Value.slice A4 y.1.po.length c4) from rfl)
   have r5 := (blk_cell hrb 5).trans (show _ = some (Value.slice A5 y.1.li.length c5) from rfl)
   have r6 := (blk_cell hrb 6).trans (show _ = some (Value.slice A6 y.1.ro.length c6) from rfl)
   have r7 := (blk_cell hrb 7).trans (show _ = some (Value.slice A7 y.1.sw.length c7) from rfl)
   have h2 := hI.res
   have h3 := hI.err
   rw [show a.t2 = w.heap.size by subst ha; rfl] at h2
   rw [show a.t3 = w.heap.size + 1 by subst ha; rfl] at h3
   have HRD := Lib.hid hrd
   have HI := Lib.hid hI
   have HDF := Lib.hid hdf
   clear hrd hI hdf hat hrows hrb hf hP
   cases hB : stateB y.1 with
   | false =>
    rw [hB, if_neg (by decide), if_neg (by decide)] at hDP
    rw [hB, if_neg (by simp)] at hpi
    have HF := Lib.hid (fun (tmps : Array Value) (w6 : World) (hb6 : Below W.heap.size W w6) (t2 : tmps.getD 2 undef = .pointer (some ⟨a.t2, 0, none⟩)) (t3 : tmps.getD 3 undef = .pointer (some ⟨a.t3, 0, none⟩)) => parse_fin (F := Fence.wide) (n := 3) (s := s) (h := rvZ) (e := 270) HI.out HDF.out (Nat.le_trans hwx hD) (by subst ha; exact Nat.le_refl _) (by subst ha; exact Nat.le_succ _) (by rw [hpi]) (by rw [hpi]; exact fun w7 _ => RowsT.zero _ w7) hb6 t2 t3)
    unfold putV at HF
    rw [show a.t2 = w.heap.size by subst ha; rfl, show a.t3 = w.heap.size + 1 by subst ha; rfl] at HF
    dsimp only [rvZ] at HF
    have DP := Lib.hid ((callsIn_wide (n := 2)).2 hDP)
    clear hDP
    gi_wp2_with (gi_at_call 10; refine DP.out.mono ?_; clear DP; rintro e w6 ⟨rfl, hb6⟩; obtain ⟨k20, k21, k22, k23, k24, k25, k26, k27, f20, f21, f22, f23, f24, f25, f26, f27⟩ := st_cells (blk_below h2 hb6); have k30 := (blk_cell (blk_below h3 hb6) 0).trans (show _ = some (Value.int .i64 0) from rfl); have f30 := blk_frozen (blk_below h3 hb6) 0)
    exact HF.out _ w6 hb6 rfl rfl
   | true =>
    rw [hB, if_pos rfl, if_pos rfl] at hDP
    have DP := Lib.hid ((callsIn_wide (n := 2)).2 hDP)
    clear hDP
    by_cases hx : putT y.1 = s
    ·rw [hB, if_pos ⟨rfl, hx⟩] at hpi
     have HF := Lib.hid (fun (tmps : Array Value) (w6 : World) (hb6 : Below W.heap.size W w6) (t2 : tmps.getD 2 undef = .pointer (some ⟨a.t2, 0, none⟩)) (t3 : tmps.getD 3 undef = .pointer (some ⟨a.t3, 0, none⟩)) => parse_fin (F := Fence.wide) (n := 3) (s := s) (e := 0) HI.out HDF.out (Nat.le_trans hwx hD) (by subst ha; exact Nat.le_refl _) (by subst ha; exact Nat.le_succ _) (by rw [hpi]) (by rw [hpi]; exact fun w7 hw7 => (HRD.out.stillT hw7).rows.elim fun _ hr => hr.toT) hb6 t2 t3)
     unfold putV at HF
     rw [show a.t2 = w.heap.size by subst ha; rfl, show a.t3 = w.heap.size + 1 by subst ha; rfl] at HF
     dsimp only at HF
     rw [hx] at DP
     gi_wp2_with (gi_at_call 10; refine DP.out.mono ?_; clear DP; rintro e w6 ⟨rfl, hb6⟩; obtain ⟨k20, k21, k22, k23, k24, k25, k26, k27, f20, f21, f22, f23, f24, f25, f26, f27⟩ := st_cells (blk_below h2 hb6); have k30 := (blk_cell (blk_below h3 hb6) 0).trans (show _ = some (Value.int .i64 0) from rfl); have f30 := blk_frozen (blk_below h3 hb6) 0; have k44 := bcellv hb6 c44; have s0 := bcellv hb6 r0; have s1 := bcellv hb6 r1; have s2 := bcellv hb6 r2; have s3 := bcellv hb6 r3; have s4 := bcellv hb6 r4; have s5 := bcellv hb6 r5; have s6 := bcellv hb6 r6; have s7 := bcellv hb6 r7)
     exact HF.out _ w6 hb6 rfl rfl
    ·rw [hB, if_neg (fun h => hx h.2)] at hpi
     have HF := Lib.hid (fun (tmps : Array Value) (w6 : World) (hb6 : Below W.heap.size W w6) (t2 : tmps.getD 2 undef = .pointer (some ⟨a.t2, 0, none⟩)) (t3 : tmps.getD 3 undef = .pointer (some ⟨a.t3, 0, none⟩)) => parse_fin (F := Fence.wide) (n := 3) (s := s) (h := rvZ) (e := 270) HI.out HDF.out (Nat.le_trans hwx hD) (by subst ha; exact Nat.le_refl _) (by subst ha; exact Nat.le_succ _) (by rw [hpi]) (by rw [hpi]; exact fun w7 _ => RowsT.zero _ w7) hb6 t2 t3)
     unfold putV at HF
     rw [show a.t2 = w.heap.size by subst ha; rfl, show a.t3 = w.heap.size + 1 by subst ha; rfl] at HF
     dsimp only [rvZ] at HF
     have hne := text_ne hx
     gi_wp2_with (gi_at_call 10; refine DP.out.mono ?_; clear DP; rintro e w6 ⟨rfl, hb6⟩; obtain ⟨k20, k21, k22, k23, k24, k25, k26, k27, f20, f21, f22, f23, f24, f25, f26, f27⟩ := st_cells (blk_below h2 hb6); have k30 := (blk_cell (blk_below h3 hb6) 0).trans (show _ = some (Value.int .i64 0) from rfl); have f30 := blk_frozen (blk_below h3 hb6) 0)
     exact HF.out _ w6 hb6 rfl rfl
end Go.Proofs.YtmcjccigglekpaaGreatDoor.Given
namespace Go.Proofs.YtmcjccigglekpaaGreatDoor.Given
open Go Go.RowKit Go.Proofs Go.Proofs.YtmcjccigglekpaaGreatDoorW.PrintWords Go.Proofs.YtmcjccigglekpaaGreatDoorW.PrintLast Go.Proofs.YtmcjccigglekpaaGreatDoorW.PrintMore Go.Proofs.YtmcjccigglekpaaGreatDoor.P Go.Proofs.YtmcjccigglekpaaGreatDoor.Plain

instance r64Dec (n : Int) : Decidable (R64 n) := inferInstanceAs (Decidable (_ ∧ _))
/-- All numbers are of 64 bits: told. -/
def wfB (s : St) : Bool := s.th.all (fun x => decide (R64 x.f0 ∧ R64 x.f1 ∧ R64 x.f2 ∧ R64 x.f3 ∧ R64 x.f4 ∧ R64 x.f5 ∧ R64 x.f6 ∧ R64 x.f7)) && (s.tr.all (fun x => decide (R64 x.f1)) && (s.po.all (fun x => decide (R64 x.f0) && (decide (R64 x.f1) && x.f2.all (fun y => decide (R64 y.f0 ∧ R64 y.f1 ∧ R64 y.f2 ∧ R64 y.f5)))) && (s.ro.all (fun n => decide (R64 n)) && (s.fr.all (fun l => l.all (fun n => decide (R64 n))) && s.li.all (fun l => l.all (fun n => decide (R64 n)))))))
theorem wfB_iff (s : St) : wfB s = true ↔ s.wf := by
 unfold wfB
 simp only [Bool.and_eq_true, List.all_eq_true, decide_eq_true_eq]
 exact ⟨fun h => ⟨h.1, h.2.1, h.2.2.1, h.2.2.2.1, h.2.2.2.2.1, h.2.2.2.2.2⟩, fun h => ⟨h.th, h.tr, h.po, h.ro, h.fr, h.li⟩⟩
def image_Put.f (l0_0 : List S70) (l0_1 : List (List Int)) (l0_2 : List (List S87)) (l0_3 : List S76) (l0_4 : List S59) (l0_5 : List (List Int)) (l0_6 : List Int) (l0_7 : List S82) : Option (ByteArray × Int) := if wfB ⟨l0_0, l0_1, l0_2, l0_3, l0_4, l0_5, l0_6, l0_7⟩ = true then some (if stateB ⟨l0_0, l0_1, l0_2, l0_3, l0_4, l0_5, l0_6, l0_7⟩ = true then putT ⟨l0_0, l0_1, l0_2, l0_3, l0_4, l0_5, l0_6, l0_7⟩ else ⟨#[]⟩, if stateB ⟨l0_0, l0_1, l0_2, l0_3, l0_4, l0_5, l0_6, l0_7⟩ = true then 0 else 2) else none
theorem image_Put.calls (A0_0 : Option Addr) (c0_0 : Nat) (l0_0 : List S70) (A0_1 : Option Addr) (c0_1 : Nat) (l0_1 : List (List Int)) (A0_2 : Option Addr) (c0_2 : Nat) (l0_2 : List (List S87)) (A0_3 : Option Addr) (c0_3 : Nat) (l0_3 : List S76) (A0_4 : Option Addr) (c0_4 : Nat) (l0_4 : List S59) (A0_5 : Option Addr) (c0_5 : Nat) (l0_5 : List (List Int)) (A0_6 : Option Addr) (c0_6 : Nat) (l0_6 : List Int) (A0_7 : Option Addr) (c0_7 : Nat) (l0_7 : List S82) (r0 : ByteArray) (r1 : Int) (w : World) (hG : GL w) (hr0_0 : Kd.C k70 w A0_0 l0_0.length l0_0) (hc0_0 : l0_0.length ≤ c0_0) (hr0_1 : Kd.C (Kd.slice 3 (Kd.int .i64)) w A0_1 l0_1.length l0_1) (hc0_1 : l0_1.length ≤ c0_1) (hr0_2 : Kd.C (Kd.slice 87 k87) w A0_2 l0_2.length l0_2) (hc0_2 : l0_2.length ≤ c0_2) (hr0_3 : Kd.C k76 w A0_3 l0_3.length l0_3) (hc0_3 : l0_3.length ≤ c0_3) (hr0_4 : Kd.C k59 w A0_4 l0_4.length l0_4) (hc0_4 : l0_4.length ≤ c0_4) (hr0_5 : Kd.C (Kd.slice 3 (Kd.int .i64)) w A0_5 l0_5.length l0_5) (hc0_5 : l0_5.length ≤ c0_5) (hr0_6 : Kd.C (Kd.int .i64) w A0_6 l0_6.length l0_6) (hc0_6 : l0_6.length ≤ c0_6) (hr0_7 : Kd.C k82 w A0_7 l0_7.length l0_7) (hc0_7 : l0_7.length ≤ c0_7) (h : image_Put.f l0_0 l0_1 l0_2 l0_3 l0_4 l0_5 l0_6 l0_7 = some (r0, r1)) :
  Calls Tryz.prog 10 #[.agg #[.slice A0_0 l0_0.length c0_0, .slice A0_1 l0_1.length c0_1, .slice A0_2 l0_2.length c0_2, .slice A0_3 l0_3.length c0_3, .slice A0_4 l0_4.length c0_4, .slice A0_5 l0_5.length c0_5, .slice A0_6 l0_6.length c0_6, .slice A0_7 l0_7.length c0_7]] w fun e w' => e = .returned (.tuple #[.string r0, .int .i64 r1]) ∧ Below w.heap.size w w' := by
 unfold image_Put.f at h
 split at h
 ·rename_i hw
  obtain ⟨h0, h1⟩ := Prod.mk.inj (Option.some.inj h)
  refine (image_Put_calls ⟨A0_0, A0_1, A0_2, A0_3, A0_4, A0_5, A0_6, A0_7, c0_0, c0_1, c0_2, c0_3, c0_4, c0_5, c0_6, c0_7⟩ ⟨l0_0, l0_1, l0_2, l0_3, l0_4, l0_5, l0_6, l0_7⟩ w ⟨hr0_0, hr0_1, hr0_2, hr0_3, hr0_4, hr0_5, hr0_6, hr0_7, hc0_0, hc0_1, hc0_2, hc0_3, hc0_4, hc0_5, hc0_6, hc0_7⟩ ((wfB_iff _).1 hw) hG).mono ?_
  rintro e w' ⟨he, hb⟩
  exact ⟨by rw [he, h0, h1], hb⟩
 ·cases h
def image_Parse.f (a0 : ByteArray) : Option (List S70 × List (List Int) × List (List S87) × List S76 × List S59 × List (List Int) × List Int × List S82 × Int) := some ((parseI a0).1.th, (parseI a0).1.fr, (parseI a0).1.no, (parseI a0).1.tr, (parseI a0).1.po, (parseI a0).1.li, (parseI a0).1.ro, (parseI a0).1.sw, (parseI a0).2)
theorem image_Parse.calls (a0 : ByteArray) (t0 : List S70) (t1 : List (List Int)) (t2 : List (List S87)) (t3 : List S76) (t4 : List S59) (t5 : List (List Int)) (t6 : List Int) (t7 : List S82) (t8 : Int) (w : World) (hG : GL w) (h : image_Parse.f a0 = some (t0, t1, t2, t3, t4, t5, t6, t7, t8)) :
  Calls Tryz.prog 15 #[.string a0] w fun e w' => ∃ v0 v1 v2 v3 v4 v5 v6 v7, e = .returned (.tuple #[.agg #[v0, v1, v2, v3, v4, v5, v6, v7], .int .i64 t8]) ∧ Kd.R k70 70 w' w.heap.size (fun _ => True) v0 t0 ∧ Kd.S (Kd.slice 3 (Kd.int .i64)) 29 w' w.heap.size (fun _ => True) v1 t1 ∧ Kd.S (Kd.slice 87 k87) 56 w' w.heap.size (fun _ => True) v2 t2 ∧ Kd.R k76 76 w' w.heap.size (fun _ => True) v3 t3 ∧ Kd.S k59 59 w' w.heap.size (fun _ => True) v4 t4 ∧ Kd.S (Kd.slice 3 (Kd.int .i64)) 29 w' w.heap.size (fun _ => True) v5 t5 ∧ Kd.R (Kd.int .i64) 3 w' w.heap.size (fun _ => True) v6 t6 ∧ Kd.R k82 82 w' w.heap.size (fun _ => True) v7 t7 ∧ Below w.heap.size w w' := by
 unfold image_Parse.f at h
 simp only [Option.some.injEq, Prod.mk.injEq] at h
 obtain ⟨rfl, rfl, rfl, rfl, rfl, rfl, rfl, rfl, rfl⟩ := h
 refine (parse_calls a0 w (GLB.of hG)).mono ?_
 rintro e w' ⟨h, he, hr, hb⟩
 exact ⟨h.v0, h.v1, h.v2, h.v3, h.v4, h.v5, h.v6, h.v7, he, hr.r0, hr.r1, hr.r2, hr.r3, hr.r4, hr.r5, hr.r6, hr.r7, hb⟩
end Go.Proofs.YtmcjccigglekpaaGreatDoor.Given
namespace Go.Proofs.YtmcjccigglekpaaGreatDoor.Plain
open Go Go.RowKit Go.Proofs Go.Proofs.YtmcjccigglekpaaGreatDoorW.PrintWords Go.Proofs.YtmcjccigglekpaaGreatDoorW.PrintLast Go.Proofs.YtmcjccigglekpaaGreatDoorW.PrintMore Go.Proofs.YtmcjccigglekpaaGreatDoor.P Go.Proofs.YtmcjccigglekpaaGreatDoor.Given
/-- The digits of a number, and that they are read again. -/
theorem dec_digit (u : Nat) : ∀ c ∈ Lib.decDigits u, 48 ≤ c.toNat ∧ c.toNat ≤ 57 := by
 induction u using Nat.strongRecOn with
 | _ u ih =>
  rw [Lib.decDigits]
  split
  ·intro c hc
   rw [List.mem_singleton] at hc
   subst hc
   rw [UInt8.toNat_ofNat']
   omega
  ·intro c hc
   rcases List.mem_append.1 hc with h | h
   ·exact ih (u / 10) (by omega) c h
   ·rw [List.mem_singleton] at h
    subst h
    rw [UInt8.toNat_ofNat']
    omega
theorem parse_snoc (d : UInt8) (hd : 48 ≤ d.toNat ∧ d.toNat ≤ 57) : ∀ (l : List UInt8) (acc u : Nat), Lib.parseUint10 acc l = .ok u → u * 10 + (d.toNat - 48) < 18446744073709551616 → Lib.parseUint10 acc (l ++ [d]) = .ok (u * 10 + (d.toNat - 48))
 | [], acc, u, h, hl => by
  simp only [Lib.parseUint10] at h
  injection h with h
  subst h
  simp only [List.nil_append, Lib.parseUint10]
  rw [if_pos hd, if_neg (by omega), if_neg (by omega)]
 | c :: r, acc, u, h, hl => by
  simp only [List.cons_append, Lib.parseUint10] at h ⊢
  split
  ·rename_i h1
   rw [if_pos h1] at h
   split
   ·rename_i h2; rw [if_pos h2] at h; cases h
   ·rename_i h2
    rw [if_neg h2] at h
    split
    ·rename_i h3; rw [if_pos h3] at h; cases h
    ·rename_i h3
     rw [if_neg h3] at h
     exact parse_snoc d hd r _ u h hl
  ·rename_i h1; rw [if_neg h1] at h; cases h
theorem parse_dec (u : Nat) (h : u < 18446744073709551616) : Lib.parseUint10 0 (Lib.decDigits u) = .ok u := by
 induction u using Nat.strongRecOn with
 | _ u ih =>
  rw [Lib.decDigits]
  split
  ·simp only [Lib.parseUint10, UInt8.toNat_ofNat']
   rw [if_pos (by omega), if_neg (by omega), if_neg (by omega)]
   congr 1; omega
  ·have hd : (UInt8.ofNat (48 + u % 10)).toNat = 48 + u % 10 := by rw [UInt8.toNat_ofNat']; omega
   rw [parse_snoc _ (by rw [hd]; omega) _ 0 (u / 10) (ih (u / 10) (by omega) (by omega)) (by rw [hd]; omega), hd]
   congr 1; omega
theorem dec_ne (u : Nat) : Lib.decDigits u ≠ [] := by
 rw [Lib.decDigits]
 split
 ·exact List.cons_ne_nil _ _
 ·simp
theorem mag_dec (u : Nat) (h : u < 18446744073709551616) : Lib.parseMag (Lib.decDigits u) = .ok u := by
 unfold Lib.parseMag
 rw [if_neg (dec_ne u), parse_dec u h]
theorem atoi_itoa (n : Int) (h : R64 n) : Lib.atoiAll (Lib.itoa n) = .ok n := by
 unfold R64 at h
 unfold Lib.itoa
 split
 ·rename_i hn
  unfold Lib.atoiAll
  dsimp only
  have h45 : UInt8.toNat 45 = 45 := rfl
  rw [if_pos (Or.inr h45), mag_dec _ (by omega)]
  dsimp only
  rw [if_neg (fun hq => hq.1 h45), if_neg (by omega), if_pos h45]
  congr 1; omega
 ·rename_i hn
  have hm := mag_dec n.toNat (by omega)
  have hd := dec_digit n.toNat
  generalize Lib.decDigits n.toNat = l at *
  cases l with
  | nil => unfold Lib.parseMag at hm; rw [if_pos rfl] at hm; cases hm
  | cons c r =>
   have hc := hd c List.mem_cons_self
   unfold Lib.atoiAll
   dsimp only
   rw [if_neg (by omega), hm]
   dsimp only
   rw [if_neg (by omega), if_neg (by omega), if_neg (by omega)]
   congr 1; omega
theorem num_ito (n : Int) (h : R64 n) : numS (itoS n) = n := by
 unfold numS itoS
 rw [List.toList_toArray, Lib.parseIntB_64, atoi_itoa n h]
theorem itoa_mem (n : Int) : ∀ c ∈ Lib.itoa n, c = 45 ∨ (48 ≤ c.toNat ∧ c.toNat ≤ 57) := by
 unfold Lib.itoa
 split
 ·intro c hc
  rcases List.mem_cons.1 hc with h | h
  ·exact .inl h
  ·exact .inr (dec_digit _ c h)
 ·exact fun c hc => .inr (dec_digit _ c hc)
theorem word_ito (n : Int) : Word (itoS n).data.toList := by
 intro c hc
 rcases itoa_mem n c (by unfold itoS at hc; rwa [List.toList_toArray] at hc) with rfl | ⟨h1, h2⟩
 ·exact ⟨by decide, by decide⟩
 ·exact ⟨fun e => by subst e; revert h1; decide, fun e => by subst e; revert h1; decide⟩
theorem ito_no46 (n : Int) : ∀ c ∈ (itoS n).data.toList, c ≠ 46 := by
 intro c hc
 rcases itoa_mem n c (by unfold itoS at hc; rwa [List.toList_toArray] at hc) with rfl | ⟨h1, h2⟩
 ·decide
 ·exact fun e => by subst e; revert h1; decide
/-- A word's text is read again. -/
theorem signR (d : Nat) (h : d < 16) : 48 ≤ sign (d : Int) ∧ sign (d : Int) ≤ 102 := by
 unfold sign
 split <;> omega
theorem signAt_nat (v j : Nat) : signAt (v : Int) j = sign ((v / 2 ^ (60 - 4 * j) % 16 : Nat) : Int) := by
 unfold signAt
 push_cast
 rfl
def byteOf (d : Nat) : UInt8 := UInt8.ofNat (sign (d : Int)).toNat
theorem byteOf_nat (d : Nat) (h : d < 16) : ((byteOf d).toNat : Int) = sign (d : Int) := by
 have := signR d h
 unfold byteOf
 rw [UInt8.toNat_ofNat']
 omega
theorem nums_data' (l : List Int) : (strOfNums l).data.toList = l.map (fun n => UInt8.ofNat n.toNat) := by
 unfold strOfNums; simp
theorem text_get (v i : Nat) (hi : i < 16) : (strOfNums (rowT (v : Int) 16)).data.toList[i]? = some (byteOf (v / 2 ^ (60 - 4 * i) % 16)) := by
 rw [nums_data', List.getElem?_map, rowT_get _ _ _ hi, if_pos hi, signAt_nat]
 rfl
theorem text_size (v : Int) : (strOfNums (rowT v 16)).size = 16 := by rw [strOfNums_size, rowT_length]
theorem bt_text (v i : Nat) (hi : i < 16) : bt (strOfNums (rowT (v : Int) 16)) (i : Int) = sign ((v / 2 ^ (60 - 4 * i) % 16 : Nat) : Int) := by
 have hs : ((i : Int)).toNat < (strOfNums (rowT (v : Int) 16)).size := by rw [text_size]; omega
 rw [← bt_at _ _ hs, ← byteOf_nat _ (Nat.mod_lt _ (by decide))]
 congr 2
 have h := text_get v i hi
 rw [Array.getElem?_toList, Array.getElem?_eq_getElem (by have := hs; simpa using this)] at h
 exact Option.some.inj h
theorem parse_text (v : Nat) (hv : v < 18446744073709551616) (e : Nat) : ∀ (k i : Nat), i + e = 16 → e < k → bits_Parse.l0 k (strOfNums (rowT (v : Int) 16)) ((v / 2 ^ (64 - 4 * i) : Nat) : Int) 16 (i : Int) = some ((v : Int), 0) := by
 have hs : ((strOfNums (rowT (v : Int) 16)).size : Int) = 16 := by rw [text_size]; rfl
 induction e with
 | zero =>
  intro k i hi hk
  obtain ⟨k, rfl⟩ : ∃ m, k = m + 1 := ⟨k - 1, by omega⟩
  have g : ¬ (i : Int) < 16 := by omega
  simp only [bits_Parse.l0]
  rw [if_neg g, show 64 - 4 * i = 0 from by omega, Nat.pow_zero, Nat.div_one]
 | succ e ih =>
  intro k i hi hk
  obtain ⟨k, rfl⟩ : ∃ m, k = m + 1 := ⟨k - 1, by omega⟩
  have hd : digOf (bt (strOfNums (rowT (v : Int) 16)) (i : Int)) = some (v / 2 ^ (60 - 4 * i) % 16) := by
   rw [bt_text v i (by omega), digOf_sign _ (Nat.mod_lt _ (by decide))]
  rw [parse_some hs k _ i (by omega) hd]
  have en : nxt (v / 2 ^ (64 - 4 * i)) (v / 2 ^ (60 - 4 * i) % 16) = v / 2 ^ (64 - 4 * (i + 1)) := by
   rw [show 64 - 4 * (i + 1) = 60 - 4 * i from by omega, show 64 - 4 * i = (60 - 4 * i) + 4 from by omega, Nat.pow_add, ← Nat.div_div_eq_div_mul]
   have : v / 2 ^ (60 - 4 * i) ≤ v := Nat.div_le_self _ _
   unfold nxt
   omega
  rw [en]
  exact ih k (i + 1) (by omega) (by omega)
theorem bitsI_text (v : Nat) (hv : v < 18446744073709551616) : bitsI (textW (v : Int)) = ((v : Int), 0) := by
 have hs : ((strOfNums (rowT (v : Int) 16)).size : Int) = 16 := by rw [text_size]; rfl
 unfold bitsI bits_Parse.f textW
 rw [if_pos hs, hs]
 have := parse_text v hv 16 41 0 rfl (by omega)
 rw [show v / 2 ^ (64 - 4 * 0) = 0 from Nat.div_eq_of_lt hv] at this
 rw [show (0 : Int) = ((0 : Nat) : Int) from rfl, this]
 rfl
theorem word_text (v : Nat) : Word (textW (v : Int)).data.toList := by
 intro c hc
 unfold textW at hc
 obtain ⟨i, hi, rfl⟩ := List.getElem_of_mem hc
 have h16 : i < 16 := by
  have h := text_size (v : Int)
  have : (strOfNums (rowT (v : Int) 16)).data.size = 16 := h
  rw [Array.length_toList, this] at hi
  exact hi
 have h := text_get v i h16
 rw [List.getElem?_eq_getElem hi] at h
 rw [Option.some.inj h]
 have hb := byteOf_nat (v / 2 ^ (60 - 4 * i) % 16) (Nat.mod_lt _ (by decide))
 have hr := signR (v / 2 ^ (60 - 4 * i) % 16) (Nat.mod_lt _ (by decide))
 generalize byteOf (v / 2 ^ (60 - 4 * i) % 16) = b at *
 constructor
 ·rintro rfl
  have : ((32 : UInt8).toNat : Int) = 32 := rfl
  omega
 ·rintro rfl
  have : ((10 : UInt8).toNat : Int) = 10 := rfl
  omega
section
variable {t r b o g : Nat} (h0 : t < 2 ^ 4) (h1 : r < 2 ^ 4) (h2 : b < 2 ^ 16) (h3 : o < 2 ^ 10) (h4 : g < 2 ^ 12)
include h0 h1 h2 h3 h4
theorem wordN_get : getN (wordN t r b o g) 0 4 = t ∧ getN (wordN t r b o g) 4 4 = r ∧ getN (wordN t r b o g) 8 16 = b ∧ getN (wordN t r b o g) 24 10 = o ∧ getN (wordN t r b o g) 34 12 = g := by
 have p0 : putN 0 0 4 t < 18446744073709551616 := putN_lt _ _ _ _ (by decide) h0 (by decide)
 have p1 := putN_lt _ 4 4 r p0 h1 (by decide)
 have p2 := putN_lt _ 8 16 b p1 h2 (by decide)
 have p3 := putN_lt _ 24 10 o p2 h3 (by decide)
 unfold wordN
 refine ⟨?_, ?_, ?_, ?_, get_put _ _ _ _ p3 h4 (by decide)⟩
 ·rw [get_put_other _ 34 12 _ 0 4 p3 h4 (by decide) (by decide), get_put_other _ 24 10 _ 0 4 p2 h3 (by decide) (by decide), get_put_other _ 8 16 _ 0 4 p1 h2 (by decide) (by decide), get_put_other _ 4 4 _ 0 4 p0 h1 (by decide) (by decide), get_put _ _ _ _ (by decide) h0 (by decide)]
 ·rw [get_put_other _ 34 12 _ 4 4 p3 h4 (by decide) (by decide), get_put_other _ 24 10 _ 4 4 p2 h3 (by decide) (by decide), get_put_other _ 8 16 _ 4 4 p1 h2 (by decide) (by decide), get_put _ _ _ _ p0 h1 (by decide)]
 ·rw [get_put_other _ 34 12 _ 8 16 p3 h4 (by decide) (by decide), get_put_other _ 24 10 _ 8 16 p2 h3 (by decide) (by decide), get_put _ _ _ _ p1 h2 (by decide)]
 ·rw [get_put_other _ 34 12 _ 24 10 p3 h4 (by decide) (by decide), get_put _ _ _ _ p2 h3 (by decide)]
end
theorem capOk_of {c : S87} (h : capBad c = false) : capOk c.f0 c.f1 c.f2 c.f3 c.f4 = true := by
 unfold capBad capRes at h
 have hck := Option.some.inj (check_ok c.f0 c.f1 c.f2 c.f3 c.f4)
 rw [bne_eq_false_iff_eq.mp h] at hck
 by_cases hc : capOk c.f0 c.f1 c.f2 c.f3 c.f4 = true
 ·exact hc
 ·rw [if_neg hc] at hck
  cases hck
theorem cap_word (c : S87) (h : capBad c = false) : capOf (capWord c) = c ∧ capErr (capWord c) = 0 := by
 have hk := capOk_of h
 obtain ⟨b0, b1, b2, b3, b4⟩ := capOk_bounds hk
 obtain ⟨g0, g1, g2, g3, g4⟩ := wordN_get (t := c.f0.toNat) (r := c.f1.toNat) (b := c.f2.toNat) (o := c.f3.toNat) (g := c.f4.toNat) (by omega) (by omega) (by omega) (by omega) (by omega)
 have hok : wordOk (capWord c).toNat = true := by
  unfold capWord wordOk
  rw [Int.toNat_natCast, g0, g1, g2, g3, g4, Int.toNat_of_nonneg b0.1, Int.toNat_of_nonneg b1.1, Int.toNat_of_nonneg b2.1, Int.toNat_of_nonneg b3.1, Int.toNat_of_nonneg b4.1, hk]
  simp
 unfold capOf capErr
 rw [if_pos hok, if_pos hok]
 refine ⟨?_, rfl⟩
 unfold capWord
 rw [Int.toNat_natCast, g0, g1, g2, g3, g4, Int.toNat_of_nonneg b0.1, Int.toNat_of_nonneg b1.1, Int.toNat_of_nonneg b2.1, Int.toNat_of_nonneg b3.1, Int.toNat_of_nonneg b4.1]
theorem bits_textW (c : S87) (h : capBad c = false) : bitsI (textW (capWord c)) = (capWord c, 0) := by
 have hl := (capWord_ok c h).2.2
 unfold capWord at hl ⊢
 exact bitsI_text _ (by omega)
theorem word_textW (c : S87) (_h : capBad c = false) : Word (textW (capWord c)).data.toList := word_text _
theorem capZ_eq (c : S87) (h : capZ c = true) : c = zcap := by
 unfold capZ capZero at h
 simp only [Bool.and_eq_true, beq_iff_eq] at h
 obtain ⟨f0, f1, f2, f3, f4⟩ := c
 obtain ⟨rfl, rfl, rfl, rfl, rfl⟩ := h
 rfl
end Go.Proofs.YtmcjccigglekpaaGreatDoor.Plain
namespace Go.Proofs.YtmcjccigglekpaaGreatDoor.Plain
open Go Go.RowKit Go.Proofs Go.Proofs.YtmcjccigglekpaaGreatDoorW.PrintWords Go.Proofs.YtmcjccigglekpaaGreatDoorW.PrintLast Go.Proofs.YtmcjccigglekpaaGreatDoorW.PrintMore Go.Proofs.YtmcjccigglekpaaGreatDoor.P Go.Proofs.YtmcjccigglekpaaGreatDoor.Given
/-- A line of words as a text. -/
def lineL (ws : List ByteArray) : List UInt8 := joinL (ws.map (fun x => x.data.toList)) ++ [10]
def textL (ls : List (List ByteArray)) : List UInt8 := ls.flatMap lineL
theorem data_app (a b : ByteArray) : (a ++ b).data.toList = a.data.toList ++ b.data.toList := by simp [ByteArray.data_append]
theorem lineL_cons (w : ByteArray) (ws : List ByteArray) : lineL (w :: ws) = w.data.toList ++ (ws.flatMap (fun v => 32 :: v.data.toList) ++ [10]) := by
 unfold lineL
 rw [List.map_cons, joinL_flat, List.flatMap_map, List.append_assoc]
theorem nums_data (l : List Int) : (numsT l).data.toList = (l.map itoS).flatMap (fun v => 32 :: v.data.toList) := by
 induction l with
 | nil => rfl
 | cons n l ih =>
  show (⟨#[32]⟩ ++ itoS n ++ numsT l : ByteArray).data.toList = _
  rw [data_app, data_app, ih]
  simp
def keyW (k : S74) : ByteArray := itoS k.f0 ++ (⟨#[46]⟩ ++ itoS k.f1)
def yesW (b : Bool) : ByteArray := itoS (if b = true then 1 else 0)
theorem key_data (k : S74) : (keyT k).data.toList = 32 :: (keyW k).data.toList := by
 unfold keyT keyW
 rw [data_app, nums_data, data_app]
 simp
theorem yes_data (b : Bool) : (yesT b).data.toList = 32 :: (yesW b).data.toList := by
 unfold yesT yesW
 rw [nums_data]
 simp
theorem wide_data (n : Int) : (⟨#[32]⟩ ++ itoS n : ByteArray).data.toList = 32 :: (itoS n).data.toList := by rw [data_app]; simp
theorem word_data (x : ByteArray) : (⟨#[32]⟩ ++ x : ByteArray).data.toList = 32 :: x.data.toList := by rw [data_app]; simp
/-- The lines of a state. -/
def thingL (x : S70) : List ByteArray := ⟨#[116, 104, 105, 110, 103]⟩ :: [x.f0, x.f1, x.f2, x.f3, x.f4, x.f5, x.f6, x.f7].map itoS
def branchL (x : S76) : List ByteArray := [⟨#[98, 114, 97, 110, 99, 104]⟩, itoS x.f1, keyW x.f0, yesW x.f2]
def catL {α : Type} (f : Nat → α → List (List ByteArray)) : List α → Nat → List (List ByteArray)
 | [], _ => []
 | x :: l, i => f i x ++ catL f l (i + 1)
def slotL (o i : Nat) (c : S87) : List (List ByteArray) := if capZ c = true then [] else [[⟨#[115, 108, 111, 116]⟩, keyW ⟨(o : Int), (i : Int)⟩, textW (capWord c)]]
def nodeL (o : Nat) (l : List S87) : List (List ByteArray) := if 0 < l.length then [⟨#[110, 111, 100, 101]⟩, itoS (o : Int)] :: catL (slotL o) l 0 else []
def waitL (x : S95) : List ByteArray := [⟨#[119, 97, 105, 116]⟩, itoS x.f0, itoS x.f1, itoS x.f2, yesW x.f3, keyW x.f4, itoS x.f5, yesW x.f6]
def portL (o : Nat) (x : S59) : List (List ByteArray) := if portZ x = true then [] else [⟨#[112, 111, 114, 116]⟩, itoS (o : Int), itoS x.f0, itoS x.f1] :: catL (fun _ y => [waitL y]) x.f2 0
def coreL (s : St) (c : Nat) (x : S82) : List (List ByteArray) := [[⟨#[99, 111, 114, 101]⟩, itoS (s.ro.getD c 0), yesW x.f0, yesW x.f2, keyW x.f1], ⟨#[102, 114, 101, 101]⟩ :: (s.fr.getD c []).map itoS, ⟨#[108, 105, 109, 98, 111]⟩ :: (s.li.getD c []).map itoS]
def headL (s : St) : List (List ByteArray) := [[⟨#[103, 97, 114, 114, 105, 115, 111, 110]⟩, itoS 1], [⟨#[115, 105, 122, 101]⟩, itoS (s.th.length : Int), itoS (s.fr.length : Int)]]
def linesOf (s : St) : List (List ByteArray) := headL s ++ (catL (fun _ x => [thingL x]) s.th 0 ++ (catL nodeL s.no 0 ++ (catL (fun _ x => [branchL x]) s.tr 0 ++ (catL portL s.po 0 ++ (catL (coreL s) s.sw 0 ++ [[⟨#[101, 110, 100]⟩]])))))
theorem textL_append (a b : List (List ByteArray)) : textL (a ++ b) = textL a ++ textL b := List.flatMap_append
theorem textL_one (ws : List ByteArray) : textL [ws] = lineL ws := by unfold textL; simp
theorem textL_cons (ws : List ByteArray) (ls : List (List ByteArray)) : textL (ws :: ls) = lineL ws ++ textL ls := by unfold textL; simp
theorem cat_data {α : Type} (f : Nat → α → ByteArray) (g : Nat → α → List (List ByteArray)) (h : ∀ i x, (f i x).data.toList = textL (g i x)) : ∀ (l : List α) (i : Nat), (catI f l i).data.toList = textL (catL g l i)
 | [], _ => rfl
 | x :: l, i => by
  show (f i x ++ catI f l (i + 1)).data.toList = textL (g i x ++ catL g l (i + 1))
  rw [data_app, h, cat_data f g h l, textL_append]
theorem thing_data (x : S70) : (thingT x).data.toList = textL [thingL x] := by
 rw [textL_one]
 unfold thingT thingL
 rw [lineL_cons, data_app, data_app, data_app, nums_data, wide_data]
 simp
theorem branch_data (x : S76) : (branchT x).data.toList = textL [branchL x] := by
 rw [textL_one]
 unfold branchT branchL
 rw [lineL_cons, data_app, data_app, data_app, data_app, nums_data, key_data, yes_data]
 simp
theorem slot_data (o i : Nat) (c : S87) : (slotT (o : Int) i c).data.toList = textL (slotL o i c) := by
 unfold slotT slotL
 split
 ·rfl
 ·rw [textL_one, lineL_cons, data_app, data_app, data_app, key_data, word_data]
  simp
theorem node_data (o : Nat) (l : List S87) : (nodeT' o l).data.toList = textL (nodeL o l) := by
 unfold nodeT' nodeL
 split
 ·unfold nodeT nodeHead
  rw [textL_cons, lineL_cons, data_app, data_app, data_app, nums_data, cat_data (slotT (o : Int)) (slotL o) (slot_data o)]
  simp
 ·rfl
theorem wait_data (x : S95) : (waitT x).data.toList = textL [waitL x] := by
 rw [textL_one]
 unfold waitT waitL
 rw [lineL_cons]
 simp only [data_app, nums_data, key_data, yes_data]
 simp
theorem port_data (o : Nat) (x : S59) : (portT' o x).data.toList = textL (portL o x) := by
 unfold portT' portL
 split
 ·rfl
 ·unfold portT portHead
  rw [textL_cons, lineL_cons, data_app, data_app, data_app, data_app, nums_data, wide_data, cat_data (fun _ => waitT) (fun _ y => [waitL y]) (fun _ y => wait_data y)]
  simp
theorem core_data (s : St) (c : Nat) (x : S82) : (coreT s c x).data.toList = textL (coreL s c x) := by
 unfold coreT coreL
 rw [textL_cons, textL_cons, textL_one, lineL_cons, lineL_cons, lineL_cons]
 simp only [data_app, nums_data, key_data, yes_data]
 simp
theorem put_data (s : St) : (putT s).data.toList = textL (linesOf s) := by
 unfold putT put5 put4 put3 put2 put1 headT linesOf headL
 simp only [textL_append]
 rw [textL_cons, textL_one, textL_one, lineL_cons, lineL_cons, lineL_cons]
 rw [← cat_data (fun _ => thingT) (fun _ x => [thingL x]) (fun _ x => thing_data x), ← cat_data nodeT' nodeL node_data, ← cat_data (fun _ => branchT) (fun _ x => [branchL x]) (fun _ x => branch_data x), ← cat_data portT' portL port_data, ← cat_data (coreT s) (coreL s) (core_data s)]
 simp only [data_app, nums_data]
 simp
/-- What a line's words make of what is known. -/
def stepW (x : St × Int) : List ByteArray → Option (St × Int)
 | [] => none
 | w :: ws => match lookI w with
  | none => none
  | some f => stepF f ws x
def runW : List (List ByteArray) → St × Int → Option (St × Int)
 | [], x => some x
 | ws :: ls, x => (stepW x ws).bind (runW ls)
def GoodL (ls : List (List ByteArray)) : Prop := ∀ ws ∈ ls, ws ≠ [] ∧ ∀ w ∈ ws, Word w.data.toList
theorem GoodL.app {a b : List (List ByteArray)} (ha : GoodL a) (hb : GoodL b) : GoodL (a ++ b) := fun ws h => (List.mem_append.1 h).elim (ha ws) (hb ws)
theorem GoodL.nil : GoodL [] := fun _ h => absurd h List.not_mem_nil
theorem GoodL.cons {ws : List ByteArray} {ls : List (List ByteArray)} (h : ws ≠ [] ∧ ∀ w ∈ ws, Word w.data.toList) (hl : GoodL ls) : GoodL (ws :: ls) := fun x hx => by
 rcases List.mem_cons.1 hx with rfl | hx
 ·exact h
 ·exact hl x hx
theorem GoodL.cat {α : Type} {f : Nat → α → List (List ByteArray)} : ∀ (l : List α) (i : Nat), (∀ i, ∀ x ∈ l, GoodL (f i x)) → GoodL (catL f l i)
 | [], _, _ => GoodL.nil
 | x :: l, i, h => (h i x List.mem_cons_self).app (GoodL.cat l (i + 1) (fun i y hy => h i y (List.mem_cons_of_mem _ hy)))
theorem word_key (k : S74) : Word (keyW k).data.toList := by
 intro c hc
 unfold keyW at hc
 rw [data_app, data_app] at hc
 rcases List.mem_append.1 hc with h | h
 ·exact word_ito _ c h
 ·rcases List.mem_append.1 h with h | h
  ·rw [List.mem_singleton.1 h]; decide
  ·exact word_ito _ c h
theorem word_yes (b : Bool) : Word (yesW b).data.toList := word_ito _
theorem words_nums {w : ByteArray} {l : List Int} (hw : Word w.data.toList) : (w :: l.map itoS) ≠ [] ∧ ∀ x ∈ w :: l.map itoS, Word x.data.toList := by
 refine ⟨List.cons_ne_nil _ _, fun x hx => ?_⟩
 rcases List.mem_cons.1 hx with rfl | hx
 ·exact hw
 ·obtain ⟨n, _, rfl⟩ := List.mem_map.1 hx
  exact word_ito n
theorem word_lit {l : List UInt8} (h : ∀ c ∈ l, c ≠ 32 ∧ c ≠ 10) : Word (⟨l.toArray⟩ : ByteArray).data.toList := by
 rw [List.toList_toArray]; exact h
theorem good_lines (s : St) (hn : ∀ l ∈ s.no, ∀ c ∈ l, capBad c = false) : GoodL (linesOf s) := by
 have hz : ∀ n : Int, Word (itoS n).data.toList := word_ito
 have hk := word_key
 have hy := word_yes
 unfold linesOf headL
 refine GoodL.app (GoodL.cons ⟨List.cons_ne_nil _ _, ?_⟩ (GoodL.cons ⟨List.cons_ne_nil _ _, ?_⟩ GoodL.nil)) (GoodL.app (GoodL.cat _ _ fun i x _ => ?_) (GoodL.app (GoodL.cat _ _ fun i l hl => ?_) (GoodL.app (GoodL.cat _ _ fun i x _ => ?_) (GoodL.app (GoodL.cat _ _ fun i x _ => ?_) (GoodL.app (GoodL.cat _ _ fun i x _ => ?_) ?_)))))
 ·intro w hw
  simp only [List.mem_cons, List.not_mem_nil, or_false] at hw
  rcases hw with rfl | rfl
  ·exact word_lit (by decide)
  ·exact hz _
 ·intro w hw
  simp only [List.mem_cons, List.not_mem_nil, or_false] at hw
  rcases hw with rfl | rfl | rfl
  ·exact word_lit (by decide)
  ·exact hz _
  ·exact hz _
 ·exact GoodL.cons (words_nums (word_lit (by decide))) GoodL.nil
 ·unfold nodeL
  split
  ·refine GoodL.cons ⟨List.cons_ne_nil _ _, ?_⟩ (GoodL.cat _ _ fun j c hc => ?_)
   ·intro w hw
    simp only [List.mem_cons, List.not_mem_nil, or_false] at hw
    rcases hw with rfl | rfl
    ·exact word_lit (by decide)
    ·exact hz _
   ·unfold slotL
    split
    ·exact GoodL.nil
    ·refine GoodL.cons ⟨List.cons_ne_nil _ _, ?_⟩ GoodL.nil
     intro w hw
     simp only [List.mem_cons, List.not_mem_nil, or_false] at hw
     rcases hw with rfl | rfl | rfl
     ·exact word_lit (by decide)
     ·exact hk _
     ·exact word_textW c (hn l hl c hc)
  ·exact GoodL.nil
 ·refine GoodL.cons ⟨List.cons_ne_nil _ _, ?_⟩ GoodL.nil
  intro w hw
  unfold branchL at hw
  simp only [List.mem_cons, List.not_mem_nil, or_false] at hw
  rcases hw with rfl | rfl | rfl | rfl
  ·exact word_lit (by decide)
  ·exact hz _
  ·exact hk _
  ·exact hy _
 ·unfold portL
  split
  ·exact GoodL.nil
  ·refine GoodL.cons ⟨List.cons_ne_nil _ _, ?_⟩ (GoodL.cat _ _ fun j y _ => GoodL.cons ⟨List.cons_ne_nil _ _, ?_⟩ GoodL.nil)
   ·intro w hw
    simp only [List.mem_cons, List.not_mem_nil, or_false] at hw
    rcases hw with rfl | rfl | rfl | rfl
    ·exact word_lit (by decide)
    ·exact hz _
    ·exact hz _
    ·exact hz _
   ·intro w hw
    unfold waitL at hw
    simp only [List.mem_cons, List.not_mem_nil, or_false] at hw
    rcases hw with rfl | rfl | rfl | rfl | rfl | rfl | rfl | rfl
    ·exact word_lit (by decide)
    ·exact hz _
    ·exact hz _
    ·exact hz _
    ·exact hy _
    ·exact hk _
    ·exact hz _
    ·exact hy _
 ·refine GoodL.cons ⟨List.cons_ne_nil _ _, ?_⟩ (GoodL.cons (words_nums (word_lit (by decide))) (GoodL.cons (words_nums (word_lit (by decide))) GoodL.nil))
  intro w hw
  simp only [List.mem_cons, List.not_mem_nil, or_false] at hw
  rcases hw with rfl | rfl | rfl | rfl | rfl
  ·exact word_lit (by decide)
  ·exact hz _
  ·exact hy _
  ·exact hy _
  ·exact hk _
 ·refine GoodL.cons ⟨List.cons_ne_nil _ _, ?_⟩ GoodL.nil
  intro w hw
  simp only [List.mem_cons, List.not_mem_nil, or_false] at hw
  rcases hw with rfl
  exact word_lit (by decide)
theorem fold_run : ∀ (ls : List (List ByteArray)) (k : Nat) (s : ByteArray) (x : St × Int), s.data.toList = textL ls → GoodL ls → s.size < k → foldLines stepLine k s x = runW ls x
 | _, 0, _, _, _, _, hk => absurd hk (Nat.not_lt_zero _)
 | [], k + 1, s, x, hs, _, _ => by
  have h0 : s.size = 0 := by
   show s.data.size = 0
   rw [← Array.length_toList, hs]; rfl
  unfold foldLines
  rw [if_pos h0]; rfl
 | [] :: ls, k + 1, s, x, hs, hg, hk => absurd rfl (hg [] List.mem_cons_self).1
 | (w :: ws) :: ls, k + 1, s, x, hs, hg, hk => by
  have hw := (hg (w :: ws) List.mem_cons_self).2
  have hj : ∀ c ∈ joinL ((w :: ws).map (fun x => x.data.toList)), c ≠ 10 := joinL_noLF _ (fun y hy => by
   obtain ⟨z, hz, rfl⟩ := List.mem_map.1 hy
   exact hw z hz)
  have hs' : s.data.toList = joinL ((w :: ws).map (fun x => x.data.toList)) ++ 10 :: textL ls := by
   rw [hs, textL_cons]; unfold lineL; rw [List.append_assoc]; rfl
  have hc := cut_at _ (textL ls) 10 hj
  rw [← hs'] at hc
  have hsz : s.size = (joinL ((w :: ws).map (fun x => x.data.toList))).length + (1 + (textL ls).length) := by
   show s.data.size = _
   rw [← Array.length_toList, hs', List.length_append, List.length_cons]; omega
  have hA : (cutA s ⟨#[10]⟩).data.toList = joinL ((w :: ws).map (fun x => x.data.toList)) := by
   unfold cutA
   rw [show (⟨#[10]⟩ : ByteArray).data.toList = [10] from rfl, hc]
  have hB : (cutB s ⟨#[10]⟩).data.toList = textL ls := by
   unfold cutB
   rw [show (⟨#[10]⟩ : ByteArray).data.toList = [10] from rfl, hc]
  have hC : cutC s ⟨#[10]⟩ = true := by
   unfold cutC
   rw [show (⟨#[10]⟩ : ByteArray).data.toList = [10] from rfl, hc]
  have hB' : (cutB s ⟨#[10]⟩).size < k := by
   show (cutB s ⟨#[10]⟩).data.size < k
   rw [← Array.length_toList, hB]; omega
  have hL : stepLine x (cutA s ⟨#[10]⟩) (cutC s ⟨#[10]⟩) = stepW x (w :: ws) := by
   have hP : piecesB (cutA s ⟨#[10]⟩) = w :: ws := pieces_join w ws _ hA hw
   unfold stepLine
   rw [hP, hC]
   rfl
  unfold foldLines
  rw [if_neg (by omega), hL]
  show _ = (stepW x (w :: ws)).bind (runW ls)
  congr 1
  funext y
  exact fold_run ls k _ y hB (fun z hz => hg z (List.mem_cons_of_mem _ hz)) hB'
theorem runW_append : ∀ (a b : List (List ByteArray)) (x : St × Int), runW (a ++ b) x = (runW a x).bind (runW b)
 | [], b, x => rfl
 | ws :: a, b, x => by
  show (stepW x ws).bind (runW (a ++ b)) = ((stepW x ws).bind (runW a)).bind (runW b)
  cases stepW x ws with
  | none => rfl
  | some y => exact runW_append a b y
end Go.Proofs.YtmcjccigglekpaaGreatDoor.Plain
