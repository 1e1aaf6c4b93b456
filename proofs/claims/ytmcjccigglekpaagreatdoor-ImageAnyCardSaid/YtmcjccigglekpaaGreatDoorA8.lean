/- Texts of this seat, joined. -/
import Derived.Test.YtmcjccigglekpaaGreatDoorA7
import Derived.Test.YtmcjccigglekpaaGreatDoorA3
import Derived.Lib.ItoaLen
import Derived.Test.YtmcjccigglekpaaGreatDoorA6
namespace Go.Proofs.YtmcjccigglekpaaGreatDoor.Given
open Go Go.RowKit Go.Proofs Go.Proofs.YtmcjccigglekpaaGreatDoorW.PrintWords Go.Proofs.YtmcjccigglekpaaGreatDoorW.PrintLast Go.Proofs.YtmcjccigglekpaaGreatDoorW.PrintMore Go.Proofs.YtmcjccigglekpaaGreatDoor.P Go.Proofs.YtmcjccigglekpaaGreatDoor.Plain

theorem wpCall {P : Program} {f : Nat} {dst : Option Tmp} {ty : TypeId} {pos : String} {after : Array Edge} {ats : Array TypeId} {xs : Array Operand} {a : Act} {w : World} {K : Act → World → Prop} {Q : Exit → Act → World → Prop} (hen : ∀ args w, (callFunc f args).run P w = .ok (.enter f args) w) (vals : Array Value) (hv : xs.map a.eval = vals)
  (h : Calls P f vals w fun e w' => ∃ v, e = .returned v ∧ K (a.put dst v) w') : Oper.wp P { dst, op := .call { callee := .value (.func f), args := xs, argTypes := ats }, type := ty, pos, after, guard := none } a w K Q := by
 unfold Oper.wp
 rw [execOp_call_go, hv, hen]
 simp only [Array.empty_append, Array.append_empty, Oper.upon]
 exact Calls.mono h (fun e w' ⟨v, he, hk⟩ => by subst he; exact hk)
theorem wpBuild1 {d s : Nat} {pos : String} {after : Array Edge} {a : Act} {w : World} {K : Act → World → Prop} {Q : Exit → Act → World → Prop} {n : Int} (hv : a.tmps[s]? = some (.int .i64 n))
  (h : K (a.put (some d) (.slice (some ⟨w.heap.size, 0, none⟩) 1 1)) (w.alloc (.cells #[.int .i64 n] 3))) : Oper.wp Tryz.prog { dst := some d, op := .buildSlice 29 1 #[(0, .tmp s)], type := 29, pos, after, guard := none } a w K Q := by
 have hv' : a.tmps[s]?.getD undef = .int .i64 n := by rw [hv]; rfl
 unfold Oper.wp
 go_simp
 exact h
def waitT (x : S95) : ByteArray :=
 ⟨#[119, 97, 105, 116]⟩ ++ numsT [x.f0] ++ (⟨#[32]⟩ ++ itoS x.f1) ++ numsT [x.f2] ++ yesT x.f3 ++ keyT x.f4 ++ numsT [x.f5] ++ yesT x.f6 ++ ⟨#[10]⟩
/-- What stands there behind so many calls. -/
def wT (t : ByteArray) (x : S95) : Nat → ByteArray
 | 0 => t
 | 1 => t ++ ⟨#[119, 97, 105, 116]⟩
 | 2 => t ++ ⟨#[119, 97, 105, 116]⟩ ++ numsT [x.f0]
 | 3 => t ++ ⟨#[119, 97, 105, 116]⟩ ++ numsT [x.f0] ++ (⟨#[32]⟩ ++ itoS x.f1)
 | 4 => t ++ ⟨#[119, 97, 105, 116]⟩ ++ numsT [x.f0] ++ (⟨#[32]⟩ ++ itoS x.f1) ++ numsT [x.f2]
 | 5 => t ++ ⟨#[119, 97, 105, 116]⟩ ++ numsT [x.f0] ++ (⟨#[32]⟩ ++ itoS x.f1) ++ numsT [x.f2] ++ yesT x.f3
 | 6 => t ++ ⟨#[119, 97, 105, 116]⟩ ++ numsT [x.f0] ++ (⟨#[32]⟩ ++ itoS x.f1) ++ numsT [x.f2] ++ yesT x.f3 ++ keyT x.f4
 | 7 => t ++ ⟨#[119, 97, 105, 116]⟩ ++ numsT [x.f0] ++ (⟨#[32]⟩ ++ itoS x.f1) ++ numsT [x.f2] ++ yesT x.f3 ++ keyT x.f4 ++ numsT [x.f5]
 | _ => t ++ ⟨#[119, 97, 105, 116]⟩ ++ numsT [x.f0] ++ (⟨#[32]⟩ ++ itoS x.f1) ++ numsT [x.f2] ++ yesT x.f3 ++ keyT x.f4 ++ numsT [x.f5] ++ yesT x.f6
theorem wT_end (t : ByteArray) (x : S95) : wT t x 8 ++ ⟨#[10]⟩ = t ++ waitT x := by
 unfold wT waitT; simp only [ByteArray.append_assoc]
theorem wT_size {t : ByteArray} {x : S95} {n : Nat} (h : t.size + (waitT x).size ≤ n) : t.size + 4 ≤ n ∧ (wT t x 1).size + (numsT [x.f0]).size ≤ n ∧ (wT t x 2).size + (1 + (itoS x.f1).size) ≤ n ∧ (wT t x 3).size + (numsT [x.f2]).size ≤ n ∧ (wT t x 4).size + (yesT x.f3).size ≤ n ∧ (wT t x 5).size + (keyT x.f4).size ≤ n ∧ (wT t x 6).size + (numsT [x.f5]).size ≤ n ∧ (wT t x 7).size + (yesT x.f6).size ≤ n ∧ (wT t x 8).size + 1 ≤ n := by
 unfold waitT at h
 unfold wT
 simp only [ByteArray.size_append, show (⟨#[32]⟩ : ByteArray).size = 1 from rfl, show (⟨#[10]⟩ : ByteArray).size = 1 from rfl, show (⟨#[119, 97, 105, 116]⟩ : ByteArray).size = 4 from rfl] at h ⊢
 omega
/-- The slot of a call's value. -/
def wD (k : Nat) : Nat := [0, 27, 31, 34, 38, 41, 44, 48, 51].getD k 0
/-- What was read ahead. -/
def wL (b : Nat) (x : S95) : List (Nat × Value) := [(26, .pointer (some ⟨b, 0, none⟩)), (29, .int .i64 x.f0), (33, .int .i64 x.f1), (36, .int .i64 x.f2), (40, .bool x.f3), (43, .agg #[.int .i64 x.f4.f0, .int .i64 x.f4.f1]), (46, .int .i64 x.f5), (50, .bool x.f6)]
/-- The slots of the calls' and the rows' values. -/
def wDs : List Nat := [27, 30, 31, 34, 37, 38, 41, 44, 47, 48, 51]
/-- Behind k calls, and rows built or not. -/
structure WJ (A0 : Act) (B b : Nat) (t : ByteArray) (x : S95) (w0 : World) (q : Nat × Bool × Bool × Bool) (a : Act) (w : World) : Prop where
 df : a.defers = A0.defers
 ex : ∀ j, j ∉ wDs → a.tmps[j]? = A0.tmps[j]?
 sz : a.tmps.size = 54
 tm : ∀ p ∈ wL b x, a.tmps[p.1]? = some p.2
 pen : Pw B b (wT t x q.1) w
 cp : q.1 ≠ 0 → a.tmps[wD q.1]? = some (.pointer (some ⟨b, 0, none⟩))
 r0 : q.2.1 = true → ∃ A, a.tmps[30]? = some (.slice A 1 1) ∧ RowStays B b A [x.f0] w
 r1 : q.2.2.1 = true → ∃ A, a.tmps[37]? = some (.slice A 1 1) ∧ RowStays B b A [x.f2] w
 r2 : q.2.2.2 = true → ∃ A, a.tmps[47]? = some (.slice A 1 1) ∧ RowStays B b A [x.f5] w
 bl : Below B w0 w
 kp : Kept b w0 w
theorem put_ne {a : Act} {d j : Nat} (v : Value) (h : j ≠ d) : (a.put (some d) v).tmps[j]? = a.tmps[j]? := by
 show (a.tmps.setIfInBounds d v)[j]? = _
 rw [Array.getElem?_setIfInBounds_ne (Ne.symm h)]
theorem put_eq {a : Act} {d : Nat} (v : Value) (h : d < a.tmps.size) : (a.put (some d) v).tmps[d]? = some v := by
 show (a.tmps.setIfInBounds d v)[d]? = _
 rw [Array.getElem?_setIfInBounds_self_of_lt h]
theorem put_size {a : Act} {d : Nat} (v : Value) : (a.put (some d) v).tmps.size = a.tmps.size := by
 show (a.tmps.setIfInBounds d v).size = _
 rw [Array.size_setIfInBounds]
section
variable {A0 : Act} {B b : Nat} {t : ByteArray} {x : S95} {w0 : World} {k : Nat} {s0 s1 s2 : Bool} {a : Act} {w w' : World}
theorem WJ.tmPut (H : ∀ p ∈ wL b x, a.tmps[p.1]? = some p.2) {d : Nat} (hd : ((wL b x).map Prod.fst).all (fun j => j != d) = true) (v : Value) : ∀ p ∈ wL b x, (a.put (some d) v).tmps[p.1]? = some p.2 := fun p hp => by
 rw [put_ne v (by have := (List.all_eq_true.1 hd) p.1 (List.mem_map.2 ⟨p, hp, rfl⟩); simpa using this)]
 exact H p hp
/-- Behind a call. -/
theorem WJ.call (H : WJ A0 B b t x w0 (k, s0, s1, s2) a w) (hk : k < 8) {e : Ending} {v : Value} (hv : v = .pointer (some ⟨b, 0, none⟩)) (hp : PPost B b (wT t x (k + 1)) v w e w') (d : Nat) (hd : d = wD (k + 1)) : WJ A0 B b t x w0 (k + 1, s0, s1, s2) (a.put (some d) v) w' := by
 obtain ⟨_, h1, h2, h3⟩ := hp
 have hd3 : ((wL b x).map Prod.fst).all (fun j => j != wD (k + 1)) = true ∧ (30 ≠ wD (k + 1) ∧ 37 ≠ wD (k + 1) ∧ 47 ≠ wD (k + 1) ∧ wD (k + 1) < 54 ∧ wD (k + 1) ∈ wDs) := by
  rcases k with _ | _ | _ | _ | _ | _ | _ | _ | k
  all_goals first | (exact ⟨rfl, by decide⟩) | omega
 subst hd hv
 refine ⟨H.df, fun j hj => (put_ne _ (fun e => hj (by rw [e]; exact hd3.2.2.2.2.2))).trans (H.ex j hj), (put_size _).trans H.sz, WJ.tmPut H.tm hd3.1 _, h1, fun _ => put_eq _ (by rw [H.sz]; exact hd3.2.2.2.2.1), fun hs => ?_, fun hs => ?_, fun hs => ?_, H.bl.trans h2, H.kp.trans h3⟩
 ·obtain ⟨A, h4, h5⟩ := H.r0 hs
  exact ⟨A, (put_ne _ hd3.2.1).trans h4, h5.on h2 h3⟩
 ·obtain ⟨A, h4, h5⟩ := H.r1 hs
  exact ⟨A, (put_ne _ hd3.2.2.1).trans h4, h5.on h2 h3⟩
 ·obtain ⟨A, h4, h5⟩ := H.r2 hs
  exact ⟨A, (put_ne _ hd3.2.2.2.1).trans h4, h5.on h2 h3⟩
/-- Behind a row's building. -/
theorem WJ.row (H : WJ A0 B b t x w0 (k, s0, s1, s2) a w) (hk : k ≤ 8) (n : Int) (d : Nat) (hd : d = 30 ∨ d = 37 ∨ d = 47) : ∀ q', (q' = (k, true, s1, s2) ∧ d = 30 ∧ n = x.f0 ∨ q' = (k, s0, true, s2) ∧ d = 37 ∧ n = x.f2 ∨ q' = (k, s0, s1, true) ∧ d = 47 ∧ n = x.f5) →
  WJ A0 B b t x w0 q' (a.put (some d) (.slice (some ⟨w.heap.size, 0, none⟩) 1 1)) (w.alloc (.cells #[.int .i64 n] 3)) := by
 intro q' hq
 have hlt := H.pen.lt
 have hb : Below B w (w.alloc (.cells #[.int .i64 n] 3)) := (Below.refl _ _).alloc H.pen.base _
 have hkp : Kept b w (w.alloc (.cells #[.int .i64 n] 3)) := (Kept.refl _ _).alloc _
 have hnew : RowStays B b (some ⟨w.heap.size, 0, none⟩) [n] (w.alloc (.cells #[.int .i64 n] 3)) := rowBlock (Nat.ne_of_gt hlt) rfl (heap_alloc_new _ _)
 have hdl : ((wL b x).map Prod.fst).all (fun j => j != d) = true ∧ d < 54 ∧ d ∈ wDs := by rcases hd with rfl | rfl | rfl <;> exact ⟨rfl, by decide⟩
 have hcd : wD k ≠ d := by
  rcases k with _ | _ | _ | _ | _ | _ | _ | _ | _ | k
  all_goals first | (rcases hd with rfl | rfl | rfl <;> decide) | omega
 have hpn := H.pen.alloc (.cells #[.int .i64 n] 3)
 have o0 : d ≠ 30 → s0 = true → ∃ A, (a.put (some d) (.slice (some ⟨w.heap.size, 0, none⟩) 1 1)).tmps[30]? = some (.slice A 1 1) ∧ RowStays B b A [x.f0] (w.alloc (.cells #[.int .i64 n] 3)) := fun hd hs => by
  obtain ⟨A, h4, h5⟩ := H.r0 hs
  exact ⟨A, (put_ne _ (Ne.symm hd)).trans h4, h5.on hb hkp⟩
 have o1 : d ≠ 37 → s1 = true → ∃ A, (a.put (some d) (.slice (some ⟨w.heap.size, 0, none⟩) 1 1)).tmps[37]? = some (.slice A 1 1) ∧ RowStays B b A [x.f2] (w.alloc (.cells #[.int .i64 n] 3)) := fun hd hs => by
  obtain ⟨A, h4, h5⟩ := H.r1 hs
  exact ⟨A, (put_ne _ (Ne.symm hd)).trans h4, h5.on hb hkp⟩
 have o2 : d ≠ 47 → s2 = true → ∃ A, (a.put (some d) (.slice (some ⟨w.heap.size, 0, none⟩) 1 1)).tmps[47]? = some (.slice A 1 1) ∧ RowStays B b A [x.f5] (w.alloc (.cells #[.int .i64 n] 3)) := fun hd hs => by
  obtain ⟨A, h4, h5⟩ := H.r2 hs
  exact ⟨A, (put_ne _ (Ne.symm hd)).trans h4, h5.on hb hkp⟩
 have e0 := put_eq (a := a) (d := d) (.slice (some ⟨w.heap.size, 0, none⟩) 1 1) (by rw [H.sz]; exact hdl.2.1)
 rcases hq with ⟨rfl, rfl, rfl⟩ | ⟨rfl, rfl, rfl⟩ | ⟨rfl, rfl, rfl⟩
 ·exact ⟨H.df, fun j hj => (put_ne _ (fun e => hj (by rw [e]; exact hdl.2.2))).trans (H.ex j hj), (put_size _).trans H.sz, WJ.tmPut H.tm hdl.1 _, hpn, fun h0 => (put_ne _ hcd).trans (H.cp h0), fun _ => ⟨_, e0, hnew⟩, o1 (by decide), o2 (by decide), H.bl.trans hb, H.kp.trans hkp⟩
 ·exact ⟨H.df, fun j hj => (put_ne _ (fun e => hj (by rw [e]; exact hdl.2.2))).trans (H.ex j hj), (put_size _).trans H.sz, WJ.tmPut H.tm hdl.1 _, hpn, fun h0 => (put_ne _ hcd).trans (H.cp h0), o0 (by decide), fun _ => ⟨_, e0, hnew⟩, o2 (by decide), H.bl.trans hb, H.kp.trans hkp⟩
 ·exact ⟨H.df, fun j hj => (put_ne _ (fun e => hj (by rw [e]; exact hdl.2.2))).trans (H.ex j hj), (put_size _).trans H.sz, WJ.tmPut H.tm hdl.1 _, hpn, fun h0 => (put_ne _ hcd).trans (H.cp h0), o0 (by decide), o1 (by decide), fun _ => ⟨_, e0, hnew⟩, H.bl.trans hb, H.kp.trans hkp⟩
end
/-- An act is another one, but for some slots. -/
theorem act_puts : ∀ (ds : List Nat) (A0 a : Act), a.tmps.size = A0.tmps.size → a.defers = A0.defers → (∀ j, j ∉ ds → a.tmps[j]? = A0.tmps[j]?) → ∃ vs : List Value, vs.length = ds.length ∧ a = (ds.zip vs).foldl (fun c p => c.put (some p.1) p.2) A0
 | [], A0, a, _, hd, h => ⟨[], rfl, by
  obtain ⟨t, d⟩ := a
  obtain ⟨t0, d0⟩ := A0
  obtain rfl : d = d0 := hd
  obtain rfl : t = t0 := Array.ext_getElem? fun j => h j (by simp)
  rfl⟩
 | d :: r, A0, a, hs, hd, h => by
  obtain ⟨vs, hl, he⟩ := act_puts r (A0.put (some d) (a.tmps[d]?.getD undef)) a (hs.trans (put_size _).symm) hd (fun j hj => by
   by_cases hjd : j = d
   ·subst hjd
    by_cases hlt : j < A0.tmps.size
    ·rw [put_eq _ hlt, Array.getElem?_eq_getElem (by omega)]; rfl
    ·rw [Array.getElem?_eq_none (by omega), Array.getElem?_eq_none (by rw [put_size]; omega)]
   ·rw [put_ne _ hjd]
    exact h j (by simp only [List.mem_cons, not_or]; exact ⟨hjd, hj⟩))
  exact ⟨a.tmps[d]?.getD undef :: vs, by simp [hl], he⟩
/-- The contracts of the calls. -/
theorem wCalls {B b : Nat} {t : ByteArray} {x : S95} (h : t.size + (waitT x).size ≤ 140737488355328) (q0 : R64 x.f0) (q1 : R64 x.f1) (q2 : R64 x.f2) (q5 : R64 x.f5) (r0 : R64 x.f4.f0) (r1 : R64 x.f4.f1) :
  (∀ w, Pw B b (wT t x 0) w → Calls Tryz.prog 21 #[.pointer (some ⟨b, 0, none⟩), .string ⟨#[119, 97, 105, 116]⟩] w (PPost B b (wT t x 1) (.pointer (some ⟨b, 0, none⟩)) w)) ∧
  (∀ w A, Pw B b (wT t x 1) w → RowStays B b A [x.f0] w → Calls Tryz.prog 22 #[.pointer (some ⟨b, 0, none⟩), .slice A 1 1] w (PPost B b (wT t x 2) (.pointer (some ⟨b, 0, none⟩)) w)) ∧
  (∀ w, Pw B b (wT t x 2) w → Calls Tryz.prog 24 #[.pointer (some ⟨b, 0, none⟩), .int .i64 x.f1] w (PPost B b (wT t x 3) (.pointer (some ⟨b, 0, none⟩)) w)) ∧
  (∀ w A, Pw B b (wT t x 3) w → RowStays B b A [x.f2] w → Calls Tryz.prog 22 #[.pointer (some ⟨b, 0, none⟩), .slice A 1 1] w (PPost B b (wT t x 4) (.pointer (some ⟨b, 0, none⟩)) w)) ∧
  (∀ w, Pw B b (wT t x 4) w → Calls Tryz.prog 27 #[.pointer (some ⟨b, 0, none⟩), .bool x.f3] w (PPost B b (wT t x 5) (.pointer (some ⟨b, 0, none⟩)) w)) ∧
  (∀ w, Pw B b (wT t x 5) w → Calls Tryz.prog 26 #[.pointer (some ⟨b, 0, none⟩), .agg #[.int .i64 x.f4.f0, .int .i64 x.f4.f1]] w (PPost B b (wT t x 6) (.pointer (some ⟨b, 0, none⟩)) w)) ∧
  (∀ w A, Pw B b (wT t x 6) w → RowStays B b A [x.f5] w → Calls Tryz.prog 22 #[.pointer (some ⟨b, 0, none⟩), .slice A 1 1] w (PPost B b (wT t x 7) (.pointer (some ⟨b, 0, none⟩)) w)) ∧
  (∀ w, Pw B b (wT t x 7) w → Calls Tryz.prog 27 #[.pointer (some ⟨b, 0, none⟩), .bool x.f6] w (PPost B b (wT t x 8) (.pointer (some ⟨b, 0, none⟩)) w)) ∧
  (∀ w, Pw B b (wT t x 8) w → Calls Tryz.prog 23 #[.pointer (some ⟨b, 0, none⟩)] w (PPost B b (t ++ waitT x) (.tuple #[]) w)) := by
 obtain ⟨h0, h1, h2, h3, h4, h5, h6, h7, h8⟩ := wT_size h
 have row : ∀ (T : ByteArray) (n : Int) (hn : R64 n) (hlen : T.size + (numsT [n]).size ≤ 140737488355328) (w : World) (hp : Pw B b T w) (A : Option Addr) (hr : RowStays B b A [n] w), Calls Tryz.prog 22 #[.pointer (some ⟨b, 0, none⟩), .slice A 1 1] w (PPost B b (T ++ numsT [n]) (.pointer (some ⟨b, 0, none⟩)) w) :=
  fun T n hn hlen w hp A hr => pen_number B b T A 1 [n] (fun x hx => by rw [List.mem_singleton.1 hx]; exact hn) w hp hr (by simp) hlen
 refine ⟨fun w hp => pen_word B b _ _ w hp h0, fun w A hp hr => row _ _ q0 h1 w hp A hr, fun w hp => pen_wide B b _ _ q1 w hp h2, fun w A hp hr => row _ _ q2 h3 w hp A hr, fun w hp => pen_yes B b _ _ w hp h4, fun w hp => pen_key B b _ _ r0 r1 w hp h5, fun w A hp hr => row _ _ q5 h6 w hp A hr, fun w hp => pen_yes B b _ _ w hp h7, fun w hp => ?_⟩
 rw [← wT_end]
 exact pen_end B b _ w hp h8
/-- The states: how many calls, which rows. -/
def wSts : List (Nat × Bool × Bool × Bool) := (List.range 9).flatMap fun k => [(k, false, false, false), (k, false, false, true), (k, false, true, false), (k, false, true, true), (k, true, false, false), (k, true, false, true), (k, true, true, false), (k, true, true, true)]
def wLst (q : Nat × Bool × Bool × Bool) : Array Bool := #[true, decide (0 < q.1), true, true, q.2.1, decide (1 < q.1), true, true, decide (2 < q.1), true, true, q.2.2.1, decide (3 < q.1), true, true, decide (4 < q.1), true, true, decide (5 < q.1), true, true, q.2.2.2, decide (6 < q.1), true, true, decide (7 < q.1), true]
def wStp (q : Nat × Bool × Bool × Bool) (i : Nat) : Option (Nat × Bool × Bool × Bool) :=
 if i = 4 ∧ q.1 ≤ 8 then some (q.1, true, q.2.2.1, q.2.2.2) else if i = 11 ∧ q.1 ≤ 8 then some (q.1, q.2.1, true, q.2.2.2) else if i = 21 ∧ q.1 ≤ 8 then some (q.1, q.2.1, q.2.2.1, true)
 else if i = 1 ∧ q.1 = 0 then some (1, q.2.1, q.2.2.1, q.2.2.2) else if i = 5 ∧ q.1 = 1 ∧ q.2.1 = true then some (2, q.2.1, q.2.2.1, q.2.2.2) else if i = 8 ∧ q.1 = 2 then some (3, q.2.1, q.2.2.1, q.2.2.2)
 else if i = 12 ∧ q.1 = 3 ∧ q.2.2.1 = true then some (4, q.2.1, q.2.2.1, q.2.2.2) else if i = 15 ∧ q.1 = 4 then some (5, q.2.1, q.2.2.1, q.2.2.2) else if i = 18 ∧ q.1 = 5 then some (6, q.2.1, q.2.2.1, q.2.2.2)
 else if i = 22 ∧ q.1 = 6 ∧ q.2.2.2 = true then some (7, q.2.1, q.2.2.1, q.2.2.2) else if i = 25 ∧ q.1 = 7 then some (8, q.2.1, q.2.2.1, q.2.2.2) else none
def wFin (q : Nat × Bool × Bool × Bool) : Bool := q.1 == 8
def wRk (q : Nat × Bool × Bool × Bool) : Nat := (8 - q.1) + (if q.2.1 then 0 else 1) + (if q.2.2.1 then 0 else 1) + (if q.2.2.2 then 0 else 1)
theorem WJ.start {B b : Nat} {t : ByteArray} {x : S95} {a : Act} {w : World} (hs : a.tmps.size = 54) (tm : ∀ p ∈ wL b x, a.tmps[p.1]? = some p.2) (hp : Pw B b t w) : WJ a B b t x w (0, false, false, false) a w :=
 ⟨rfl, fun _ _ => rfl, hs, tm, hp, fun h => absurd rfl h, fun h => (by cases h), fun h => (by cases h), fun h => (by cases h), Below.refl _ _, Kept.refl _ _⟩
theorem w_cells {w : World} {g : Nat} {x : S95} (h : w.heap[g]? = some (.cells #[.int .i64 x.f0, .int .i64 x.f1, .int .i64 x.f2, .bool x.f3, .int .i64 x.f4.f0, .int .i64 x.f4.f1, .int .i64 x.f5, .bool x.f6] 95 (0, 0))) :
  w.cell? ⟨g, 0, none⟩ = some (.int .i64 x.f0) ∧ w.cell? ⟨g, 1, none⟩ = some (.int .i64 x.f1) ∧ w.cell? ⟨g, 2, none⟩ = some (.int .i64 x.f2) ∧ w.cell? ⟨g, 3, none⟩ = some (.bool x.f3) ∧ w.cell? ⟨g, 4, none⟩ = some (.int .i64 x.f4.f0) ∧ w.cell? ⟨g, 5, none⟩ = some (.int .i64 x.f4.f1) ∧ w.cell? ⟨g, 6, none⟩ = some (.int .i64 x.f5) ∧ w.cell? ⟨g, 7, none⟩ = some (.bool x.f6) :=
 ⟨(blk_cell h 0).trans rfl, (blk_cell h 1).trans rfl, (blk_cell h 2).trans rfl, (blk_cell h 3).trans rfl, (blk_cell h 4).trans rfl, (blk_cell h 5).trans rfl, (blk_cell h 6).trans rfl, (blk_cell h 7).trans rfl⟩
theorem ev_tmp {a : Act} {t : Nat} {v : Value} (h : a.tmps[t]? = some v) : a.eval (.tmp t) = v := by
 show a.tmps.getD t undef = v
 rw [Array.getD_eq_getD_getElem?, h]; rfl
theorem wpCall2 {P : Program} {f : Nat} {dst : Option Tmp} {ty : TypeId} {pos : String} {after : Array Edge} {ats : Array TypeId} {x1 x2 : Operand} {v1 v2 : Value} {a : Act} {w : World} {K : Act → World → Prop} {Q : Exit → Act → World → Prop} (hen : ∀ args w, (callFunc f args).run P w = .ok (.enter f args) w) (h1 : a.eval x1 = v1) (h2 : a.eval x2 = v2)
  (h : Calls P f #[v1, v2] w fun e w' => ∃ v, e = .returned v ∧ K (a.put dst v) w') : Oper.wp P { dst, op := .call { callee := .value (.func f), args := #[x1, x2], argTypes := ats }, type := ty, pos, after, guard := none } a w K Q :=
 wpCall hen #[v1, v2] (by simp [h1, h2]) h
theorem list11 (vs : List Value) (h : vs.length = 11) : ∃ v0 v1 v2 v3 v4 v5 v6 v7 v8 v9 v10, vs = [v0, v1, v2, v3, v4, v5, v6, v7, v8, v9, v10] := by
 match vs, h with
 | [v0, v1, v2, v3, v4, v5, v6, v7, v8, v9, v10], _ => exact ⟨_, _, _, _, _, _, _, _, _, _, _, rfl⟩
theorem WJ.act {A0 : Act} {B b : Nat} {t : ByteArray} {x : S95} {w0 : World} {q : Nat × Bool × Bool × Bool} {a : Act} {w : World} (H : WJ A0 B b t x w0 q a w) (hs : A0.tmps.size = 54) :
  ∃ v0 v1 v2 v3 v4 v5 v6 v7 v8 v9 v10, a = (wDs.zip [v0, v1, v2, v3, v4, v5, v6, v7, v8, v9, v10]).foldl (fun c p => c.put (some p.1) p.2) A0 := by
 obtain ⟨vs, hl, he⟩ := act_puts wDs A0 a (H.sz.trans hs.symm) H.df H.ex
 obtain ⟨v0, v1, v2, v3, v4, v5, v6, v7, v8, v9, v10, rfl⟩ := list11 vs hl
 exact ⟨_, _, _, _, _, _, _, _, _, _, _, he⟩
end Go.Proofs.YtmcjccigglekpaaGreatDoor.Given
namespace Go.Proofs.YtmcjccigglekpaaGreatDoor.Given
open Go Go.RowKit Go.Proofs Go.Proofs.YtmcjccigglekpaaGreatDoorW.PrintWords Go.Proofs.YtmcjccigglekpaaGreatDoorW.PrintLast Go.Proofs.YtmcjccigglekpaaGreatDoorW.PrintMore Go.Proofs.YtmcjccigglekpaaGreatDoor.P Go.Proofs.YtmcjccigglekpaaGreatDoor.Plain

def portHead (o k v : Int) : ByteArray := ⟨#[112, 111, 114, 116]⟩ ++ numsT [o, k] ++ (⟨#[32]⟩ ++ itoS v) ++ ⟨#[10]⟩
def portT (o : Int) (x : S59) : ByteArray := portHead o x.f0 x.f1 ++ catI (fun _ => waitT) x.f2 0

theorem row2 (B b : Nat) (t : ByteArray) (m n : Int) (hm : R64 m) (hn : R64 n) (hlen : t.size + (numsT [m, n]).size ≤ 140737488355328) (w : World) (h : Pw B b t w) (A : Option Addr) (hr : RowStays B b A [m, n] w) :
  Calls Tryz.prog 22 #[.pointer (some ⟨b, 0, none⟩), .slice A 2 2] w (PPost B b (t ++ numsT [m, n]) (.pointer (some ⟨b, 0, none⟩)) w) :=
 pen_number B b t A 2 [m, n] (fun x hx => by simp at hx; rcases hx with rfl | rfl <;> assumption) w h hr (by simp) hlen
theorem row1 (B b : Nat) (t : ByteArray) (n : Int) (hn : R64 n) (hlen : t.size + (numsT [n]).size ≤ 140737488355328) (w : World) (h : Pw B b t w) (A : Option Addr) (hr : RowStays B b A [n] w) :
  Calls Tryz.prog 22 #[.pointer (some ⟨b, 0, none⟩), .slice A 1 1] w (PPost B b (t ++ numsT [n]) (.pointer (some ⟨b, 0, none⟩)) w) :=
 pen_number B b t A 1 [n] (fun x hx => by rw [List.mem_singleton.1 hx]; exact hn) w h hr (by simp) hlen

theorem rdWait (xs : List S95) (k : Nat) (hk : k < xs.length) : rd_T95 xs (k : Int) = xs[k] := by
 unfold rd_T95
 rw [Int.toNat_natCast, List.getD_eq_getElem?_getD, List.getElem?_eq_getElem hk]
 rfl
theorem rowNew1 {B b : Nat} {t : ByteArray} {n : Int} {w : World} (h : Pw B b t w) : RowStays B b (some ⟨w.heap.size, 0, none⟩) [n] (w.alloc (.cells #[.int .i64 n] 3)) := rowBlock (Nat.ne_of_gt h.lt) rfl (heap_alloc_new _ _)
theorem rowNew2 {B b : Nat} {t : ByteArray} {m n : Int} {w : World} (h : Pw B b t w) : RowStays B b (some ⟨w.heap.size, 0, none⟩) [m, n] (w.alloc (.cells #[.int .i64 m, .int .i64 n] 3)) := rowBlock (Nat.ne_of_gt h.lt) rfl (heap_alloc_new _ _)

set_option maxRecDepth 100000 in
set_option maxHeartbeats 4000000 in
theorem pen_port (w0 : World) (b : Nat) (t : ByteArray) (o k0 v0 : Int) (ho : R64 o) (hk : R64 k0) (hv : R64 v0) (A : Option Addr) (c : Nat) (l : List S95) (hr : Kd.C k95 w0 A l.length l) (hl : l.length ≤ 64) (hwf : ∀ y ∈ l, R64 y.f0 ∧ R64 y.f1 ∧ R64 y.f2 ∧ R64 y.f5 ∧ keyB y.f4 = true)
  (w : World) (hw : Below w0.heap.size w0 w) (h : Pw w0.heap.size b t w) (hlen : t.size + (portHead o k0 v0 ++ catI (fun _ => waitT) l 0).size ≤ 140737488355328) :
  Calls Tryz.prog 29 #[.pointer (some ⟨b, 0, none⟩), .int .i64 o, .agg #[.int .i64 k0, .int .i64 v0, .slice A l.length c]] w (PPost w0.heap.size b (t ++ (portHead o k0 v0 ++ catI (fun _ => waitT) l 0)) (.tuple #[]) w) := by
 have h1s : (⟨#[10]⟩ : ByteArray).size = 1 := rfl
 have h4s : (⟨#[112, 111, 114, 116]⟩ : ByteArray).size = 4 := rfl
 have e1 : t.size + (4 + (numsT [o, k0]).size + (1 + (itoS v0).size) + 1) + (catI (fun _ => waitT) l 0).size ≤ 140737488355328 := by
  have := hlen
  unfold portHead at this
  rw [ByteArray.size_append, ByteArray.size_append, ByteArray.size_append, ByteArray.size_append, ByteArray.size_append (a := ⟨#[32]⟩), h1s, h4s, one_size] at this
  omega
 have hlt := h.lt
 have D1 := Lib.hid (fun w' (h' : Pw w0.heap.size b t w') => pen_word w0.heap.size b t ⟨#[112, 111, 114, 116]⟩ w' h' (by rw [h4s]; omega))
 have D2 := Lib.hid (row2 w0.heap.size b (t ++ ⟨#[112, 111, 114, 116]⟩) o k0 ho hk (by rw [ByteArray.size_append, h4s]; omega))
 have D3 := Lib.hid (fun w' (h' : Pw w0.heap.size b (t ++ ⟨#[112, 111, 114, 116]⟩ ++ numsT [o, k0]) w') => pen_wide w0.heap.size b _ v0 hv w' h' (by rw [ByteArray.size_append, ByteArray.size_append, h4s]; omega))
 have D4 := Lib.hid (fun w' (h' : Pw w0.heap.size b (t ++ ⟨#[112, 111, 114, 116]⟩ ++ numsT [o, k0] ++ (⟨#[32]⟩ ++ itoS v0)) w') => pen_end w0.heap.size b _ w' h' (by rw [ByteArray.size_append, ByteArray.size_append, ByteArray.size_append, ByteArray.size_append, h4s, one_size]; omega))
 have ht : t ++ ⟨#[112, 111, 114, 116]⟩ ++ numsT [o, k0] ++ (⟨#[32]⟩ ++ itoS v0) ++ ⟨#[10]⟩ = t ++ portHead o k0 v0 := by unfold portHead; simp only [ByteArray.append_assoc]
 rw [← ByteArray.append_assoc]
 have hs : (t ++ portHead o k0 v0).size + (catI (fun _ => waitT) l 0).size ≤ 140737488355328 := by
  rw [← ht, ByteArray.size_append, ByteArray.size_append, ByteArray.size_append, ByteArray.size_append, ByteArray.size_append, h1s, h4s, one_size]; omega
 have HR := Lib.hid hr
 have HW := Lib.hid hw
 have HT := Lib.hid ht
 have HS := Lib.hid hs
 have HWF := Lib.hid hwf
 have hb0 : (w.alloc (.cells #[.int .i64 k0, .int .i64 v0, .slice A l.length c] 59)).heap[w.heap.size]? = some (.cells #[.int .i64 k0, .int .i64 v0, .slice A l.length c] 59 (0, 0)) := heap_alloc_new w _
 have hBa : Below w0.heap.size w (w.alloc (.cells #[.int .i64 k0, .int .i64 v0, .slice A l.length c] 59)) := (Below.refl _ _).alloc h.base _
 have hKa : Kept b w (w.alloc (.cells #[.int .i64 k0, .int .i64 v0, .slice A l.length c] 59)) := (Kept.refl _ _).alloc _
 have hPa := h.alloc (.cells #[.int .i64 k0, .int .i64 v0, .slice A l.length c] 59)
 have hne : w.heap.size ≠ b := by omega
 have hge : w.heap.size < (w.alloc (.cells #[.int .i64 k0, .int .i64 v0, .slice A l.length c] 59)).heap.size := by simp
 generalize hg : w.heap.size = g at hb0 hne hge
 have hBw := hBa
 have hKw := hKa
 clear hlen hr hw ht hs e1 h ho hk hv hwf
 go_enter Tryz.func29, Tryz.ntmps29
 go_wp2
 generalize (w.alloc (.cells #[.int .i64 k0, .int .i64 v0, .slice A l.length c] 59)) = wa at *
 go_upto_region 1 with fail
 go_cut [18] (fun _ wc => Pw w0.heap.size b (t ++ portHead o k0 v0) wc ∧ Below w0.heap.size wa wc ∧ Kept b wa wc)
 case first =>
  have c0 : wa.cell? ⟨g, 0, none⟩ = some (.int .i64 k0) := (blk_cell hb0 0).trans rfl
  have c1 : wa.cell? ⟨g, 1, none⟩ = some (.int .i64 v0) := (blk_cell hb0 1).trans rfl
  go_region_held3 (fun w' => w'.cell? ⟨g, 0, none⟩ = some (.int .i64 k0) ∧ w'.cell? ⟨g, 1, none⟩ = some (.int .i64 v0)) (first
   | exact ⟨c0, c1⟩
   | exact ⟨(blk_cell (blk_alloc (w := wa.drew) hb0 _) 0).trans rfl, (blk_cell (blk_alloc (w := wa.drew) hb0 _) 1).trans rfl⟩
   | exact ⟨(blk_cell n1 0).trans rfl, (blk_cell n1 1).trans rfl⟩
   | exact ⟨(blk_cell (blk_alloc n1 _) 0).trans rfl, (blk_cell (blk_alloc n1 _) 1).trans rfl⟩
   | exact ⟨(blk_cell n2 0).trans rfl, (blk_cell n2 1).trans rfl⟩
   | exact ⟨(blk_cell n3 0).trans rfl, (blk_cell n3 1).trans rfl⟩
   | exact ⟨(blk_cell n4 0).trans rfl, (blk_cell n4 1).trans rfl⟩) (first
   | (go_at_call 21; (with_reducible refine (D1.out _ ?_).mono ?_); (first | exact hPa.drew | exact hPa.drew.alloc _); rintro e w1 ⟨rfl, h1, hb1, hk1⟩; have q1 : Below w0.heap.size wa w1 ∧ Kept b wa w1 := (by first | exact ⟨((Below.refl _ _).drew).trans hb1, hk1⟩ | exact ⟨((Below.refl _ _).drew.alloc hPa.base _).trans hb1, ((Kept.refl _ wa.drew).alloc _).trans hk1⟩); have n1 := q1.2 _ _ _ _ hne (by decide) hb0)
   | (go_at_call 22; (first
     | ((with_reducible refine (D2.out _ (h1.alloc _) _ (rowNew2 h1)).mono ?_); rintro e w2 ⟨rfl, h2, hb2, hk2⟩; have q2 : Below w0.heap.size w1 w2 ∧ Kept b w1 w2 := ⟨((Below.refl _ _).alloc h1.base _).trans hb2, ((Kept.refl _ _).alloc _).trans hk2⟩)
     | ((with_reducible refine (D2.out _ h1 _ ?_).mono ?_); (exact (rowNew2 hPa.drew).on hb1 hk1); rintro e w2 ⟨rfl, h2, hb2, hk2⟩; have q2 : Below w0.heap.size w1 w2 ∧ Kept b w1 w2 := ⟨hb2, hk2⟩)); have n2 := q2.2 _ _ _ _ hne (by decide) n1)
   | (go_at_call 24; (with_reducible refine (D3.out _ h2).mono ?_); rintro e w3 ⟨rfl, h3, hb3, hk3⟩; have n3 := hk3 _ _ _ _ hne (by decide) n2)
   | (go_at_call 23; (with_reducible refine (D4.out _ h3).mono ?_); rintro e w4 ⟨rfl, h4, hb4, hk4⟩; have n4 := hk4 _ _ _ _ hne (by decide) n3))
  all_goals (go_wp2_with fail; go_meet; rw [HT.out] at h4; exact ⟨h4, ((q1.1.trans q2.1).trans hb3).trans hb4, ((q1.2.trans q2.2).trans hk3).trans hk4⟩)
 case rest =>
  obtain ⟨hp, hB, hK⟩ := hcut
  have nb := hK _ _ _ _ hne (by decide) hb0
  have c2 := (blk_cell nb 2).trans (show _ = some (Value.slice A l.length c) from rfl)
  go_wp2
  go_loopw [22] (fun v wr => ∃ k : Nat, k ≤ l.length ∧ v = .int .i64 k ∧ Hid (Pw w0.heap.size b (t ++ portHead o k0 v0 ++ catI (fun _ => waitT) (l.take k) 0) wr) ∧ Below w0.heap.size wa wr ∧ Kept b wa wr) (fun v _ => l.length - (intOf v).toNat)
  case atStart => exact ⟨0, Nat.zero_le _, rfl, Lib.hid (by have e : t ++ portHead o k0 v0 ++ catI (fun _ => waitT) (l.take 0) 0 = t ++ portHead o k0 v0 := ByteArray.append_empty; rw [e]; exact hp), hB, hK⟩
  case round =>
   obtain ⟨k, hk, rfl, hp, hB, hK⟩ := hrel
   by_cases hlt : k < l.length
   ·have hd : decide ((k : Int) < (l.length : Int)) = true := decide_eq_true (by omega)
    have i2 : decide (0 ≤ (k : Int)) = true := decide_eq_true (by omega)
    have j2 : decide (k < l.length) = true := decide_eq_true hlt
    obtain ⟨ad, e1, hv0, hv1, hv2, hv3, hv4, hv5, hv6, hv7⟩ := at_T95 (Kd.C_below HR.out (HW.out.trans (hBw.trans hB))) (k : Int) (by omega) (by omega)
    subst e1
    rw [rdWait _ k hlt, Int.toNat_natCast] at hv0 hv1 hv2 hv3 hv4 hv5 hv6 hv7
    have hcat := catI_take (fun _ => waitT) l 0 k hlt
    have hfit : (catI (fun _ => waitT) (l.take k) 0).size + (waitT l[k]).size ≤ (catI (fun _ => waitT) l 0).size := catI_fits (fun _ => waitT) l k hlt
    obtain ⟨q0, q1, q2, q5, qk⟩ := HWF.out l[k] (List.getElem_mem hlt)
    have hT := HS.out
    generalize l[k] = x at *
    generalize catI (fun _ => waitT) (l.take k) 0 = q at *
    have HC : Hid (catI (fun _ => waitT) (l.take (k + 1)) 0 = q ++ waitT x) := Lib.hid hcat
    clear hcat
    obtain ⟨r0, r1⟩ : R64 x.f4.f0 ∧ R64 x.f4.f1 := by
     unfold keyB at qk
     simp only [Bool.and_eq_true, decide_eq_true_eq] at qk
     exact ⟨⟨by omega, by omega⟩, by omega, by omega⟩
    have hq : (t ++ portHead o k0 v0 ++ q).size + (waitT x).size ≤ 140737488355328 := by rw [ByteArray.size_append]; omega
    have HE : Hid (t ++ portHead o k0 v0 ++ q ++ waitT x = t ++ portHead o k0 v0 ++ (q ++ waitT x)) := Lib.hid (by simp only [ByteArray.append_assoc])
    generalize t ++ portHead o k0 v0 ++ q = T at *
    have DD := Lib.hid (wCalls (B := w0.heap.size) (b := b) hq q0 q1 q2 q5 r0 r1)
    clear hq hT hfit qk q0 q1 q2 q5 r0 r1
    have hp1 := hp.out
    have hlt1 := hp1.lt
    clear hp
    go_wp2
    have hg2 : wr.heap.size ≠ b := by omega
    obtain ⟨W0, hW0⟩ : ∃ W0, wr.alloc (.cells #[.int .i64 x.f0, .int .i64 x.f1, .int .i64 x.f2, .bool x.f3, .int .i64 x.f4.f0, .int .i64 x.f4.f1, .int .i64 x.f5, .bool x.f6] 95) = W0 := ⟨_, rfl⟩
    have hblk : W0.heap[wr.heap.size]? = some (.cells #[.int .i64 x.f0, .int .i64 x.f1, .int .i64 x.f2, .bool x.f3, .int .i64 x.f4.f0, .int .i64 x.f4.f1, .int .i64 x.f5, .bool x.f6] 95 (0, 0)) := hW0 ▸ blk_new wr _
    have hBd : Below w0.heap.size wr W0 := hW0 ▸ (Below.refl _ _).alloc hp1.base _
    have hKd : Kept b wr W0 := hW0 ▸ (Kept.refl _ _).alloc _
    have hpd : Pw w0.heap.size b T W0 := hW0 ▸ hp1.alloc _
    rw [hW0]
    clear hW0
    obtain ⟨wd, hwd⟩ : ∃ wd, W0.drew = wd := ⟨_, rfl⟩
    have HD : Hid (Below w0.heap.size wr wd ∧ Kept b wr wd) := Lib.hid (hwd ▸ ⟨hBd.drew, hKd⟩)
    have hpd' : Pw w0.heap.size b T wd := hwd ▸ hpd.drew
    have hSd : wd.heap[wr.heap.size]? = some (.cells #[.int .i64 x.f0, .int .i64 x.f1, .int .i64 x.f2, .bool x.f3, .int .i64 x.f4.f0, .int .i64 x.f4.f1, .int .i64 x.f5, .bool x.f6] 95 (0, 0)) := hwd ▸ hblk
    clear hblk hBd hKd hpd hv0 hv1 hv2 hv3 hv4 hv5 hv6 hv7 hp1
    refine wp_region_graph (σ := Nat × Bool × Bool × Bool) (fun w' => w'.heap[wr.heap.size]? = some (.cells #[.int .i64 x.f0, .int .i64 x.f1, .int .i64 x.f2, .bool x.f3, .int .i64 x.f4.f0, .int .i64 x.f4.f1, .int .i64 x.f5, .bool x.f6] 95 (0, 0))) 26 [0, 2, 3, 6, 7, 9, 10, 13, 14, 16, 17, 19, 20, 23, 24] wSts wLst wStp wFin wRk (0, false, false, false) (by kernel_rfl) (by kernel_rfl) (fun _ a d _ _ h => by cases d <;> exact h) wd hwd hSd (WJ ?A0 w0.heap.size b T x wd) ?step ?done ?pre
    case pre =>
     try dsimp only
     repeat (refine' pre_pure rfl rfl ?_ ?_; rotate_left; · (rintro w' hs; obtain ⟨u0, u1, u2, u3, u4, u5, u6, u7⟩ := w_cells hs; go_simp <;> rfl)
             simp only [Act.put, List.setIfInBounds_toArray, List.set_cons_zero, List.set_cons_succ])
     unfold wpPre
     refine WJ.start ?_ ?_ hpd'
     ·rfl
     intro p hp
     simp only [wL, List.mem_cons, List.not_mem_nil, or_false] at hp
     rcases hp with rfl | rfl | rfl | rfl | rfl | rfl | rfl | rfl <;> rfl
    case step =>
     intro q9 i9 q9' hst a9 w9 hS hJ
     obtain ⟨k9, s0, s1, s2⟩ := q9
     unfold wStp at hst
     dsimp only at hst
     repeat' split at hst
     all_goals first | (injection hst with hst; subst hst; rename_i hc) | cases hst
     ·obtain ⟨rfl, hk0⟩ := hc
      refine wpOp_at rfl rfl (fun K hK => ?_)
      refine wpBuild1 (hJ.tm (29, .int .i64 x.f0) (by simp [wL])) ?_
      exact hK.out _ _ ⟨blk_alloc hS _, hJ.row hk0 _ _ (by decide) _ (.inl ⟨rfl, rfl, rfl⟩)⟩
     ·obtain ⟨rfl, hk0⟩ := hc
      refine wpOp_at rfl rfl (fun K hK => ?_)
      refine wpBuild1 (hJ.tm (36, .int .i64 x.f2) (by simp [wL])) ?_
      exact hK.out _ _ ⟨blk_alloc hS _, hJ.row hk0 _ _ (by decide) _ (.inr (.inl ⟨rfl, rfl, rfl⟩))⟩
     ·obtain ⟨rfl, hk0⟩ := hc
      refine wpOp_at rfl rfl (fun K hK => ?_)
      refine wpBuild1 (hJ.tm (46, .int .i64 x.f5) (by simp [wL])) ?_
      exact hK.out _ _ ⟨blk_alloc hS _, hJ.row hk0 _ _ (by decide) _ (.inr (.inr ⟨rfl, rfl, rfl⟩))⟩
     ·obtain ⟨rfl, hk0⟩ := hc
      subst hk0
      refine wpOp_at rfl rfl (fun K hK => ?_)
      refine wpCall2 (enters_of Tryz.func21 (by kernel_rfl) rfl) (ev_tmp (hJ.tm (26, .pointer (some ⟨b, 0, none⟩)) (by simp [wL]))) rfl ?_
      refine (DD.out.1 _ hJ.pen).mono ?_
      intro e w2 hp2
      exact ⟨_, hp2.1, hK.out _ _ ⟨hp2.2.2.2 _ _ _ _ hg2 (by decide) hS, hJ.call (by decide) rfl hp2 _ rfl⟩⟩
     ·obtain ⟨rfl, hk0, hs0⟩ := hc
      subst hk0
      obtain ⟨A9, hA9, hr9⟩ := hJ.r0 hs0
      refine wpOp_at rfl rfl (fun K hK => ?_)
      refine wpCall2 (enters_of Tryz.func22 (by kernel_rfl) rfl) (ev_tmp (hJ.cp (Nat.succ_ne_zero _))) (ev_tmp hA9) ?_
      refine (DD.out.2.1 _ _ hJ.pen hr9).mono ?_
      intro e w2 hp2
      exact ⟨_, hp2.1, hK.out _ _ ⟨hp2.2.2.2 _ _ _ _ hg2 (by decide) hS, hJ.call (by decide) rfl hp2 _ rfl⟩⟩
     ·obtain ⟨rfl, hk0⟩ := hc
      subst hk0
      refine wpOp_at rfl rfl (fun K hK => ?_)
      refine wpCall2 (enters_of Tryz.func24 (by kernel_rfl) rfl) (ev_tmp (hJ.cp (Nat.succ_ne_zero _))) (ev_tmp (hJ.tm (33, .int .i64 x.f1) (by simp [wL]))) ?_
      refine (DD.out.2.2.1 _ hJ.pen).mono ?_
      intro e w2 hp2
      exact ⟨_, hp2.1, hK.out _ _ ⟨hp2.2.2.2 _ _ _ _ hg2 (by decide) hS, hJ.call (by decide) rfl hp2 _ rfl⟩⟩
     ·obtain ⟨rfl, hk0, hs0⟩ := hc
      subst hk0
      obtain ⟨A9, hA9, hr9⟩ := hJ.r1 hs0
      refine wpOp_at rfl rfl (fun K hK => ?_)
      refine wpCall2 (enters_of Tryz.func22 (by kernel_rfl) rfl) (ev_tmp (hJ.cp (Nat.succ_ne_zero _))) (ev_tmp hA9) ?_
      refine (DD.out.2.2.2.1 _ _ hJ.pen hr9).mono ?_
      intro e w2 hp2
      exact ⟨_, hp2.1, hK.out _ _ ⟨hp2.2.2.2 _ _ _ _ hg2 (by decide) hS, hJ.call (by decide) rfl hp2 _ rfl⟩⟩
     ·obtain ⟨rfl, hk0⟩ := hc
      subst hk0
      refine wpOp_at rfl rfl (fun K hK => ?_)
      refine wpCall2 (enters_of Tryz.func27 (by kernel_rfl) rfl) (ev_tmp (hJ.cp (Nat.succ_ne_zero _))) (ev_tmp (hJ.tm (40, .bool x.f3) (by simp [wL]))) ?_
      refine (DD.out.2.2.2.2.1 _ hJ.pen).mono ?_
      intro e w2 hp2
      exact ⟨_, hp2.1, hK.out _ _ ⟨hp2.2.2.2 _ _ _ _ hg2 (by decide) hS, hJ.call (by decide) rfl hp2 _ rfl⟩⟩
     ·obtain ⟨rfl, hk0⟩ := hc
      subst hk0
      refine wpOp_at rfl rfl (fun K hK => ?_)
      refine wpCall2 (enters_of Tryz.func26 (by kernel_rfl) rfl) (ev_tmp (hJ.cp (Nat.succ_ne_zero _))) (ev_tmp (hJ.tm (43, .agg #[.int .i64 x.f4.f0, .int .i64 x.f4.f1]) (by simp [wL]))) ?_
      refine (DD.out.2.2.2.2.2.1 _ hJ.pen).mono ?_
      intro e w2 hp2
      exact ⟨_, hp2.1, hK.out _ _ ⟨hp2.2.2.2 _ _ _ _ hg2 (by decide) hS, hJ.call (by decide) rfl hp2 _ rfl⟩⟩
     ·obtain ⟨rfl, hk0, hs0⟩ := hc
      subst hk0
      obtain ⟨A9, hA9, hr9⟩ := hJ.r2 hs0
      refine wpOp_at rfl rfl (fun K hK => ?_)
      refine wpCall2 (enters_of Tryz.func22 (by kernel_rfl) rfl) (ev_tmp (hJ.cp (Nat.succ_ne_zero _))) (ev_tmp hA9) ?_
      refine (DD.out.2.2.2.2.2.2.1 _ _ hJ.pen hr9).mono ?_
      intro e w2 hp2
      exact ⟨_, hp2.1, hK.out _ _ ⟨hp2.2.2.2 _ _ _ _ hg2 (by decide) hS, hJ.call (by decide) rfl hp2 _ rfl⟩⟩
     ·obtain ⟨rfl, hk0⟩ := hc
      subst hk0
      refine wpOp_at rfl rfl (fun K hK => ?_)
      refine wpCall2 (enters_of Tryz.func27 (by kernel_rfl) rfl) (ev_tmp (hJ.cp (Nat.succ_ne_zero _))) (ev_tmp (hJ.tm (50, .bool x.f6) (by simp [wL]))) ?_
      refine (DD.out.2.2.2.2.2.2.2.1 _ hJ.pen).mono ?_
      intro e w2 hp2
      exact ⟨_, hp2.1, hK.out _ _ ⟨hp2.2.2.2 _ _ _ _ hg2 (by decide) hS, hJ.call (by decide) rfl hp2 _ rfl⟩⟩
    case done =>
     intro q9 a9 w9 hfin hS hJ
     obtain ⟨k9, s0, s1, s2⟩ := q9
     obtain rfl : k9 = 8 := by simpa [wFin] using hfin
     have hcp := hJ.cp (Nat.succ_ne_zero _)
     have hpen := hJ.pen
     have HB9 := Lib.hid (⟨hJ.bl, hJ.kp⟩ : Below w0.heap.size wd w9 ∧ Kept b wd w9)
     obtain ⟨v0, v1, v2, v3, v4, v5, v6, v7, v8, v9, v10, rfl⟩ := hJ.act rfl
     clear hJ hfin
     simp only [wDs, List.zip_cons_cons, List.zip_nil_right, List.foldl_cons, List.foldl_nil, Act.put, List.setIfInBounds_toArray, List.set_cons_zero, List.set_cons_succ] at hcp ⊢
     obtain rfl : v10 = .pointer (some ⟨b, 0, none⟩) := by simpa [wD] using hcp
     have hB9 := (hB.trans HD.out.1).trans HB9.out.1
     have hK9 := (hK.trans HD.out.2).trans HB9.out.2
     clear hcp hB hK hSd hS hpd'
     refine last_at rfl (fun K hK => ?_)
     go_simp
     refine (DD.out.2.2.2.2.2.2.2.2 _ hpen).mono ?_
     rintro e w2 ⟨rfl, h1, h2, h3⟩
     refine hK.out _ _ ?_
     clear hK K
     go_wp2
     refine ⟨⟨k + 1, hlt, rfl, ?_, hB9.trans h2, hK9.trans h3⟩, ?_⟩
     ·rw [HC.out, ← HE.out]; exact Lib.hid h1
     ·show l.length - ((k : Int) + 1).toNat < l.length - ((k : Int)).toNat
      omega
   ·have hd : decide ((k : Int) < (l.length : Int)) = false := decide_eq_false (by omega)
    obtain rfl : k = l.length := by omega
    rw [List.take_length] at hp
    go_wp2
    go_end0
    exact ⟨rfl, hp.out, hBw.trans hB, hKw.trans hK⟩
end Go.Proofs.YtmcjccigglekpaaGreatDoor.Given
namespace Go.Proofs.YtmcjccigglekpaaGreatDoor.Given
open Go Go.RowKit Go.Proofs Go.Proofs.YtmcjccigglekpaaGreatDoorW.PrintWords Go.Proofs.YtmcjccigglekpaaGreatDoorW.PrintLast Go.Proofs.YtmcjccigglekpaaGreatDoorW.PrintMore Go.Proofs.YtmcjccigglekpaaGreatDoor.P Go.Proofs.YtmcjccigglekpaaGreatDoor.Plain

theorem itoS_size {n : Int} (h : R64 n) : (itoS n).size ≤ 21 := by
 have := Lib.itoa_length_le n h.1 h.2
 show (Lib.itoa n).toArray.size ≤ 21
 simpa using this
theorem numsT_size : ∀ (l : List Int), (∀ n ∈ l, R64 n) → (numsT l).size ≤ 22 * l.length
 | [], _ => Nat.le_refl _
 | n :: l, h => by
  have h1 := itoS_size (h n (List.mem_cons_self ..))
  have h2 := numsT_size l (fun m hm => h m (List.mem_cons_of_mem _ hm))
  show (⟨#[32]⟩ ++ itoS n ++ numsT l).size ≤ 22 * (l.length + 1)
  rw [ByteArray.size_append, ByteArray.size_append, show (⟨#[32]⟩ : ByteArray).size = 1 from rfl]
  omega
theorem catI_le {α : Type} (f : Nat → α → ByteArray) (k : Nat) : ∀ (l : List α) (i : Nat), (∀ i, ∀ x ∈ l, (f i x).size ≤ k) → (catI f l i).size ≤ l.length * k
 | [], _, _ => by show 0 ≤ _; exact Nat.zero_le _
 | x :: l, i, h => by
  have h1 := h i x (List.mem_cons_self ..)
  have h2 := catI_le f k l (i + 1) (fun i y hy => h i y (List.mem_cons_of_mem _ hy))
  show (f i x ++ catI f l (i + 1)).size ≤ (l.length + 1) * k
  rw [ByteArray.size_append, Nat.succ_mul]
  omega
theorem r64_nat {n : Nat} (h : n ≤ 1000000) : R64 (n : Int) := by unfold R64; omega
theorem yesT_size (x : Bool) : (yesT x).size ≤ 22 := numsT_size _ (fun n hn => by rw [List.mem_singleton.1 hn]; unfold R64; cases x <;> decide)
theorem keyT_size {k : S74} (h : keyB k = true) : (keyT k).size ≤ 44 := by
 have hk : R64 k.f0 ∧ R64 k.f1 := by
  unfold keyB at h; simp only [Bool.and_eq_true, decide_eq_true_eq] at h; unfold R64; omega
 have h1 := numsT_size [k.f0] (fun n hn => by rw [List.mem_singleton.1 hn]; exact hk.1)
 have h2 := itoS_size hk.2
 unfold keyT
 rw [ByteArray.size_append, ByteArray.size_append, show (⟨#[46]⟩ : ByteArray).size = 1 from rfl]
 simp only [List.length_cons, List.length_nil] at h1
 omega
theorem nums1_size {n : Int} (h : R64 n) : (numsT [n]).size ≤ 22 := numsT_size [n] (fun m hm => by rw [List.mem_singleton.1 hm]; exact h)
theorem nums2_size {n m : Int} (h : R64 n) (h' : R64 m) : (numsT [n, m]).size ≤ 44 := numsT_size [n, m] (fun k hk => by simp at hk; rcases hk with rfl | rfl <;> assumption)
theorem textW_size (x : Int) : (textW x).size = 16 := by
 unfold textW
 show ((rowT x 16).map _).toArray.size = 16
 simp [rowT_length]
theorem waitT_size {x : S95} (h : R64 x.f0 ∧ R64 x.f1 ∧ R64 x.f2 ∧ R64 x.f5) (hk : keyB x.f4 = true) : (waitT x).size ≤ 200 := by
 have h0 := nums1_size h.1
 have h1 := itoS_size h.2.1
 have h2 := nums1_size h.2.2.1
 have h3 := yesT_size x.f3
 have h4 := keyT_size hk
 have h5 := nums1_size h.2.2.2
 have h6 := yesT_size x.f6
 unfold waitT
 simp only [ByteArray.size_append, show (⟨#[32]⟩ : ByteArray).size = 1 from rfl, show (⟨#[10]⟩ : ByteArray).size = 1 from rfl, show (⟨#[119, 97, 105, 116]⟩ : ByteArray).size = 4 from rfl]
 omega
theorem portT_size {o : Int} {x : S59} (ho : R64 o) (h : R64 x.f0 ∧ R64 x.f1 ∧ ∀ y ∈ x.f2, R64 y.f0 ∧ R64 y.f1 ∧ R64 y.f2 ∧ R64 y.f5) (hp : portB x = true) : (portT o x).size ≤ 13000 := by
 unfold portB at hp
 simp only [Bool.and_eq_true, decide_eq_true_eq, Bool.not_eq_true', List.any_eq_false, waitBad] at hp
 have h1 := catI_le (fun _ => waitT) 200 x.f2 0 (fun _ y hy => waitT_size (h.2.2 y hy) (by have := hp.2 y hy; simpa using this))
 have h2 := nums2_size ho h.1
 have h3 := itoS_size h.2.1
 have h4 : x.f2.length * 200 ≤ 64 * 200 := Nat.mul_le_mul_right _ hp.1
 unfold portT portHead
 simp only [ByteArray.size_append, show (⟨#[32]⟩ : ByteArray).size = 1 from rfl, show (⟨#[10]⟩ : ByteArray).size = 1 from rfl, show (⟨#[112, 111, 114, 116]⟩ : ByteArray).size = 4 from rfl]
 omega
theorem slotT_size {o : Nat} (ho : o ≤ 64) {i : Nat} (hi : i ≤ 1000) (c : S87) : (slotT (o : Int) i c).size ≤ 80 := by
 unfold slotT
 split
 ·exact Nat.zero_le _
 ·have h1 := keyT_size (k := ⟨(o : Int), (i : Int)⟩) (by unfold keyB; simp only [Bool.and_eq_true, decide_eq_true_eq]; omega)
  simp only [ByteArray.size_append, textW_size, show (⟨#[32]⟩ : ByteArray).size = 1 from rfl, show (⟨#[10]⟩ : ByteArray).size = 1 from rfl, show (⟨#[115, 108, 111, 116]⟩ : ByteArray).size = 4 from rfl]
  omega
theorem catI_leLt {α : Type} (f : Nat → α → ByteArray) (k n : Nat) : ∀ (l : List α) (i : Nat), i + l.length ≤ n → (∀ i, i < n → ∀ x ∈ l, (f i x).size ≤ k) → (catI f l i).size ≤ l.length * k
 | [], _, _, _ => by show 0 ≤ _; exact Nat.zero_le _
 | x :: l, i, hi, h => by
  have h1 := h i (by simp at hi; omega) x (List.mem_cons_self ..)
  have h2 := catI_leLt f k n l (i + 1) (by simp at hi; omega) (fun i hi y hy => h i hi y (List.mem_cons_of_mem _ hy))
  show (f i x ++ catI f l (i + 1)).size ≤ (l.length + 1) * k
  rw [ByteArray.size_append, Nat.succ_mul]
  omega
theorem nodeT_size {o : Nat} (ho : o ≤ 64) {l : List S87} (hl : l.length ≤ 8) : (nodeT (o : Int) l).size ≤ 700 := by
 have h1 := catI_leLt (slotT (o : Int)) 80 8 l 0 (by omega) (fun i hi c _ => slotT_size ho (by omega) c)
 have h2 := nums1_size (r64_nat (show o ≤ 1000000 by omega))
 have h3 : l.length * 80 ≤ 8 * 80 := Nat.mul_le_mul_right _ hl
 unfold nodeT nodeHead
 simp only [ByteArray.size_append, show (⟨#[10]⟩ : ByteArray).size = 1 from rfl, show (⟨#[110, 111, 100, 101]⟩ : ByteArray).size = 4 from rfl]
 omega
end Go.Proofs.YtmcjccigglekpaaGreatDoor.Given
namespace Go.Proofs.YtmcjccigglekpaaGreatDoor.Given
open Go Go.RowKit Go.Proofs Go.Proofs.YtmcjccigglekpaaGreatDoorW.PrintWords Go.Proofs.YtmcjccigglekpaaGreatDoorW.PrintLast Go.Proofs.YtmcjccigglekpaaGreatDoorW.PrintMore Go.Proofs.YtmcjccigglekpaaGreatDoor.P Go.Proofs.YtmcjccigglekpaaGreatDoor.Plain

def thingT (x : S70) : ByteArray := ⟨#[116, 104, 105, 110, 103]⟩ ++ numsT [x.f0, x.f1, x.f2, x.f3, x.f4, x.f5, x.f6] ++ (⟨#[32]⟩ ++ itoS x.f7) ++ ⟨#[10]⟩
def branchT (x : S76) : ByteArray := ⟨#[98, 114, 97, 110, 99, 104]⟩ ++ numsT [x.f1] ++ keyT x.f0 ++ yesT x.f2 ++ ⟨#[10]⟩
def nodeT' (o : Nat) (l : List S87) : ByteArray := if 0 < l.length then nodeT (o : Int) l else ⟨#[]⟩
def portZ (x : S59) : Bool := (x.f0 == 0) && (x.f1 == 0) && (x.f2.length == 0)
def portT' (o : Nat) (x : S59) : ByteArray := if portZ x = true then ⟨#[]⟩ else portT (o : Int) x
def coreT (s : St) (c : Nat) (x : S82) : ByteArray :=
 ⟨#[99, 111, 114, 101]⟩ ++ numsT [s.ro.getD c 0] ++ yesT x.f0 ++ yesT x.f2 ++ keyT x.f1 ++ ⟨#[10]⟩ ++ (⟨#[102, 114, 101, 101]⟩ ++ numsT (s.fr.getD c []) ++ ⟨#[10]⟩) ++ (⟨#[108, 105, 109, 98, 111]⟩ ++ numsT (s.li.getD c []) ++ ⟨#[10]⟩)
def headT (s : St) : ByteArray := ⟨#[103, 97, 114, 114, 105, 115, 111, 110]⟩ ++ numsT [1] ++ ⟨#[10]⟩ ++ (⟨#[115, 105, 122, 101]⟩ ++ numsT [(s.th.length : Int), (s.fr.length : Int)] ++ ⟨#[10]⟩)
def put1 (s : St) : ByteArray := headT s ++ catI (fun _ => thingT) s.th 0
def put2 (s : St) : ByteArray := put1 s ++ catI nodeT' s.no 0
def put3 (s : St) : ByteArray := put2 s ++ catI (fun _ => branchT) s.tr 0
def put4 (s : St) : ByteArray := put3 s ++ catI portT' s.po 0
def put5 (s : St) : ByteArray := put4 s ++ catI (coreT s) s.sw 0
/-- A state's text. -/
def putT (s : St) : ByteArray := put5 s ++ ⟨#[101, 110, 100]⟩ ++ ⟨#[10]⟩
/-- All numbers are of 64 bits. -/
structure St.wf (s : St) : Prop where
 th : ∀ x ∈ s.th, R64 x.f0 ∧ R64 x.f1 ∧ R64 x.f2 ∧ R64 x.f3 ∧ R64 x.f4 ∧ R64 x.f5 ∧ R64 x.f6 ∧ R64 x.f7
 tr : ∀ x ∈ s.tr, R64 x.f1
 po : ∀ x ∈ s.po, R64 x.f0 ∧ R64 x.f1 ∧ ∀ y ∈ x.f2, R64 y.f0 ∧ R64 y.f1 ∧ R64 y.f2 ∧ R64 y.f5
 ro : ∀ n ∈ s.ro, R64 n
 fr : ∀ l ∈ s.fr, ∀ n ∈ l, R64 n
 li : ∀ l ∈ s.li, ∀ n ∈ l, R64 n


theorem getD_P {α : Type} {P : α → Prop} {l : List α} {d : α} (h : ∀ y ∈ l, P y) (hd : P d) (k : Nat) : P (l.getD k d) := by
 rw [List.getD_eq_getElem?_getD]
 cases hk : l[k]? with
 | none => exact hd
 | some y => exact h y (List.mem_of_getElem? hk)
theorem thingT_size {x : S70} (h : R64 x.f0 ∧ R64 x.f1 ∧ R64 x.f2 ∧ R64 x.f3 ∧ R64 x.f4 ∧ R64 x.f5 ∧ R64 x.f6 ∧ R64 x.f7) : (thingT x).size ≤ 200 := by
 obtain ⟨h0, h1, h2, h3, h4, h5, h6, h7⟩ := h
 have e1 := numsT_size [x.f0, x.f1, x.f2, x.f3, x.f4, x.f5, x.f6] (fun n hn => by simp at hn; rcases hn with rfl | rfl | rfl | rfl | rfl | rfl | rfl <;> assumption)
 have e2 := itoS_size h7
 simp only [List.length_cons, List.length_nil] at e1
 unfold thingT
 simp only [ByteArray.size_append, show (⟨#[32]⟩ : ByteArray).size = 1 from rfl, show (⟨#[10]⟩ : ByteArray).size = 1 from rfl, show (⟨#[116, 104, 105, 110, 103]⟩ : ByteArray).size = 5 from rfl]
 omega
theorem branchT_size {x : S76} (h : R64 x.f1) (hk : keyB x.f0 = true) : (branchT x).size ≤ 100 := by
 have e1 := nums1_size h
 have e2 := keyT_size hk
 have e3 := yesT_size x.f2
 unfold branchT
 simp only [ByteArray.size_append, show (⟨#[10]⟩ : ByteArray).size = 1 from rfl, show (⟨#[98, 114, 97, 110, 99, 104]⟩ : ByteArray).size = 6 from rfl]
 omega
theorem coreT_size {s : St} (hw : s.wf) (hf : ∀ l ∈ s.fr, l.length ≤ 64) (hl : ∀ l ∈ s.li, l.length ≤ 64) (c : Nat) {x : S82} (hk : keyB x.f1 = true) : (coreT s c x).size ≤ 4000 := by
 have e1 := nums1_size (getD_P (P := R64) (d := 0) hw.ro (by unfold R64; omega) c)
 have e2 := yesT_size x.f0
 have e3 := yesT_size x.f2
 have e4 := keyT_size hk
 have e5 := numsT_size (s.fr.getD c []) (getD_P (P := fun l => ∀ n ∈ l, R64 n) (d := []) hw.fr (fun n hn => by cases hn) c)
 have e6 := numsT_size (s.li.getD c []) (getD_P (P := fun l => ∀ n ∈ l, R64 n) (d := []) hw.li (fun n hn => by cases hn) c)
 have e7 := getD_P (P := fun l : List Int => l.length ≤ 64) (d := []) hf (Nat.zero_le _) c
 have e8 := getD_P (P := fun l : List Int => l.length ≤ 64) (d := []) hl (Nat.zero_le _) c
 unfold coreT
 simp only [ByteArray.size_append, show (⟨#[10]⟩ : ByteArray).size = 1 from rfl, show (⟨#[99, 111, 114, 101]⟩ : ByteArray).size = 4 from rfl, show (⟨#[102, 114, 101, 101]⟩ : ByteArray).size = 4 from rfl, show (⟨#[108, 105, 109, 98, 111]⟩ : ByteArray).size = 5 from rfl]
 omega
/-- What stateB says. -/
theorem stateB_all {s : St} (h : stateB s = true) : (s.th.length ≤ 64 ∧ s.no.length = s.th.length ∧ s.po.length = s.th.length ∧ s.fr.length ≤ 64 ∧ s.li.length = s.fr.length ∧ s.sw.length = s.fr.length ∧ s.ro.length = s.fr.length ∧ s.tr.length ≤ 512) ∧
  (∀ l ∈ s.no, nodeB l = true) ∧ (∀ x ∈ s.po, portB x = true) ∧ (∀ l ∈ s.fr, l.length ≤ 64) ∧ (∀ l ∈ s.li, l.length ≤ 64) ∧ (∀ x ∈ s.sw, keyB x.f1 = true) ∧ (∀ x ∈ s.tr, keyB x.f0 = true) := by
 unfold stateB sizesB at h
 simp only [Bool.and_eq_true, decide_eq_true_eq, List.all_eq_true, Bool.not_eq_true', List.any_eq_false, branchBad, Bool.not_eq_true, Bool.not_eq_false'] at h
 obtain ⟨⟨⟨h1, h2, h3⟩, ⟨h4, h5⟩, h6⟩, h7⟩ := h
 exact ⟨h1, h2, h3, h4, h5, h6, fun x hx => by simpa using h7 x hx⟩
theorem putT_size {s : St} (hw : s.wf) (hB : stateB s = true) : (putT s).size ≤ 140737488355328 := by
 obtain ⟨⟨h1, h2, h3, h4, h5, h6, h7, h8⟩, n1, p1, f1, l1, w1, t1⟩ := stateB_all hB
 have e0 := nums1_size (show R64 1 by unfold R64; omega)
 have e1 := nums2_size (r64_nat (show s.th.length ≤ 1000000 by omega)) (r64_nat (show s.fr.length ≤ 1000000 by omega))
 have e2 := catI_le (fun _ => thingT) 200 s.th 0 (fun _ x hx => thingT_size (hw.th x hx))
 have e3 := catI_leLt nodeT' 700 64 s.no 0 (by omega) (fun i hi l hl => by
  unfold nodeT'
  split
  ·exact nodeT_size (by omega) (by
    have := n1 l hl
    unfold nodeB at this
    simp only [Bool.and_eq_true, Bool.or_eq_true, decide_eq_true_eq] at this
    omega)
  ·exact Nat.zero_le _)
 have e4 := catI_le (fun _ => branchT) 100 s.tr 0 (fun _ x hx => branchT_size (hw.tr x hx) (t1 x hx))
 have e5 := catI_leLt portT' 13000 64 s.po 0 (by omega) (fun i hi x hx => by
  unfold portT'
  split
  ·exact Nat.zero_le _
  ·exact portT_size (r64_nat (by omega)) (hw.po x hx) (p1 x hx))
 have e6 := catI_le (coreT s) 4000 s.sw 0 (fun i x hx => coreT_size hw f1 l1 i (w1 x hx))
 have m2 : s.th.length * 200 ≤ 64 * 200 := Nat.mul_le_mul_right _ h1
 have m3 : s.no.length * 700 ≤ 64 * 700 := Nat.mul_le_mul_right _ (by omega)
 have m4 : s.tr.length * 100 ≤ 512 * 100 := Nat.mul_le_mul_right _ h8
 have m5 : s.po.length * 13000 ≤ 64 * 13000 := Nat.mul_le_mul_right _ (by omega)
 have m6 : s.sw.length * 4000 ≤ 64 * 4000 := Nat.mul_le_mul_right _ (by omega)
 unfold putT put5 put4 put3 put2 put1 headT
 simp only [ByteArray.size_append, show (⟨#[10]⟩ : ByteArray).size = 1 from rfl, show (⟨#[101, 110, 100]⟩ : ByteArray).size = 3 from rfl, show (⟨#[115, 105, 122, 101]⟩ : ByteArray).size = 4 from rfl, show (⟨#[103, 97, 114, 114, 105, 115, 111, 110]⟩ : ByteArray).size = 8 from rfl]
 omega
end Go.Proofs.YtmcjccigglekpaaGreatDoor.Given
namespace Go.Proofs.YtmcjccigglekpaaGreatDoor.Given
open Go Go.RowKit Go.Proofs Go.Proofs.YtmcjccigglekpaaGreatDoorW.PrintWords Go.Proofs.YtmcjccigglekpaaGreatDoorW.PrintLast Go.Proofs.YtmcjccigglekpaaGreatDoorW.PrintMore Go.Proofs.YtmcjccigglekpaaGreatDoor.P Go.Proofs.YtmcjccigglekpaaGreatDoor.Plain

theorem pen_fresh {B b : Nat} {w : World} (hb : B ≤ b) (h : w.heap[b]? = some (.cells #[.pointer none, .slice none 0 0] 65 (0, 0))) : Pen B b ⟨#[]⟩ w :=
 .inl ⟨hb, _, h, World.ownsRow_nil _ _ _ _, by simp [Value.ownBlock]⟩

theorem rdThing (xs : List S70) (k : Nat) (hk : k < xs.length) : rd_T70 xs (k : Int) = xs[k] := by
 unfold rd_T70
 rw [Int.toNat_natCast, List.getD_eq_getElem?_getD, List.getElem?_eq_getElem hk]
 rfl
theorem rdBranch (xs : List S76) (k : Nat) (hk : k < xs.length) : rd_T76 xs (k : Int) = xs[k] := by
 unfold rd_T76
 rw [Int.toNat_natCast, List.getD_eq_getElem?_getD, List.getElem?_eq_getElem hk]
 rfl
theorem row7 (B b : Nat) (t : ByteArray) (x0 x1 x2 x3 x4 x5 x6 : Int) (h0 : R64 x0) (h1 : R64 x1) (h2 : R64 x2) (h3 : R64 x3) (h4 : R64 x4) (h5 : R64 x5) (h6 : R64 x6) (hlen : t.size + (numsT [x0, x1, x2, x3, x4, x5, x6]).size ≤ 140737488355328) (w : World) (h : Pw B b t w) (A : Option Addr) (hr : RowStays B b A [x0, x1, x2, x3, x4, x5, x6] w) :
  Calls Tryz.prog 22 #[.pointer (some ⟨b, 0, none⟩), .slice A 7 7] w (PPost B b (t ++ numsT [x0, x1, x2, x3, x4, x5, x6]) (.pointer (some ⟨b, 0, none⟩)) w) :=
 pen_number B b t A 7 [x0, x1, x2, x3, x4, x5, x6] (fun x hx => by simp at hx; rcases hx with rfl | rfl | rfl | rfl | rfl | rfl | rfl <;> assumption) w h hr (by simp) hlen
theorem rowNew7 {B b : Nat} {t : ByteArray} {x0 x1 x2 x3 x4 x5 x6 : Int} {w : World} (h : Pw B b t w) : RowStays B b (some ⟨w.heap.size, 0, none⟩) [x0, x1, x2, x3, x4, x5, x6] (w.alloc (.cells #[.int .i64 x0, .int .i64 x1, .int .i64 x2, .int .i64 x3, .int .i64 x4, .int .i64 x5, .int .i64 x6] 3)) := rowBlock (Nat.ne_of_gt h.lt) rfl (heap_alloc_new _ _)
theorem keyB_64 {k : S74} (h : keyB k = true) : R64 k.f0 ∧ R64 k.f1 := by
 unfold keyB at h
 simp only [Bool.and_eq_true, decide_eq_true_eq] at h
 exact ⟨⟨by omega, by omega⟩, by omega, by omega⟩
theorem portSame_f (x : S59) : port_Same.f 1 x.f0 x.f1 x.f2 0 0 [] = some (portZ x) := by
 unfold port_Same.f portZ
 by_cases h0 : x.f0 = 0
 ·rw [if_pos h0, beq_iff_eq.mpr h0]
  by_cases h1 : x.f1 = 0
  ·rw [if_pos h1, beq_iff_eq.mpr h1]
   cases hl : x.f2 with
   | nil => rfl
   | cons y l =>
    unfold api_Waiter.f
    rw [if_neg (by simp; omega)]
    rfl
  ·rw [if_neg h1, beq_eq_false_iff_ne.mpr h1]; rfl
 ·rw [if_neg h0, beq_eq_false_iff_ne.mpr h0]; rfl
theorem portSame_calls (x : S59) (A : Option Addr) (c : Nat) (w : World) (hc : x.f2.length ≤ c) (hr : Kd.C k95 w A x.f2.length x.f2) :
  Calls Tryz.prog 28 #[.agg #[.int .i64 x.f0, .int .i64 x.f1, .slice A x.f2.length c], .agg #[.int .i64 0, .int .i64 0, .slice none 0 0]] w fun e w' => e = .returned (.bool (portZ x)) ∧ Below w.heap.size w w' :=
 port_Same.calls 1 x.f0 x.f1 A c x.f2 0 0 none 0 [] (portZ x) w hr hc (Kd.C_nil _ _) (Nat.le_refl _) (portSame_f x)
/-- What Put leaves. -/
def PutPost (s : St) (w : World) (e : Ending) (w' : World) : Prop := e = .returned (.tuple #[.string (if stateB s = true then putT s else ⟨#[]⟩), .int .i64 (if stateB s = true then 0 else 2)]) ∧ Below w.heap.size w w'

set_option maxRecDepth 100000 in
set_option maxHeartbeats 3200000 in

theorem image_Put_calls (h : Sv) (s : St) (w0 : World) (hs : h.At s w0) (hw : s.wf) (hG : GL w0) :
  Calls Tryz.prog 10 #[.agg (h.cells s)] w0 (PutPost s w0) := by
 unfold PutPost
 have Dc := Lib.hid (fun w' (hb : Below w0.heap.size w0 w') => image_Check_calls h s w' (hs.below hb))
 cases hB : stateB s with
 | false =>
  rw [hB] at Dc
  obtain ⟨A0, A1, A2, A3, A4, A5, A6, A7, c0, c1, c2, c3, c4, c5, c6, c7⟩ := h
  clear hs hw hG hB
  dsimp only [Sv.cells] at Dc ⊢
  go_enter Tryz.func10, Tryz.ntmps10
  go_wp2_with (go_at_call 13; (with_reducible refine (Dc.out _ ?_).mono ?_); clear Dc; (exact (Below.refl _ _).alloc (Nat.le_refl _) _); rintro e w1 ⟨rfl, hb1⟩)
  go_ret2
  exact ⟨rfl, ((Below.refl _ _).alloc (Nat.le_refl _) _).trans (hb1.mono (by simp))⟩
 | true =>
  have hlen := putT_size hw hB
  rw [hB] at Dc
  have hx1 : (⟨#[10]⟩ : ByteArray).size = 1 := rfl
  have hx3 : (⟨#[101, 110, 100]⟩ : ByteArray).size = 3 := rfl
  have hx4 : (⟨#[115, 105, 122, 101]⟩ : ByteArray).size = 4 := rfl
  have hx8 : (⟨#[103, 97, 114, 114, 105, 115, 111, 110]⟩ : ByteArray).size = 8 := rfl
  have s5 : (put5 s).size + 4 ≤ 140737488355328 := by
   have := hlen; unfold putT at this; rw [ByteArray.size_append, ByteArray.size_append, hx1, hx3] at this; omega
  have s4 : (put4 s).size + (catI (coreT s) s.sw 0).size ≤ 140737488355328 := by
   have := s5; unfold put5 at this; rw [ByteArray.size_append] at this; omega
  have s3 : (put3 s).size + (catI portT' s.po 0).size ≤ 140737488355328 := by
   have := s4; unfold put4 at this; rw [ByteArray.size_append] at this; omega
  have s2 : (put2 s).size + (catI (fun _ => branchT) s.tr 0).size ≤ 140737488355328 := by
   have := s3; unfold put3 at this; rw [ByteArray.size_append] at this; omega
  have s1 : (put1 s).size + (catI nodeT' s.no 0).size ≤ 140737488355328 := by
   have := s2; unfold put2 at this; rw [ByteArray.size_append] at this; omega
  have s0 : (headT s).size + (catI (fun _ => thingT) s.th 0).size ≤ 140737488355328 := by
   have := s1; unfold put1 at this; rw [ByteArray.size_append] at this; omega
  have sh : 8 + (numsT [1]).size + 1 + (4 + (numsT [(s.th.length : Int), (s.fr.length : Int)]).size + 1) ≤ 140737488355328 := by
   have := s0; unfold headT at this; rw [ByteArray.size_append, ByteArray.size_append, ByteArray.size_append, ByteArray.size_append, ByteArray.size_append, hx1, hx4, hx8] at this; omega
  have hst : sizesB s = true := by
   have := hB; unfold stateB at this; simp only [Bool.and_eq_true] at this; exact this.1.1.1
  have hsz := of_decide_eq_true hst
  have z0 := hsz.1
  have z3 := hsz.2.2.2.1
  have z7 := hsz.2.2.2.2.2.2.2
  have HZ := Lib.hid hsz
  clear hsz
  have HS0 := Lib.hid s0
  have HS1 := Lib.hid s1
  have HS2 := Lib.hid s2
  have HS3 := Lib.hid s3
  have HS4 := Lib.hid s4
  have HS5 := Lib.hid s5
  clear s0 s1 s2 s3 s4 s5 hst hlen
  have HA := Lib.hid (fun w' (hb : Below w0.heap.size w0 w') => hs.below hb)
  obtain ⟨A0, A1, A2, A3, A4, A5, A6, A7, c0, c1, c2, c3, c4, c5, c6, c7⟩ := h
  have HWF := Lib.hid hw
  have HG := Lib.hid hG
  have HB := Lib.hid hB
  clear hs hw hG hB
  dsimp only [Sv.cells] at Dc ⊢
  go_enter Tryz.func10, Tryz.ntmps10
  go_wp2_with (go_at_call 13; (with_reducible refine (Dc.out _ ?_).mono ?_); clear Dc; (exact (Below.refl _ _).alloc (Nat.le_refl _) _); rintro e w1 ⟨rfl, hb1⟩)
  have hn1 : w1.heap[w0.heap.size]? = some (.cells #[.slice A0 s.th.length c0, .slice A1 s.fr.length c1, .slice A2 s.no.length c2, .slice A3 s.tr.length c3, .slice A4 s.po.length c4, .slice A5 s.li.length c5, .slice A6 s.ro.length c6, .slice A7 s.sw.length c7] 32 (0, 0)) := (hb1.block _ (by simp)).trans (heap_alloc_new w0 _)
  have hw1 : Below w0.heap.size w0 w1 := ((Below.refl _ _).alloc (Nat.le_refl _) _).trans (hb1.mono (by simp))
  clear hb1
  have hlt := heap_lt hn1
  have hb0 : Below w0.heap.size w0 (w1.alloc (.cells #[.pointer none, .slice none 0 0] 65)) := hw1.trans ((Below.refl _ _).alloc (Nat.le_of_lt hlt) _)
  have hPb : Pw w0.heap.size w1.heap.size ⟨#[]⟩ (w1.alloc (.cells #[.pointer none, .slice none 0 0] 65)) := ⟨pen_fresh (Nat.le_of_lt hlt) (heap_alloc_new w1 _), hb0.size, (GLB.of HG.out).on hb0⟩
  have nb := blk_alloc hn1 (.cells #[.pointer none, .slice none 0 0] 65)
  have hne : w0.heap.size ≠ w1.heap.size := by omega
  generalize w1.alloc (.cells #[.pointer none, .slice none 0 0] 65) = wb at *
  generalize w1.heap.size = b at *
  clear hw1 hlt hn1 w1
  have D1 := Lib.hid (pen_word w0.heap.size b _ ⟨#[103, 97, 114, 114, 105, 115, 111, 110]⟩ wb hPb (by rw [hx8]; show 0 + 8 ≤ _; omega))
  have D2 := Lib.hid (fun w' (h' : Pw w0.heap.size b (⟨#[]⟩ ++ ⟨#[103, 97, 114, 114, 105, 115, 111, 110]⟩) w') => num1 w0.heap.size b _ 1 ⟨by omega, by omega⟩ w' h' (by rw [ByteArray.size_append, hx8]; show 0 + 8 + _ ≤ _; omega))
  have D3 := Lib.hid (fun w' (h' : Pw w0.heap.size b (⟨#[]⟩ ++ ⟨#[103, 97, 114, 114, 105, 115, 111, 110]⟩ ++ numsT [1]) w') => pen_end w0.heap.size b _ w' h' (by rw [ByteArray.size_append, ByteArray.size_append, hx8]; show 0 + 8 + _ + 1 ≤ _; omega))
  go_wp2_with (first | (go_at_call 21; (with_reducible refine D1.out.mono ?_); clear D1; rintro e w2 ⟨rfl, h2, hb2, hk2⟩) | (go_at_call 22; (with_reducible refine (D2.out _ ?_).mono ?_); clear D2; (exact h2); rintro e w3 ⟨rfl, h3, hb3, hk3⟩) | (go_at_call 23; (with_reducible refine (D3.out _ ?_).mono ?_); clear D3; (exact h3); rintro e w4 ⟨rfl, h4, hb4, hk4⟩))
  have hB4 : Below w0.heap.size wb w4 := (hb2.trans hb3).trans hb4
  have hK4 : Kept b wb w4 := (hk2.trans hk3).trans hk4
  clear hb2 hb3 hb4 hk2 hk3 hk4 h2 h3
  have et : (⟨#[]⟩ ++ ⟨#[103, 97, 114, 114, 105, 115, 111, 110]⟩ ++ numsT [1] ++ ⟨#[10]⟩ : ByteArray) = ⟨#[103, 97, 114, 114, 105, 115, 111, 110]⟩ ++ numsT [1] ++ ⟨#[10]⟩ := by rw [show (⟨#[]⟩ ++ ⟨#[103, 97, 114, 114, 105, 115, 111, 110]⟩ : ByteArray) = ⟨#[103, 97, 114, 114, 105, 115, 111, 110]⟩ from ByteArray.empty_append]
  rw [et] at h4
  have n4 := hK4 _ _ _ _ hne (by decide) nb
  have HBW := Lib.hid hb0
  clear hPb et
  generalize ht1 : (⟨#[103, 97, 114, 114, 105, 115, 111, 110]⟩ ++ numsT [1] ++ ⟨#[10]⟩ : ByteArray) = T1 at h4
  have e1 : T1.size = 8 + (numsT [1]).size + 1 := by rw [← ht1, ByteArray.size_append, ByteArray.size_append, hx1, hx8]
  have D1 := Lib.hid (fun w' (h' : Pw w0.heap.size b T1 w') => pen_word w0.heap.size b _ ⟨#[115, 105, 122, 101]⟩ w' h' (by rw [hx4]; omega))
  have D2 := Lib.hid (row2 w0.heap.size b (T1 ++ ⟨#[115, 105, 122, 101]⟩) (s.th.length : Int) (s.fr.length : Int) ⟨by omega, by omega⟩ ⟨by omega, by omega⟩ (by rw [ByteArray.size_append, hx4]; omega))
  have D3 := Lib.hid (fun w' (h' : Pw w0.heap.size b (T1 ++ ⟨#[115, 105, 122, 101]⟩ ++ numsT [(s.th.length : Int), (s.fr.length : Int)]) w') => pen_end w0.heap.size b _ w' h' (by rw [ByteArray.size_append, ByteArray.size_append, hx4]; omega))
  have HT : Hid (T1 ++ ⟨#[115, 105, 122, 101]⟩ ++ numsT [(s.th.length : Int), (s.fr.length : Int)] ++ ⟨#[10]⟩ = headT s) := Lib.hid (by unfold headT; rw [← ht1]; simp only [ByteArray.append_assoc])
  have HS := Lib.hid (fun w' (hb : Below w0.heap.size w4 w') (hk : Kept b w4 w') => (⟨(blk_cell (hk _ _ _ _ hne (by decide) n4) 0).trans rfl, (blk_cell (hk _ _ _ _ hne (by decide) n4) 1).trans rfl⟩ : w'.cell? ⟨w0.heap.size, 0, none⟩ = some (.slice A0 s.th.length c0) ∧ w'.cell? ⟨w0.heap.size, 1, none⟩ = some (.slice A1 s.fr.length c1)))
  clear sh e1 ht1
  go_upto_region 6 with fail
  go_cut [36] (fun _ wc => Pw w0.heap.size b (headT s) wc ∧ Below w0.heap.size w4 wc ∧ Kept b w4 wc)
  case first =>
   have hkd : Kept b w4 w4.drew := Kept.refl _ w4.drew
   go_region_held3 (fun w' => w'.cell? ⟨w0.heap.size, 0, none⟩ = some (.slice A0 s.th.length c0) ∧ w'.cell? ⟨w0.heap.size, 1, none⟩ = some (.slice A1 s.fr.length c1)) (first
    | exact HS.out _ (Below.refl _ _).drew hkd
    | exact HS.out _ ((Below.refl _ _).drew.alloc h4.base _) (hkd.alloc _)
    | exact HS.out _ c1.1 c1.2
    | exact HS.out _ (c1.1.alloc h1.base _) (c1.2.alloc _)
    | exact HS.out _ c2.1 c2.2
    | exact HS.out _ c3.1 c3.2
    ) (first
    | (go_at_call 21; (with_reducible refine (D1.out _ ?_).mono ?_); (first | exact h4.drew | exact h4.drew.alloc _); rintro e w1 ⟨rfl, h1, hb1, hk1⟩; have c1 : Below w0.heap.size w4 w1 ∧ Kept b w4 w1 := (by first | exact ⟨((Below.refl _ _).drew).trans hb1, hk1⟩ | exact ⟨((Below.refl _ _).drew.alloc h4.base _).trans hb1, (hkd.alloc _).trans hk1⟩))
    | (go_at_call 22; (first
      | ((with_reducible refine (D2.out _ (h1.alloc _) _ (rowNew2 h1)).mono ?_); rintro e w2 ⟨rfl, h2, hb2, hk2⟩; have c2 : Below w0.heap.size w4 w2 ∧ Kept b w4 w2 := ⟨c1.1.trans (((Below.refl _ _).alloc h1.base _).trans hb2), c1.2.trans (((Kept.refl _ _).alloc _).trans hk2)⟩)
      | ((with_reducible refine (D2.out _ h1 _ ?_).mono ?_); (exact (rowNew2 h4.drew).on hb1 hk1); rintro e w2 ⟨rfl, h2, hb2, hk2⟩; have c2 : Below w0.heap.size w4 w2 ∧ Kept b w4 w2 := ⟨c1.1.trans hb2, c1.2.trans hk2⟩)))
    | (go_at_call 23; (with_reducible refine (D3.out _ h2).mono ?_); rintro e w3 ⟨rfl, h3, hb3, hk3⟩; have c3 : Below w0.heap.size w4 w3 ∧ Kept b w4 w3 := ⟨c2.1.trans hb3, c2.2.trans hk3⟩)
    )
   all_goals (go_wp2_with fail; go_meet; rw [HT.out] at h3; exact ⟨h3, c3⟩)
  case rest =>
   obtain ⟨hp5, hB5, hK5⟩ := hcut
   have hw5 : Below w0.heap.size w0 wc := (HBW.out.trans hB4).trans hB5
   have hk5 : Kept b wb wc := hK4.trans hK5
   have n5 := hk5 _ _ _ _ hne (by decide) nb
   have x0 := (blk_cell n5 0).trans (show _ = some (Value.slice A0 s.th.length c0) from rfl)
   clear hB5 hK5 h4 n4 hB4 hK4 HT HS D1 D2 D3 HBW hb0
   go_wp2
   go_loopw [41] (fun v wr => ∃ k : Nat, k ≤ s.th.length ∧ v = .int .i64 k ∧ Hid (Pw w0.heap.size b (headT s ++ catI (fun _ => thingT) (s.th.take k) 0) wr) ∧ Below w0.heap.size w0 wr ∧ Kept b wb wr) (fun v _ => s.th.length - (intOf v).toNat)
   case atStart => exact ⟨0, Nat.zero_le _, rfl, Lib.hid (by have e : headT s ++ catI (fun _ => thingT) (s.th.take 0) 0 = headT s := ByteArray.append_empty; rw [e]; exact hp5), hw5, hk5⟩
   case round =>
    obtain ⟨k, hk, rfl, hp, hB, hK⟩ := hrel
    by_cases hlt : k < s.th.length
    ·
     have hd : decide ((k : Int) < (s.th.length : Int)) = true := decide_eq_true (by omega)
     have i2 : decide (0 ≤ (k : Int)) = true := decide_eq_true (by omega)
     have j2 : decide (k < s.th.length) = true := decide_eq_true hlt
     obtain ⟨ad, e1, hv0, hv1, hv2, hv3, hv4, hv5, hv6, hv7⟩ := at_T70 (HA.out _ hB).r0 (k : Int) (by omega) (by omega)
     dsimp only at e1
     subst e1
     rw [rdThing _ k hlt, Int.toNat_natCast] at hv0 hv1 hv2 hv3 hv4 hv5 hv6 hv7
     have hcat := catI_take (fun _ => thingT) s.th 0 k hlt
     have hfit := catI_fits (fun _ => thingT) s.th k hlt
     have hwf := HWF.out.th s.th[k] (List.getElem_mem hlt)
     have hT := HS0.out
     generalize s.th[k] = x at *
     generalize catI (fun _ => thingT) (s.th.take k) 0 = q at *
     have HC : Hid (catI (fun _ => thingT) (s.th.take (k + 1)) 0 = q ++ thingT x) := Lib.hid hcat
     clear hcat
     have h1a : Below w0.heap.size wr (wr.alloc (.cells #[.int .i64 x.f0, .int .i64 x.f1, .int .i64 x.f2, .int .i64 x.f3, .int .i64 x.f4, .int .i64 x.f5, .int .i64 x.f6, .int .i64 x.f7] 70)) := (Below.refl _ _).alloc hp.out.base _
     have h2a : Kept b wr (wr.alloc (.cells #[.int .i64 x.f0, .int .i64 x.f1, .int .i64 x.f2, .int .i64 x.f3, .int .i64 x.f4, .int .i64 x.f5, .int .i64 x.f6, .int .i64 x.f7] 70)) := (Kept.refl _ _).alloc _
     have hPa := hp.out.alloc (.cells #[.int .i64 x.f0, .int .i64 x.f1, .int .i64 x.f2, .int .i64 x.f3, .int .i64 x.f4, .int .i64 x.f5, .int .i64 x.f6, .int .i64 x.f7] 70)
     have n7 := heap_alloc_new wr (.cells #[.int .i64 x.f0, .int .i64 x.f1, .int .i64 x.f2, .int .i64 x.f3, .int .i64 x.f4, .int .i64 x.f5, .int .i64 x.f6, .int .i64 x.f7] 70)
     have hgb : wr.heap.size ≠ b := Nat.ne_of_gt hp.out.lt
     have hx5s : (⟨#[116, 104, 105, 110, 103]⟩ : ByteArray).size = 5 := rfl
     have hq : (headT s ++ q).size + (5 + (numsT [x.f0, x.f1, x.f2, x.f3, x.f4, x.f5, x.f6]).size + (1 + (itoS x.f7).size) + 1) ≤ 140737488355328 := by
      have hts : (thingT x).size = 5 + (numsT [x.f0, x.f1, x.f2, x.f3, x.f4, x.f5, x.f6]).size + (1 + (itoS x.f7).size) + 1 := by unfold thingT; rw [ByteArray.size_append, ByteArray.size_append, ByteArray.size_append, ByteArray.size_append (a := ⟨#[32]⟩), hx5s, hx1, one_size]
      have hfit' : q.size + (thingT x).size ≤ (catI (fun _ => thingT) s.th 0).size := hfit
      rw [ByteArray.size_append]
      omega
     obtain ⟨g0, g1, g2, g3, g4, g5, g6, g7⟩ := hwf
     have HT : Hid (headT s ++ q ++ ⟨#[116, 104, 105, 110, 103]⟩ ++ numsT [x.f0, x.f1, x.f2, x.f3, x.f4, x.f5, x.f6] ++ (⟨#[32]⟩ ++ itoS x.f7) ++ ⟨#[10]⟩ = headT s ++ (q ++ thingT x)) := Lib.hid (by unfold thingT; simp only [ByteArray.append_assoc])
     generalize headT s ++ q = T at *
     have D1 := Lib.hid (fun w' (h' : Pw w0.heap.size b T w') => pen_word w0.heap.size b _ ⟨#[116, 104, 105, 110, 103]⟩ w' h' (by rw [hx5s]; omega))
     have D2 := Lib.hid (row7 w0.heap.size b (T ++ ⟨#[116, 104, 105, 110, 103]⟩) _ _ _ _ _ _ _ g0 g1 g2 g3 g4 g5 g6 (by rw [ByteArray.size_append, hx5s]; omega))
     have D3 := Lib.hid (fun w' (h' : Pw w0.heap.size b (T ++ ⟨#[116, 104, 105, 110, 103]⟩ ++ numsT [x.f0, x.f1, x.f2, x.f3, x.f4, x.f5, x.f6]) w') => pen_wide w0.heap.size b _ x.f7 g7 w' h' (by rw [ByteArray.size_append, ByteArray.size_append, hx5s]; omega))
     have D4 := Lib.hid (fun w' (h' : Pw w0.heap.size b (T ++ ⟨#[116, 104, 105, 110, 103]⟩ ++ numsT [x.f0, x.f1, x.f2, x.f3, x.f4, x.f5, x.f6] ++ (⟨#[32]⟩ ++ itoS x.f7)) w') => pen_end w0.heap.size b _ w' h' (by rw [ByteArray.size_append, ByteArray.size_append, ByteArray.size_append, ByteArray.size_append (a := ⟨#[32]⟩), hx5s, one_size]; omega))
     clear hq hfit hT g0 g1 g2 g3 g4 g5 g6 g7
     go_upto_region 10 with fail
     generalize wr.alloc (.cells #[.int .i64 x.f0, .int .i64 x.f1, .int .i64 x.f2, .int .i64 x.f3, .int .i64 x.f4, .int .i64 x.f5, .int .i64 x.f6, .int .i64 x.f7] 70) = wa at *
     generalize wr.heap.size = g at *
     have HS := Lib.hid (fun w' (_ : Below w0.heap.size wa w') (hk' : Kept b wa w') => (⟨(blk_cell (hk' _ _ _ _ hgb (by decide) n7) 0).trans rfl, (blk_cell (hk' _ _ _ _ hgb (by decide) n7) 1).trans rfl, (blk_cell (hk' _ _ _ _ hgb (by decide) n7) 2).trans rfl, (blk_cell (hk' _ _ _ _ hgb (by decide) n7) 3).trans rfl, (blk_cell (hk' _ _ _ _ hgb (by decide) n7) 4).trans rfl, (blk_cell (hk' _ _ _ _ hgb (by decide) n7) 5).trans rfl, (blk_cell (hk' _ _ _ _ hgb (by decide) n7) 6).trans rfl, (blk_cell (hk' _ _ _ _ hgb (by decide) n7) 7).trans rfl⟩ : w'.cell? ⟨g, 0, none⟩ = some (.int .i64 x.f0) ∧ w'.cell? ⟨g, 1, none⟩ = some (.int .i64 x.f1) ∧ w'.cell? ⟨g, 2, none⟩ = some (.int .i64 x.f2) ∧ w'.cell? ⟨g, 3, none⟩ = some (.int .i64 x.f3) ∧ w'.cell? ⟨g, 4, none⟩ = some (.int .i64 x.f4) ∧ w'.cell? ⟨g, 5, none⟩ = some (.int .i64 x.f5) ∧ w'.cell? ⟨g, 6, none⟩ = some (.int .i64 x.f6) ∧ w'.cell? ⟨g, 7, none⟩ = some (.int .i64 x.f7)))
     have hkd : Kept b wa wa.drew := Kept.refl _ wa.drew
     go_region_held3 (fun w' => w'.cell? ⟨g, 0, none⟩ = some (.int .i64 x.f0) ∧ w'.cell? ⟨g, 1, none⟩ = some (.int .i64 x.f1) ∧ w'.cell? ⟨g, 2, none⟩ = some (.int .i64 x.f2) ∧ w'.cell? ⟨g, 3, none⟩ = some (.int .i64 x.f3) ∧ w'.cell? ⟨g, 4, none⟩ = some (.int .i64 x.f4) ∧ w'.cell? ⟨g, 5, none⟩ = some (.int .i64 x.f5) ∧ w'.cell? ⟨g, 6, none⟩ = some (.int .i64 x.f6) ∧ w'.cell? ⟨g, 7, none⟩ = some (.int .i64 x.f7)) (first
      | exact HS.out _ (Below.refl _ _).drew hkd
      | exact HS.out _ ((Below.refl _ _).drew.alloc hPa.base _) (hkd.alloc _)
      | exact HS.out _ c1.1 c1.2
      | exact HS.out _ (c1.1.alloc h1.base _) (c1.2.alloc _)
      | exact HS.out _ c2.1 c2.2
      | exact HS.out _ c3.1 c3.2
      | exact HS.out _ c4.1 c4.2
      ) (first
      | (go_at_call 21; (with_reducible refine (D1.out _ ?_).mono ?_); (first | exact hPa.drew | exact hPa.drew.alloc _); rintro e w1 ⟨rfl, h1, hb1, hk1⟩; have c1 : Below w0.heap.size wa w1 ∧ Kept b wa w1 := (by first | exact ⟨((Below.refl _ _).drew).trans hb1, hk1⟩ | exact ⟨((Below.refl _ _).drew.alloc hPa.base _).trans hb1, (hkd.alloc _).trans hk1⟩))
      | (go_at_call 22; (first
        | ((with_reducible refine (D2.out _ (h1.alloc _) _ (rowNew7 h1)).mono ?_); rintro e w2 ⟨rfl, h2, hb2, hk2⟩; have c2 : Below w0.heap.size wa w2 ∧ Kept b wa w2 := ⟨c1.1.trans (((Below.refl _ _).alloc h1.base _).trans hb2), c1.2.trans (((Kept.refl _ _).alloc _).trans hk2)⟩)
        | ((with_reducible refine (D2.out _ h1 _ ?_).mono ?_); (exact (rowNew7 hPa.drew).on hb1 hk1); rintro e w2 ⟨rfl, h2, hb2, hk2⟩; have c2 : Below w0.heap.size wa w2 ∧ Kept b wa w2 := ⟨c1.1.trans hb2, c1.2.trans hk2⟩)))
      | (go_at_call 24; (with_reducible refine (D3.out _ h2).mono ?_); rintro e w3 ⟨rfl, h3, hb3, hk3⟩; have c3 : Below w0.heap.size wa w3 ∧ Kept b wa w3 := ⟨c2.1.trans hb3, c2.2.trans hk3⟩)
      | (go_at_call 23; (with_reducible refine (D4.out _ h3).mono ?_); rintro e w4 ⟨rfl, h4, hb4, hk4⟩; have c4 : Below w0.heap.size wa w4 ∧ Kept b wa w4 := ⟨c3.1.trans hb4, c3.2.trans hk4⟩)
      )
     all_goals
      go_wp2
      rw [HT.out] at h4
      refine ⟨⟨k + 1, hlt, rfl, ?_, (hB.trans h1a).trans c4.1, (hK.trans h2a).trans c4.2⟩, ?_⟩
      ·rw [HC.out]
       exact Lib.hid h4
      ·show s.th.length - ((k : Int) + 1).toNat < s.th.length - ((k : Int)).toNat
       omega
    ·have hd : decide ((k : Int) < (s.th.length : Int)) = false := decide_eq_false (by omega)
     obtain rfl : k = s.th.length := by omega
     rw [List.take_length] at hp
     change Hid (Pw w0.heap.size b (put1 s) wr) at hp
     have hp1 := hp.out
     have nw := hK _ _ _ _ hne (by decide) nb
     have x2 := (blk_cell nw 2).trans (show _ = some (Value.slice A2 s.no.length c2) from rfl)
     have hB1 := hB
     have hK1 := hK
     clear hp hd hk hlt hB hK x0 n5 hp5 hw5 hk5
     go_wp2
     clear x2 nw
     go_loopw [70] (fun v wr => ∃ k : Nat, k ≤ s.no.length ∧ v = .int .i64 k ∧ Hid (Pw w0.heap.size b (put1 s ++ catI nodeT' (s.no.take k) 0) wr) ∧ Below w0.heap.size w0 wr ∧ Kept b wb wr) (fun v _ => s.no.length - (intOf v).toNat)
     case atStart => exact ⟨0, Nat.zero_le _, rfl, Lib.hid (by have e : put1 s ++ catI nodeT' (s.no.take 0) 0 = put1 s := ByteArray.append_empty; rw [e]; exact hp1), hB1, hK1⟩
     case round =>
      obtain ⟨k, hk, rfl, hp, hB, hK⟩ := hrel
      by_cases hlt : k < s.no.length
      ·
       have hd : decide ((k : Int) < (s.no.length : Int)) = true := decide_eq_true (by omega)
       have i2 : decide (0 ≤ (k : Int)) = true := decide_eq_true (by omega)
       have j2 : decide (k < s.no.length) = true := decide_eq_true hlt
       have hz := HZ.out
       obtain ⟨ad, A, c, e1, hx0, hlc, hN⟩ := at_row (HA.out _ (Below.refl _ _)).r2 k (by omega)
       dsimp only at e1
       subst e1
       have hx := (hB.cell (World.block_lt_of_cell? w0 _ hx0)).trans hx0
       have hcat := catI_take nodeT' s.no 0 k hlt
       have hfit := catI_fits nodeT' s.no k hlt
       have hT := HS1.out
       have hnb : nodeB s.no[k] = true := by
        have := HB.out
        unfold stateB at this
        simp only [Bool.and_eq_true, List.all_eq_true] at this
        exact this.1.1.2.1 _ (List.getElem_mem hlt)
       have hl8 : s.no[k].length ≤ 8 := by
        unfold nodeB at hnb
        simp only [Bool.and_eq_true, Bool.or_eq_true, decide_eq_true_eq] at hnb
        rcases hnb.1 with h | h <;> omega
       have hok : ∀ y ∈ s.no[k], capBad y = false := by
        unfold nodeB at hnb
        simp only [Bool.and_eq_true, Bool.not_eq_true', List.any_eq_false] at hnb
        intro y hy
        have := hnb.2 y hy
        simpa using this
       rw [Nat.zero_add] at hcat
       have hz2 := HZ.out.1
       have hk64 : k < 64 := by omega
       clear hz hnb hx0
       generalize s.no[k] = row at *
       generalize catI nodeT' (s.no.take k) 0 = q at *
       have HC : Hid (catI nodeT' (s.no.take (k + 1)) 0 = q ++ nodeT' k row) := Lib.hid hcat
       clear hcat
       by_cases hpos : 0 < row.length
       ·have b1 : decide (0 < (row.length : Int)) = true := decide_eq_true (by omega)
        have hn : nodeT' k row = nodeT (k : Int) row := by unfold nodeT'; rw [if_pos hpos]
        rw [hn] at hfit HC
        have D := Lib.hid (pen_node w0 b (put1 s ++ q) (k : Int) ⟨by omega, by omega⟩ A c row hN hl8 hok wr hB hp.out (by rw [ByteArray.size_append]; omega))
        clear hfit hT hn hok hl8 hN
        go_wp2_with (go_at_call 25; (with_reducible refine D.out.mono ?_); clear D; rintro e w2 ⟨rfl, h2, hb2, hk2⟩)
        refine ⟨⟨k + 1, hlt, rfl, ?_, hB.trans hb2, hK.trans hk2⟩, ?_⟩
        ·rw [HC.out, ← ByteArray.append_assoc]
         exact Lib.hid h2
        ·show s.no.length - ((k : Int) + 1).toNat < s.no.length - ((k : Int)).toNat
         omega
       ·have b1 : decide (0 < (row.length : Int)) = false := decide_eq_false (by omega)
        have hn : nodeT' k row = ⟨#[]⟩ := by unfold nodeT'; rw [if_neg hpos]
        rw [hn] at HC
        clear hfit hT hn hok hl8 hN
        go_wp2
        refine ⟨⟨k + 1, hlt, rfl, ?_, hB, hK⟩, ?_⟩
        ·rw [HC.out, ← ByteArray.append_assoc]
         have e : put1 s ++ q ++ ⟨#[]⟩ = put1 s ++ q := ByteArray.append_empty
         rw [e]
         exact hp
        ·show s.no.length - ((k : Int) + 1).toNat < s.no.length - ((k : Int)).toNat
         omega
      ·have hd : decide ((k : Int) < (s.no.length : Int)) = false := decide_eq_false (by omega)
       obtain rfl : k = s.no.length := by omega
       rw [List.take_length] at hp
       change Hid (Pw w0.heap.size b (put2 s) wr) at hp
       have hp2 := hp.out
       have nw := hK _ _ _ _ hne (by decide) nb
       have x3 := (blk_cell nw 3).trans (show _ = some (Value.slice A3 s.tr.length c3) from rfl)
       have hB2 := hB
       have hK2 := hK
       clear hp hd hk hlt hB hK hp1 hB1 hK1
       go_wp2
       clear x3 nw
       go_loopw [85] (fun v wr => ∃ k : Nat, k ≤ s.tr.length ∧ v = .int .i64 k ∧ Hid (Pw w0.heap.size b (put2 s ++ catI (fun _ => branchT) (s.tr.take k) 0) wr) ∧ Below w0.heap.size w0 wr ∧ Kept b wb wr) (fun v _ => s.tr.length - (intOf v).toNat)
       case atStart => exact ⟨0, Nat.zero_le _, rfl, Lib.hid (by have e : put2 s ++ catI (fun _ => branchT) (s.tr.take 0) 0 = put2 s := ByteArray.append_empty; rw [e]; exact hp2), hB2, hK2⟩
       case round =>
        obtain ⟨k, hk, rfl, hp, hB, hK⟩ := hrel
        by_cases hlt : k < s.tr.length
        ·
         have hd : decide ((k : Int) < (s.tr.length : Int)) = true := decide_eq_true (by omega)
         have i2 : decide (0 ≤ (k : Int)) = true := decide_eq_true (by omega)
         have j2 : decide (k < s.tr.length) = true := decide_eq_true hlt
         obtain ⟨ad, e1, hv0, hv1, hv2, hv3⟩ := at_T76 (HA.out _ hB).r3 (k : Int) (by omega) (by omega)
         dsimp only at e1
         subst e1
         rw [rdBranch _ k hlt, Int.toNat_natCast] at hv0 hv1 hv2 hv3
         have hcat := catI_take (fun _ => branchT) s.tr 0 k hlt
         have hfit := catI_fits (fun _ => branchT) s.tr k hlt
         have hwf := HWF.out.tr s.tr[k] (List.getElem_mem hlt)
         have hT := HS2.out
         have hkb : keyB s.tr[k].f0 = true := by
          have := HB.out
          unfold stateB at this
          simp only [Bool.and_eq_true, Bool.not_eq_true', List.any_eq_false] at this
          have h2 := this.2 _ (List.getElem_mem hlt)
          unfold branchBad at h2
          simpa using h2
         generalize s.tr[k] = x at *
         generalize catI (fun _ => branchT) (s.tr.take k) 0 = q at *
         have HC : Hid (catI (fun _ => branchT) (s.tr.take (k + 1)) 0 = q ++ branchT x) := Lib.hid hcat
         clear hcat
         have h1a : Below w0.heap.size wr (wr.alloc (.cells #[.int .i64 x.f0.f0, .int .i64 x.f0.f1, .int .i64 x.f1, .bool x.f2] 76)) := (Below.refl _ _).alloc hp.out.base _
         have h2a : Kept b wr (wr.alloc (.cells #[.int .i64 x.f0.f0, .int .i64 x.f0.f1, .int .i64 x.f1, .bool x.f2] 76)) := (Kept.refl _ _).alloc _
         have hPa := hp.out.alloc (.cells #[.int .i64 x.f0.f0, .int .i64 x.f0.f1, .int .i64 x.f1, .bool x.f2] 76)
         have n7 := heap_alloc_new wr (.cells #[.int .i64 x.f0.f0, .int .i64 x.f0.f1, .int .i64 x.f1, .bool x.f2] 76)
         have hgb : wr.heap.size ≠ b := Nat.ne_of_gt hp.out.lt
         have hx6s : (⟨#[98, 114, 97, 110, 99, 104]⟩ : ByteArray).size = 6 := rfl
         obtain ⟨r0, r1⟩ := keyB_64 hkb
         have hq : (put2 s ++ q).size + (6 + (numsT [x.f1]).size + (keyT x.f0).size + (yesT x.f2).size + 1) ≤ 140737488355328 := by
          have hts : (branchT x).size = 6 + (numsT [x.f1]).size + (keyT x.f0).size + (yesT x.f2).size + 1 := by unfold branchT; rw [ByteArray.size_append, ByteArray.size_append, ByteArray.size_append, ByteArray.size_append, hx6s, hx1]
          have hfit' : q.size + (branchT x).size ≤ (catI (fun _ => branchT) s.tr 0).size := hfit
          rw [ByteArray.size_append]
          omega
         have HT : Hid (put2 s ++ q ++ ⟨#[98, 114, 97, 110, 99, 104]⟩ ++ numsT [x.f1] ++ keyT x.f0 ++ yesT x.f2 ++ ⟨#[10]⟩ = put2 s ++ (q ++ branchT x)) := Lib.hid (by unfold branchT; simp only [ByteArray.append_assoc])
         generalize put2 s ++ q = T at *
         have D1 := Lib.hid (fun w' (h' : Pw w0.heap.size b T w') => pen_word w0.heap.size b _ ⟨#[98, 114, 97, 110, 99, 104]⟩ w' h' (by rw [hx6s]; omega))
         have D2 := Lib.hid (row1 w0.heap.size b (T ++ ⟨#[98, 114, 97, 110, 99, 104]⟩) _ hwf (by rw [ByteArray.size_append, hx6s]; omega))
         have D3 := Lib.hid (fun w' (h' : Pw w0.heap.size b (T ++ ⟨#[98, 114, 97, 110, 99, 104]⟩ ++ numsT [x.f1]) w') => pen_key w0.heap.size b _ x.f0 r0 r1 w' h' (by rw [ByteArray.size_append, ByteArray.size_append, hx6s]; omega))
         have D4 := Lib.hid (fun w' (h' : Pw w0.heap.size b (T ++ ⟨#[98, 114, 97, 110, 99, 104]⟩ ++ numsT [x.f1] ++ keyT x.f0) w') => pen_yes w0.heap.size b _ x.f2 w' h' (by rw [ByteArray.size_append, ByteArray.size_append, ByteArray.size_append, hx6s]; omega))
         have D5 := Lib.hid (fun w' (h' : Pw w0.heap.size b (T ++ ⟨#[98, 114, 97, 110, 99, 104]⟩ ++ numsT [x.f1] ++ keyT x.f0 ++ yesT x.f2) w') => pen_end w0.heap.size b _ w' h' (by rw [ByteArray.size_append, ByteArray.size_append, ByteArray.size_append, ByteArray.size_append, hx6s]; omega))
         clear hq hfit hT hwf r0 r1 hkb
         go_upto_region 21 with fail
         generalize wr.alloc (.cells #[.int .i64 x.f0.f0, .int .i64 x.f0.f1, .int .i64 x.f1, .bool x.f2] 76) = wa at *
         generalize wr.heap.size = g at *
         have HS := Lib.hid (fun w' (_ : Below w0.heap.size wa w') (hk' : Kept b wa w') => (⟨(blk_cell (hk' _ _ _ _ hgb (by decide) n7) 0).trans rfl, (blk_cell (hk' _ _ _ _ hgb (by decide) n7) 1).trans rfl, (blk_cell (hk' _ _ _ _ hgb (by decide) n7) 2).trans rfl, (blk_cell (hk' _ _ _ _ hgb (by decide) n7) 3).trans rfl⟩ : w'.cell? ⟨g, 0, none⟩ = some (.int .i64 x.f0.f0) ∧ w'.cell? ⟨g, 1, none⟩ = some (.int .i64 x.f0.f1) ∧ w'.cell? ⟨g, 2, none⟩ = some (.int .i64 x.f1) ∧ w'.cell? ⟨g, 3, none⟩ = some (.bool x.f2)))
         have hkd : Kept b wa wa.drew := Kept.refl _ wa.drew
         go_region_held3 (fun w' => w'.cell? ⟨g, 0, none⟩ = some (.int .i64 x.f0.f0) ∧ w'.cell? ⟨g, 1, none⟩ = some (.int .i64 x.f0.f1) ∧ w'.cell? ⟨g, 2, none⟩ = some (.int .i64 x.f1) ∧ w'.cell? ⟨g, 3, none⟩ = some (.bool x.f2)) (first
          | exact HS.out _ (Below.refl _ _).drew hkd
          | exact HS.out _ ((Below.refl _ _).drew.alloc hPa.base _) (hkd.alloc _)
          | exact HS.out _ c1.1 c1.2
          | exact HS.out _ (c1.1.alloc h1.base _) (c1.2.alloc _)
          | exact HS.out _ c2.1 c2.2
          | exact HS.out _ c3.1 c3.2
          | exact HS.out _ c4.1 c4.2
          | exact HS.out _ c5.1 c5.2
          ) (first
          | (go_at_call 21; (with_reducible refine (D1.out _ ?_).mono ?_); (first | exact hPa.drew | exact hPa.drew.alloc _); rintro e w1 ⟨rfl, h1, hb1, hk1⟩; have c1 : Below w0.heap.size wa w1 ∧ Kept b wa w1 := (by first | exact ⟨((Below.refl _ _).drew).trans hb1, hk1⟩ | exact ⟨((Below.refl _ _).drew.alloc hPa.base _).trans hb1, (hkd.alloc _).trans hk1⟩))
          | (go_at_call 22; (first
            | ((with_reducible refine (D2.out _ (h1.alloc _) _ (rowNew1 h1)).mono ?_); rintro e w2 ⟨rfl, h2, hb2, hk2⟩; have c2 : Below w0.heap.size wa w2 ∧ Kept b wa w2 := ⟨c1.1.trans (((Below.refl _ _).alloc h1.base _).trans hb2), c1.2.trans (((Kept.refl _ _).alloc _).trans hk2)⟩)
            | ((with_reducible refine (D2.out _ h1 _ ?_).mono ?_); (exact (rowNew1 hPa.drew).on hb1 hk1); rintro e w2 ⟨rfl, h2, hb2, hk2⟩; have c2 : Below w0.heap.size wa w2 ∧ Kept b wa w2 := ⟨c1.1.trans hb2, c1.2.trans hk2⟩)))
          | (go_at_call 26; (with_reducible refine (D3.out _ h2).mono ?_); rintro e w3 ⟨rfl, h3, hb3, hk3⟩; have c3 : Below w0.heap.size wa w3 ∧ Kept b wa w3 := ⟨c2.1.trans hb3, c2.2.trans hk3⟩)
          | (go_at_call 27; (with_reducible refine (D4.out _ h3).mono ?_); rintro e w4 ⟨rfl, h4, hb4, hk4⟩; have c4 : Below w0.heap.size wa w4 ∧ Kept b wa w4 := ⟨c3.1.trans hb4, c3.2.trans hk4⟩)
          | (go_at_call 23; (with_reducible refine (D5.out _ h4).mono ?_); rintro e w5 ⟨rfl, h5, hb5, hk5⟩; have c5 : Below w0.heap.size wa w5 ∧ Kept b wa w5 := ⟨c4.1.trans hb5, c4.2.trans hk5⟩)
          )
         all_goals
          go_wp2
          rw [HT.out] at h5
          refine ⟨⟨k + 1, hlt, rfl, ?_, (hB.trans h1a).trans c5.1, (hK.trans h2a).trans c5.2⟩, ?_⟩
          ·rw [HC.out]
           exact Lib.hid h5
          ·show s.tr.length - ((k : Int) + 1).toNat < s.tr.length - ((k : Int)).toNat
           omega
        ·have hd : decide ((k : Int) < (s.tr.length : Int)) = false := decide_eq_false (by omega)
         obtain rfl : k = s.tr.length := by omega
         rw [List.take_length] at hp
         change Hid (Pw w0.heap.size b (put3 s) wr) at hp
         have hp3 := hp.out
         have nw := hK _ _ _ _ hne (by decide) nb
         have x4 := (blk_cell nw 4).trans (show _ = some (Value.slice A4 s.po.length c4) from rfl)
         have hB3 := hB
         have hK3 := hK
         clear hp hd hk hlt hB hK hp2 hB2 hK2
         go_wp2
         clear x4 nw
         go_loopw [105] (fun v wr => ∃ k : Nat, k ≤ s.po.length ∧ v = .int .i64 k ∧ Hid (Pw w0.heap.size b (put3 s ++ catI portT' (s.po.take k) 0) wr) ∧ Below w0.heap.size w0 wr ∧ Kept b wb wr) (fun v _ => s.po.length - (intOf v).toNat)
         case atStart => exact ⟨0, Nat.zero_le _, rfl, Lib.hid (by have e : put3 s ++ catI portT' (s.po.take 0) 0 = put3 s := ByteArray.append_empty; rw [e]; exact hp3), hB3, hK3⟩
         case round =>
          obtain ⟨k, hk, rfl, hp, hB, hK⟩ := hrel
          by_cases hlt : k < s.po.length
          ·
           have hd : decide ((k : Int) < (s.po.length : Int)) = true := decide_eq_true (by omega)
           have i2 : decide (0 ≤ (k : Int)) = true := decide_eq_true (by omega)
           have j2 : decide (k < s.po.length) = true := decide_eq_true hlt
           have hz := HZ.out
           have hk64 : k < 64 := by omega
           obtain ⟨ad, A, c, e1, hu0, hu1, hu2, hlc, hN⟩ := at_T59 (HA.out _ (Below.refl _ _)).r4 (k : Int) (by omega) (by omega)
           dsimp only at e1
           subst e1
           have hv0 := (hB.cell (World.block_lt_of_cell? w0 _ hu0)).trans hu0
           have hv1 := (hB.cell (World.block_lt_of_cell? w0 _ hu1)).trans hu1
           have hv2 := (hB.cell (World.block_lt_of_cell? w0 _ hu2)).trans hu2
           clear hz hu0 hu1 hu2
           rw [rdPort _ k hlt] at hv0 hv1 hv2 hlc hN
           rw [Int.toNat_natCast] at hv0 hv1 hv2
           have hcat := catI_take portT' s.po 0 k hlt
           have hfit := catI_fits portT' s.po k hlt
           have hT := HS3.out
           have hwf := HWF.out.po s.po[k] (List.getElem_mem hlt)
           have hnb : portB s.po[k] = true := by
            have := HB.out
            unfold stateB at this
            simp only [Bool.and_eq_true, List.all_eq_true] at this
            exact this.1.1.2.2 _ (List.getElem_mem hlt)
           have hl64 : s.po[k].f2.length ≤ 64 := by
            unfold portB at hnb
            simp only [Bool.and_eq_true, decide_eq_true_eq] at hnb
            exact hnb.1
           have hkq : ∀ y ∈ s.po[k].f2, keyB y.f4 = true := by
            unfold portB at hnb
            simp only [Bool.and_eq_true, Bool.not_eq_true', List.any_eq_false] at hnb
            intro y hy
            have := hnb.2 y hy
            unfold waitBad at this
            simpa using this
           rw [Nat.zero_add] at hcat
           generalize s.po[k] = x at *
           generalize catI portT' (s.po.take k) 0 = q at *
           have HC : Hid (catI portT' (s.po.take (k + 1)) 0 = q ++ portT' k x) := Lib.hid hcat
           clear hcat hnb
           have h1a : Below w0.heap.size wr (wr.alloc (.cells #[.int .i64 x.f0, .int .i64 x.f1, .slice A x.f2.length c] 59)) := (Below.refl _ _).alloc hp.out.base _
           have h2a : Kept b wr (wr.alloc (.cells #[.int .i64 x.f0, .int .i64 x.f1, .slice A x.f2.length c] 59)) := (Kept.refl _ _).alloc _
           have hPa := hp.out.alloc (.cells #[.int .i64 x.f0, .int .i64 x.f1, .slice A x.f2.length c] 59)
           have n7 := heap_alloc_new wr (.cells #[.int .i64 x.f0, .int .i64 x.f1, .slice A x.f2.length c] 59)
           have C0 := fun w' (hb : Below w0.heap.size w0 w') => portSame_calls x A c w' hlc (Kd.C_below hN hb)
           cases hz : portZ x with
           | true =>
            have hn : portT' k x = ⟨#[]⟩ := by unfold portT'; rw [if_pos hz]
            rw [hz] at C0
            rw [hn] at HC
            have D0 := Lib.hid C0
            clear C0 hfit hT hn hN hwf hkq hl64 hz
            go_wp2_with (go_at_call 28; (with_reducible refine (D0.out _ ?_).mono ?_); clear D0; (exact hB.trans h1a); rintro e w2 ⟨rfl, hb2⟩)
            have hb2' := hb2.mono hPa.base
            refine ⟨⟨k + 1, hlt, rfl, ?_, (hB.trans h1a).trans hb2', (hK.trans h2a).below hb2⟩, ?_⟩
            ·rw [HC.out, ← ByteArray.append_assoc]
             have e : put3 s ++ q ++ ⟨#[]⟩ = put3 s ++ q := ByteArray.append_empty
             rw [e]
             exact Lib.hid (hPa.below hb2)
            ·show s.po.length - ((k : Int) + 1).toNat < s.po.length - ((k : Int)).toNat
             omega
           | false =>
            have hn : portT' k x = portHead (k : Int) x.f0 x.f1 ++ catI (fun _ => waitT) x.f2 0 := by unfold portT'; rw [hz, if_neg (by decide)]; rfl
            rw [hz] at C0
            rw [hn] at HC hfit
            have D0 := Lib.hid C0
            have D1 := Lib.hid (fun w' (hb : Below w0.heap.size w0 w') (h' : Pw w0.heap.size b (put3 s ++ q) w') => pen_port w0 b (put3 s ++ q) (k : Int) x.f0 x.f1 ⟨by omega, by omega⟩ hwf.1 hwf.2.1 A c x.f2 hN hl64 (fun y hy => ⟨(hwf.2.2 y hy).1, (hwf.2.2 y hy).2.1, (hwf.2.2 y hy).2.2.1, (hwf.2.2 y hy).2.2.2, hkq y hy⟩) w' hb h' (by rw [ByteArray.size_append]; omega))
            clear C0 hfit hT hn hN hwf hkq hl64 hz
            go_wp2_with (first | (go_at_call 28; (with_reducible refine (D0.out _ ?_).mono ?_); clear D0; (exact hB.trans h1a); rintro e w2 ⟨rfl, hb2⟩; have n8 := (hb2.block _ (heap_lt n7)).trans n7; have y0 := (blk_cell n8 0).trans (show _ = some (Value.int .i64 x.f0) from rfl); have y1 := (blk_cell n8 1).trans (show _ = some (Value.int .i64 x.f1) from rfl); have y2 := (blk_cell n8 2).trans (show _ = some (Value.slice A x.f2.length c) from rfl)) | (go_at_call 29; (with_reducible refine (D1.out _ ?_ ?_).mono ?_); clear D1; (exact (hB.trans h1a).trans (hb2.mono hPa.base)); (exact hPa.below hb2); rintro e w3 ⟨rfl, h3, hb3, hk3⟩))
            have hb2' := hb2.mono hPa.base
            refine ⟨⟨k + 1, hlt, rfl, ?_, ((hB.trans h1a).trans hb2').trans hb3, ((hK.trans h2a).below hb2).trans hk3⟩, ?_⟩
            ·rw [HC.out, ← ByteArray.append_assoc]
             exact Lib.hid h3
            ·show s.po.length - ((k : Int) + 1).toNat < s.po.length - ((k : Int)).toNat
             omega
          ·have hd : decide ((k : Int) < (s.po.length : Int)) = false := decide_eq_false (by omega)
           obtain rfl : k = s.po.length := by omega
           rw [List.take_length] at hp
           change Hid (Pw w0.heap.size b (put4 s) wr) at hp
           have hp4 := hp.out
           have nw := hK _ _ _ _ hne (by decide) nb
           have x7 := (blk_cell nw 7).trans (show _ = some (Value.slice A7 s.sw.length c7) from rfl)
           have hB4 := hB
           have hK4 := hK
           clear hp hd hk hlt hB hK hp3 hB3 hK3
           go_wp2
           clear x7 nw
           go_loopw [121] (fun v wr => ∃ k : Nat, k ≤ s.sw.length ∧ v = .int .i64 k ∧ Hid (Pw w0.heap.size b (put4 s ++ catI (coreT s) (s.sw.take k) 0) wr) ∧ Below w0.heap.size w0 wr ∧ Kept b wb wr) (fun v _ => s.sw.length - (intOf v).toNat)
           case atStart => exact ⟨0, Nat.zero_le _, rfl, Lib.hid (by have e : put4 s ++ catI (coreT s) (s.sw.take 0) 0 = put4 s := ByteArray.append_empty; rw [e]; exact hp4), hB4, hK4⟩
           case round =>
            obtain ⟨k, hk, rfl, hp, hB, hK⟩ := hrel
            by_cases hlt : k < s.sw.length
            ·
             have hd : decide ((k : Int) < (s.sw.length : Int)) = true := decide_eq_true (by omega)
             have i2 : decide (0 ≤ (k : Int)) = true := decide_eq_true (by omega)
             have j2 : decide (k < s.sw.length) = true := decide_eq_true hlt
             have hz := HZ.out
             have kr : k < s.ro.length := by omega
             have kf : k < s.fr.length := by omega
             have kl : k < s.li.length := by omega
             clear hz
             obtain ⟨ad, e1, hv0, hv1, hv2, hv3⟩ := at_T82 (HA.out _ hB).r7 (k : Int) (by omega) (by omega)
             obtain ⟨ar, e2, hr0⟩ := Kd.at_int (HA.out _ (Below.refl _ _)).r6 (k : Int) (by omega) (by omega)
             obtain ⟨af, Af, cf, e3, hf0, _, hNf⟩ := at_row (HA.out _ (Below.refl _ _)).r1 k kf
             obtain ⟨al, Al, cl, e4, hl0, _, hNl⟩ := at_row (HA.out _ (Below.refl _ _)).r5 k kl
             dsimp only at e1 e2 e3 e4
             subst e1 e2 e3 e4
             rw [rdSweep _ k hlt, Int.toNat_natCast] at hv0 hv1 hv2 hv3
             rw [Int.toNat_natCast, show rd s.ro (k : Int) = s.ro[k] by unfold rd; rw [Int.toNat_natCast, List.getD_eq_getElem?_getD, List.getElem?_eq_getElem kr]; rfl] at hr0
             have hcat := catI_take (coreT s) s.sw 0 k hlt
             have hfit := catI_fits (coreT s) s.sw k hlt
             have hT := HS4.out
             have wr0 := HWF.out.ro s.ro[k] (List.getElem_mem kr)
             have wf0 := HWF.out.fr s.fr[k] (List.getElem_mem kf)
             have wl0 := HWF.out.li s.li[k] (List.getElem_mem kl)
             have hkb : keyB s.sw[k].f1 = true := by
              have := HB.out
              unfold stateB at this
              simp only [Bool.and_eq_true, List.all_eq_true] at this
              exact this.1.2.2 _ (List.getElem_mem hlt)
             have hlf : s.fr[k].length ≤ 64 := by
              have := HB.out
              unfold stateB at this
              simp only [Bool.and_eq_true, List.all_eq_true, decide_eq_true_eq] at this
              exact this.1.2.1.1 _ (List.getElem_mem kf)
             have hll : s.li[k].length ≤ 64 := by
              have := HB.out
              unfold stateB at this
              simp only [Bool.and_eq_true, List.all_eq_true, decide_eq_true_eq] at this
              exact this.1.2.1.2 _ (List.getElem_mem kl)
             have g1 : s.ro.getD k 0 = s.ro[k] := by rw [List.getD_eq_getElem?_getD, List.getElem?_eq_getElem kr]; rfl
             have g2 : s.fr.getD k [] = s.fr[k] := by rw [List.getD_eq_getElem?_getD, List.getElem?_eq_getElem kf]; rfl
             have g3 : s.li.getD k [] = s.li[k] := by rw [List.getD_eq_getElem?_getD, List.getElem?_eq_getElem kl]; rfl
             rw [Nat.zero_add] at hcat
             have hct : ∀ x, coreT s k x = ⟨#[99, 111, 114, 101]⟩ ++ numsT [s.ro[k]] ++ yesT x.f0 ++ yesT x.f2 ++ keyT x.f1 ++ ⟨#[10]⟩ ++ (⟨#[102, 114, 101, 101]⟩ ++ numsT s.fr[k] ++ ⟨#[10]⟩) ++ (⟨#[108, 105, 109, 98, 111]⟩ ++ numsT s.li[k] ++ ⟨#[10]⟩) := fun x => by unfold coreT; rw [g1, g2, g3]
             clear g1 g2 g3
             rw [hct] at hcat hfit
             clear hct
             generalize s.sw[k] = x at *
             generalize s.ro[k] = rk at *
             generalize s.fr[k] = lf at *
             generalize s.li[k] = ll at *
             generalize catI (coreT s) (s.sw.take k) 0 = q at *
             have HC := Lib.hid hcat
             have s4 : (⟨#[99, 111, 114, 101]⟩ : ByteArray).size = 4 := rfl
             have s4' : (⟨#[102, 114, 101, 101]⟩ : ByteArray).size = 4 := rfl
             have s5 : (⟨#[108, 105, 109, 98, 111]⟩ : ByteArray).size = 5 := rfl
             obtain ⟨r0, r1⟩ := keyB_64 hkb
             have hq : (put4 s ++ q).size + (4 + (numsT [rk]).size + (yesT x.f0).size + (yesT x.f2).size + (keyT x.f1).size + 1 + (4 + (numsT lf).size + 1) + (5 + (numsT ll).size + 1)) ≤ 140737488355328 := by
              simp only [ByteArray.size_append, s4, s4', s5, hx1] at hfit
              rw [ByteArray.size_append]
              omega
             have h1a : Below w0.heap.size wr (wr.alloc (.cells #[.bool x.f0, .int .i64 x.f1.f0, .int .i64 x.f1.f1, .bool x.f2] 82)) := (Below.refl _ _).alloc hp.out.base _
             have h2a : Kept b wr (wr.alloc (.cells #[.bool x.f0, .int .i64 x.f1.f0, .int .i64 x.f1.f1, .bool x.f2] 82)) := (Kept.refl _ _).alloc _
             have hPa := hp.out.alloc (.cells #[.bool x.f0, .int .i64 x.f1.f0, .int .i64 x.f1.f1, .bool x.f2] 82)
             have n7 := heap_alloc_new wr (.cells #[.bool x.f0, .int .i64 x.f1.f0, .int .i64 x.f1.f1, .bool x.f2] 82)
             have hgb : wr.heap.size ≠ b := Nat.ne_of_gt hp.out.lt
             have hBa := hB.trans h1a
             have nwa := (hK.trans h2a) _ _ _ _ hne (by decide) nb
             generalize hTq : put4 s ++ q = T at *
             generalize hU : T ++ ⟨#[99, 111, 114, 101]⟩ ++ numsT [rk] ++ yesT x.f0 ++ yesT x.f2 ++ keyT x.f1 ++ ⟨#[10]⟩ = U
             generalize hV : U ++ ⟨#[102, 114, 101, 101]⟩ ++ numsT lf ++ ⟨#[10]⟩ = V
             have zU : U.size = T.size + (4 + (numsT [rk]).size + (yesT x.f0).size + (yesT x.f2).size + (keyT x.f1).size + 1) := by rw [← hU]; simp only [ByteArray.size_append, s4, hx1]; omega
             have zV : V.size = U.size + (4 + (numsT lf).size + 1) := by rw [← hV]; simp only [ByteArray.size_append, s4', hx1]; omega
             have D1 := Lib.hid (fun w' (h' : Pw w0.heap.size b T w') => pen_word w0.heap.size b _ ⟨#[99, 111, 114, 101]⟩ w' h' (by rw [s4]; omega))
             have D2 := Lib.hid (row1 w0.heap.size b (T ++ ⟨#[99, 111, 114, 101]⟩) _ wr0 (by simp only [ByteArray.size_append, s4]; omega))
             have D3 := Lib.hid (fun w' (h' : Pw w0.heap.size b (T ++ ⟨#[99, 111, 114, 101]⟩ ++ numsT [rk]) w') => pen_yes w0.heap.size b _ x.f0 w' h' (by simp only [ByteArray.size_append, s4]; omega))
             have D4 := Lib.hid (fun w' (h' : Pw w0.heap.size b (T ++ ⟨#[99, 111, 114, 101]⟩ ++ numsT [rk] ++ yesT x.f0) w') => pen_yes w0.heap.size b _ x.f2 w' h' (by simp only [ByteArray.size_append, s4]; omega))
             have D5 := Lib.hid (fun w' (h' : Pw w0.heap.size b (T ++ ⟨#[99, 111, 114, 101]⟩ ++ numsT [rk] ++ yesT x.f0 ++ yesT x.f2) w') => pen_key w0.heap.size b _ x.f1 r0 r1 w' h' (by simp only [ByteArray.size_append, s4]; omega))
             have D6 := Lib.hid (fun w' (h' : Pw w0.heap.size b (T ++ ⟨#[99, 111, 114, 101]⟩ ++ numsT [rk] ++ yesT x.f0 ++ yesT x.f2 ++ keyT x.f1) w') => pen_end w0.heap.size b _ w' h' (by simp only [ByteArray.size_append, s4]; omega))
             have E1 := Lib.hid (fun w' (h' : Pw w0.heap.size b U w') => pen_word w0.heap.size b _ ⟨#[102, 114, 101, 101]⟩ w' h' (by rw [s4']; omega))
             have E2 := Lib.hid (fun w' (h' : Pw w0.heap.size b (U ++ ⟨#[102, 114, 101, 101]⟩) w') A c hr => pen_number w0.heap.size b _ A c lf wf0 w' h' hr (by omega) (by simp only [ByteArray.size_append, s4']; omega))
             have E3 := Lib.hid (fun w' (h' : Pw w0.heap.size b (U ++ ⟨#[102, 114, 101, 101]⟩ ++ numsT lf) w') => pen_end w0.heap.size b _ w' h' (by simp only [ByteArray.size_append, s4']; omega))
             have G1 := Lib.hid (fun w' (h' : Pw w0.heap.size b V w') => pen_word w0.heap.size b _ ⟨#[108, 105, 109, 98, 111]⟩ w' h' (by rw [s5]; omega))
             have G2 := Lib.hid (fun w' (h' : Pw w0.heap.size b (V ++ ⟨#[108, 105, 109, 98, 111]⟩) w') A c hr => pen_number w0.heap.size b _ A c ll wl0 w' h' hr (by omega) (by simp only [ByteArray.size_append, s5]; omega))
             have G3 := Lib.hid (fun w' (h' : Pw w0.heap.size b (V ++ ⟨#[108, 105, 109, 98, 111]⟩ ++ numsT ll) w') => pen_end w0.heap.size b _ w' h' (by simp only [ByteArray.size_append, s5]; omega))
             have HQ : Hid (V ++ ⟨#[108, 105, 109, 98, 111]⟩ ++ numsT ll ++ ⟨#[10]⟩ = put4 s ++ catI (coreT s) (s.sw.take (k + 1)) 0) := Lib.hid (by rw [hcat, ← ByteArray.append_assoc, hTq, ← hV, ← hU]; simp only [ByteArray.append_assoc])
             have HU : Hid (T ++ ⟨#[99, 111, 114, 101]⟩ ++ numsT [rk] ++ yesT x.f0 ++ yesT x.f2 ++ keyT x.f1 ++ ⟨#[10]⟩ = U) := Lib.hid hU
             have HV : Hid (U ++ ⟨#[102, 114, 101, 101]⟩ ++ numsT lf ++ ⟨#[10]⟩ = V) := Lib.hid hV
             clear hq hfit hT hkb r0 r1 wr0 wf0 wl0 zU zV hlf hll hcat
             have kr' : (k : Int) < (s.ro.length : Int) := by omega
             have kf' : (k : Int) < (s.fr.length : Int) := by omega
             have kl' : (k : Int) < (s.li.length : Int) := by omega
             have k0' : (0 : Int) ≤ (k : Int) := by omega
             go_upto_region 32 with fail
             generalize wr.alloc (.cells #[.bool x.f0, .int .i64 x.f1.f0, .int .i64 x.f1.f1, .bool x.f2] 82) = wa at *
             generalize wr.heap.size = g at *
             have HS := Lib.hid (fun w' (hb' : Below w0.heap.size wa w') (hk' : Kept b wa w') => (⟨(blk_cell (hk' _ _ _ _ hne (by decide) nwa) 6).trans rfl, ((hBa.trans hb').cell (World.block_lt_of_cell? w0 _ hr0)).trans hr0, (blk_cell (hk' _ _ _ _ hgb (by decide) n7) 0).trans rfl, (blk_cell (hk' _ _ _ _ hgb (by decide) n7) 1).trans rfl, (blk_cell (hk' _ _ _ _ hgb (by decide) n7) 2).trans rfl, (blk_cell (hk' _ _ _ _ hgb (by decide) n7) 3).trans rfl⟩ : w'.cell? ⟨w0.heap.size, 6, none⟩ = some (.slice (some ar) s.ro.length c6) ∧ w'.cell? (ar.add k) = some (.int .i64 rk) ∧ w'.cell? ⟨g, 0, none⟩ = some (.bool x.f0) ∧ w'.cell? ⟨g, 1, none⟩ = some (.int .i64 x.f1.f0) ∧ w'.cell? ⟨g, 2, none⟩ = some (.int .i64 x.f1.f1) ∧ w'.cell? ⟨g, 3, none⟩ = some (.bool x.f2)))
             have HT := HU
             go_cut [143] (fun _ wc => Pw w0.heap.size b U wc ∧ Below w0.heap.size wa wc ∧ Kept b wa wc)
             case first =>
              have hkd : Kept b wa wa.drew := Kept.refl _ wa.drew
              go_region_held3 (fun w' => w'.cell? ⟨w0.heap.size, 6, none⟩ = some (.slice (some ar) s.ro.length c6) ∧ w'.cell? (ar.add k) = some (.int .i64 rk) ∧ w'.cell? ⟨g, 0, none⟩ = some (.bool x.f0) ∧ w'.cell? ⟨g, 1, none⟩ = some (.int .i64 x.f1.f0) ∧ w'.cell? ⟨g, 2, none⟩ = some (.int .i64 x.f1.f1) ∧ w'.cell? ⟨g, 3, none⟩ = some (.bool x.f2)) (first
               | exact HS.out _ (Below.refl _ _).drew hkd
               | exact HS.out _ ((Below.refl _ _).drew.alloc hPa.base _) (hkd.alloc _)
               | exact HS.out _ c1.1 c1.2
               | exact HS.out _ (c1.1.alloc h1.base _) (c1.2.alloc _)
               | exact HS.out _ c2.1 c2.2
               | exact HS.out _ c3.1 c3.2
               | exact HS.out _ c4.1 c4.2
               | exact HS.out _ c5.1 c5.2
               | exact HS.out _ c6.1 c6.2
               ) (first
               | (go_at_call 21; (with_reducible refine (D1.out _ ?_).mono ?_); (first | exact hPa.drew | exact hPa.drew.alloc _); rintro e w1 ⟨rfl, h1, hb1, hk1⟩; have c1 : Below w0.heap.size wa w1 ∧ Kept b wa w1 := (by first | exact ⟨((Below.refl _ _).drew).trans hb1, hk1⟩ | exact ⟨((Below.refl _ _).drew.alloc hPa.base _).trans hb1, (hkd.alloc _).trans hk1⟩))
               | (go_at_call 22; (first
                 | ((with_reducible refine (D2.out _ (h1.alloc _) _ (rowNew1 h1)).mono ?_); rintro e w2 ⟨rfl, h2, hb2, hk2⟩; have c2 : Below w0.heap.size wa w2 ∧ Kept b wa w2 := ⟨c1.1.trans (((Below.refl _ _).alloc h1.base _).trans hb2), c1.2.trans (((Kept.refl _ _).alloc _).trans hk2)⟩)
                 | ((with_reducible refine (D2.out _ h1 _ ?_).mono ?_); (exact (rowNew1 hPa.drew).on hb1 hk1); rintro e w2 ⟨rfl, h2, hb2, hk2⟩; have c2 : Below w0.heap.size wa w2 ∧ Kept b wa w2 := ⟨c1.1.trans hb2, c1.2.trans hk2⟩)))
               | (go_at_call 27; (with_reducible refine (D3.out _ h2).mono ?_); rintro e w3 ⟨rfl, h3, hb3, hk3⟩; have c3 : Below w0.heap.size wa w3 ∧ Kept b wa w3 := ⟨c2.1.trans hb3, c2.2.trans hk3⟩)
               | (go_at_call 27; (with_reducible refine (D4.out _ h3).mono ?_); rintro e w4 ⟨rfl, h4, hb4, hk4⟩; have c4 : Below w0.heap.size wa w4 ∧ Kept b wa w4 := ⟨c3.1.trans hb4, c3.2.trans hk4⟩)
               | (go_at_call 26; (with_reducible refine (D5.out _ h4).mono ?_); rintro e w5 ⟨rfl, h5, hb5, hk5⟩; have c5 : Below w0.heap.size wa w5 ∧ Kept b wa w5 := ⟨c4.1.trans hb5, c4.2.trans hk5⟩)
               | (go_at_call 23; (with_reducible refine (D6.out _ h5).mono ?_); rintro e w6 ⟨rfl, h6, hb6, hk6⟩; have c6 : Below w0.heap.size wa w6 ∧ Kept b wa w6 := ⟨c5.1.trans hb6, c5.2.trans hk6⟩)
               )
              all_goals (go_wp2_with fail; go_meet; rw [HT.out] at h6; exact ⟨h6, c6⟩)
             case rest =>
              obtain ⟨hp6, hB6, hK6⟩ := hcut
              generalize wc = wq at *
              have hBc := hBa.trans hB6
              have nwc := hK6 _ _ _ _ hne (by decide) nwa
              clear HS HT D1 D2 D3 D4 D5 D6 HU
              have HS := Lib.hid (fun w' (hb' : Below w0.heap.size wq w') (hk' : Kept b wq w') => (⟨(blk_cell (hk' _ _ _ _ hne (by decide) nwc) 1).trans rfl, ((hBc.trans hb').cell (World.block_lt_of_cell? w0 _ hf0)).trans hf0⟩ : w'.cell? ⟨w0.heap.size, 1, none⟩ = some (.slice (some af) s.fr.length c1) ∧ w'.cell? (af.add k) = some (.slice Af lf.length cf)))
              have HT := HV
              go_upto_region 33 with fail
              go_cut [152] (fun _ wd => Pw w0.heap.size b V wd ∧ Below w0.heap.size wq wd ∧ Kept b wq wd)
              case first =>
               have hkd : Kept b wq wq.drew := Kept.refl _ wq.drew
               go_region_held3 (fun w' => w'.cell? ⟨w0.heap.size, 1, none⟩ = some (.slice (some af) s.fr.length c1) ∧ w'.cell? (af.add k) = some (.slice Af lf.length cf)) (first
                | exact HS.out _ (Below.refl _ _).drew hkd
                | exact HS.out _ c1.1 c1.2
                | exact HS.out _ c2.1 c2.2
                | exact HS.out _ c3.1 c3.2
                ) (first
                | (go_at_call 21; (with_reducible refine (E1.out _ ?_).mono ?_); (exact hp6.drew); rintro e w1 ⟨rfl, h1, hb1, hk1⟩; have c1 : Below w0.heap.size wq w1 ∧ Kept b wq w1 := ⟨((Below.refl _ _).drew).trans hb1, hk1⟩)
                | (go_at_call 22; (with_reducible refine (E2.out _ h1 _ _ ?_).mono ?_); (exact rowBelow rfl (hBc.trans c1.1) hNf); rintro e w2 ⟨rfl, h2, hb2, hk2⟩; have c2 : Below w0.heap.size wq w2 ∧ Kept b wq w2 := ⟨c1.1.trans hb2, c1.2.trans hk2⟩)
                | (go_at_call 23; (with_reducible refine (E3.out _ h2).mono ?_); rintro e w3 ⟨rfl, h3, hb3, hk3⟩; have c3 : Below w0.heap.size wq w3 ∧ Kept b wq w3 := ⟨c2.1.trans hb3, c2.2.trans hk3⟩)
                )
               all_goals (go_wp2_with fail; go_meet; rw [HT.out] at h3; exact ⟨h3, c3⟩)
              case rest =>
               obtain ⟨hp7, hB7, hK7⟩ := hcut
               have hBd := hBc.trans hB7
               have nwd := hK7 _ _ _ _ hne (by decide) nwc
               have h1b := (h1a.trans hB6).trans hB7
               have h2b := (h2a.trans hK6).trans hK7
               clear HS HT E1 E2 E3 HV h1a h2a
               have h1a := h1b
               have h2a := h2b
               have HS := Lib.hid (fun w' (hb' : Below w0.heap.size wc w') (hk' : Kept b wc w') => (⟨(blk_cell (hk' _ _ _ _ hne (by decide) nwd) 5).trans rfl, ((hBd.trans hb').cell (World.block_lt_of_cell? w0 _ hl0)).trans hl0⟩ : w'.cell? ⟨w0.heap.size, 5, none⟩ = some (.slice (some al) s.li.length c5) ∧ w'.cell? (al.add k) = some (.slice Al ll.length cl)))
               have HT : Hid (V ++ ⟨#[108, 105, 109, 98, 111]⟩ ++ numsT ll ++ ⟨#[10]⟩ = put4 s ++ catI (coreT s) (s.sw.take (k + 1)) 0) := HQ
               go_upto_region 34 with fail
               have hkd : Kept b wc wc.drew := Kept.refl _ wc.drew
               go_region_held3 (fun w' => w'.cell? ⟨w0.heap.size, 5, none⟩ = some (.slice (some al) s.li.length c5) ∧ w'.cell? (al.add k) = some (.slice Al ll.length cl)) (first
                | exact HS.out _ (Below.refl _ _).drew hkd
                | exact HS.out _ c1.1 c1.2
                | exact HS.out _ c2.1 c2.2
                | exact HS.out _ c3.1 c3.2
                ) (first
                | (go_at_call 21; (with_reducible refine (G1.out _ ?_).mono ?_); (exact hp7.drew); rintro e w1 ⟨rfl, h1, hb1, hk1⟩; have c1 : Below w0.heap.size wc w1 ∧ Kept b wc w1 := ⟨((Below.refl _ _).drew).trans hb1, hk1⟩)
                | (go_at_call 22; (with_reducible refine (G2.out _ h1 _ _ ?_).mono ?_); (exact rowBelow rfl (hBd.trans c1.1) hNl); rintro e w2 ⟨rfl, h2, hb2, hk2⟩; have c2 : Below w0.heap.size wc w2 ∧ Kept b wc w2 := ⟨c1.1.trans hb2, c1.2.trans hk2⟩)
                | (go_at_call 23; (with_reducible refine (G3.out _ h2).mono ?_); rintro e w3 ⟨rfl, h3, hb3, hk3⟩; have c3 : Below w0.heap.size wc w3 ∧ Kept b wc w3 := ⟨c2.1.trans hb3, c2.2.trans hk3⟩)
                )
               all_goals
                go_wp2
                rw [HT.out] at h3
                refine ⟨⟨k + 1, hlt, rfl, ?_, (hB.trans h1a).trans c3.1, (hK.trans h2a).trans c3.2⟩, ?_⟩
                ·exact Lib.hid h3
                ·show s.sw.length - ((k : Int) + 1).toNat < s.sw.length - ((k : Int)).toNat
                 omega
            ·have hd : decide ((k : Int) < (s.sw.length : Int)) = false := decide_eq_false (by omega)
             obtain rfl : k = s.sw.length := by omega
             rw [List.take_length] at hp
             change Hid (Pw w0.heap.size b (put5 s) wr) at hp
             have hp5 := hp.out
             have h5 := HS5.out
             have hB5 := hB
             have D1 := Lib.hid (pen_word w0.heap.size b (put5 s) ⟨#[101, 110, 100]⟩ wr hp5 (by rw [hx3]; omega))
             have D2 := Lib.hid (fun w' (h' : Pw w0.heap.size b (put5 s ++ ⟨#[101, 110, 100]⟩) w') => pen_end w0.heap.size b _ w' h' (by rw [ByteArray.size_append, hx3]; omega))
             have D3 := Lib.hid (fun w' (h' : Pw w0.heap.size b (put5 s ++ ⟨#[101, 110, 100]⟩ ++ ⟨#[10]⟩) w') => pen_String w0.heap.size b _ w' h'.pen (by rw [ByteArray.size_append, hx1]; omega))
             clear hp hd hk hlt hB hK hp4 hB4 hK4 h5
             go_wp2_with (first | (go_at_call 21; (with_reducible refine D1.out.mono ?_); clear D1; rintro e w2 ⟨rfl, h2, hb2, hk2⟩) | (go_at_call 23; (with_reducible refine (D2.out _ ?_).mono ?_); clear D2; (exact h2); rintro e w3 ⟨rfl, h3, hb3, hk3⟩) | (go_at_call 30; (with_reducible refine (D3.out _ ?_).mono ?_); clear D3; (exact h3); rintro e w4 ⟨rfl, hb4⟩))
             go_ret2
             exact ⟨rfl, ((hB5.trans hb2).trans hb3).trans hb4⟩
end Go.Proofs.YtmcjccigglekpaaGreatDoor.Given
namespace Go.Proofs.YtmcjccigglekpaaGreatDoor.Given
open Go Go.RowKit Go.Proofs Go.Proofs.YtmcjccigglekpaaGreatDoorW.PrintWords Go.Proofs.YtmcjccigglekpaaGreatDoorW.PrintLast Go.Proofs.YtmcjccigglekpaaGreatDoorW.PrintMore Go.Proofs.YtmcjccigglekpaaGreatDoor.P Go.Proofs.YtmcjccigglekpaaGreatDoor.Plain

structure Fine (s : St) : Prop where
 wf : s.wf
 no : s.no.length ≤ 64 ∧ ∀ l ∈ s.no, l.length ≤ 8
 po : s.po.length ≤ 64
 fr : ∀ l ∈ s.fr, l.length ≤ 262145
 li : ∀ l ∈ s.li, l.length ≤ 262145
theorem nI_64 (ws : List ByteArray) (i : Nat) : R64 (nI ws i) := numS_64 _
theorem r64_0 : R64 0 := by unfold R64; omega
theorem forall_snoc {α : Type} {P : α → Prop} {l : List α} {x : α} (h : ∀ y ∈ l, P y) (hx : P x) : ∀ y ∈ l ++ [x], P y := fun y hy => by
 rcases List.mem_append.1 hy with h1 | h1
 ·exact h y h1
 ·rw [List.mem_singleton.1 h1]; exact hx
theorem forall_set {α : Type} {P : α → Prop} {l : List α} {k : Nat} {x : α} (h : ∀ y ∈ l, P y) (hx : P x) : ∀ y ∈ l.set k x, P y := fun y hy => by
 rcases List.mem_or_eq_of_mem_set hy with h1 | h1
 ·exact h y h1
 ·rw [h1]; exact hx
theorem forall_getD {α : Type} {P : α → Prop} {l : List α} {d : α} (h : ∀ y ∈ l, P y) (hd : P d) (k : Nat) : P (l.getD k d) := by
 rw [List.getD_eq_getElem?_getD]
 cases hk : l[k]? with
 | none => exact hd
 | some y => exact h y (List.mem_of_getElem? hk)
theorem len_snoc {α : Type} {l : List α} {x : α} {k : Nat} (h : l.length ≤ k) : (l ++ [x]).length ≤ k + 1 := by rw [List.length_append]; exact Nat.succ_le_succ h
def NoL (x : List S87) : Prop := x.length ≤ 8
def PoW (x : S59) : Prop := R64 x.f0 ∧ R64 x.f1 ∧ ∀ y ∈ x.f2, R64 y.f0 ∧ R64 y.f1 ∧ R64 y.f2 ∧ R64 y.f5
theorem zport_W : PoW zport := ⟨r64_0, r64_0, fun y hy => by cases hy⟩
theorem moreQ_W {x : S59} (h : PoW x) (ws : List ByteArray) : PoW (moreQ x (waiterI ws)) :=
 ⟨h.1, h.2.1, forall_snoc h.2.2 ⟨numS_64 _, numS_64 _, numS_64 _, numS_64 _⟩⟩
theorem stepF_fine {f : Nat} {ws : List ByteArray} {x y : St × Int} (hw : ws.length ≤ 262145) (h : Fine x.1) (hs : stepF f ws x = some y) : Fine y.1 := by
 obtain ⟨⟨t1, t2, t3, t4, t5, t6⟩, n1, p1, f1, l1⟩ := h
 unfold stepF at hs
 repeat' split at hs
 ·unfold stepSize at hs
  repeat' split at hs
  ·injection hs with hs; subst hs
   rename_i hn
   refine ⟨⟨t1, t2, ?_, t4, t5, t6⟩, ⟨?_, ?_⟩, ?_, f1, l1⟩
   ·intro z hz; rw [List.eq_of_mem_replicate hz]; exact zport_W
   ·simp; omega
   ·intro z hz; rw [List.eq_of_mem_replicate hz]; simp
   ·simp; omega
  all_goals cases hs
 ·unfold stepThing at hs
  repeat' split at hs
  ·injection hs with hs; subst hs
   exact ⟨⟨forall_snoc t1 ⟨nI_64 _ _, nI_64 _ _, nI_64 _ _, nI_64 _ _, nI_64 _ _, nI_64 _ _, nI_64 _ _, nI_64 _ _⟩, t2, t3, t4, t5, t6⟩, n1, p1, f1, l1⟩
  all_goals cases hs
 ·unfold stepNode at hs
  repeat' split at hs
  ·injection hs with hs; subst hs
   exact ⟨⟨t1, t2, t3, t4, t5, t6⟩, ⟨by rw [List.length_set]; exact n1.1, forall_set n1.2 (by simp)⟩, p1, f1, l1⟩
  all_goals cases hs
 ·unfold stepSlot at hs
  repeat' split at hs
  ·injection hs with hs; subst hs
   exact ⟨⟨t1, t2, t3, t4, t5, t6⟩, ⟨by rw [List.length_set]; exact n1.1, forall_set n1.2 (by rw [List.length_set]; exact forall_getD (P := NoL) n1.2 (Nat.zero_le _) _)⟩, p1, f1, l1⟩
  all_goals cases hs
 ·unfold stepBranch at hs
  repeat' split at hs
  ·cases hs
  ·injection hs with hs; subst hs
   exact ⟨⟨t1, forall_snoc t2 (nI_64 _ _), t3, t4, t5, t6⟩, n1, p1, f1, l1⟩
  all_goals cases hs
 ·unfold stepPort at hs
  repeat' split at hs
  ·injection hs with hs; subst hs
   exact ⟨⟨t1, t2, forall_set t3 ⟨nI_64 _ _, nI_64 _ _, fun y hy => by cases hy⟩, t4, t5, t6⟩, n1, by rw [List.length_set]; exact p1, f1, l1⟩
  all_goals cases hs
 ·unfold stepWait at hs
  repeat' split at hs
  ·cases hs
  ·injection hs with hs; subst hs
   exact ⟨⟨t1, t2, forall_set t3 (moreQ_W (forall_getD (P := PoW) t3 zport_W _) ws), t4, t5, t6⟩, n1, by rw [List.length_set]; exact p1, f1, l1⟩
  all_goals cases hs
 ·unfold stepCore at hs
  repeat' split at hs
  ·cases hs
  ·injection hs with hs; subst hs
   exact ⟨⟨t1, t2, t3, forall_snoc t4 (nI_64 _ _), t5, t6⟩, n1, p1, f1, l1⟩
  all_goals cases hs
 ·unfold stepFree at hs
  injection hs with hs; subst hs
  exact ⟨⟨t1, t2, t3, t4, forall_snoc t5 (fun n hn => by obtain ⟨z, _, rfl⟩ := List.mem_map.1 hn; exact numS_64 z), t6⟩, n1, p1, forall_snoc f1 (by rw [List.length_map]; exact hw), l1⟩
 ·unfold stepLimbo at hs
  injection hs with hs; subst hs
  exact ⟨⟨t1, t2, t3, t4, t5, forall_snoc t6 (fun n hn => by obtain ⟨z, _, rfl⟩ := List.mem_map.1 hn; exact numS_64 z)⟩, n1, p1, f1, forall_snoc l1 (by rw [List.length_map]; exact hw)⟩
 ·injection hs with hs; subst hs
  exact ⟨⟨t1, t2, t3, t4, t5, t6⟩, n1, p1, f1, l1⟩
def PoL (k : Nat) (x : S59) : Prop := x.f2.length ≤ k
theorem zport_L (k : Nat) : PoL k zport := Nat.zero_le _
theorem stepF_small {k f : Nat} {ws : List ByteArray} {x y : St × Int} (h : Small k x.1) (hs : stepF f ws x = some y) : Small (k + 1) y.1 := by
 obtain ⟨t1, t2, t3, t4, t5, t6, t7⟩ := h.mono (Nat.le_succ k)
 obtain ⟨u1, u2, u3, u4, u5, u6, u7⟩ := h
 unfold stepF at hs
 repeat' split at hs
 ·unfold stepSize at hs
  repeat' split at hs
  ·injection hs with hs; subst hs
   exact ⟨t1, t2, t3, t4, t5, t6, fun z hz => by rw [List.eq_of_mem_replicate hz]; exact zport_L _⟩
  all_goals cases hs
 ·unfold stepThing at hs
  repeat' split at hs
  ·injection hs with hs; subst hs
   exact ⟨len_snoc u1, t2, t3, t4, t5, t6, t7⟩
  all_goals cases hs
 ·unfold stepNode at hs
  repeat' split at hs
  ·injection hs with hs; subst hs
   exact ⟨t1, t2, t3, t4, t5, t6, t7⟩
  all_goals cases hs
 ·unfold stepSlot at hs
  repeat' split at hs
  ·injection hs with hs; subst hs
   exact ⟨t1, t2, t3, t4, t5, t6, t7⟩
  all_goals cases hs
 ·unfold stepBranch at hs
  repeat' split at hs
  ·cases hs
  ·injection hs with hs; subst hs
   exact ⟨t1, t2, len_snoc u3, t4, t5, t6, t7⟩
  all_goals cases hs
 ·unfold stepPort at hs
  repeat' split at hs
  ·injection hs with hs; subst hs
   exact ⟨t1, t2, t3, t4, t5, t6, forall_set t7 (Nat.zero_le _)⟩
  all_goals cases hs
 ·unfold stepWait at hs
  repeat' split at hs
  ·cases hs
  ·injection hs with hs; subst hs
   exact ⟨t1, t2, t3, t4, t5, t6, forall_set t7 (len_snoc (forall_getD (P := PoL k) u7 (zport_L k) _))⟩
  all_goals cases hs
 ·unfold stepCore at hs
  repeat' split at hs
  ·cases hs
  ·injection hs with hs; subst hs
   exact ⟨t1, t2, t3, t4, len_snoc u5, len_snoc u6, t7⟩
  all_goals cases hs
 ·unfold stepFree at hs
  injection hs with hs; subst hs
  exact ⟨t1, len_snoc u2, t3, t4, t5, t6, t7⟩
 ·unfold stepLimbo at hs
  injection hs with hs; subst hs
  exact ⟨t1, t2, t3, len_snoc u4, t5, t6, t7⟩
 ·injection hs with hs; subst hs
  exact ⟨t1, t2, t3, t4, t5, t6, t7⟩
end Go.Proofs.YtmcjccigglekpaaGreatDoor.Given
