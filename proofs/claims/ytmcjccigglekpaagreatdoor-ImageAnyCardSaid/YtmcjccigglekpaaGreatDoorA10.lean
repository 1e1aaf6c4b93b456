/- Texts of this seat, joined. -/
import Derived.Test.YtmcjccigglekpaaGreatDoorA9
import Derived.Test.YtmcjccigglekpaaGreatDoorA5
import Derived.Test.YtmcjccigglekpaaGreatDoorA2
namespace Go.Proofs.YtmcjccigglekpaaGreatDoor.Given
open Go Go.RowKit Go.Proofs Go.Proofs.YtmcjccigglekpaaGreatDoorW.PrintWords Go.Proofs.YtmcjccigglekpaaGreatDoorW.PrintLast Go.Proofs.YtmcjccigglekpaaGreatDoorW.PrintMore Go.Proofs.YtmcjccigglekpaaGreatDoor.P Go.Proofs.YtmcjccigglekpaaGreatDoor.Plain
theorem goes_size (ws : List ByteArray) (x : St × Int) : stepF 77 ws x = stepSize ws x.1 x.2 := by simp [stepF]
theorem goes_thing (ws : List ByteArray) (x : St × Int) : stepF 78 ws x = stepThing ws x.1 x.2 := by simp [stepF]
theorem goes_node (ws : List ByteArray) (x : St × Int) : stepF 79 ws x = stepNode ws x.1 x.2 := by simp [stepF]
theorem goes_slot (ws : List ByteArray) (x : St × Int) : stepF 80 ws x = stepSlot (bitsI (wI ws 1)).1 (bitsI (wI ws 1)).2 ws x.1 x.2 := by simp [stepF]
theorem goes_branch (ws : List ByteArray) (x : St × Int) : stepF 81 ws x = stepBranch ws x.1 x.2 := by simp [stepF]
theorem goes_readPort (ws : List ByteArray) (x : St × Int) : stepF 82 ws x = stepPort ws x.1 x.2 := by simp [stepF]
theorem goes_wait (ws : List ByteArray) (x : St × Int) : stepF 83 ws x = stepWait ws x.1 x.2 := by simp [stepF]
theorem goes_core (ws : List ByteArray) (x : St × Int) : stepF 84 ws x = stepCore ws x.1 x.2 := by simp [stepF]
theorem goes_free (ws : List ByteArray) (x : St × Int) : stepF 85 ws x = stepFree ws x.1 x.2 := by simp [stepF]
theorem goes_limbo (ws : List ByteArray) (x : St × Int) : stepF 86 ws x = stepLimbo ws x.1 x.2 := by simp [stepF]
theorem goes_nothing (ws : List ByteArray) (x : St × Int) : stepF 76 ws x = some x := by simp [stepF]
theorem num_64 {n : Int} (h : R64 n) : numS (itoS n) = n := num_ito n h
theorem cut_key (k : S74) : Lib.cut (keyW k).data.toList [46] = ((itoS k.f0).data.toList, (itoS k.f1).data.toList, true) := by
 have h : (keyW k).data.toList = (itoS k.f0).data.toList ++ 46 :: (itoS k.f1).data.toList := by
  unfold keyW; rw [data_app, data_app]; rfl
 rw [h, cut_at _ _ 46 (ito_no46 _)]
theorem keyI_key {k : S74} (h : keyB k = true) : keyI (keyW k) = k := by
 unfold keyB at h
 simp only [Bool.and_eq_true, decide_eq_true_eq] at h
 unfold keyI cutA cutB
 rw [show (⟨#[46]⟩ : ByteArray).data.toList = [46] from rfl, cut_key]
 dsimp only
 rw [Array.toArray_toList, Array.toArray_toList]
 have h0 := num_ito k.f0 (by unfold R64; omega)
 have h1 := num_ito k.f1 (by unfold R64; omega)
 show S74.mk (numS (itoS k.f0)) (numS (itoS k.f1)) = k
 rw [h0, h1]
theorem keyOk_key (k : S74) : keyOk (keyW k) = true := by
 unfold keyOk cutC
 rw [show (⟨#[46]⟩ : ByteArray).data.toList = [46] from rfl, cut_key]
theorem yesI_yes (b : Bool) : yesI (yesW b) = b := by cases b <;> decide +kernel
theorem small_64 {n : Nat} (h : n ≤ 1000000) : R64 (n : Int) := by unfold R64; omega
theorem stepW_of {w : ByteArray} {f : Nat} (h : lookI w = some f) (ws : List ByteArray) (x : St × Int) : stepW x (w :: ws) = stepF f ws x := by
 show (match lookI w with | none => none | some f => stepF f ws x) = _
 rw [h]
theorem wI0 (a : ByteArray) (l : List ByteArray) : wI (a :: l) 0 = a := rfl
theorem wIs (a : ByteArray) (l : List ByteArray) (k : Nat) : wI (a :: l) (k + 1) = wI l k := by unfold wI; simp
theorem step_thing {x : S70} (h : R64 x.f0 ∧ R64 x.f1 ∧ R64 x.f2 ∧ R64 x.f3 ∧ R64 x.f4 ∧ R64 x.f5 ∧ R64 x.f6 ∧ R64 x.f7) (s : St) (p : Int) : stepW (s, p) (thingL x) = some ({ s with th := s.th ++ [x] }, p) := by
 obtain ⟨h0, h1, h2, h3, h4, h5, h6, h7⟩ := h
 unfold thingL
 rw [stepW_of (show lookI ⟨#[116, 104, 105, 110, 103]⟩ = some 78 by decide +kernel), goes_thing]
 unfold stepThing nI
 simp only [List.map_cons, List.map_nil, List.length_cons, List.length_nil, wI0, wIs, num_64 h0, num_64 h1, num_64 h2, num_64 h3, num_64 h4, num_64 h5, num_64 h6, num_64 h7]
 rfl
theorem run_things : ∀ (l : List S70) (i : Nat) (s : St) (p : Int), (∀ x ∈ l, R64 x.f0 ∧ R64 x.f1 ∧ R64 x.f2 ∧ R64 x.f3 ∧ R64 x.f4 ∧ R64 x.f5 ∧ R64 x.f6 ∧ R64 x.f7) → runW (catL (fun _ x => [thingL x]) l i) (s, p) = some ({ s with th := s.th ++ l }, p)
 | [], _, s, p, _ => by show some (s, p) = _; rw [List.append_nil]
 | x :: l, i, s, p, h => by
  show (stepW (s, p) (thingL x)).bind (runW (catL (fun _ x => [thingL x]) l (i + 1))) = _
  rw [step_thing (h x List.mem_cons_self)]
  show runW _ _ = _
  rw [run_things l (i + 1) _ p (fun y hy => h y (List.mem_cons_of_mem _ hy))]
  simp
theorem step_branch {x : S76} (h : R64 x.f1) (hk : keyB x.f0 = true) (s : St) (p : Int) : stepW (s, p) (branchL x) = some ({ s with tr := s.tr ++ [x] }, p) := by
 unfold branchL
 rw [stepW_of (show lookI ⟨#[98, 114, 97, 110, 99, 104]⟩ = some 81 by decide +kernel), goes_branch]
 unfold stepBranch nI
 simp only [List.length_cons, List.length_nil, wI0, wIs, num_64 h, keyI_key hk, keyOk_key, yesI_yes]
 rfl
theorem run_branches : ∀ (l : List S76) (i : Nat) (s : St) (p : Int), (∀ x ∈ l, R64 x.f1) → (∀ x ∈ l, keyB x.f0 = true) → runW (catL (fun _ x => [branchL x]) l i) (s, p) = some ({ s with tr := s.tr ++ l }, p)
 | [], _, s, p, _, _ => by show some (s, p) = _; rw [List.append_nil]
 | x :: l, i, s, p, h, hk => by
  show (stepW (s, p) (branchL x)).bind (runW (catL (fun _ x => [branchL x]) l (i + 1))) = _
  rw [step_branch (h x List.mem_cons_self) (hk x List.mem_cons_self)]
  show runW _ _ = _
  rw [run_branches l (i + 1) _ p (fun y hy => h y (List.mem_cons_of_mem _ hy)) (fun y hy => hk y (List.mem_cons_of_mem _ hy))]
  simp
theorem getD_at {α : Type} (A B : List α) (x d : α) : (A ++ x :: B).getD A.length d = x := by simp
theorem set_at {α : Type} (A B : List α) (x y : α) : (A ++ x :: B).set A.length y = A ++ y :: B := by simp
/-- A state with other slots, and with other ports. -/
def St.setNo (s : St) (l : List (List S87)) : St := { s with no := l }
def St.setPo (s : St) (l : List S59) : St := { s with po := l }
theorem step_slot {c : S87} (hc : capBad c = false) (s : St) (p : Int) (A B : List (List S87)) (P Q : List S87) (z : S87) (hA : A.length ≤ 9999) (hP : P.length ≤ 9999) :
  stepW (s.setNo (A ++ (P ++ z :: Q) :: B), p) [⟨#[115, 108, 111, 116]⟩, keyW ⟨(A.length : Int), (P.length : Int)⟩, textW (capWord c)] = some (s.setNo (A ++ (P ++ c :: Q) :: B), p) := by
 have hk : keyB ⟨(A.length : Int), (P.length : Int)⟩ = true := by
  unfold keyB; simp only [Bool.and_eq_true, decide_eq_true_eq]; omega
 rw [stepW_of (show lookI ⟨#[115, 108, 111, 116]⟩ = some 80 by decide +kernel), goes_slot]
 simp only [wIs, wI0, bits_textW c hc]
 unfold stepSlot SlotOk
 simp only [wI0, List.length_cons, List.length_nil, keyI_key hk, keyOk_key, cap_word c hc]
 have hno : (s.setNo (A ++ (P ++ z :: Q) :: B)).no = A ++ (P ++ z :: Q) :: B := rfl
 rw [if_pos trivial, hno, Int.toNat_natCast, Int.toNat_natCast, getD_at, set_at, set_at, if_pos (by simp; omega)]
 rfl
theorem run_slots (s : St) (p : Int) (A B : List (List S87)) (hA : A.length ≤ 9999) : ∀ (l P : List S87) (i : Nat), i = P.length → i + l.length ≤ 9999 → (∀ c ∈ l, capBad c = false) →
  runW (catL (slotL A.length) l i) (s.setNo (A ++ (P ++ List.replicate l.length zcap) :: B), p) = some (s.setNo (A ++ (P ++ l) :: B), p)
 | [], P, i, _, _, _ => rfl
 | c :: l, P, i, hi, hl, hc => by
  subst hi
  have ih := run_slots s p A B hA l (P ++ [c]) (P.length + 1) (by simp) (by simp only [List.length_cons] at hl; omega) (fun y hy => hc y (List.mem_cons_of_mem _ hy))
  rw [List.append_assoc, List.append_assoc] at ih
  show runW (slotL A.length P.length c ++ catL (slotL A.length) l (P.length + 1)) _ = _
  rw [runW_append, List.length_cons, List.replicate_succ]
  unfold slotL
  split
  ·rename_i hz
   obtain rfl := capZ_eq c hz
   exact ih
  ·show ((stepW _ _).bind (runW [])).bind _ = _
   rw [step_slot (hc c List.mem_cons_self) s p A B P _ zcap hA (by omega)]
   exact ih
theorem step_node (s : St) (p : Int) (A B : List (List S87)) (z : List S87) (hA : A.length < s.po.length) (h64 : A.length ≤ 9999) :
  stepW (s.setNo (A ++ z :: B), p) [⟨#[110, 111, 100, 101]⟩, itoS (A.length : Int)] = some (s.setNo (A ++ List.replicate 8 zcap :: B), p) := by
 rw [stepW_of (show lookI ⟨#[110, 111, 100, 101]⟩ = some 79 by decide +kernel), goes_node]
 unfold stepNode nI
 simp only [wI0, List.length_cons, List.length_nil, num_64 (small_64 (show A.length ≤ 1000000 by omega))]
 have hno : (s.setNo (A ++ z :: B)).no = A ++ z :: B := rfl
 have hpo : (s.setNo (A ++ z :: B)).po = s.po := rfl
 rw [if_pos trivial, hno, hpo, if_pos (by omega), Int.toNat_natCast, set_at]
 rfl
theorem run_nodes (s : St) (p : Int) : ∀ (l P : List (List S87)) (i : Nat), i = P.length → i + l.length = s.po.length → s.po.length ≤ 64 → (∀ x ∈ l, nodeB x = true) →
  runW (catL nodeL l i) (s.setNo (P ++ List.replicate l.length []), p) = some (s.setNo (P ++ l), p)
 | [], P, i, _, _, _, _ => rfl
 | x :: l, P, i, hi, hl, h64, hc => by
  subst hi
  have hx := hc x List.mem_cons_self
  simp only [List.length_cons] at hl
  have ih := run_nodes s p l (P ++ [x]) (P.length + 1) (by simp) (by omega) h64 (fun y hy => hc y (List.mem_cons_of_mem _ hy))
  rw [List.append_assoc, List.append_assoc] at ih
  show runW (nodeL P.length x ++ catL nodeL l (P.length + 1)) _ = _
  rw [runW_append, List.length_cons, List.replicate_succ]
  unfold nodeL
  split
  ·rename_i hz
   show ((stepW _ _).bind (runW _)).bind _ = _
   rw [step_node s p P _ [] (by omega) (by omega)]
   unfold nodeB at hx
   simp only [Bool.and_eq_true, Bool.or_eq_true, decide_eq_true_eq, Bool.not_eq_true', List.any_eq_false, Bool.not_eq_true] at hx
   have h8 : x.length = 8 := by omega
   have hr := run_slots s p P (List.replicate l.length []) (by omega) x [] 0 rfl (by omega) hx.2
   rw [h8] at hr
   show (runW _ _).bind _ = _
   erw [hr]
   exact ih
  ·rename_i hz
   have hx0 : x = [] := List.eq_nil_of_length_eq_zero (by omega)
   subst hx0
   exact ih
theorem step_wait {y : S95} (h0 : R64 y.f0) (h1 : R64 y.f1) (h2 : R64 y.f2) (h5 : R64 y.f5) (hk : keyB y.f4 = true) (s : St) (A B : List S59) (x : S59) :
  stepW (s.setPo (A ++ x :: B), (A.length : Int)) (waitL y) = some (s.setPo (A ++ ⟨x.f0, x.f1, x.f2 ++ [y]⟩ :: B), (A.length : Int)) := by
 unfold waitL
 rw [stepW_of (show lookI ⟨#[119, 97, 105, 116]⟩ = some 83 by decide +kernel), goes_wait]
 unfold stepWait waiterI moreQ nI
 simp only [wIs, wI0, List.length_cons, List.length_nil, num_64 h0, num_64 h1, num_64 h2, num_64 h5, keyI_key hk, keyOk_key, yesI_yes]
 have hpo : (s.setPo (A ++ x :: B)).po = A ++ x :: B := rfl
 rw [if_pos ⟨trivial, by omega⟩, hpo, Int.toNat_natCast, getD_at, set_at]
 rfl
theorem run_waits (s : St) (A B : List S59) (k v : Int) : ∀ (l q : List S95) (i : Nat), (∀ y ∈ l, R64 y.f0 ∧ R64 y.f1 ∧ R64 y.f2 ∧ R64 y.f5) → (∀ y ∈ l, keyB y.f4 = true) →
  runW (catL (fun _ y => [waitL y]) l i) (s.setPo (A ++ ⟨k, v, q⟩ :: B), (A.length : Int)) = some (s.setPo (A ++ ⟨k, v, q ++ l⟩ :: B), (A.length : Int))
 | [], q, _, _, _ => by rw [List.append_nil]; rfl
 | y :: l, q, i, h, hk => by
  obtain ⟨h0, h1, h2, h5⟩ := h y List.mem_cons_self
  show (stepW _ (waitL y)).bind (runW (catL (fun _ y => [waitL y]) l (i + 1))) = _
  rw [step_wait h0 h1 h2 h5 (hk y List.mem_cons_self)]
  show runW _ _ = _
  rw [run_waits s A B k v l (q ++ [y]) (i + 1) (fun z hz => h z (List.mem_cons_of_mem _ hz)) (fun z hz => hk z (List.mem_cons_of_mem _ hz)), List.append_assoc]
  rfl
theorem step_port (s : St) (p k v : Int) (hk : R64 k) (hv : R64 v) (A B : List S59) (z : S59) (h64 : A.length ≤ 9999) :
  stepW (s.setPo (A ++ z :: B), p) [⟨#[112, 111, 114, 116]⟩, itoS (A.length : Int), itoS k, itoS v] = some (s.setPo (A ++ ⟨k, v, []⟩ :: B), (A.length : Int)) := by
 rw [stepW_of (show lookI ⟨#[112, 111, 114, 116]⟩ = some 82 by decide +kernel), goes_readPort]
 unfold stepPort nI
 simp only [wIs, wI0, List.length_cons, List.length_nil, num_64 (small_64 (show A.length ≤ 1000000 by omega)), num_64 hk, num_64 hv]
 have hpo : (s.setPo (A ++ z :: B)).po = A ++ z :: B := rfl
 rw [if_pos trivial, hpo, if_pos (by simp; omega), Int.toNat_natCast, set_at]
 rfl
theorem run_ports (s : St) : ∀ (l P : List S59) (i : Nat) (p : Int), i = P.length → i + l.length ≤ 64 → (∀ x ∈ l, portB x = true) → (∀ x ∈ l, R64 x.f0 ∧ R64 x.f1 ∧ ∀ y ∈ x.f2, R64 y.f0 ∧ R64 y.f1 ∧ R64 y.f2 ∧ R64 y.f5) →
  ∃ q, runW (catL portL l i) (s.setPo (P ++ List.replicate l.length zport), p) = some (s.setPo (P ++ l), q)
 | [], P, i, p, _, _, _, _ => ⟨p, rfl⟩
 | x :: l, P, i, p, hi, hl, hc, hw => by
  subst hi
  have hx := hc x List.mem_cons_self
  obtain ⟨w0, w1, w2⟩ := hw x List.mem_cons_self
  simp only [List.length_cons] at hl
  have ih := fun p => run_ports s l (P ++ [x]) (P.length + 1) p (by simp) (by omega) (fun y hy => hc y (List.mem_cons_of_mem _ hy)) (fun y hy => hw y (List.mem_cons_of_mem _ hy))
  simp only [List.append_assoc] at ih
  show ∃ q, runW (portL P.length x ++ catL portL l (P.length + 1)) _ = _
  rw [runW_append, List.length_cons, List.replicate_succ]
  unfold portL
  split
  ·rename_i hz
   have hx0 : x = zport := by
    unfold portZ at hz
    simp only [Bool.and_eq_true, beq_iff_eq] at hz
    obtain ⟨⟨a, b⟩, c⟩ := hz
    obtain ⟨f0, f1, f2⟩ := x
    dsimp only at a b c
    rw [a, b, List.eq_nil_of_length_eq_zero c]
    rfl
   subst hx0
   exact ih p
  ·unfold portB waitBad at hx
   simp only [Bool.and_eq_true, decide_eq_true_eq, Bool.not_eq_true', List.any_eq_false] at hx
   obtain ⟨q, hq⟩ := ih (P.length : Int)
   refine ⟨q, ?_⟩
   show ((stepW _ _).bind (runW _)).bind _ = _
   rw [step_port s p x.f0 x.f1 w0 w1 P _ zport (by omega)]
   have hr := run_waits s P (List.replicate l.length zport) x.f0 x.f1 x.f2 [] 0 w2 (fun y hy => by simpa using hx.2 y hy)
   show (runW _ _).bind _ = _
   erw [hr]
   exact hq
theorem step_core {x : S82} (hk : keyB x.f1 = true) {r : Int} (hr : R64 r) (s : St) (p : Int) : stepW (s, p) [⟨#[99, 111, 114, 101]⟩, itoS r, yesW x.f0, yesW x.f2, keyW x.f1] = some ({ s with ro := s.ro ++ [r], sw := s.sw ++ [x] }, p) := by
 rw [stepW_of (show lookI ⟨#[99, 111, 114, 101]⟩ = some 84 by decide +kernel), goes_core]
 unfold stepCore nI
 simp only [wIs, wI0, List.length_cons, List.length_nil, num_64 hr, keyI_key hk, keyOk_key, yesI_yes]
 rfl
theorem map_num {l : List Int} (h : ∀ n ∈ l, R64 n) : (l.map itoS).map numS = l := by
 rw [List.map_map]
 conv => rhs; rw [← List.map_id l]
 exact List.map_congr_left (fun n hn => num_ito n (h n hn))
theorem step_free {l : List Int} (h : ∀ n ∈ l, R64 n) (s : St) (p : Int) : stepW (s, p) (⟨#[102, 114, 101, 101]⟩ :: l.map itoS) = some ({ s with fr := s.fr ++ [l] }, p) := by
 rw [stepW_of (show lookI ⟨#[102, 114, 101, 101]⟩ = some 85 by decide +kernel), goes_free]
 unfold stepFree
 rw [map_num h]
theorem step_limbo {l : List Int} (h : ∀ n ∈ l, R64 n) (s : St) (p : Int) : stepW (s, p) (⟨#[108, 105, 109, 98, 111]⟩ :: l.map itoS) = some ({ s with li := s.li ++ [l] }, p) := by
 rw [stepW_of (show lookI ⟨#[108, 105, 109, 98, 111]⟩ = some 86 by decide +kernel), goes_limbo]
 unfold stepLimbo
 rw [map_num h]
theorem take_snoc {α : Type} {l : List α} {i : Nat} (h : i < l.length) (d : α) : l.take i ++ [l.getD i d] = l.take (i + 1) := by
 rw [List.take_succ_eq_append_getElem h, List.getD_eq_getElem?_getD, List.getElem?_eq_getElem h]; rfl
/-- A state with its first i cores alone. -/
def St.cores (s : St) (i : Nat) : St := { s with fr := s.fr.take i, li := s.li.take i, ro := s.ro.take i, sw := s.sw.take i }
theorem run_cores (s : St) (p : Int) (hw : s.wf) (hk : ∀ x ∈ s.sw, keyB x.f1 = true) (h1 : s.li.length = s.fr.length) (h2 : s.sw.length = s.fr.length) (h3 : s.ro.length = s.fr.length) : ∀ (l : List S82) (i : Nat), s.sw.drop i = l → i ≤ s.fr.length →
  runW (catL (coreL s) l i) (s.cores i, p) = some (s, p)
 | [], i, hl, hi => by
  have hi' : i = s.fr.length := by
   have := congrArg List.length hl
   rw [List.length_drop, List.length_nil] at this
   omega
  subst hi'
  show some (s.cores s.fr.length, p) = some (s, p)
  unfold St.cores
  rw [List.take_length, ← h1, List.take_length, h1, ← h2, List.take_length, h2, ← h3, List.take_length]
 | x :: l, i, hl, hi => by
  have hlt : i < s.sw.length := by
   have := congrArg List.length hl
   rw [List.length_drop, List.length_cons] at this
   omega
  have hx : s.sw[i] = x := by
   have := List.drop_eq_getElem_cons hlt
   rw [hl] at this
   exact (List.cons.inj this).1.symm
  have hl' : s.sw.drop (i + 1) = l := by
   have := List.drop_eq_getElem_cons hlt
   rw [hl] at this
   exact (List.cons.inj this).2.symm
  have r0 : R64 (s.ro.getD i 0) := by
   rw [List.getD_eq_getElem?_getD, List.getElem?_eq_getElem (by omega)]
   exact hw.ro _ (List.getElem_mem _)
  have r1 : ∀ n ∈ s.fr.getD i [], R64 n := by
   rw [List.getD_eq_getElem?_getD, List.getElem?_eq_getElem (by omega)]
   exact hw.fr _ (List.getElem_mem _)
  have r2 : ∀ n ∈ s.li.getD i [], R64 n := by
   rw [List.getD_eq_getElem?_getD, List.getElem?_eq_getElem (by omega)]
   exact hw.li _ (List.getElem_mem _)
  have hkx : keyB x.f1 = true := hk x (hx ▸ List.getElem_mem _)
  have ih := run_cores s p hw hk h1 h2 h3 l (i + 1) hl' (by omega)
  show (stepW (s.cores i, p) _).bind (runW (_ :: _ :: catL (coreL s) l (i + 1))) = _
  rw [step_core hkx r0, Option.bind_some]
  show (stepW _ _).bind (runW (_ :: catL (coreL s) l (i + 1))) = _
  rw [step_free r1, Option.bind_some]
  show (stepW _ _).bind (runW (catL (coreL s) l (i + 1))) = _
  rw [step_limbo r2]
  show runW _ _ = _
  rw [← ih]
  congr 2
  unfold St.cores
  dsimp only
  rw [take_snoc (by omega), take_snoc (by omega), take_snoc (by omega), ← hx]
  congr 1
  rw [List.take_succ_eq_append_getElem hlt]
theorem run_all {s : St} (hw : s.wf) (hB : stateB s = true) : ∃ p, runW (linesOf s) (stZ, -1) = some (s, p) := by
 obtain ⟨⟨h1, h2, h3, h4, h5, h6, h7, h8⟩, n1, p1, f1, l1, w1, t1⟩ := stateB_all hB
 have hg : ∀ x : St × Int, stepW x [⟨#[103, 97, 114, 114, 105, 115, 111, 110]⟩, itoS 1] = some x := fun x => by
  rw [stepW_of (show lookI ⟨#[103, 97, 114, 114, 105, 115, 111, 110]⟩ = some 76 by decide +kernel), goes_nothing]
 have he : ∀ x : St × Int, stepW x [⟨#[101, 110, 100]⟩] = some x := fun x => by
  rw [stepW_of (show lookI ⟨#[101, 110, 100]⟩ = some 76 by decide +kernel), goes_nothing]
 have hs : stepW (stZ, -1) [⟨#[115, 105, 122, 101]⟩, itoS (s.th.length : Int), itoS (s.fr.length : Int)] = some (⟨[], [], List.replicate s.th.length [], [], List.replicate s.th.length zport, [], [], []⟩, -1) := by
  rw [stepW_of (show lookI ⟨#[115, 105, 122, 101]⟩ = some 77 by decide +kernel), goes_size]
  unfold stepSize nI
  simp only [wI0, List.length_cons, List.length_nil, num_64 (small_64 (show s.th.length ≤ 1000000 by omega))]
  rw [if_pos trivial, if_pos ⟨by omega, by omega, rfl⟩, Int.toNat_natCast]
  rfl
 obtain ⟨q, hq⟩ := run_ports ⟨s.th, [], s.no, s.tr, [], [], [], []⟩ s.po [] 0 (-1) rfl (by omega) p1 hw.po
 have hn := run_nodes ⟨s.th, [], [], [], List.replicate s.th.length zport, [], [], []⟩ (-1) s.no [] 0 rfl (by rw [List.length_replicate]; omega) (by rw [List.length_replicate]; omega) n1
 have hc := run_cores s q hw w1 h5 h6 h7 s.sw 0 rfl (Nat.zero_le _)
 refine ⟨q, ?_⟩
 unfold linesOf headL
 rw [runW_append]
 show ((stepW (stZ, -1) _).bind (runW [_])).bind _ = _
 rw [hg, Option.bind_some]
 show ((stepW (stZ, -1) _).bind (runW [])).bind _ = _
 rw [hs]
 show runW _ _ = _
 rw [runW_append, run_things _ _ _ _ hw.th]
 show runW _ _ = _
 rw [runW_append]
 rw [h2] at hn
 rw [h3] at hq
 erw [hn]
 show runW _ _ = _
 rw [runW_append, run_branches _ _ _ _ hw.tr t1]
 show runW _ _ = _
 rw [runW_append]
 erw [hq]
 show runW _ _ = _
 rw [runW_append]
 have hc0 : s.cores 0 = (⟨s.th, [], s.no, s.tr, s.po, [], [], []⟩ : St) := rfl
 rw [hc0] at hc
 erw [hc]
 rw [Option.bind_some]
 show (stepW (s, q) _).bind (runW []) = _
 rw [he]
 rfl
/-- What is written is read again. -/
theorem read_back {s : St} (hw : s.wf) (hB : stateB s = true) : ∃ p, foldLines stepLine ((putT s).size + 1) (putT s) (stZ, -1) = some (s, p) := by
 obtain ⟨p, hp⟩ := run_all hw hB
 refine ⟨p, ?_⟩
 rw [fold_run (linesOf s) _ _ _ (put_data s) (good_lines s (fun l hl c hc => ?_)) (Nat.lt_succ_self _), hp]
 have hx := (stateB_all hB).2.1 l hl
 unfold nodeB at hx
 simp only [Bool.and_eq_true, Bool.not_eq_true', List.any_eq_false, Bool.not_eq_true] at hx
 exact hx.2 c hc
theorem parse_put {s : St} (hw : s.wf) (hB : stateB s = true) (h : ¬ ((putT s).size : Int) > 262144) : parseI (putT s) = (s, 0) := by
 obtain ⟨p, hp⟩ := read_back hw hB
 rw [parseI_some h hp, if_pos ⟨hB, rfl⟩]
theorem put_inj {s t : St} (hs : s.wf) (ht : t.wf) (hB : stateB s = true) (hC : stateB t = true) (h : putT s = putT t) : s = t := by
 obtain ⟨p, hp⟩ := read_back hs hB
 obtain ⟨q, hq⟩ := read_back ht hC
 rw [h, hq] at hp
 exact ((Prod.mk.inj (Option.some.inj hp)).1).symm
end Go.Proofs.YtmcjccigglekpaaGreatDoor.Given
namespace Go.Proofs.YtmcjccigglekpaaGreatDoor.Given
open Go Go.RowKit Go.Proofs Go.Proofs.YtmcjccigglekpaaGreatDoorW.PrintWords Go.Proofs.YtmcjccigglekpaaGreatDoorW.PrintLast Go.Proofs.YtmcjccigglekpaaGreatDoorW.PrintMore Go.Proofs.YtmcjccigglekpaaGreatDoor.P

/-- Rows of a state under way (cells cs of block sB), an arena of its own (cells d of block aB), the result's cell (block cB). -/
structure NS (B cB aB sB : Nat) (w0 : World) (col : Nat → Nat) (v cs : Rv) (d0 d1 : Value) (s : St) (w : World) : Prop where
 rows : Rows B sB col v s w
 ca : col aB = 8
 cc : col cB = 8
 bS : w.heap[sB]? = some (.cells #[cs.v0, cs.v1, cs.v2, cs.v3, cs.v4, cs.v5, cs.v6, cs.v7] 32 (0, 0))
 bA : w.heap[aB]? = some (.cells #[d0, d1] 25 (0, 0))
 bC : w.heap[cB]? = some (.cells #[.slice none 0 0, .slice none 0 0, .slice none 0 0, .slice none 0 0, .slice none 0 0, .slice none 0 0, .slice none 0 0, .slice none 0 0] 32 (0, 0))
 sc : sB ≠ cB
 bl : Below B w0 w
 lo : B ≤ cB ∧ B ≤ aB ∧ B ≤ sB
section
variable {B cB aB sB : Nat} {w0 : World} {col : Nat → Nat} {v cs : Rv} {d0 d1 : Value} {s : St} {w w1 : World}
theorem NS.drew (H : NS B cB aB sB w0 col v cs d0 d1 s w) : NS B cB aB sB w0 col v cs d0 d1 s w.drew := ⟨H.rows.below (below_drew (Below.refl _ _)), H.ca, H.cc, H.bS, H.bA, H.bC, H.sc, below_drew H.bl, H.lo⟩
theorem NS.drewN (H : NS B cB aB sB w0 col v cs d0 d1 s w) (n : Nat) : NS B cB aB sB w0 col v cs d0 d1 s (w.drewN n) := ⟨H.rows.below (below_drewN w n), H.ca, H.cc, H.bS, H.bA, H.bC, H.sc, pw_below_drewN H.bl n, H.lo⟩
theorem NS.alloc (H : NS B cB aB sB w0 col v cs d0 d1 s w) (o : Obj) : NS B cB aB sB w0 col v cs d0 d1 s (w.alloc o) := ⟨H.rows.below ((Below.refl _ _).alloc (Nat.le_refl _) _), H.ca, H.cc, blk_alloc H.bS _, blk_alloc H.bA _, blk_alloc H.bC _, H.sc, H.bl.alloc (Nat.le_trans (Nat.le_trans H.lo.1 (Nat.le_of_lt (blk_lt H.bC))) (Nat.le_refl _)) _, H.lo⟩
theorem NS.Bw (H : NS B cB aB sB w0 col v cs d0 d1 s w) : B ≤ w.heap.size := Nat.le_trans H.lo.1 (Nat.le_of_lt (blk_lt H.bC))
theorem NS.step0 (H : NS B cB aB sB w0 col v cs d0 d1 s w) {v1 : Value} {x' : List S70} (T : Kd.R k70 70 w1 B (fun k => newCol col w.heap.size 0 k = 0) v1 x') (hg : w.grownBy w1 v.v0.ownBlock) :
  NS B cB aB sB w0 (newCol col w.heap.size 0) { v with v0 := v1 } cs d0 d1 { s with th := x' } w1 := by
 have no : ∀ k, col k = 8 → some k ≠ v.v0.ownBlock := fun k hk e => by have h1 : col k = 0 := H.rows.r0.1 k e.symm; omega
 have rb := H.rows.but 0 (w1 := w1) (blk_lt H.bS) (fun k hk h3 _ => hg.block k hk (fun e => h3 (H.rows.r0.1 k e.symm)))
 have hB := H.Bw
 exact ⟨⟨rb.cr, T, rb.r1 (by decide), rb.r2 (by decide), rb.r3 (by decide), rb.r4 (by decide), rb.r5 (by decide), rb.r6 (by decide), rb.r7 (by decide)⟩, (newCol_lt (blk_lt H.bA)).trans H.ca, (newCol_lt (blk_lt H.bC)).trans H.cc, (hg.block _ (blk_lt H.bS) (no _ H.rows.cr)).trans H.bS, (hg.block _ (blk_lt H.bA) (no _ H.ca)).trans H.bA, (hg.block _ (blk_lt H.bC) (no _ H.cc)).trans H.bC, H.sc,
  H.bl.trans ⟨hg.os, hg.tape, hg.output, hg.size, fun k hk => hg.block k (by omega) (fun e => by have := Kd.R_base H.rows.r0 k e.symm; omega)⟩, H.lo⟩
theorem NS.free0 (H : NS B cB aB sB w0 col v cs d0 d1 s w) : Kd.R k70 70 w B (fun k => newCol col w.heap.size 0 k = 0) v.v0 s.th :=
 Kd.R_mono (Kd.R_bound H.rows.r0) (fun _ hk => (newCol_lt hk.2.2.1).trans hk.1)
theorem NS.store0 (H : NS B cB aB sB w0 col v cs d0 d1 s w) (u : Value) : NS B cB aB sB w0 col v { cs with v0 := u } d0 d1 s (w.setCell ⟨sB, 0, none⟩ u) := by
 have hA : aB ≠ sB := fun e => by have h1 := H.bA; rw [e, H.bS] at h1; injection h1 with h1; injection h1 with _ h1 _; exact absurd h1 (by decide)
 exact ⟨H.rows.setR 0 u, H.ca, H.cc, blk_put H.bS 0 u rfl, (Below.heap_setCell _ ⟨sB, 0, none⟩ _ _ hA).trans H.bA, (Below.heap_setCell _ ⟨sB, 0, none⟩ _ _ (Ne.symm H.sc)).trans H.bC, H.sc, H.bl.setCell (p := ⟨sB, 0, none⟩) H.lo.2.2 _, H.lo⟩
theorem NS.step1 (H : NS B cB aB sB w0 col v cs d0 d1 s w) {v1 : Value} {x' : List (List Int)} (T : Kd.S (Kd.slice 3 (Kd.int .i64)) 29 w1 B (fun k => newCol col w.heap.size 1 k = 1) v1 x') (hg : w.grownBy w1 v.v1.ownBlock) :
  NS B cB aB sB w0 (newCol col w.heap.size 1) { v with v1 := v1 } cs d0 d1 { s with fr := x' } w1 := by
 have no : ∀ k, col k = 8 → some k ≠ v.v1.ownBlock := fun k hk e => by have h1 : col k = 1 := (Kd.S_R H.rows.r1).1 k e.symm; omega
 have rb := H.rows.but 1 (w1 := w1) (blk_lt H.bS) (fun k hk h3 _ => hg.block k hk (fun e => h3 ((Kd.S_R H.rows.r1).1 k e.symm)))
 have hB := H.Bw
 exact ⟨⟨rb.cr, rb.r0 (by decide), T, rb.r2 (by decide), rb.r3 (by decide), rb.r4 (by decide), rb.r5 (by decide), rb.r6 (by decide), rb.r7 (by decide)⟩, (newCol_lt (blk_lt H.bA)).trans H.ca, (newCol_lt (blk_lt H.bC)).trans H.cc, (hg.block _ (blk_lt H.bS) (no _ H.rows.cr)).trans H.bS, (hg.block _ (blk_lt H.bA) (no _ H.ca)).trans H.bA, (hg.block _ (blk_lt H.bC) (no _ H.cc)).trans H.bC, H.sc,
  H.bl.trans ⟨hg.os, hg.tape, hg.output, hg.size, fun k hk => hg.block k (by omega) (fun e => by have := Kd.R_base (Kd.S_R H.rows.r1) k e.symm; omega)⟩, H.lo⟩
theorem NS.free1 (H : NS B cB aB sB w0 col v cs d0 d1 s w) : Kd.S (Kd.slice 3 (Kd.int .i64)) 29 w B (fun k => newCol col w.heap.size 1 k = 1) v.v1 s.fr :=
 Kd.S_mono (Kd.S_bound H.rows.r1) (fun _ hk => (newCol_lt hk.2.2.1).trans hk.1)
theorem NS.store1 (H : NS B cB aB sB w0 col v cs d0 d1 s w) (u : Value) : NS B cB aB sB w0 col v { cs with v1 := u } d0 d1 s (w.setCell ⟨sB, 1, none⟩ u) := by
 have hA : aB ≠ sB := fun e => by have h1 := H.bA; rw [e, H.bS] at h1; injection h1 with h1; injection h1 with _ h1 _; exact absurd h1 (by decide)
 exact ⟨H.rows.setR 1 u, H.ca, H.cc, blk_put H.bS 1 u rfl, (Below.heap_setCell _ ⟨sB, 1, none⟩ _ _ hA).trans H.bA, (Below.heap_setCell _ ⟨sB, 1, none⟩ _ _ (Ne.symm H.sc)).trans H.bC, H.sc, H.bl.setCell (p := ⟨sB, 1, none⟩) H.lo.2.2 _, H.lo⟩
theorem NS.step2 (H : NS B cB aB sB w0 col v cs d0 d1 s w) {v1 : Value} {x' : List (List S87)} (T : Kd.S (Kd.slice 87 k87) 56 w1 B (fun k => newCol col w.heap.size 2 k = 2) v1 x') (hg : w.grownBy w1 v.v2.ownBlock) :
  NS B cB aB sB w0 (newCol col w.heap.size 2) { v with v2 := v1 } cs d0 d1 { s with no := x' } w1 := by
 have no : ∀ k, col k = 8 → some k ≠ v.v2.ownBlock := fun k hk e => by have h1 : col k = 2 := (Kd.S_R H.rows.r2).1 k e.symm; omega
 have rb := H.rows.but 2 (w1 := w1) (blk_lt H.bS) (fun k hk h3 _ => hg.block k hk (fun e => h3 ((Kd.S_R H.rows.r2).1 k e.symm)))
 have hB := H.Bw
 exact ⟨⟨rb.cr, rb.r0 (by decide), rb.r1 (by decide), T, rb.r3 (by decide), rb.r4 (by decide), rb.r5 (by decide), rb.r6 (by decide), rb.r7 (by decide)⟩, (newCol_lt (blk_lt H.bA)).trans H.ca, (newCol_lt (blk_lt H.bC)).trans H.cc, (hg.block _ (blk_lt H.bS) (no _ H.rows.cr)).trans H.bS, (hg.block _ (blk_lt H.bA) (no _ H.ca)).trans H.bA, (hg.block _ (blk_lt H.bC) (no _ H.cc)).trans H.bC, H.sc,
  H.bl.trans ⟨hg.os, hg.tape, hg.output, hg.size, fun k hk => hg.block k (by omega) (fun e => by have := Kd.R_base (Kd.S_R H.rows.r2) k e.symm; omega)⟩, H.lo⟩
theorem NS.free2 (H : NS B cB aB sB w0 col v cs d0 d1 s w) : Kd.S (Kd.slice 87 k87) 56 w B (fun k => newCol col w.heap.size 2 k = 2) v.v2 s.no :=
 Kd.S_mono (Kd.S_bound H.rows.r2) (fun _ hk => (newCol_lt hk.2.2.1).trans hk.1)
theorem NS.store2 (H : NS B cB aB sB w0 col v cs d0 d1 s w) (u : Value) : NS B cB aB sB w0 col v { cs with v2 := u } d0 d1 s (w.setCell ⟨sB, 2, none⟩ u) := by
 have hA : aB ≠ sB := fun e => by have h1 := H.bA; rw [e, H.bS] at h1; injection h1 with h1; injection h1 with _ h1 _; exact absurd h1 (by decide)
 exact ⟨H.rows.setR 2 u, H.ca, H.cc, blk_put H.bS 2 u rfl, (Below.heap_setCell _ ⟨sB, 2, none⟩ _ _ hA).trans H.bA, (Below.heap_setCell _ ⟨sB, 2, none⟩ _ _ (Ne.symm H.sc)).trans H.bC, H.sc, H.bl.setCell (p := ⟨sB, 2, none⟩) H.lo.2.2 _, H.lo⟩
theorem NS.step3 (H : NS B cB aB sB w0 col v cs d0 d1 s w) {v1 : Value} {x' : List S76} (T : Kd.R k76 76 w1 B (fun k => newCol col w.heap.size 3 k = 3) v1 x') (hg : w.grownBy w1 v.v3.ownBlock) :
  NS B cB aB sB w0 (newCol col w.heap.size 3) { v with v3 := v1 } cs d0 d1 { s with tr := x' } w1 := by
 have no : ∀ k, col k = 8 → some k ≠ v.v3.ownBlock := fun k hk e => by have h1 : col k = 3 := H.rows.r3.1 k e.symm; omega
 have rb := H.rows.but 3 (w1 := w1) (blk_lt H.bS) (fun k hk h3 _ => hg.block k hk (fun e => h3 (H.rows.r3.1 k e.symm)))
 have hB := H.Bw
 exact ⟨⟨rb.cr, rb.r0 (by decide), rb.r1 (by decide), rb.r2 (by decide), T, rb.r4 (by decide), rb.r5 (by decide), rb.r6 (by decide), rb.r7 (by decide)⟩, (newCol_lt (blk_lt H.bA)).trans H.ca, (newCol_lt (blk_lt H.bC)).trans H.cc, (hg.block _ (blk_lt H.bS) (no _ H.rows.cr)).trans H.bS, (hg.block _ (blk_lt H.bA) (no _ H.ca)).trans H.bA, (hg.block _ (blk_lt H.bC) (no _ H.cc)).trans H.bC, H.sc,
  H.bl.trans ⟨hg.os, hg.tape, hg.output, hg.size, fun k hk => hg.block k (by omega) (fun e => by have := Kd.R_base H.rows.r3 k e.symm; omega)⟩, H.lo⟩
theorem NS.free3 (H : NS B cB aB sB w0 col v cs d0 d1 s w) : Kd.R k76 76 w B (fun k => newCol col w.heap.size 3 k = 3) v.v3 s.tr :=
 Kd.R_mono (Kd.R_bound H.rows.r3) (fun _ hk => (newCol_lt hk.2.2.1).trans hk.1)
theorem NS.store3 (H : NS B cB aB sB w0 col v cs d0 d1 s w) (u : Value) : NS B cB aB sB w0 col v { cs with v3 := u } d0 d1 s (w.setCell ⟨sB, 3, none⟩ u) := by
 have hA : aB ≠ sB := fun e => by have h1 := H.bA; rw [e, H.bS] at h1; injection h1 with h1; injection h1 with _ h1 _; exact absurd h1 (by decide)
 exact ⟨H.rows.setR 3 u, H.ca, H.cc, blk_put H.bS 3 u rfl, (Below.heap_setCell _ ⟨sB, 3, none⟩ _ _ hA).trans H.bA, (Below.heap_setCell _ ⟨sB, 3, none⟩ _ _ (Ne.symm H.sc)).trans H.bC, H.sc, H.bl.setCell (p := ⟨sB, 3, none⟩) H.lo.2.2 _, H.lo⟩
theorem NS.step4 (H : NS B cB aB sB w0 col v cs d0 d1 s w) {v1 : Value} {x' : List S59} (T : Kd.S k59 59 w1 B (fun k => newCol col w.heap.size 4 k = 4) v1 x') (hg : w.grownBy w1 v.v4.ownBlock) :
  NS B cB aB sB w0 (newCol col w.heap.size 4) { v with v4 := v1 } cs d0 d1 { s with po := x' } w1 := by
 have no : ∀ k, col k = 8 → some k ≠ v.v4.ownBlock := fun k hk e => by have h1 : col k = 4 := (Kd.S_R H.rows.r4).1 k e.symm; omega
 have rb := H.rows.but 4 (w1 := w1) (blk_lt H.bS) (fun k hk h3 _ => hg.block k hk (fun e => h3 ((Kd.S_R H.rows.r4).1 k e.symm)))
 have hB := H.Bw
 exact ⟨⟨rb.cr, rb.r0 (by decide), rb.r1 (by decide), rb.r2 (by decide), rb.r3 (by decide), T, rb.r5 (by decide), rb.r6 (by decide), rb.r7 (by decide)⟩, (newCol_lt (blk_lt H.bA)).trans H.ca, (newCol_lt (blk_lt H.bC)).trans H.cc, (hg.block _ (blk_lt H.bS) (no _ H.rows.cr)).trans H.bS, (hg.block _ (blk_lt H.bA) (no _ H.ca)).trans H.bA, (hg.block _ (blk_lt H.bC) (no _ H.cc)).trans H.bC, H.sc,
  H.bl.trans ⟨hg.os, hg.tape, hg.output, hg.size, fun k hk => hg.block k (by omega) (fun e => by have := Kd.R_base (Kd.S_R H.rows.r4) k e.symm; omega)⟩, H.lo⟩
theorem NS.free4 (H : NS B cB aB sB w0 col v cs d0 d1 s w) : Kd.S k59 59 w B (fun k => newCol col w.heap.size 4 k = 4) v.v4 s.po :=
 Kd.S_mono (Kd.S_bound H.rows.r4) (fun _ hk => (newCol_lt hk.2.2.1).trans hk.1)
theorem NS.store4 (H : NS B cB aB sB w0 col v cs d0 d1 s w) (u : Value) : NS B cB aB sB w0 col v { cs with v4 := u } d0 d1 s (w.setCell ⟨sB, 4, none⟩ u) := by
 have hA : aB ≠ sB := fun e => by have h1 := H.bA; rw [e, H.bS] at h1; injection h1 with h1; injection h1 with _ h1 _; exact absurd h1 (by decide)
 exact ⟨H.rows.setR 4 u, H.ca, H.cc, blk_put H.bS 4 u rfl, (Below.heap_setCell _ ⟨sB, 4, none⟩ _ _ hA).trans H.bA, (Below.heap_setCell _ ⟨sB, 4, none⟩ _ _ (Ne.symm H.sc)).trans H.bC, H.sc, H.bl.setCell (p := ⟨sB, 4, none⟩) H.lo.2.2 _, H.lo⟩
theorem NS.step5 (H : NS B cB aB sB w0 col v cs d0 d1 s w) {v1 : Value} {x' : List (List Int)} (T : Kd.S (Kd.slice 3 (Kd.int .i64)) 29 w1 B (fun k => newCol col w.heap.size 5 k = 5) v1 x') (hg : w.grownBy w1 v.v5.ownBlock) :
  NS B cB aB sB w0 (newCol col w.heap.size 5) { v with v5 := v1 } cs d0 d1 { s with li := x' } w1 := by
 have no : ∀ k, col k = 8 → some k ≠ v.v5.ownBlock := fun k hk e => by have h1 : col k = 5 := (Kd.S_R H.rows.r5).1 k e.symm; omega
 have rb := H.rows.but 5 (w1 := w1) (blk_lt H.bS) (fun k hk h3 _ => hg.block k hk (fun e => h3 ((Kd.S_R H.rows.r5).1 k e.symm)))
 have hB := H.Bw
 exact ⟨⟨rb.cr, rb.r0 (by decide), rb.r1 (by decide), rb.r2 (by decide), rb.r3 (by decide), rb.r4 (by decide), T, rb.r6 (by decide), rb.r7 (by decide)⟩, (newCol_lt (blk_lt H.bA)).trans H.ca, (newCol_lt (blk_lt H.bC)).trans H.cc, (hg.block _ (blk_lt H.bS) (no _ H.rows.cr)).trans H.bS, (hg.block _ (blk_lt H.bA) (no _ H.ca)).trans H.bA, (hg.block _ (blk_lt H.bC) (no _ H.cc)).trans H.bC, H.sc,
  H.bl.trans ⟨hg.os, hg.tape, hg.output, hg.size, fun k hk => hg.block k (by omega) (fun e => by have := Kd.R_base (Kd.S_R H.rows.r5) k e.symm; omega)⟩, H.lo⟩
theorem NS.free5 (H : NS B cB aB sB w0 col v cs d0 d1 s w) : Kd.S (Kd.slice 3 (Kd.int .i64)) 29 w B (fun k => newCol col w.heap.size 5 k = 5) v.v5 s.li :=
 Kd.S_mono (Kd.S_bound H.rows.r5) (fun _ hk => (newCol_lt hk.2.2.1).trans hk.1)
theorem NS.store5 (H : NS B cB aB sB w0 col v cs d0 d1 s w) (u : Value) : NS B cB aB sB w0 col v { cs with v5 := u } d0 d1 s (w.setCell ⟨sB, 5, none⟩ u) := by
 have hA : aB ≠ sB := fun e => by have h1 := H.bA; rw [e, H.bS] at h1; injection h1 with h1; injection h1 with _ h1 _; exact absurd h1 (by decide)
 exact ⟨H.rows.setR 5 u, H.ca, H.cc, blk_put H.bS 5 u rfl, (Below.heap_setCell _ ⟨sB, 5, none⟩ _ _ hA).trans H.bA, (Below.heap_setCell _ ⟨sB, 5, none⟩ _ _ (Ne.symm H.sc)).trans H.bC, H.sc, H.bl.setCell (p := ⟨sB, 5, none⟩) H.lo.2.2 _, H.lo⟩
theorem NS.step6 (H : NS B cB aB sB w0 col v cs d0 d1 s w) {v1 : Value} {x' : List Int} (T : Kd.R (Kd.int .i64) 3 w1 B (fun k => newCol col w.heap.size 6 k = 6) v1 x') (hg : w.grownBy w1 v.v6.ownBlock) :
  NS B cB aB sB w0 (newCol col w.heap.size 6) { v with v6 := v1 } cs d0 d1 { s with ro := x' } w1 := by
 have no : ∀ k, col k = 8 → some k ≠ v.v6.ownBlock := fun k hk e => by have h1 : col k = 6 := H.rows.r6.1 k e.symm; omega
 have rb := H.rows.but 6 (w1 := w1) (blk_lt H.bS) (fun k hk h3 _ => hg.block k hk (fun e => h3 (H.rows.r6.1 k e.symm)))
 have hB := H.Bw
 exact ⟨⟨rb.cr, rb.r0 (by decide), rb.r1 (by decide), rb.r2 (by decide), rb.r3 (by decide), rb.r4 (by decide), rb.r5 (by decide), T, rb.r7 (by decide)⟩, (newCol_lt (blk_lt H.bA)).trans H.ca, (newCol_lt (blk_lt H.bC)).trans H.cc, (hg.block _ (blk_lt H.bS) (no _ H.rows.cr)).trans H.bS, (hg.block _ (blk_lt H.bA) (no _ H.ca)).trans H.bA, (hg.block _ (blk_lt H.bC) (no _ H.cc)).trans H.bC, H.sc,
  H.bl.trans ⟨hg.os, hg.tape, hg.output, hg.size, fun k hk => hg.block k (by omega) (fun e => by have := Kd.R_base H.rows.r6 k e.symm; omega)⟩, H.lo⟩
theorem NS.free6 (H : NS B cB aB sB w0 col v cs d0 d1 s w) : Kd.R (Kd.int .i64) 3 w B (fun k => newCol col w.heap.size 6 k = 6) v.v6 s.ro :=
 Kd.R_mono (Kd.R_bound H.rows.r6) (fun _ hk => (newCol_lt hk.2.2.1).trans hk.1)
theorem NS.store6 (H : NS B cB aB sB w0 col v cs d0 d1 s w) (u : Value) : NS B cB aB sB w0 col v { cs with v6 := u } d0 d1 s (w.setCell ⟨sB, 6, none⟩ u) := by
 have hA : aB ≠ sB := fun e => by have h1 := H.bA; rw [e, H.bS] at h1; injection h1 with h1; injection h1 with _ h1 _; exact absurd h1 (by decide)
 exact ⟨H.rows.setR 6 u, H.ca, H.cc, blk_put H.bS 6 u rfl, (Below.heap_setCell _ ⟨sB, 6, none⟩ _ _ hA).trans H.bA, (Below.heap_setCell _ ⟨sB, 6, none⟩ _ _ (Ne.symm H.sc)).trans H.bC, H.sc, H.bl.setCell (p := ⟨sB, 6, none⟩) H.lo.2.2 _, H.lo⟩
theorem NS.step7 (H : NS B cB aB sB w0 col v cs d0 d1 s w) {v1 : Value} {x' : List S82} (T : Kd.R k82 82 w1 B (fun k => newCol col w.heap.size 7 k = 7) v1 x') (hg : w.grownBy w1 v.v7.ownBlock) :
  NS B cB aB sB w0 (newCol col w.heap.size 7) { v with v7 := v1 } cs d0 d1 { s with sw := x' } w1 := by
 have no : ∀ k, col k = 8 → some k ≠ v.v7.ownBlock := fun k hk e => by have h1 : col k = 7 := H.rows.r7.1 k e.symm; omega
 have rb := H.rows.but 7 (w1 := w1) (blk_lt H.bS) (fun k hk h3 _ => hg.block k hk (fun e => h3 (H.rows.r7.1 k e.symm)))
 have hB := H.Bw
 exact ⟨⟨rb.cr, rb.r0 (by decide), rb.r1 (by decide), rb.r2 (by decide), rb.r3 (by decide), rb.r4 (by decide), rb.r5 (by decide), rb.r6 (by decide), T⟩, (newCol_lt (blk_lt H.bA)).trans H.ca, (newCol_lt (blk_lt H.bC)).trans H.cc, (hg.block _ (blk_lt H.bS) (no _ H.rows.cr)).trans H.bS, (hg.block _ (blk_lt H.bA) (no _ H.ca)).trans H.bA, (hg.block _ (blk_lt H.bC) (no _ H.cc)).trans H.bC, H.sc,
  H.bl.trans ⟨hg.os, hg.tape, hg.output, hg.size, fun k hk => hg.block k (by omega) (fun e => by have := Kd.R_base H.rows.r7 k e.symm; omega)⟩, H.lo⟩
theorem NS.free7 (H : NS B cB aB sB w0 col v cs d0 d1 s w) : Kd.R k82 82 w B (fun k => newCol col w.heap.size 7 k = 7) v.v7 s.sw :=
 Kd.R_mono (Kd.R_bound H.rows.r7) (fun _ hk => (newCol_lt hk.2.2.1).trans hk.1)
theorem NS.store7 (H : NS B cB aB sB w0 col v cs d0 d1 s w) (u : Value) : NS B cB aB sB w0 col v { cs with v7 := u } d0 d1 s (w.setCell ⟨sB, 7, none⟩ u) := by
 have hA : aB ≠ sB := fun e => by have h1 := H.bA; rw [e, H.bS] at h1; injection h1 with h1; injection h1 with _ h1 _; exact absurd h1 (by decide)
 exact ⟨H.rows.setR 7 u, H.ca, H.cc, blk_put H.bS 7 u rfl, (Below.heap_setCell _ ⟨sB, 7, none⟩ _ _ hA).trans H.bA, (Below.heap_setCell _ ⟨sB, 7, none⟩ _ _ (Ne.symm H.sc)).trans H.bC, H.sc, H.bl.setCell (p := ⟨sB, 7, none⟩) H.lo.2.2 _, H.lo⟩
end
end Go.Proofs.YtmcjccigglekpaaGreatDoor.Given
namespace Go.Proofs.YtmcjccigglekpaaGreatDoor.Given
open Go Go.RowKit Go.Proofs Go.Proofs.YtmcjccigglekpaaGreatDoorW.PrintWords Go.Proofs.YtmcjccigglekpaaGreatDoorW.PrintLast Go.Proofs.YtmcjccigglekpaaGreatDoorW.PrintMore Go.Proofs.YtmcjccigglekpaaGreatDoor.P

def thingF : S70 := ⟨0, 0, 0, 0, 0, 0, -1, 0⟩
/-- Behind the arena's making: its lists, the result's cell. -/
structure NA (B cB aB : Nat) (w0 : World) (v0 v1 : Value) (fr : List (List Int)) (w : World) : Prop where
 r0 : Kd.R k70 70 w B (fun _ => True) v0 [thingF, thingF, thingF]
 r1 : Kd.S (Kd.slice 3 (Kd.int .i64)) 29 w B (fun _ => True) v1 fr
 bA : w.heap[aB]? = some (.cells #[v0, v1] 25 (0, 0))
 bC : w.heap[cB]? = some (.cells #[.slice none 0 0, .slice none 0 0, .slice none 0 0, .slice none 0 0, .slice none 0 0, .slice none 0 0, .slice none 0 0, .slice none 0 0] 32 (0, 0))
 bl : Below B w0 w
 lo : B ≤ cB ∧ B ≤ aB
/-- A block's colour, by its type. -/
def colT (w : World) (k : Nat) : Nat := match w.heap[k]? with
 | some (.cells _ T _) => if T = 70 then 0 else if T = 29 ∨ T = 3 then 1 else 8
 | _ => 8
theorem colT_at {w : World} {k T : Nat} {cs : Array Value} {z : Nat × Nat} (h : w.heap[k]? = some (.cells cs T z)) : colT w k = if T = 70 then 0 else if T = 29 ∨ T = 3 then 1 else 8 := by
 unfold colT; rw [h]
theorem NS.start {B cB aB : Nat} {w0 : World} {v0 v1 : Value} {fr : List (List Int)} {w : World} (H : NA B cB aB w0 v0 v1 fr w) :
  NS B cB aB w.heap.size w0 (colT (w.alloc (.cells #[.slice none 0 0, .slice none 0 0, .slice none 0 0, .slice none 0 0, .slice none 0 0, .slice none 0 0, .slice none 0 0, .slice none 0 0] 32))) ⟨v0, v1, .slice none 0 0, .slice none 0 0, .slice none 0 0, .slice none 0 0, .slice none 0 0, .slice none 0 0⟩ rvZ v0 v1 ⟨[thingF, thingF, thingF], fr, [], [], [], [], [], []⟩ (w.alloc (.cells #[.slice none 0 0, .slice none 0 0, .slice none 0 0, .slice none 0 0, .slice none 0 0, .slice none 0 0, .slice none 0 0, .slice none 0 0] 32)) := by
 have h70 : ∀ q, q ∈ 70 :: k70.E → q = 70 := by decide
 have h29 : ∀ q, q ∈ 29 :: (Kd.slice 3 (Kd.int .i64)).E → q = 29 ∨ q = 3 := by decide
 have hlt := blk_lt H.bC
 have hB : B ≤ w.heap.size := Nat.le_trans H.lo.1 (Nat.le_of_lt hlt)
 refine ⟨⟨?_, ?_, ?_, S_nil_ _ _ _ _ _, Kd.R_nil _ _ _ _ _, S_nil_ _ _ _ _ _, S_nil_ _ _ _ _ _, Kd.R_nil _ _ _ _ _, Kd.R_nil _ _ _ _ _⟩, ?_, ?_, blk_new _ _, blk_alloc H.bA _, blk_alloc H.bC _, by omega, H.bl.alloc hB _, ⟨H.lo.1, H.lo.2, hB⟩⟩
 ·rw [colT_at (blk_new _ _)]; rfl
 ·refine Kd.R_mono (Kd.R_bound (Kd.R_alloc H.r0 _)) (fun k hk => ?_)
  obtain ⟨_, _, _, q, hq, cs, hc⟩ := hk
  obtain rfl := h70 q hq
  rw [colT_at hc]; rfl
 ·refine Kd.S_mono (Kd.S_bound (Kd.S_alloc H.r1 _)) (fun k hk => ?_)
  obtain ⟨_, _, _, q, hq, cs, hc⟩ := hk
  have hq2 := h29 q hq
  rw [colT_at hc]
  rcases hq2 with rfl | rfl <;> rfl
 ·rw [colT_at (blk_alloc H.bA _)]; rfl
 ·rw [colT_at (blk_alloc H.bC _)]; rfl
end Go.Proofs.YtmcjccigglekpaaGreatDoor.Given
namespace Go.Proofs.YtmcjccigglekpaaGreatDoor.Given
open Go Go.RowKit Go.Proofs Go.Proofs.YtmcjccigglekpaaGreatDoorW.PrintWords Go.Proofs.YtmcjccigglekpaaGreatDoorW.PrintLast Go.Proofs.YtmcjccigglekpaaGreatDoorW.PrintMore Go.Proofs.YtmcjccigglekpaaGreatDoor.P

theorem thing_cells {W : World} {B g m cap : Nat} {ok : Nat → Prop} {xs : List S70} (h : Kd.R k70 70 W B ok (.slice (some ⟨g, 0, none⟩) m cap) xs) (k : Nat) (hk : k < m) : (∃ u, W.cell? ⟨g, k * 8 + 0, none⟩ = some u) ∧ (∃ u, W.cell? ⟨g, k * 8 + 1, none⟩ = some u) ∧ (∃ u, W.cell? ⟨g, k * 8 + 2, none⟩ = some u) ∧ (∃ u, W.cell? ⟨g, k * 8 + 3, none⟩ = some u) ∧ (∃ u, W.cell? ⟨g, k * 8 + 4, none⟩ = some u) ∧ (∃ u, W.cell? ⟨g, k * 8 + 5, none⟩ = some u) ∧ (∃ u, W.cell? ⟨g, k * 8 + 6, none⟩ = some u) ∧ (∃ u, W.cell? ⟨g, k * 8 + 7, none⟩ = some u) ∧ W.frozen? ⟨g, k * 8 + 0, none⟩ = false ∧ W.frozen? ⟨g, k * 8 + 1, none⟩ = false ∧ W.frozen? ⟨g, k * 8 + 2, none⟩ = false ∧ W.frozen? ⟨g, k * 8 + 3, none⟩ = false ∧ W.frozen? ⟨g, k * 8 + 4, none⟩ = false ∧ W.frozen? ⟨g, k * 8 + 5, none⟩ = false ∧ W.frozen? ⟨g, k * 8 + 6, none⟩ = false ∧ W.frozen? ⟨g, k * 8 + 7, none⟩ = false := by
 obtain ⟨c, hcl, _, hcc, hfr⟩ := Kd.R_elem h thingF (k : Int) (by omega) (by omega)
 have hcn : c.length = 8 := hcl
 rw [Int.toNat_natCast] at hcc hfr
 exact ⟨⟨_, hcc 0 _ (List.getElem?_eq_getElem (by omega))⟩, ⟨_, hcc 1 _ (List.getElem?_eq_getElem (by omega))⟩, ⟨_, hcc 2 _ (List.getElem?_eq_getElem (by omega))⟩, ⟨_, hcc 3 _ (List.getElem?_eq_getElem (by omega))⟩, ⟨_, hcc 4 _ (List.getElem?_eq_getElem (by omega))⟩, ⟨_, hcc 5 _ (List.getElem?_eq_getElem (by omega))⟩, ⟨_, hcc 6 _ (List.getElem?_eq_getElem (by omega))⟩, ⟨_, hcc 7 _ (List.getElem?_eq_getElem (by omega))⟩, hfr 0, hfr 1, hfr 2, hfr 3, hfr 4, hfr 5, hfr 6, hfr 7⟩
theorem thing_put {W : World} {B g m cap : Nat} {ok : Nat → Prop} {xs : List S70} (h : Kd.R k70 70 W B ok (.slice (some ⟨g, 0, none⟩) m cap) xs) (k : Nat) (hk : k < m) (x : S70) :
  Kd.R k70 70 ((((((((W.setCell ⟨g, k * 8 + 0, none⟩ (.int .i64 x.f0)).setCell ⟨g, k * 8 + 1, none⟩ (.int .i64 x.f1)).setCell ⟨g, k * 8 + 2, none⟩ (.int .i64 x.f2)).setCell ⟨g, k * 8 + 3, none⟩ (.int .i64 x.f3)).setCell ⟨g, k * 8 + 4, none⟩ (.int .i64 x.f4)).setCell ⟨g, k * 8 + 5, none⟩ (.int .i64 x.f5)).setCell ⟨g, k * 8 + 6, none⟩ (.int .i64 x.f6)).setCell ⟨g, k * 8 + 7, none⟩ (.int .i64 x.f7)) B ok (.slice (some ⟨g, 0, none⟩) m cap) (xs.set k x) ∧ W.grownBy ((((((((W.setCell ⟨g, k * 8 + 0, none⟩ (.int .i64 x.f0)).setCell ⟨g, k * 8 + 1, none⟩ (.int .i64 x.f1)).setCell ⟨g, k * 8 + 2, none⟩ (.int .i64 x.f2)).setCell ⟨g, k * 8 + 3, none⟩ (.int .i64 x.f3)).setCell ⟨g, k * 8 + 4, none⟩ (.int .i64 x.f4)).setCell ⟨g, k * 8 + 5, none⟩ (.int .i64 x.f5)).setCell ⟨g, k * 8 + 6, none⟩ (.int .i64 x.f6)).setCell ⟨g, k * 8 + 7, none⟩ (.int .i64 x.f7)) (some g) := by
 obtain ⟨c, hcl, _, hcc, _⟩ := Kd.R_elem h thingF (k : Int) (by omega) (by omega)
 have hcn : c.length = 8 := hcl
 have h2 := Kd.R_seg h (k : Int) (by omega) (by omega) (seg := [Value.int .i64 x.f0, .int .i64 x.f1, .int .i64 x.f2, .int .i64 x.f3, .int .i64 x.f4, .int .i64 x.f5, .int .i64 x.f6, .int .i64 x.f7]) (j := 0) hcl hcc (show 0 + 8 ≤ 8 by omega) (x' := x) (okp := fun _ => False) (by
  have hz : c.take 0 ++ [Value.int .i64 x.f0, .int .i64 x.f1, .int .i64 x.f2, .int .i64 x.f3, .int .i64 x.f4, .int .i64 x.f5, .int .i64 x.f6, .int .i64 x.f7] ++ c.drop (0 + [Value.int .i64 x.f0, .int .i64 x.f1, .int .i64 x.f2, .int .i64 x.f3, .int .i64 x.f4, .int .i64 x.f5, .int .i64 x.f6, .int .i64 x.f7].length) = [Value.int .i64 x.f0, .int .i64 x.f1, .int .i64 x.f2, .int .i64 x.f3, .int .i64 x.f4, .int .i64 x.f5, .int .i64 x.f6, .int .i64 x.f7] := by
   match c, hcn with
   | [y0, y1, y2, y3, y4, y5, y6, y7], _ => rfl
  rw [hz]; exact k70_mkM _ _ _ x) (fun _ hk => hk.elim)
 rw [Int.toNat_natCast] at h2
 exact h2
theorem capr_cells {W : World} {B g m cap : Nat} {ok : Nat → Prop} {xs : List S87} (h : Kd.R k87 87 W B ok (.slice (some ⟨g, 0, none⟩) m cap) xs) (k : Nat) (hk : k < m) : (∃ u, W.cell? ⟨g, k * 5 + 0, none⟩ = some u) ∧ (∃ u, W.cell? ⟨g, k * 5 + 1, none⟩ = some u) ∧ (∃ u, W.cell? ⟨g, k * 5 + 2, none⟩ = some u) ∧ (∃ u, W.cell? ⟨g, k * 5 + 3, none⟩ = some u) ∧ (∃ u, W.cell? ⟨g, k * 5 + 4, none⟩ = some u) ∧ W.frozen? ⟨g, k * 5 + 0, none⟩ = false ∧ W.frozen? ⟨g, k * 5 + 1, none⟩ = false ∧ W.frozen? ⟨g, k * 5 + 2, none⟩ = false ∧ W.frozen? ⟨g, k * 5 + 3, none⟩ = false ∧ W.frozen? ⟨g, k * 5 + 4, none⟩ = false := by
 obtain ⟨c, hcl, _, hcc, hfr⟩ := Kd.R_elem h zcap (k : Int) (by omega) (by omega)
 have hcn : c.length = 5 := hcl
 rw [Int.toNat_natCast] at hcc hfr
 exact ⟨⟨_, hcc 0 _ (List.getElem?_eq_getElem (by omega))⟩, ⟨_, hcc 1 _ (List.getElem?_eq_getElem (by omega))⟩, ⟨_, hcc 2 _ (List.getElem?_eq_getElem (by omega))⟩, ⟨_, hcc 3 _ (List.getElem?_eq_getElem (by omega))⟩, ⟨_, hcc 4 _ (List.getElem?_eq_getElem (by omega))⟩, hfr 0, hfr 1, hfr 2, hfr 3, hfr 4⟩
theorem capr_put {W : World} {B g m cap : Nat} {ok : Nat → Prop} {xs : List S87} (h : Kd.R k87 87 W B ok (.slice (some ⟨g, 0, none⟩) m cap) xs) (k : Nat) (hk : k < m) (x : S87) :
  Kd.R k87 87 (((((W.setCell ⟨g, k * 5 + 0, none⟩ (.int .i64 x.f0)).setCell ⟨g, k * 5 + 1, none⟩ (.int .i64 x.f1)).setCell ⟨g, k * 5 + 2, none⟩ (.int .i64 x.f2)).setCell ⟨g, k * 5 + 3, none⟩ (.int .i64 x.f3)).setCell ⟨g, k * 5 + 4, none⟩ (.int .i64 x.f4)) B ok (.slice (some ⟨g, 0, none⟩) m cap) (xs.set k x) ∧ W.grownBy (((((W.setCell ⟨g, k * 5 + 0, none⟩ (.int .i64 x.f0)).setCell ⟨g, k * 5 + 1, none⟩ (.int .i64 x.f1)).setCell ⟨g, k * 5 + 2, none⟩ (.int .i64 x.f2)).setCell ⟨g, k * 5 + 3, none⟩ (.int .i64 x.f3)).setCell ⟨g, k * 5 + 4, none⟩ (.int .i64 x.f4)) (some g) := by
 obtain ⟨c, hcl, _, hcc, _⟩ := Kd.R_elem h zcap (k : Int) (by omega) (by omega)
 have hcn : c.length = 5 := hcl
 have h2 := Kd.R_seg h (k : Int) (by omega) (by omega) (seg := [Value.int .i64 x.f0, .int .i64 x.f1, .int .i64 x.f2, .int .i64 x.f3, .int .i64 x.f4]) (j := 0) hcl hcc (show 0 + 5 ≤ 5 by omega) (x' := x) (okp := fun _ => False) (by
  have hz : c.take 0 ++ [Value.int .i64 x.f0, .int .i64 x.f1, .int .i64 x.f2, .int .i64 x.f3, .int .i64 x.f4] ++ c.drop (0 + [Value.int .i64 x.f0, .int .i64 x.f1, .int .i64 x.f2, .int .i64 x.f3, .int .i64 x.f4].length) = [Value.int .i64 x.f0, .int .i64 x.f1, .int .i64 x.f2, .int .i64 x.f3, .int .i64 x.f4] := by
   match c, hcn with
   | [y0, y1, y2, y3, y4], _ => rfl
  rw [hz]; exact k87_mkM _ _ _ x) (fun _ hk => hk.elim)
 rw [Int.toNat_natCast] at h2
 exact h2
end Go.Proofs.YtmcjccigglekpaaGreatDoor.Given
namespace Go.Proofs.YtmcjccigglekpaaGreatDoor.Given
open Go Go.RowKit Go.Proofs Go.Proofs.YtmcjccigglekpaaGreatDoorW.PrintWords Go.Proofs.YtmcjccigglekpaaGreatDoorW.PrintLast Go.Proofs.YtmcjccigglekpaaGreatDoorW.PrintMore Go.Proofs.YtmcjccigglekpaaGreatDoor.P

section
variable {B cB aB sB g m cap : Nat} {w0 : World} {col : Nat → Nat} {v cs : Rv} {d0 d1 : Value} {s : St} {w w1 : World}
/-- A thing is put. -/
theorem NS.putTh (H : NS B cB aB sB w0 col v cs d0 d1 s w) (hv : v.v0 = .slice (some ⟨g, 0, none⟩) m cap) (k : Nat) (hk : k < m) (x : S70) :
  NS B cB aB sB w0 (newCol col w.heap.size 0) v cs d0 d1 { s with th := s.th.set k x } ((((((((w.setCell ⟨g, k * 8 + 0, none⟩ (.int .i64 x.f0)).setCell ⟨g, k * 8 + 1, none⟩ (.int .i64 x.f1)).setCell ⟨g, k * 8 + 2, none⟩ (.int .i64 x.f2)).setCell ⟨g, k * 8 + 3, none⟩ (.int .i64 x.f3)).setCell ⟨g, k * 8 + 4, none⟩ (.int .i64 x.f4)).setCell ⟨g, k * 8 + 5, none⟩ (.int .i64 x.f5)).setCell ⟨g, k * 8 + 6, none⟩ (.int .i64 x.f6)).setCell ⟨g, k * 8 + 7, none⟩ (.int .i64 x.f7)) := by
 have h0 := H.free0
 rw [hv] at h0
 have h1 := thing_put h0 k hk x
 have h2 := H.step0 (v1 := v.v0) (hv ▸ h1.1) (by rw [hv]; exact h1.2)
 exact h2
theorem NS.stepB (H : NS B cB aB sB w0 col v cs d0 d1 s w) {v1 : Value} {x' : List (List S87)} (T : Kd.S (Kd.slice 87 k87) 56 w1 B (fun k => newCol col w.heap.size 2 k = 2) v1 x') (F : But (fun k => col k = 2 ∧ B ≤ k) w w1) :
  NS B cB aB sB w0 (newCol col w.heap.size 2) { v with v2 := v1 } cs d0 d1 { s with no := x' } w1 := by
 have no : ∀ k, col k = 8 → ¬ (col k = 2 ∧ B ≤ k) := fun k hk e => by rw [hk] at e; cases e.1
 have rb := H.rows.but 2 (w1 := w1) (blk_lt H.bS) (fun k hk h3 _ => F.block k hk (fun e => h3 e.1))
 have hB := H.Bw
 exact ⟨⟨rb.cr, rb.r0 (by decide), rb.r1 (by decide), T, rb.r3 (by decide), rb.r4 (by decide), rb.r5 (by decide), rb.r6 (by decide), rb.r7 (by decide)⟩, (newCol_lt (blk_lt H.bA)).trans H.ca, (newCol_lt (blk_lt H.bC)).trans H.cc, (F.block _ (blk_lt H.bS) (no _ H.rows.cr)).trans H.bS, (F.block _ (blk_lt H.bA) (no _ H.ca)).trans H.bA, (F.block _ (blk_lt H.bC) (no _ H.cc)).trans H.bC, H.sc,
  H.bl.trans (F.toBelow hB (fun k hk => hk.2)), H.lo⟩
/-- A row made is laid into the list of nodes. -/
theorem NS.putNo (H : NS B cB aB sB w0 col v cs d0 d1 s w) (hv : v.v2 = .slice (some ⟨g, 0, none⟩) m cap) (k : Nat) (hk : k < m) (hb : Below w.heap.size w w1) {u : Value} {x : List S87} (hu : Kd.R k87 87 w1 w.heap.size (fun _ => True) u x) :
  (∃ q, w1.cell? ⟨g, k, none⟩ = some q ∧ w1.frozen? ⟨g, k, none⟩ = false) ∧ NS B cB aB sB w0 (newCol col w.heap.size 2) v cs d0 d1 { s with no := s.no.set k x } (w1.setCell ⟨g, k, none⟩ u) := by
 have hBw := H.Bw
 have hS : Kd.S (Kd.slice 87 k87) 56 w1 B (fun j => newCol col w.heap.size 2 j = 2 ∧ ¬ w.heap.size ≤ j) (.slice (some ⟨g, 0, none⟩) m cap) s.no := by
  rw [← hv]
  exact Kd.S_mono (Kd.S_below (Kd.S_bound H.rows.r2) hb) (fun j hj => ⟨(newCol_lt hj.2.2.1).trans hj.1, by have := hj.2.2.1; omega⟩)
 have hgl : g < w.heap.size := Kd.R_lt (Kd.S_R H.rows.r2) g (by rw [hv]; simp [Value.ownBlock])
 have hgc : col g = 2 := (Kd.S_R H.rows.r2).1 g (by rw [hv]; simp [Value.ownBlock])
 have hgB : B ≤ g := Kd.R_base (Kd.S_R H.rows.r2) g (by rw [hv]; simp [Value.ownBlock])
 have T := S_put1 hS k hk (Kd.R_mono (Kd.R_lower (Kd.R_bound hu) hBw) (ok' := fun j => w.heap.size ≤ j) (fun j hj => hj.2.1)) (fun j hj => ⟨newCol_ge hj, by omega⟩)
 have F : But (fun k => col k = 2 ∧ B ≤ k) w (w1.setCell ⟨g, k, none⟩ u) := (But.of_below hb).set k u (.inl ⟨hgc, hgB⟩)
 have h2 := H.stepB (v1 := v.v2) (hv ▸ T) F
 exact ⟨S_cell1 hS k hk, h2⟩
/-- A slot of a node is put. -/
theorem NS.slot (H : NS B cB aB sB w0 col v cs d0 d1 s w) (hv : v.v2 = .slice (some ⟨g, 0, none⟩) m cap) (k : Nat) (hk : k < m) {x : List S87} (hx : s.no.getD k [] = x) (i : Nat) (hi : i < x.length) (y : S87) :
  ∃ gi ci, w.cell? ⟨g, k, none⟩ = some (.slice (some ⟨gi, 0, none⟩) x.length ci) ∧ ((∃ u, w.cell? ⟨gi, i * 5 + 0, none⟩ = some u) ∧ (∃ u, w.cell? ⟨gi, i * 5 + 1, none⟩ = some u) ∧ (∃ u, w.cell? ⟨gi, i * 5 + 2, none⟩ = some u) ∧ (∃ u, w.cell? ⟨gi, i * 5 + 3, none⟩ = some u) ∧ (∃ u, w.cell? ⟨gi, i * 5 + 4, none⟩ = some u) ∧ w.frozen? ⟨gi, i * 5 + 0, none⟩ = false ∧ w.frozen? ⟨gi, i * 5 + 1, none⟩ = false ∧ w.frozen? ⟨gi, i * 5 + 2, none⟩ = false ∧ w.frozen? ⟨gi, i * 5 + 3, none⟩ = false ∧ w.frozen? ⟨gi, i * 5 + 4, none⟩ = false) ∧
  NS B cB aB sB w0 (newCol col w.heap.size 2) v cs d0 d1 { s with no := s.no.set k (x.set i y) } (((((w.setCell ⟨gi, i * 5 + 0, none⟩ (.int .i64 y.f0)).setCell ⟨gi, i * 5 + 1, none⟩ (.int .i64 y.f1)).setCell ⟨gi, i * 5 + 2, none⟩ (.int .i64 y.f2)).setCell ⟨gi, i * 5 + 3, none⟩ (.int .i64 y.f3)).setCell ⟨gi, i * 5 + 4, none⟩ (.int .i64 y.f4)) := by
 have HS0 := H.rows.r2
 rw [hv] at HS0
 obtain ⟨oki, cc, hcl, hM, hcc, hfr, hoki, hH⟩ := Kd.S_elem HS0 [] (k : Int) (by omega) (by omega)
 rw [Int.toNat_natCast] at hM hcc hfr
 rw [hx] at hM
 obtain ⟨vi, rfl, hR2⟩ := hM
 obtain ⟨gi, ci, rfl, hBi, hgil, cqi, hgib⟩ := Kd.R_form hR2 (by omega)
 have hc2 : w.cell? ⟨g, k, none⟩ = some (.slice (some ⟨gi, 0, none⟩) x.length ci) := by have := hcc 0 _ rfl; rw [show k * (Kd.slice 87 k87).sz + 0 = k by show k * 1 + 0 = k; omega] at this; exact this
 have hoi := hR2.1 gi (by simp [Value.ownBlock])
 have hcgi : col gi = 2 := (hoki gi hoi).1
 obtain ⟨hR9, hg9⟩ := capr_put hR2 i hi y
 have T1 := Kd.H_back (Kd.H_grown hH hg9 (fun k hk => by injection hk with hk; exact hk ▸ hoi)) (Kd.M_row hR9) (fun k hk => hk)
 rw [Int.toNat_natCast, ← hv] at T1
 have T2 := Kd.S_mono (Kd.S_bound T1) (fun j hj => (show newCol col w.heap.size 2 j = 2 by unfold newCol; split; exact hj.1; rfl))
 have F : But (fun k => col k = 2 ∧ B ≤ k) w (((((w.setCell ⟨gi, i * 5 + 0, none⟩ (.int .i64 y.f0)).setCell ⟨gi, i * 5 + 1, none⟩ (.int .i64 y.f1)).setCell ⟨gi, i * 5 + 2, none⟩ (.int .i64 y.f2)).setCell ⟨gi, i * 5 + 3, none⟩ (.int .i64 y.f3)).setCell ⟨gi, i * 5 + 4, none⟩ (.int .i64 y.f4)) :=
  ⟨hg9.os, hg9.tape, hg9.output, hg9.size, fun j hj hn => hg9.block j hj (fun e => hn (by injection e with e; exact ⟨e ▸ hcgi, e ▸ hBi⟩))⟩
 exact ⟨gi, ci, hc2, capr_cells hR2 i hi, H.stepB (v1 := v.v2) T2 F⟩
end
/-- A literal of two branches. -/
theorem two_branches (W : World) (B : Nat) (x y : S76) : ReadsRow (k76.M (W.alloc (.cells #[.int .i64 x.f0.f0, .int .i64 x.f0.f1, .int .i64 x.f1, .bool x.f2, .int .i64 y.f0.f0, .int .i64 y.f0.f1, .int .i64 y.f1, .bool y.f2] 76)) B (fun _ => False)) 4 (W.alloc (.cells #[.int .i64 x.f0.f0, .int .i64 x.f0.f1, .int .i64 x.f1, .bool x.f2, .int .i64 y.f0.f0, .int .i64 y.f0.f1, .int .i64 y.f1, .bool y.f2] 76)) (some ⟨W.heap.size, 0, none⟩) 2 [x, y] := by
 have hb := blk_new W (.cells #[.int .i64 x.f0.f0, .int .i64 x.f0.f1, .int .i64 x.f1, .bool x.f2, .int .i64 y.f0.f0, .int .i64 y.f0.f1, .int .i64 y.f1, .bool y.f2] 76)
 refine ⟨rfl, by omega, fun _ => ⟨_, rfl, fun j p hj => ?_⟩⟩
 match j, hj with
 | 0, hj =>
  obtain rfl := Option.some.inj hj
  refine ⟨[.int .i64 x.f0.f0, .int .i64 x.f0.f1, .int .i64 x.f1, .bool x.f2], rfl, k76_mkM _ _ _ x, fun i u hu => ?_⟩
  match i, hu with
  | 0, hu => exact (blk_cell hb 0).trans hu
  | 1, hu => exact (blk_cell hb 1).trans hu
  | 2, hu => exact (blk_cell hb 2).trans hu
  | 3, hu => exact (blk_cell hb 3).trans hu
 | 1, hj =>
  obtain rfl := Option.some.inj hj
  refine ⟨[.int .i64 y.f0.f0, .int .i64 y.f0.f1, .int .i64 y.f1, .bool y.f2], rfl, k76_mkM _ _ _ y, fun i u hu => ?_⟩
  match i, hu with
  | 0, hu => exact (blk_cell hb 4).trans hu
  | 1, hu => exact (blk_cell hb 5).trans hu
  | 2, hu => exact (blk_cell hb 6).trans hu
  | 3, hu => exact (blk_cell hb 7).trans hu
theorem new_results {tmps : Array Value} {W : World} {g2 : Nat} {h : Rv} (t2 : tmps.getD 8 undef = .pointer (some ⟨g2, 0, none⟩)) (t3 : tmps.getD 9 undef = .int .i64 0)
  (b2 : W.heap[g2]? = some (.cells #[h.v0, h.v1, h.v2, h.v3, h.v4, h.v5, h.v6, h.v7] 32 (0, 0))) :
  (results Tryz.f20 tmps).run Tryz.prog W = .ok (.tuple #[.agg #[h.v0, h.v1, h.v2, h.v3, h.v4, h.v5, h.v6, h.v7], .int .i64 0]) W := by
 have c20 := (blk_cell b2 0).trans (show _ = some h.v0 from rfl)
 have c21 := (blk_cell b2 1).trans (show _ = some h.v1 from rfl)
 have c22 := (blk_cell b2 2).trans (show _ = some h.v2 from rfl)
 have c23 := (blk_cell b2 3).trans (show _ = some h.v3 from rfl)
 have c24 := (blk_cell b2 4).trans (show _ = some h.v4 from rfl)
 have c25 := (blk_cell b2 5).trans (show _ = some h.v5 from rfl)
 have c26 := (blk_cell b2 6).trans (show _ = some h.v6 from rfl)
 have c27 := (blk_cell b2 7).trans (show _ = some h.v7 from rfl)
 rw [Array.getD_eq_getD_getElem?] at t2 t3
 simp only [results, Tryz.f20]
 go_simp
/-- The result's cell is written. -/
theorem NS.result {B cB aB sB : Nat} {w0 : World} {col : Nat → Nat} {v cs : Rv} {d0 d1 : Value} {s : St} {w : World} (H : NS B cB aB sB w0 col v cs d0 d1 s w) (h : Rv) :
  ((((((((w.setCell ⟨cB, 0, none⟩ h.v0).setCell ⟨cB, 1, none⟩ h.v1).setCell ⟨cB, 2, none⟩ h.v2).setCell ⟨cB, 3, none⟩ h.v3).setCell ⟨cB, 4, none⟩ h.v4).setCell ⟨cB, 5, none⟩ h.v5).setCell ⟨cB, 6, none⟩ h.v6).setCell ⟨cB, 7, none⟩ h.v7).heap[cB]? = some (.cells #[h.v0, h.v1, h.v2, h.v3, h.v4, h.v5, h.v6, h.v7] 32 (0, 0)) ∧ RowsT B v s ((((((((w.setCell ⟨cB, 0, none⟩ h.v0).setCell ⟨cB, 1, none⟩ h.v1).setCell ⟨cB, 2, none⟩ h.v2).setCell ⟨cB, 3, none⟩ h.v3).setCell ⟨cB, 4, none⟩ h.v4).setCell ⟨cB, 5, none⟩ h.v5).setCell ⟨cB, 6, none⟩ h.v6).setCell ⟨cB, 7, none⟩ h.v7) ∧ Below B w0 ((((((((w.setCell ⟨cB, 0, none⟩ h.v0).setCell ⟨cB, 1, none⟩ h.v1).setCell ⟨cB, 2, none⟩ h.v2).setCell ⟨cB, 3, none⟩ h.v3).setCell ⟨cB, 4, none⟩ h.v4).setCell ⟨cB, 5, none⟩ h.v5).setCell ⟨cB, 6, none⟩ h.v6).setCell ⟨cB, 7, none⟩ h.v7) := by
 obtain ⟨v0, v1, v2, v3, v4, v5, v6, v7⟩ := h
 have b1 := blk_put (blk_put (blk_put (blk_put (blk_put (blk_put (blk_put (blk_put H.bC 0 v0 rfl) 1 v1 rfl) 2 v2 rfl) 3 v3 rfl) 4 v4 rfl) 5 v5 rfl) 6 v6 rfl) 7 v7 rfl
 simp only [List.setIfInBounds_toArray, List.set_cons_zero, List.set_cons_succ] at b1
 refine ⟨b1, (H.rows.still fun k hk h8 => ?_).toT, ?_⟩
 ·have hne : k ≠ cB := fun e => h8 (e ▸ H.cc)
  iterate 8 rw [Below.heap_setCell _ ⟨cB, _, none⟩ _ k hne]
 ·refine Below.setCell (p := ⟨cB, 7, none⟩) ?_ H.lo.1 _
  refine Below.setCell (p := ⟨cB, 6, none⟩) ?_ H.lo.1 _
  refine Below.setCell (p := ⟨cB, 5, none⟩) ?_ H.lo.1 _
  refine Below.setCell (p := ⟨cB, 4, none⟩) ?_ H.lo.1 _
  refine Below.setCell (p := ⟨cB, 3, none⟩) ?_ H.lo.1 _
  refine Below.setCell (p := ⟨cB, 2, none⟩) ?_ H.lo.1 _
  refine Below.setCell (p := ⟨cB, 1, none⟩) ?_ H.lo.1 _
  exact Below.setCell (p := ⟨cB, 0, none⟩) H.bl H.lo.1 _
end Go.Proofs.YtmcjccigglekpaaGreatDoor.Given
namespace Go.Proofs.YtmcjccigglekpaaGreatDoor.Given
end Go.Proofs.YtmcjccigglekpaaGreatDoor.Given
namespace Go.Proofs.YtmcjccigglekpaaGreatDoor.P
open Go.Proofs.YtmcjccigglekpaaGreatDoor.Given
open Go.RowKit Go.Proofs.YtmcjccigglekpaaGreatDoorW.PrintWords Go.Proofs.YtmcjccigglekpaaGreatDoorW.PrintLast Go.Proofs.YtmcjccigglekpaaGreatDoorW.PrintMore
attribute [local go_sem] max2_int min2_int max_two min_two max_three min_three max_four min_four   -- for this text's walks alone
set_option linter.unusedVariables false
set_option linter.unusedSimpArgs false

/-! ### garrisonref09_New: function 59 -/
mutual
def garrisonref09_New.j0 : Nat → Int → Int → Bool → Option ((List (S70)) × (List (List Int)) × Int)
 | 0, _, _, _ => none
 | k + 1, x0, x1, x24 => if x24 = true then (some (([] : List (S70)), ([] : List (List Int)), 2)) else (garrisonref09_New.l0 k x0 x1 0 ([] : List (List Int)))
def garrisonref09_New.l0 : Nat → Int → Int → Int → List (List Int) → Option ((List (S70)) × (List (List Int)) × Int)
 | 0, _, _, _, _ => none
 | k + 1, x0, x1, x7, x226001 => if x7 < x1 then (garrisonref09_New.l1 k x0 x1 x7 ([] : List Int) x7 x226001) else (garrisonref09_New.l2 k x0 0 ([] : List (S70)) x226001)
def garrisonref09_New.l1 : Nat → Int → Int → Int → List Int → Int → List (List Int) → Option ((List (S70)) × (List (List Int)) × Int)
 | 0, _, _, _, _, _, _ => none
 | k + 1, x0, x1, x7, x8, x9, x226001 => if x9 < x0 then (if x8.length < 17592186044416 then (garrisonref09_New.l1 k x0 x1 x7 (x8 ++ [x9]) (wrap64 (x9 + x1)) x226001) else (none)) else (if x226001.length < 5864062014805 then (garrisonref09_New.l0 k x0 x1 (wrap64 (x7 + 1)) (x226001 ++ [x8])) else (none))
def garrisonref09_New.l2 : Nat → Int → Int → List (S70) → List (List Int) → Option ((List (S70)) × (List (List Int)) × Int)
 | 0, _, _, _, _ => none
 | k + 1, x0, x10, x226000, x226001 => if x10 < x0 then (if x226000.length < 2199023255552 then (garrisonref09_New.l2 k x0 (wrap64 (x10 + 1)) (x226000 ++ [(⟨0, 0, 0, 0, 0, 0, (-1), 0⟩ : S70)]) x226001) else (none)) else (some (x226000, x226001, 0))
end
def garrisonref09_New.f (k : Nat) (a0 : Int) (a1 : Int) : Option ((List (S70)) × (List (List Int)) × Int) := if a0 < 1 then (garrisonref09_New.j0 k a0 a1 true) else (if a0 > 64 then (garrisonref09_New.j0 k a0 a1 true) else (if a1 < 1 then (garrisonref09_New.j0 k a0 a1 true) else (garrisonref09_New.j0 k a0 a1 (decide (a1 > 64)))))
theorem garrisonref09_New.mono_l : ∀ k, (∀ y0 y1 y2, LeO (garrisonref09_New.j0 k y0 y1 y2) (garrisonref09_New.j0 (k + 1) y0 y1 y2)) ∧ (∀ y0 y1 y2 y3, LeO (garrisonref09_New.l0 k y0 y1 y2 y3) (garrisonref09_New.l0 (k + 1) y0 y1 y2 y3)) ∧ (∀ y0 y1 y2 y3 y4 y5, LeO (garrisonref09_New.l1 k y0 y1 y2 y3 y4 y5) (garrisonref09_New.l1 (k + 1) y0 y1 y2 y3 y4 y5)) ∧ (∀ y0 y1 y2 y3, LeO (garrisonref09_New.l2 k y0 y1 y2 y3) (garrisonref09_New.l2 (k + 1) y0 y1 y2 y3))
 | 0 => ⟨fun _ _ _ r h => by simp [garrisonref09_New.j0] at h, fun _ _ _ _ r h => by simp [garrisonref09_New.l0] at h, fun _ _ _ _ _ _ r h => by simp [garrisonref09_New.l1] at h, fun _ _ _ _ r h => by simp [garrisonref09_New.l2] at h⟩
 | k + 1 => by
  obtain ⟨ih0, ih1, ih2, ih3⟩ := garrisonref09_New.mono_l k
  refine ⟨?_, ?_, ?_, ?_⟩
  ·intro y0 y1 y2
   unfold garrisonref09_New.j0
   repeat' first
   | (with_reducible exact ih0 _ _ _)
   | (with_reducible exact ih1 _ _ _ _)
   | (with_reducible exact ih2 _ _ _ _ _ _)
   | (with_reducible exact ih3 _ _ _ _)
   | (with_reducible exact LeO.refl _)
   | (with_reducible exact LeO.none _)
   | (with_reducible refine LeO.ite ?_ ?_)
   | (with_reducible refine LeO.bind ?_ (fun _ => ?_))
   | exact ih0 _ _ _
   | exact ih1 _ _ _ _
   | exact ih2 _ _ _ _ _ _
   | exact ih3 _ _ _ _
   | exact LeO.none _
   | refine LeO.ite ?_ ?_
   | refine LeO.bind ?_ (fun _ => ?_)
  ·intro y0 y1 y2 y3
   unfold garrisonref09_New.l0
   repeat' first
   | (with_reducible exact ih0 _ _ _)
   | (with_reducible exact ih1 _ _ _ _)
   | (with_reducible exact ih2 _ _ _ _ _ _)
   | (with_reducible exact ih3 _ _ _ _)
   | (with_reducible exact LeO.refl _)
   | (with_reducible exact LeO.none _)
   | (with_reducible refine LeO.ite ?_ ?_)
   | (with_reducible refine LeO.bind ?_ (fun _ => ?_))
   | exact ih0 _ _ _
   | exact ih1 _ _ _ _
   | exact ih2 _ _ _ _ _ _
   | exact ih3 _ _ _ _
   | exact LeO.none _
   | refine LeO.ite ?_ ?_
   | refine LeO.bind ?_ (fun _ => ?_)
  ·intro y0 y1 y2 y3 y4 y5
   unfold garrisonref09_New.l1
   repeat' first
   | (with_reducible exact ih0 _ _ _)
   | (with_reducible exact ih1 _ _ _ _)
   | (with_reducible exact ih2 _ _ _ _ _ _)
   | (with_reducible exact ih3 _ _ _ _)
   | (with_reducible exact LeO.refl _)
   | (with_reducible exact LeO.none _)
   | (with_reducible refine LeO.ite ?_ ?_)
   | (with_reducible refine LeO.bind ?_ (fun _ => ?_))
   | exact ih0 _ _ _
   | exact ih1 _ _ _ _
   | exact ih2 _ _ _ _ _ _
   | exact ih3 _ _ _ _
   | exact LeO.none _
   | refine LeO.ite ?_ ?_
   | refine LeO.bind ?_ (fun _ => ?_)
  ·intro y0 y1 y2 y3
   unfold garrisonref09_New.l2
   repeat' first
   | (with_reducible exact ih0 _ _ _)
   | (with_reducible exact ih1 _ _ _ _)
   | (with_reducible exact ih2 _ _ _ _ _ _)
   | (with_reducible exact ih3 _ _ _ _)
   | (with_reducible exact LeO.refl _)
   | (with_reducible exact LeO.none _)
   | (with_reducible refine LeO.ite ?_ ?_)
   | (with_reducible refine LeO.bind ?_ (fun _ => ?_))
   | exact ih0 _ _ _
   | exact ih1 _ _ _ _
   | exact ih2 _ _ _ _ _ _
   | exact ih3 _ _ _ _
   | exact LeO.none _
   | refine LeO.ite ?_ ?_
   | refine LeO.bind ?_ (fun _ => ?_)
theorem garrisonref09_New.mono : ∀ a0 a1 k, LeO (garrisonref09_New.f k a0 a1) (garrisonref09_New.f (k + 1) a0 a1) := by
 intro a0 a1 k
 obtain ⟨ih0, ih1, ih2, ih3⟩ := garrisonref09_New.mono_l k
 unfold garrisonref09_New.f
 repeat' first
   | (with_reducible exact ih0 _ _ _)
   | (with_reducible exact ih1 _ _ _ _)
   | (with_reducible exact ih2 _ _ _ _ _ _)
   | (with_reducible exact ih3 _ _ _ _)
   | (with_reducible exact LeO.refl _)
   | (with_reducible exact LeO.none _)
   | (with_reducible refine LeO.ite ?_ ?_)
   | (with_reducible refine LeO.bind ?_ (fun _ => ?_))
   | exact ih0 _ _ _
   | exact ih1 _ _ _ _
   | exact ih2 _ _ _ _ _ _
   | exact ih3 _ _ _ _
   | exact LeO.none _
   | refine LeO.ite ?_ ?_
   | refine LeO.bind ?_ (fun _ => ?_)
set_option maxHeartbeats 8000000 in
set_option maxRecDepth 100000 in
theorem garrisonref09_New.calls (k : Nat) (a0 : Int) (a1 : Int) (r1 : List (S70)) (r2 : List (List Int)) (r3 : Int) (w : World) (h : garrisonref09_New.f k a0 a1 = some (r1, r2, r3)) :
  Calls Tryz.prog 59 #[.int .i64 a0, .int .i64 a1] w fun e w' => ∃ v0_ v1_ : Value, e = .returned (.tuple #[.agg #[v0_, v1_], .int .i64 r3]) ∧ Kd.R k70 70 w' w.heap.size (fun _ => True) v0_ r1 ∧ Kd.S (Kd.slice 3 (Kd.int .i64)) 29 w' w.heap.size (fun _ => True) v1_ r2 ∧ Below w.heap.size w w' := by
 have hu25 := Tryz.underlying25
 have hu70 := Tryz.underlying70
 have HB := Aside0.mk (Below.refl w.heap.size w)
 have H : (if a0 < 1 then (garrisonref09_New.j0 k a0 a1 true) else (if a0 > 64 then (garrisonref09_New.j0 k a0 a1 true) else (if a1 < 1 then (garrisonref09_New.j0 k a0 a1 true) else (garrisonref09_New.j0 k a0 a1 (decide (a1 > 64)))))) = some (r1, r2, r3) := h
 clear h
 have HC3 := Aside0.mk H
 clear H
 go_enter Tryz.func59, Tryz.ntmps59
 go_upto_region 1 with (first | ((with_reducible refine gate_dst (N := 4) rfl ?_); refine box_event ?hg (N := 4) ?hd (cs := #[.slice none 0 0, .slice none 0 0]) (t := 25) ?hr ?_; (case hd => rfl); (case hg => rfl); (case hr => first | (go_simp; done) | (go_simp; rfl)); intro gb224 hg w4 hbox hb; have n0_ := Aside0.mk (below_step (by repeat (first | (with_reducible first | exact HB.out | apply below_alloc | apply pw_below_drewN | apply below_drew1) | exact HB.out)) hb); have n1_ := Aside0.mk (hbox); have n2_ := Aside0.mk ((by rw [hg]; exact (below_size (by repeat (first | (with_reducible first | exact HB.out | apply below_alloc | apply pw_below_drewN | apply below_drew1) | exact HB.out))) : w.heap.size ≤ gb224)); have n3_ := Aside0.mk ((by rw [hg]; exact (below_size (by repeat (first | (with_reducible first | exact HB.out | apply below_alloc | apply pw_below_drewN | apply below_drew1) | exact HB.out))) : w.heap.size ≤ gb224)); clear HB; have HB := n0_; have BK224 := n1_; have GW224 := n2_; have GE224 := n3_; clear n0_ n1_ n2_ n3_; clear hb hbox hg))
 (try simp only [Act.put, List.setIfInBounds_toArray, List.set_cons_zero, List.set_cons_succ])
 go_cut [24] (fun v24 wc => ∃ (kq : Nat) (x24_2 : Bool), v24 = .bool x24_2 ∧ Aside0 (garrisonref09_New.j0 kq a0 a1 x24_2 = some (r1, r2, r3)) ∧ Aside0 (kq ≤ k) ∧ Aside0 (wc.heap[gb224]? = some (.cells #[(.slice none 0 0), (.slice none 0 0)] 25 (0, 0))) ∧ Aside0 (Below w.heap.size w wc))
 case first =>
  have H := HC3.out
  clear HC3
  by_cases c5 : a0 < 1
  ·rw [if_pos c5] at H
   have c5b0 : decide (a0 < 1) = true := decide_eq_true c5
   clear c5
   (first | rw [c5b0] | (simp only [i64_w, i32_w]; rw [c5b0]) | skip)
   have H' := Aside0.mk H
   clear H
   go_wp2
   go_meet
   case rel => exact ⟨_, (true), (by first | rfl | (simp; done) | (simp [*]; done)), H', ⟨by first | omega | exact Nat.le_refl _⟩, ⟨by (with_reducible repeat (first | refine blk_drewN ?_ _ | refine blk_drew ?_ | refine blk_alloc ?_ _)); exact BK224.out⟩, ⟨by repeat (first | (with_reducible first | exact HB.out | apply below_alloc | apply pw_below_drewN | apply below_drew1 | refine below_set ?_ GE224.out) | exact HB.out)⟩⟩
  ·rw [if_neg c5] at H
   have c5b0 : decide (a0 < 1) = false := decide_eq_false c5
   clear c5
   (first | rw [c5b0] | (simp only [i64_w, i32_w]; rw [c5b0]) | skip)
   by_cases c6 : a0 > 64
   ·rw [if_pos c6] at H
    have c6b0 : decide (64 < a0) = true := decide_eq_true c6
    clear c6
    have H' := Aside0.mk H
    clear H
    go_wp2
    go_meet
    case rel => exact ⟨_, (true), (by first | rfl | (simp; done) | (simp [*]; done)), H', ⟨by first | omega | exact Nat.le_refl _⟩, ⟨by (with_reducible repeat (first | refine blk_drewN ?_ _ | refine blk_drew ?_ | refine blk_alloc ?_ _)); exact BK224.out⟩, ⟨by repeat (first | (with_reducible first | exact HB.out | apply below_alloc | apply pw_below_drewN | apply below_drew1 | refine below_set ?_ GE224.out) | exact HB.out)⟩⟩
   ·rw [if_neg c6] at H
    have c6b0 : decide (64 < a0) = false := decide_eq_false c6
    clear c6
    by_cases c7 : a1 < 1
    ·rw [if_pos c7] at H
     have c7b0 : decide (a1 < 1) = true := decide_eq_true c7
     clear c7
     have H' := Aside0.mk H
     clear H
     go_wp2
     go_meet
     case rel => exact ⟨_, (true), (by first | rfl | (simp; done) | (simp [*]; done)), H', ⟨by first | omega | exact Nat.le_refl _⟩, ⟨by (with_reducible repeat (first | refine blk_drewN ?_ _ | refine blk_drew ?_ | refine blk_alloc ?_ _)); exact BK224.out⟩, ⟨by repeat (first | (with_reducible first | exact HB.out | apply below_alloc | apply pw_below_drewN | apply below_drew1 | refine below_set ?_ GE224.out) | exact HB.out)⟩⟩
    ·rw [if_neg c7] at H
     have c7b0 : decide (a1 < 1) = false := decide_eq_false c7
     clear c7
     have H' := Aside0.mk H
     clear H
     go_wp2
     go_meet
     case rel => exact ⟨_, (decide (a1 > 64)), (by first | rfl | (simp; done) | (simp [*]; done)), H', ⟨by first | omega | exact Nat.le_refl _⟩, ⟨by (with_reducible repeat (first | refine blk_drewN ?_ _ | refine blk_drew ?_ | refine blk_alloc ?_ _)); exact BK224.out⟩, ⟨by repeat (first | (with_reducible first | exact HB.out | apply below_alloc | apply pw_below_drewN | apply below_drew1 | refine below_set ?_ GE224.out) | exact HB.out)⟩⟩
 case rest =>
  clear HC3
  try clear p2
  try clear c5
  try clear c5b0
  try clear c6
  try clear c6b0
  try clear c7
  try clear c7b0
  obtain ⟨kq, x24_2, rfl, HA, HJ2, BK224, HB⟩ := hcut
  cases kq with
  | zero => exact absurd HA.out (by simp [garrisonref09_New.j0])
  | succ kj2 =>
   have H := HA.out
   clear HA
   simp only [garrisonref09_New.j0] at H
   by_cases c8 : x24_2 = true
   ·subst c8
    have H1 : (some (([] : List (S70)), ([] : List (List Int)), 2)) = some (r1, r2, r3) := by rw [if_pos rfl] at H; exact H
    clear H
    have H := H1
    clear H1
    simp only [Option.some.injEq, Prod.mk.injEq] at H
    obtain ⟨rfl, rfl, rfl⟩ := H
    have hcz9_0 : wc.cell? ⟨gb224, 0, none⟩ = some (.slice none 0 0) := (blk_cell BK224.out 0).trans rfl
    have hcz9_1 : wc.cell? ⟨gb224, 1, none⟩ = some (.slice none 0 0) := (blk_cell BK224.out 1).trans rfl
    have hfz9_0 := blk_frozen BK224.out 0
    have hfz9_1 := blk_frozen BK224.out 1
    go_wp2
    refine bodyPost_ret (results_ct rfl _ _ gb224 25 #[.slice none 0 0, .slice none 0 0] (0, 0) _ rfl (by (with_reducible repeat (first | refine blk_drewN ?_ _ | refine blk_drew ?_ | refine blk_alloc ?_ _)); refine blk_put (cs := #[.slice none 0 0, .slice none 0 0]) ?_ 1 _ rfl; (with_reducible repeat (first | refine blk_drewN ?_ _ | refine blk_drew ?_ | refine blk_alloc ?_ _)); refine blk_put (cs := #[.slice none 0 0, .slice none 0 0]) ?_ 0 _ rfl; (with_reducible repeat (first | refine blk_drewN ?_ _ | refine blk_drew ?_ | refine blk_alloc ?_ _)); exact BK224.out) Tryz.underlying25 rfl (by kernel_rfl)) rfl ?_
    exact ⟨_, _, by first | rfl | (simp [errW_none, errW_some] <;> rfl) | (simp [*, errW_none, errW_some] <;> rfl), by first | exact Kd.R_nil _ _ _ _ _ | exact Kd.N_nil _ _ _ _ _ | exact Kd.V_nil _ _ _ _ _ | exact Kd.Q_nil _ _ _ _ _ | exact Kd.S_nil _ _ _ _ _, by first | exact Kd.S_nil _ _ _ _ _ | exact Kd.N_nil _ _ _ _ _ | exact Kd.V_nil _ _ _ _ _ | exact Kd.Q_nil _ _ _ _ _ | exact Kd.R_nil _ _ _ _ _, by repeat (first | (with_reducible first | exact HB.out | apply below_alloc | apply pw_below_drewN | apply below_drew1 | refine below_set ?_ GE224.out) | exact HB.out)⟩
   ·replace c8 := Bool.eq_false_iff.mpr c8
    subst c8
    have H1 : (garrisonref09_New.l0 kj2 a0 a1 0 ([] : List (List Int))) = some (r1, r2, r3) := by rw [if_neg (show ¬ (false = true) by decide)] at H; exact H
    clear H
    have H := H1
    clear H1
    have H' := Aside0.mk H
    clear H
    go_wp2_with (first | ((with_reducible refine gate_dst (N := 6) rfl ?_); refine box_event ?hg (N := 6) ?hd (cs := #[.slice none 0 0, .slice none 0 0]) (t := 25) ?hr ?_; (case hd => rfl); (case hg => rfl); (case hr => first | (go_simp; done) | (go_simp; rfl)); intro gb225 hg w10 hbox hb; have n0_ := Aside0.mk (blk_below (g := gb224) (o := .cells #[.slice none 0 0, .slice none 0 0] 25 (0, 0)) (by (with_reducible repeat (first | refine blk_drewN ?_ _ | refine blk_drew ?_ | refine blk_alloc ?_ _)); exact BK224.out) hb); have n1_ := Aside0.mk (below_step (by repeat (first | (with_reducible first | exact HB.out | apply below_alloc | apply pw_below_drewN | apply below_drew1 | refine below_set ?_ GE224.out) | exact HB.out)) hb); have n2_ := Aside0.mk (hbox); have n3_ := Aside0.mk ((by rw [hg]; exact (below_size (by repeat (first | (with_reducible first | exact HB.out | apply below_alloc | apply pw_below_drewN | apply below_drew1 | refine below_set ?_ GE224.out) | exact HB.out))) : w.heap.size ≤ gb225)); have n4_ := Aside0.mk ((by rw [hg]; exact (below_size (by repeat (first | (with_reducible first | exact HB.out | apply below_alloc | apply pw_below_drewN | apply below_drew1 | refine below_set ?_ GE224.out) | exact HB.out))) : w.heap.size ≤ gb225)); have n5_ := Aside0.mk ((by rw [hg]; exact Nat.ne_of_lt (blk_lt (g := gb224) (o := .cells #[.slice none 0 0, .slice none 0 0] 25 (0, 0)) (by (with_reducible repeat (first | refine blk_drewN ?_ _ | refine blk_drew ?_ | refine blk_alloc ?_ _)); exact BK224.out)) : gb224 ≠ gb225)); have n6_ := Aside0.mk ((by rw [hg]; exact Nat.ne_of_gt (blk_lt (g := gb224) (o := .cells #[.slice none 0 0, .slice none 0 0] 25 (0, 0)) (by (with_reducible repeat (first | refine blk_drewN ?_ _ | refine blk_drew ?_ | refine blk_alloc ?_ _)); exact BK224.out)) : gb225 ≠ gb224)); clear BK224; clear HB; have BK224 := n0_; have HB := n1_; have BK225 := n2_; have GW225 := n3_; have GE225 := n4_; have NB224_225 := n5_; have NB225_224 := n6_; clear n0_ n1_ n2_ n3_ n4_ n5_ n6_; clear hb hbox hg; have hnb11 := NB225_224.out; have hnc11 := NB224_225.out; have hcz12_0 : w10.cell? ⟨gb225, 0, none⟩ = some (.slice none 0 0) := (blk_cell BK225.out 0).trans rfl; have hcz12_1 : w10.cell? ⟨gb225, 1, none⟩ = some (.slice none 0 0) := (blk_cell BK225.out 1).trans rfl; have hfz12_0 := blk_frozen BK225.out 0; have hfz12_1 := blk_frozen BK225.out 1))
    go_loopg [7] kj2 (fun kq v7 w' => ∃ (x7_2 : Int) (x226001_2 : List (List Int)) (u226001 : Value), v7 = .int .i64 x7_2 ∧ Aside0 (garrisonref09_New.l0 kq a0 a1 x7_2 x226001_2 = some (r1, r2, r3)) ∧ Aside0 (kq ≤ kj2) ∧ Aside0 (Kd.S (Kd.slice 3 (Kd.int .i64)) 29 w' w.heap.size (fun _ => True) u226001 x226001_2) ∧ Aside0 (w'.heap[gb224]? = some (.cells #[(.slice none 0 0), (.slice none 0 0)] 25 (0, 0))) ∧ Aside0 (w'.heap[gb225]? = some (.cells #[(.slice none 0 0), u226001] 25 (0, 0))) ∧ Aside0 (Below w.heap.size w w'))
    case atStart => exact ⟨(0), (([] : List (List Int))), (.slice none 0 0), (by first | rfl | (simp; done) | (simp [*]; done)), H', ⟨Nat.le_refl _⟩, ⟨by first | exact Kd.S_nil _ _ _ _ _ | exact Kd.N_nil _ _ _ _ _ | exact Kd.V_nil _ _ _ _ _ | exact Kd.Q_nil _ _ _ _ _ | exact Kd.R_nil _ _ _ _ _⟩, ⟨by (with_reducible repeat (first | refine blk_drewN ?_ _ | refine blk_drew ?_ | refine blk_alloc ?_ _)); refine blk_far ?_ NB224_225.out _; (with_reducible repeat (first | refine blk_drewN ?_ _ | refine blk_drew ?_ | refine blk_alloc ?_ _)); refine blk_far ?_ NB224_225.out _; (with_reducible repeat (first | refine blk_drewN ?_ _ | refine blk_drew ?_ | refine blk_alloc ?_ _)); exact BK224.out⟩, ⟨by (with_reducible repeat (first | refine blk_drewN ?_ _ | refine blk_drew ?_ | refine blk_alloc ?_ _)); refine blk_put (cs := #[.slice none 0 0, .slice none 0 0]) ?_ 1 _ rfl; (with_reducible repeat (first | refine blk_drewN ?_ _ | refine blk_drew ?_ | refine blk_alloc ?_ _)); refine blk_put (cs := #[.slice none 0 0, .slice none 0 0]) ?_ 0 _ rfl; (with_reducible repeat (first | refine blk_drewN ?_ _ | refine blk_drew ?_ | refine blk_alloc ?_ _)); exact BK225.out⟩, ⟨by repeat (first | (with_reducible first | exact HB.out | apply below_alloc | apply pw_below_drewN | apply below_drew1 | refine below_set ?_ GE224.out | refine below_set ?_ GE225.out) | exact HB.out)⟩⟩
    case round =>
     clear H'
     try clear c1
     try clear p2
     try clear c5
     try clear c5b0
     try clear c6
     try clear c6b0
     try clear c7
     try clear c7b0
     try clear c8
     try clear c11
     try clear hcz12_0
     try clear hcz12_1
     try clear hcz9_0
     try clear hcz9_1
     try clear hfz12_0
     try clear hfz12_1
     try clear hfz9_0
     try clear hfz9_1
     try clear p2
     obtain ⟨x7_2, x226001_2, u226001, rfl, HA, HK2, HO_226001, BK224, BK225, HB⟩ := hrel
     cases gk with
     | zero => exact absurd HA.out (by simp [garrisonref09_New.l0])
     | succ k2 =>
      have H := HA.out
      clear HA
      simp only [garrisonref09_New.l0] at H
      by_cases c13 : x7_2 < a1
      ·rw [if_pos c13] at H
       have c13b0 : decide (x7_2 < a1) = true := decide_eq_true c13
       clear c13
       have H' := Aside0.mk H
       clear H
       go_wp2
       go_loopg [8, 9] k2 (fun kq v8 v9 w' => ∃ (x8_3 : List Int) (x9_3 : Int), v9 = .int .i64 x9_3 ∧ Aside0 (garrisonref09_New.l1 kq a0 a1 x7_2 x8_3 x9_3 x226001_2 = some (r1, r2, r3)) ∧ Aside0 (kq ≤ k2) ∧ Aside0 (Kd.R (Kd.int .i64) 3 w' w.heap.size (fun _ => True) v8 x8_3) ∧ Aside0 (Kd.S (Kd.slice 3 (Kd.int .i64)) 29 w' w.heap.size (fun k_ => some k_ ≠ (v8 : Value).ownBlock) u226001 x226001_2) ∧ Aside0 (w'.heap[gb224]? = some (.cells #[(.slice none 0 0), (.slice none 0 0)] 25 (0, 0))) ∧ Aside0 (w'.heap[gb225]? = some (.cells #[(.slice none 0 0), u226001] 25 (0, 0))) ∧ Aside0 (Below w.heap.size w w'))
       case atStart => exact ⟨(([] : List Int)), (x7_2), (by first | rfl | (simp; done) | (simp [*]; done)), H', ⟨Nat.le_refl _⟩, ⟨by first | exact Kd.R_nil _ _ _ _ _ | exact Kd.N_nil _ _ _ _ _ | exact Kd.V_nil _ _ _ _ _ | exact Kd.Q_nil _ _ _ _ _ | exact Kd.S_nil _ _ _ _ _⟩, ⟨by (with_reducible repeat (first | apply Kd.S_alloc | apply Kd.S_drewN | apply Kd.S_drew)); exact Kd.S_mono HO_226001.out (fun _ hk => (by simp [Value.ownBlock]))⟩, ⟨by (with_reducible repeat (first | refine blk_drewN ?_ _ | refine blk_drew ?_ | refine blk_alloc ?_ _)); exact BK224.out⟩, ⟨by (with_reducible repeat (first | refine blk_drewN ?_ _ | refine blk_drew ?_ | refine blk_alloc ?_ _)); exact BK225.out⟩, ⟨by repeat (first | (with_reducible first | exact HB.out | apply below_alloc | apply pw_below_drewN | apply below_drew1 | refine below_set ?_ GE224.out | refine below_set ?_ GE225.out) | exact HB.out)⟩⟩
       case round =>
        clear H'
        try clear c1
        try clear p2
        try clear c5
        try clear c5b0
        try clear c6
        try clear c6b0
        try clear c7
        try clear c7b0
        try clear c8
        try clear c11
        try clear c13
        try clear c13b0
        try clear hcz12_0
        try clear hcz12_1
        try clear hcz9_0
        try clear hcz9_1
        try clear hfz12_0
        try clear hfz12_1
        try clear hfz9_0
        try clear hfz9_1
        try clear p2
        obtain ⟨x8_3, x9_3, rfl, HA, HK3, HO_8, HO_226001, BK224, BK225, HB⟩ := hrel
        cases gk with
        | zero => exact absurd HA.out (by simp [garrisonref09_New.l1])
        | succ k3 =>
         have H := HA.out
         clear HA
         simp only [garrisonref09_New.l1] at H
         by_cases c14 : x9_3 < a0
         ·rw [if_pos c14] at H
          have c14b0 : decide (x9_3 < a0) = true := decide_eq_true c14
          clear c14
          by_cases c15 : x8_3.length < 17592186044416
          ·rw [if_pos c15] at H
           have LMc15 := Aside0.mk c15
           clear c15
           obtain ⟨y226, hy226⟩ : ∃ y_ : List Int, y_ = (x8_3 ++ [x9_3]) := ⟨_, rfl⟩
           replace H : (garrisonref09_New.l1 k3 a0 a1 x7_2 y226 (wrap64 (x9_3 + a1)) x226001_2) = some (r1, r2, r3) := by first | (rw [hy226]; with_reducible exact H) | (have H2_ := (Option.bind_some _ _).symm.trans H; rw [hy226]; with_reducible exact H2_) | (have H2_ := (Option.bind_some _ _).symm.trans H; with_reducible exact H2_) | with_reducible exact H | (rw [hy226]; exact H) | exact H
           have Ny226 := Aside0.mk hy226
           clear hy226
           have H' := Aside0.mk H
           clear H
           go_wp2_with (first | ((with_reducible refine gate_builtin (b := .append) (xs := #[.tmp 39, .tmp 41]) rfl ?_); at_builtin; refine Kd.R_append (Kd.int .i64) (w0 := w) w.heap.size rfl (.tmp 39) (.tmp 41) 29 3 (.int .i64 0) 8 rfl Tryz.underlying29 info3 rfl (by decide) (by omega) u8 x8_3 x9_3 [.int .i64 x9_3] (fun _ => True) (fun _ => False) rfl rfl ?aP (fun _ hk => hk.elim) ?aF ?aO ?aB ?aS ?aL ?_; (case aP => exact rfl); (case aB => exact (by repeat (first | (with_reducible first | exact HB.out | apply below_alloc | apply pw_below_drewN | apply below_drew1 | refine below_set ?_ GE224.out | refine below_set ?_ GE225.out) | exact HB.out))); (case aF => exact (fun _ _ => trivial)); (case aO => exact (by (with_reducible repeat (first | apply Kd.R_alloc | apply Kd.R_drewN | apply Kd.R_drew)); exact HO_8.out)); (case aS => exact (below_size (by repeat (first | (with_reducible first | exact HB.out | apply below_alloc | apply pw_below_drewN | apply below_drew1 | refine below_set ?_ GE224.out | refine below_set ?_ GE225.out) | exact HB.out)))); (case aL => have := LMc15.out; omega); intro v227 w16 ho hb hg hat; rw [← Ny226.out] at ho; have n0_ := Aside0.mk (Kd.S_after (ok := (fun _ => True)) (by (with_reducible repeat (first | apply Kd.S_alloc | apply Kd.S_drewN | apply Kd.S_drew)); exact Kd.S_mono HO_226001.out (fun _ hk => ⟨trivial, hk⟩)) hg hat); have n1_ := Aside0.mk (blk_grown (g := gb224) (o := .cells #[.slice none 0 0, .slice none 0 0] 25 (0, 0)) (by (with_reducible repeat (first | refine blk_drewN ?_ _ | refine blk_drew ?_ | refine blk_alloc ?_ _)); exact BK224.out) hg (Kd.R_ne HO_8.out BK224.out (by decide))); have n2_ := Aside0.mk (blk_grown (g := gb225) (o := .cells #[.slice none 0 0, u226001] 25 (0, 0)) (by (with_reducible repeat (first | refine blk_drewN ?_ _ | refine blk_drew ?_ | refine blk_alloc ?_ _)); exact BK225.out) hg (Kd.R_ne HO_8.out BK225.out (by decide))); have n3_ := Aside0.mk (hb); have n4_ := Aside0.mk (ho); clear HO_226001; clear BK224; clear BK225; clear HB; clear HO_8; have HO_226001 := n0_; have BK224 := n1_; have BK225 := n2_; have HB := n3_; have HO228 := n4_; clear n0_ n1_ n2_ n3_ n4_; clear ho hb hg hat))
           go_roundg k3
           case measure => have := HJ2.out; have := HK2.out; have := HK3.out; omega
           case rel => exact ⟨(y226), (wrap64 (x9_3 + a1)), (by first | rfl | (simp; done) | (simp [*]; done)), H', ⟨by have := HJ2.out; have := HK2.out; have := HK3.out; omega⟩, ⟨by (with_reducible repeat (first | apply Kd.R_alloc | apply Kd.R_drewN | apply Kd.R_drew)); exact HO228.out⟩, ⟨by (with_reducible repeat (first | apply Kd.S_alloc | apply Kd.S_drewN | apply Kd.S_drew)); exact Kd.S_mono HO_226001.out (fun _ hk => hk.2)⟩, ⟨by (with_reducible repeat (first | refine blk_drewN ?_ _ | refine blk_drew ?_ | refine blk_alloc ?_ _)); exact BK224.out⟩, ⟨by (with_reducible repeat (first | refine blk_drewN ?_ _ | refine blk_drew ?_ | refine blk_alloc ?_ _)); exact BK225.out⟩, ⟨by repeat (first | (with_reducible first | exact HB.out | apply below_alloc | apply pw_below_drewN | apply below_drew1 | refine below_set ?_ GE224.out | refine below_set ?_ GE225.out) | exact HB.out)⟩⟩
          ·rw [if_neg c15] at H
           exact absurd H (by simp)
         ·rw [if_neg c14] at H
          have c14b0 : decide (x9_3 < a0) = false := decide_eq_false c14
          clear c14
          by_cases c17 : x226001_2.length < 5864062014805
          ·rw [if_pos c17] at H
           have LMc17 := Aside0.mk c17
           clear c17
           obtain ⟨y229, hy229⟩ : ∃ y_ : List (List Int), y_ = (x226001_2 ++ [x8_3]) := ⟨_, rfl⟩
           replace H : (garrisonref09_New.l0 k3 a0 a1 (wrap64 (x7_2 + 1)) y229) = some (r1, r2, r3) := by first | (rw [hy229]; with_reducible exact H) | (have H2_ := (Option.bind_some _ _).symm.trans H; rw [hy229]; with_reducible exact H2_) | (have H2_ := (Option.bind_some _ _).symm.trans H; with_reducible exact H2_) | with_reducible exact H | (rw [hy229]; exact H) | exact H
           have Ny229 := Aside0.mk hy229
           clear hy229
           have H' := Aside0.mk H
           clear H
           have hnb18 := NB225_224.out
           have hnc18 := NB224_225.out
           have hcz19_0 : wr.cell? ⟨gb225, 0, none⟩ = some (.slice none 0 0) := (blk_cell BK225.out 0).trans rfl
           have hcz19_1 : wr.cell? ⟨gb225, 1, none⟩ = some (u226001) := (blk_cell BK225.out 1).trans rfl
           have hfz19_0 := blk_frozen BK225.out 0
           have hfz19_1 := blk_frozen BK225.out 1
           obtain ⟨Ao21, co21, eo21⟩ := Kd.R_slice HO_8.out
           subst eo21
           go_wp2_with (first | ((with_reducible refine gate_builtin (b := .append) (xs := #[.tmp 44, .tmp 46]) rfl ?_); at_builtin; refine Kd.S_append (Kd.slice 3 (Kd.int .i64)) (w0 := w) w.heap.size rfl (.tmp 44) (.tmp 46) 23 29 (.slice none 0 0) 24 rfl Tryz.underlying23 info29 rfl (by decide) (by omega) u226001 x226001_2 x8_3 [.slice Ao21 x8_3.length co21] (fun _ => True) (fun k_ => some k_ = (.slice Ao21 x8_3.length co21 : Value).ownBlock) rfl rfl ?aP (fun k_ hk_ => ((Kd.R_mono (ok' := fun k_ => ((fun _ => True)) k_ ∧ some k_ ≠ (u226001 : Value).ownBlock) (Kd.R_apart' (HO_8.out) (Kd.S_typed HO_226001.out) (by decide)) (fun k_ hk => ⟨trivial, hk.2⟩))).1 k_ hk_.symm) ?aF ?aO ?aB ?aS ?aL ?_; (case aP => exact Kd.M_row (Kd.R_mono (Kd.R_tight rfl (Kd.R_mono (ok' := fun k_ => ((fun _ => True)) k_ ∧ some k_ ≠ (u226001 : Value).ownBlock) (Kd.R_apart' (HO_8.out) (Kd.S_typed HO_226001.out) (by decide)) (fun k_ hk => ⟨trivial, hk.2⟩))) (fun _ h_ => h_))); (case aB => exact (by repeat (first | (with_reducible first | exact HB.out | apply below_alloc | apply pw_below_drewN | apply below_drew1 | refine below_set ?_ GE224.out | refine below_set ?_ GE225.out) | exact HB.out))); (case aF => exact (fun _ _ => trivial)); (case aO => exact (by (with_reducible repeat (first | apply Kd.S_alloc | apply Kd.S_drewN | apply Kd.S_drew)); exact Kd.S_mono HO_226001.out (fun k_ hk => ⟨trivial, fun e_ => hk e_⟩))); (case aS => exact (below_size (by repeat (first | (with_reducible first | exact HB.out | apply below_alloc | apply pw_below_drewN | apply below_drew1 | refine below_set ?_ GE224.out | refine below_set ?_ GE225.out) | exact HB.out)))); (case aL => have := LMc17.out; omega); intro v230 w20 ho hb hg hat; rw [← Ny229.out] at ho; have n0_ := Aside0.mk (blk_grown (g := gb224) (o := .cells #[.slice none 0 0, .slice none 0 0] 25 (0, 0)) (by (with_reducible repeat (first | refine blk_drewN ?_ _ | refine blk_drew ?_ | refine blk_alloc ?_ _)); exact BK224.out) hg (Kd.S_ne HO_226001.out BK224.out (by decide))); have n1_ := Aside0.mk (blk_grown (g := gb225) (o := .cells #[.slice none 0 0, u226001] 25 (0, 0)) (by (with_reducible repeat (first | refine blk_drewN ?_ _ | refine blk_drew ?_ | refine blk_alloc ?_ _)); exact BK225.out) hg (Kd.S_ne HO_226001.out BK225.out (by decide))); have n2_ := Aside0.mk (hb); have n3_ := Aside0.mk (ho); clear BK224; clear BK225; clear HB; clear HO_226001; clear HO_8; have BK224 := n0_; have BK225 := n1_; have HB := n2_; have HO231 := n3_; clear n0_ n1_ n2_ n3_; clear ho hb hg hat; obtain ⟨Ao22, co22, eo22⟩ := Kd.S_slice HO231.out; subst eo22; have hcz23_0 : w20.cell? ⟨gb225, 0, none⟩ = some (.slice none 0 0) := (blk_cell BK225.out 0).trans rfl; have hcz23_1 : w20.cell? ⟨gb225, 1, none⟩ = some (u226001) := (blk_cell BK225.out 1).trans rfl; have hfz23_0 := blk_frozen BK225.out 0; have hfz23_1 := blk_frozen BK225.out 1))
           go_roundg k3
           case measure => have := HJ2.out; have := HK2.out; have := HK3.out; omega
           case rel => exact ⟨(wrap64 (x7_2 + 1)), (y229), (.slice Ao22 y229.length co22), (by first | rfl | (simp; done) | (simp [*]; done)), H', ⟨by have := HJ2.out; have := HK2.out; have := HK3.out; omega⟩, ⟨by (with_reducible repeat (first | apply Kd.S_alloc | apply Kd.S_drewN | apply Kd.S_drew)); exact Kd.S_mono (Kd.S_far (p := ⟨gb225, 1, none⟩) (Kd.S_types HO231.out BK225.out (by decide)) (fun _ hk => hk.2) (.slice Ao22 y229.length co22)) (fun _ hk => trivial)⟩, ⟨by (with_reducible repeat (first | refine blk_drewN ?_ _ | refine blk_drew ?_ | refine blk_alloc ?_ _)); refine blk_far ?_ NB224_225.out _; (with_reducible repeat (first | refine blk_drewN ?_ _ | refine blk_drew ?_ | refine blk_alloc ?_ _)); exact BK224.out⟩, ⟨by (with_reducible repeat (first | refine blk_drewN ?_ _ | refine blk_drew ?_ | refine blk_alloc ?_ _)); refine blk_put (cs := #[.slice none 0 0, u226001]) ?_ 1 _ rfl; (with_reducible repeat (first | refine blk_drewN ?_ _ | refine blk_drew ?_ | refine blk_alloc ?_ _)); exact BK225.out⟩, ⟨by repeat (first | (with_reducible first | exact HB.out | apply below_alloc | apply pw_below_drewN | apply below_drew1 | refine below_set ?_ GE224.out | refine below_set ?_ GE225.out) | exact HB.out)⟩⟩
          ·rw [if_neg c17] at H
           exact absurd H (by simp)
      ·rw [if_neg c13] at H
       have c13b0 : decide (x7_2 < a1) = false := decide_eq_false c13
       clear c13
       have H' := Aside0.mk H
       clear H
       go_wp2
       go_loopg [10] k2 (fun kq v10 w' => ∃ (x10_3 : Int) (x226000_3 : List (S70)) (u226000 : Value), v10 = .int .i64 x10_3 ∧ Aside0 (garrisonref09_New.l2 kq a0 x10_3 x226000_3 x226001_2 = some (r1, r2, r3)) ∧ Aside0 (kq ≤ k2) ∧ Aside0 (Kd.R k70 70 w' w.heap.size (fun _ => True) u226000 x226000_3) ∧ Aside0 (Kd.S (Kd.slice 3 (Kd.int .i64)) 29 w' w.heap.size (fun _ => True) u226001 x226001_2) ∧ Aside0 (w'.heap[gb224]? = some (.cells #[(.slice none 0 0), (.slice none 0 0)] 25 (0, 0))) ∧ Aside0 (w'.heap[gb225]? = some (.cells #[u226000, u226001] 25 (0, 0))) ∧ Aside0 (Below w.heap.size w w'))
       case atStart => exact ⟨(0), (([] : List (S70))), (.slice none 0 0), (by first | rfl | (simp; done) | (simp [*]; done)), H', ⟨Nat.le_refl _⟩, ⟨by first | exact Kd.R_nil _ _ _ _ _ | exact Kd.N_nil _ _ _ _ _ | exact Kd.V_nil _ _ _ _ _ | exact Kd.Q_nil _ _ _ _ _ | exact Kd.S_nil _ _ _ _ _⟩, ⟨by (with_reducible repeat (first | apply Kd.S_alloc | apply Kd.S_drewN | apply Kd.S_drew)); exact HO_226001.out⟩, ⟨by (with_reducible repeat (first | refine blk_drewN ?_ _ | refine blk_drew ?_ | refine blk_alloc ?_ _)); exact BK224.out⟩, ⟨by (with_reducible repeat (first | refine blk_drewN ?_ _ | refine blk_drew ?_ | refine blk_alloc ?_ _)); exact BK225.out⟩, ⟨by repeat (first | (with_reducible first | exact HB.out | apply below_alloc | apply pw_below_drewN | apply below_drew1 | refine below_set ?_ GE224.out | refine below_set ?_ GE225.out) | exact HB.out)⟩⟩
       case round =>
        clear H'
        try clear c1
        try clear p2
        try clear c5
        try clear c5b0
        try clear c6
        try clear c6b0
        try clear p6
        try clear c7
        try clear c7b0
        try clear c8
        try clear c11
        try clear c13
        try clear c13b0
        try clear c14
        try clear c14b0
        try clear c15
        try clear c17
        try clear c18
        try clear hcz12_0
        try clear hcz12_1
        try clear hcz19_0
        try clear hcz19_1
        try clear hcz23_0
        try clear hcz23_1
        try clear hcz9_0
        try clear hcz9_1
        try clear hfz12_0
        try clear hfz12_1
        try clear hfz19_0
        try clear hfz19_1
        try clear hfz23_0
        try clear hfz23_1
        try clear hfz9_0
        try clear hfz9_1
        try clear p2
        obtain ⟨x10_3, x226000_3, u226000, rfl, HA, HK3, HO_226000, HO_226001, BK224, BK225, HB⟩ := hrel
        cases gk with
        | zero => exact absurd HA.out (by simp [garrisonref09_New.l2])
        | succ k3 =>
         have H := HA.out
         clear HA
         simp only [garrisonref09_New.l2] at H
         by_cases c24 : x10_3 < a0
         ·rw [if_pos c24] at H
          have c24b0 : decide (x10_3 < a0) = true := decide_eq_true c24
          clear c24
          by_cases c25 : x226000_3.length < 2199023255552
          ·rw [if_pos c25] at H
           have LMc25 := Aside0.mk c25
           clear c25
           obtain ⟨y232, hy232⟩ : ∃ y_ : List (S70), y_ = (x226000_3 ++ [(⟨0, 0, 0, 0, 0, 0, (-1), 0⟩ : S70)]) := ⟨_, rfl⟩
           replace H : (garrisonref09_New.l2 k3 a0 (wrap64 (x10_3 + 1)) y232 x226001_2) = some (r1, r2, r3) := by first | (rw [hy232]; with_reducible exact H) | (have H2_ := (Option.bind_some _ _).symm.trans H; rw [hy232]; with_reducible exact H2_) | (have H2_ := (Option.bind_some _ _).symm.trans H; with_reducible exact H2_) | with_reducible exact H | (rw [hy232]; exact H) | exact H
           have Ny232 := Aside0.mk hy232
           clear hy232
           have H' := Aside0.mk H
           clear H
           have hnb26 := NB225_224.out
           have hnc26 := NB224_225.out
           have hcz27_0 : wr.cell? ⟨gb225, 0, none⟩ = some (u226000) := (blk_cell BK225.out 0).trans rfl
           have hcz27_1 : wr.cell? ⟨gb225, 1, none⟩ = some (u226001) := (blk_cell BK225.out 1).trans rfl
           have hfz27_0 := blk_frozen BK225.out 0
           have hfz27_1 := blk_frozen BK225.out 1
           go_wp2_with (first | ((with_reducible refine gate_builtin (b := .append) (xs := #[.tmp 55, .tmp 57]) rfl ?_); at_builtin; refine Kd.R_append k70 (w0 := w) w.heap.size rfl (.tmp 55) (.tmp 57) 22 70 (.agg #[(.int .i64 0), (.int .i64 0), (.int .i64 0), (.int .i64 0), (.int .i64 0), (.int .i64 0), (.int .i64 0), (.int .i64 0)]) 64 rfl Tryz.underlying22 info70 rfl (by decide) (by omega) u226000 x226000_3 (⟨0, 0, 0, 0, 0, 0, (-1), 0⟩ : S70) [.int .i64 0, .int .i64 0, .int .i64 0, .int .i64 0, .int .i64 0, .int .i64 0, .int .i64 (-1), .int .i64 0] (fun _ => True) (fun _ => False) rfl rfl ?aP (fun _ hk => hk.elim) ?aF ?aO ?aB ?aS ?aL ?_; (case aP => exact k70_mkM _ _ _ (⟨0, 0, 0, 0, 0, 0, (-1), 0⟩ : S70)); (case aB => exact (by repeat (first | (with_reducible first | exact HB.out | apply below_alloc | apply pw_below_drewN | apply below_drew1 | refine below_set ?_ GE224.out | refine below_set ?_ GE225.out) | exact HB.out))); (case aF => exact (fun _ _ => trivial)); (case aO => exact (by (with_reducible repeat (first | apply Kd.R_alloc | apply Kd.R_drewN | apply Kd.R_drew)); exact HO_226000.out)); (case aS => exact (below_size (by repeat (first | (with_reducible first | exact HB.out | apply below_alloc | apply pw_below_drewN | apply below_drew1 | refine below_set ?_ GE224.out | refine below_set ?_ GE225.out) | exact HB.out)))); (case aL => have := LMc25.out; omega); intro v233 w28 ho hb hg hat; rw [← Ny232.out] at ho; have n0_ := Aside0.mk (Kd.S_over' (by (with_reducible repeat (first | apply Kd.S_alloc | apply Kd.S_drewN | apply Kd.S_drew)); exact HO_226001.out) (Kd.R_typed (by (with_reducible repeat (first | apply Kd.R_alloc | apply Kd.R_drewN | apply Kd.R_drew)); exact HO_226000.out)) (by decide) hg); have n1_ := Aside0.mk (blk_grown (g := gb224) (o := .cells #[.slice none 0 0, .slice none 0 0] 25 (0, 0)) (by (with_reducible repeat (first | refine blk_drewN ?_ _ | refine blk_drew ?_ | refine blk_alloc ?_ _)); exact BK224.out) hg (Kd.R_ne HO_226000.out BK224.out (by decide))); have n2_ := Aside0.mk (blk_grown (g := gb225) (o := .cells #[u226000, u226001] 25 (0, 0)) (by (with_reducible repeat (first | refine blk_drewN ?_ _ | refine blk_drew ?_ | refine blk_alloc ?_ _)); exact BK225.out) hg (Kd.R_ne HO_226000.out BK225.out (by decide))); have n3_ := Aside0.mk (hb); have n4_ := Aside0.mk (ho); clear HO_226001; clear BK224; clear BK225; clear HB; clear HO_226000; have HO_226001 := n0_; have BK224 := n1_; have BK225 := n2_; have HB := n3_; have HO234 := n4_; clear n0_ n1_ n2_ n3_ n4_; clear ho hb hg hat; obtain ⟨Ao29, co29, eo29⟩ := Kd.R_slice HO234.out; subst eo29; have hcz30_0 : w28.cell? ⟨gb225, 0, none⟩ = some (u226000) := (blk_cell BK225.out 0).trans rfl; have hcz30_1 : w28.cell? ⟨gb225, 1, none⟩ = some (u226001) := (blk_cell BK225.out 1).trans rfl; have hfz30_0 := blk_frozen BK225.out 0; have hfz30_1 := blk_frozen BK225.out 1))
           go_roundg k3
           case measure => have := HJ2.out; have := HK2.out; have := HK3.out; omega
           case rel => exact ⟨(wrap64 (x10_3 + 1)), (y232), (.slice Ao29 y232.length co29), (by first | rfl | (simp; done) | (simp [*]; done)), H', ⟨by have := HJ2.out; have := HK2.out; have := HK3.out; omega⟩, ⟨by (with_reducible repeat (first | apply Kd.R_alloc | apply Kd.R_drewN | apply Kd.R_drew)); exact Kd.R_mono (Kd.R_far (p := ⟨gb225, 0, none⟩) (Kd.R_types HO234.out BK225.out (by decide)) (fun _ hk => hk.2) (.slice Ao29 y232.length co29)) (fun _ hk => trivial)⟩, ⟨by (with_reducible repeat (first | apply Kd.S_alloc | apply Kd.S_drewN | apply Kd.S_drew)); exact Kd.S_mono (Kd.S_far (p := ⟨gb225, 0, none⟩) (Kd.S_types HO_226001.out BK225.out (by decide)) (fun _ hk => hk.2) (.slice Ao29 y232.length co29)) (fun _ hk => trivial)⟩, ⟨by (with_reducible repeat (first | refine blk_drewN ?_ _ | refine blk_drew ?_ | refine blk_alloc ?_ _)); refine blk_far ?_ NB224_225.out _; (with_reducible repeat (first | refine blk_drewN ?_ _ | refine blk_drew ?_ | refine blk_alloc ?_ _)); exact BK224.out⟩, ⟨by (with_reducible repeat (first | refine blk_drewN ?_ _ | refine blk_drew ?_ | refine blk_alloc ?_ _)); refine blk_put (cs := #[u226000, u226001]) ?_ 0 _ rfl; (with_reducible repeat (first | refine blk_drewN ?_ _ | refine blk_drew ?_ | refine blk_alloc ?_ _)); exact BK225.out⟩, ⟨by repeat (first | (with_reducible first | exact HB.out | apply below_alloc | apply pw_below_drewN | apply below_drew1 | refine below_set ?_ GE224.out | refine below_set ?_ GE225.out) | exact HB.out)⟩⟩
          ·rw [if_neg c25] at H
           exact absurd H (by simp)
         ·rw [if_neg c24] at H
          have c24b0 : decide (x10_3 < a0) = false := decide_eq_false c24
          clear c24
          simp only [Option.some.injEq, Prod.mk.injEq] at H
          obtain ⟨rfl, rfl, rfl⟩ := H
          have hnb31 := NB225_224.out
          have hnc31 := NB224_225.out
          have hcz32_0 : wr.cell? ⟨gb225, 0, none⟩ = some (u226000) := (blk_cell BK225.out 0).trans rfl
          have hcz32_1 : wr.cell? ⟨gb225, 1, none⟩ = some (u226001) := (blk_cell BK225.out 1).trans rfl
          have hfz32_0 := blk_frozen BK225.out 0
          have hfz32_1 := blk_frozen BK225.out 1
          obtain ⟨Ao33, co33, eo33⟩ := Kd.R_slice HO_226000.out
          subst eo33
          have hcz34_0 : wr.cell? ⟨gb224, 0, none⟩ = some (.slice none 0 0) := (blk_cell BK224.out 0).trans rfl
          have hcz34_1 : wr.cell? ⟨gb224, 1, none⟩ = some (.slice none 0 0) := (blk_cell BK224.out 1).trans rfl
          have hfz34_0 := blk_frozen BK224.out 0
          have hfz34_1 := blk_frozen BK224.out 1
          obtain ⟨Ao35, co35, eo35⟩ := Kd.S_slice HO_226001.out
          subst eo35
          go_wp2
          refine bodyPost_ret (results_ct rfl _ _ gb224 25 #[.slice Ao33 x226000_3.length co33, .slice Ao35 x226001_2.length co35] (0, 0) _ rfl (by (with_reducible repeat (first | refine blk_drewN ?_ _ | refine blk_drew ?_ | refine blk_alloc ?_ _)); refine blk_put (cs := #[.slice Ao33 x226000_3.length co33, .slice none 0 0]) ?_ 1 _ rfl; (with_reducible repeat (first | refine blk_drewN ?_ _ | refine blk_drew ?_ | refine blk_alloc ?_ _)); refine blk_put (cs := #[.slice none 0 0, .slice none 0 0]) ?_ 0 _ rfl; (with_reducible repeat (first | refine blk_drewN ?_ _ | refine blk_drew ?_ | refine blk_alloc ?_ _)); exact BK224.out) Tryz.underlying25 rfl (by kernel_rfl)) rfl ?_
          exact ⟨_, _, by first | rfl | (simp [errW_none, errW_some] <;> rfl) | (simp [*, errW_none, errW_some] <;> rfl), by (with_reducible repeat (first | apply Kd.R_alloc | apply Kd.R_drewN | apply Kd.R_drew)); exact Kd.R_mono (Kd.R_far (p := ⟨gb224, 1, none⟩) (Kd.R_far (p := ⟨gb224, 0, none⟩) (Kd.R_types HO_226000.out BK224.out (by decide)) (fun _ hk => hk.2) (.slice Ao33 x226000_3.length co33)) (fun _ hk => hk.2) (.slice Ao35 x226001_2.length co35)) (fun _ hk => trivial), by (with_reducible repeat (first | apply Kd.S_alloc | apply Kd.S_drewN | apply Kd.S_drew)); exact Kd.S_mono (Kd.S_far (p := ⟨gb224, 1, none⟩) (Kd.S_far (p := ⟨gb224, 0, none⟩) (Kd.S_types HO_226001.out BK224.out (by decide)) (fun _ hk => hk.2) (.slice Ao33 x226000_3.length co33)) (fun _ hk => hk.2) (.slice Ao35 x226001_2.length co35)) (fun _ hk => trivial), by repeat (first | (with_reducible first | exact HB.out | apply below_alloc | apply pw_below_drewN | apply below_drew1 | refine below_set ?_ GE224.out | refine below_set ?_ GE225.out) | exact HB.out)⟩

/-! ### garrisonref10_Power: function 58 -/
def garrisonref10_Power.l0 : Nat → Int → Int → Option (Bool)
 | 0, _, _ => none
 | k + 1, x0, x3 => if x3 ≤ 1048576 then (if x3 = x0 then (some true) else (garrisonref10_Power.l0 k x0 (wrap64 (2 * x3)))) else (some false)
def garrisonref10_Power.f (k : Nat) (a0 : Int) : Option (Bool) := garrisonref10_Power.l0 k a0 1
theorem garrisonref10_Power.mono_l : ∀ k, (∀ y0 y1, LeO (garrisonref10_Power.l0 k y0 y1) (garrisonref10_Power.l0 (k + 1) y0 y1))
 | 0 => fun _ _ r h => by simp [garrisonref10_Power.l0] at h
 | k + 1 => by
  have ih0 := garrisonref10_Power.mono_l k
  ·intro y0 y1
   unfold garrisonref10_Power.l0
   repeat' first
   | (with_reducible exact ih0 _ _)
   | (with_reducible exact LeO.refl _)
   | (with_reducible exact LeO.none _)
   | (with_reducible refine LeO.ite ?_ ?_)
   | (with_reducible refine LeO.bind ?_ (fun _ => ?_))
   | exact ih0 _ _
   | exact LeO.none _
   | refine LeO.ite ?_ ?_
   | refine LeO.bind ?_ (fun _ => ?_)
theorem garrisonref10_Power.mono : ∀ a0 k, LeO (garrisonref10_Power.f k a0) (garrisonref10_Power.f (k + 1) a0) := by
 intro a0 k
 have ih0 := garrisonref10_Power.mono_l k
 unfold garrisonref10_Power.f
 repeat' first
   | (with_reducible exact ih0 _ _)
   | (with_reducible exact LeO.refl _)
   | (with_reducible exact LeO.none _)
   | (with_reducible refine LeO.ite ?_ ?_)
   | (with_reducible refine LeO.bind ?_ (fun _ => ?_))
   | exact ih0 _ _
   | exact LeO.none _
   | refine LeO.ite ?_ ?_
   | refine LeO.bind ?_ (fun _ => ?_)
set_option maxHeartbeats 8000000 in
set_option maxRecDepth 100000 in
theorem garrisonref10_Power.calls (k : Nat) (a0 : Int) (r : Bool) (w : World) (h : garrisonref10_Power.f k a0 = some r) :
  Calls Tryz.prog 58 #[.int .i64 a0] w fun e w' => e = .returned (.bool r) ∧ Drawn0 w w' := by
 have H : (garrisonref10_Power.l0 k a0 1) = some r := h
 clear h
 have H' := Aside0.mk H
 clear H
 go_enter Tryz.func58, Tryz.ntmps58
 go_wp2
 go_loopg [3] k (fun kq v3 w' => ∃ (x3_1 : Int), v3 = .int .i64 x3_1 ∧ Aside0 (garrisonref10_Power.l0 kq a0 x3_1 = some r) ∧ Aside0 (kq ≤ k) ∧ Drawn0 w w')
 case atStart => exact ⟨(1), (by first | rfl | (simp; done) | (simp [*]; done)), H', ⟨Nat.le_refl _⟩, by repeat (first | exact Drawn0.refl _ | apply Drawn0.step)⟩
 case round =>
  clear H'
  obtain ⟨x3_1, rfl, HA, HK1, ⟨m1, rfl⟩⟩ := hrel
  cases gk with
  | zero => exact absurd HA.out (by simp [garrisonref10_Power.l0])
  | succ k1 =>
   have H := HA.out
   clear HA
   simp only [garrisonref10_Power.l0] at H
   by_cases c2 : x3_1 ≤ 1048576
   ·rw [if_pos c2] at H
    have c2b0 : decide (x3_1 ≤ 1048576) = true := decide_eq_true c2
    clear c2
    by_cases c3 : x3_1 = a0
    ·rw [if_pos c3] at H
     have c3b0 : (x3_1 == a0) = true := beq_iff_eq.mpr c3
     have c3b1 : (x3_1 != a0) = false := bne_eq_false_iff_eq.mpr c3
     clear c3
     obtain rfl := Option.some.inj H
     go_wp2
     go_ret
     exact ⟨by first | rfl | (simp; done) | (simp [*]; done), by repeat (first | exact Drawn0.refl _ | apply Drawn0.step)⟩
    ·rw [if_neg c3] at H
     have c3b0 : (x3_1 == a0) = false := beq_eq_false_iff_ne.mpr c3
     have c3b1 : (x3_1 != a0) = true := bne_iff_ne.mpr c3
     have H' := Aside0.mk H
     clear H
     go_wp2
     go_roundg k1
     case measure => have := HK1.out; omega
     case rel => exact ⟨(wrap64 (2 * x3_1)), (by first | rfl | (simp; done) | (simp [*]; done)), H', ⟨by have := HK1.out; omega⟩, by repeat (first | exact Drawn0.refl _ | apply Drawn0.step)⟩
   ·rw [if_neg c2] at H
    have c2b0 : decide (x3_1 ≤ 1048576) = false := decide_eq_false c2
    clear c2
    obtain rfl := Option.some.inj H
    go_wp2
    go_ret
    exact ⟨by first | rfl | (simp; done) | (simp [*]; done), by repeat (first | exact Drawn0.refl _ | apply Drawn0.step)⟩

end Go.Proofs.YtmcjccigglekpaaGreatDoor.P
