/- Counts, windows, rounds: what the printed functions answer. -/
import Derived.Test.YthifdmelanbgmaaDoorScr2
import Derived.Test.YthifdmelanbgmaaDoorPx4
import Derived.Test.YthifdmelanbgmaaDoorPx6
import Derived.Test.YthifdmelanbgmaaDoorPx7
import Derived.Test.YthifdmelanbgmaaDoorPx9
import Derived.Test.YthifdmelanbgmaaDoorPx13
namespace Go.Proofs.YthifdmelanbgmaaDoor.Plain
open Go Go.RowKit Go.Proofs.YthifdmelanbgmaaDoorW.PrintWords Go.Proofs.YthifdmelanbgmaaDoorW.PrintLast Go.Proofs.YthifdmelanbgmaaDoorW.PrintMore Go.Proofs.YthifdmelanbgmaaDoor.P
set_option linter.unusedVariables false
set_option linter.unusedSimpArgs false

theorem wn (i : Nat) (h : i ≤ 1000000000) : wrap64 ((i : Int) + 1) = ((i + 1 : Nat) : Int) := by unfold wrap64; omega
theorem wi {a : Int} (h : -1000000000000 ≤ a) (h2 : a ≤ 1000000000000) : wrap64 a = a := by unfold wrap64; omega
theorem wab (a b : Nat) (ha : a ≤ 1000000000) (hb : b ≤ 1000000000) : wrap64 ((a : Int) + (b : Int)) = ((a + b : Nat) : Int) := by unfold wrap64; omega
theorem wmul (a b : Nat) (h : a * b ≤ 1000000000) : wrap64 ((a : Int) * (b : Int)) = ((a * b : Nat) : Int) := by rw [← Int.natCast_mul]; exact wi (by omega) (by omega)
theorem rdN (l : List Int) (i : Nat) (h : i < l.length) : rd l (i : Int) = l[i] := by
  unfold rd
  rw [Int.toNat_natCast, List.getD_eq_getElem?_getD, List.getElem?_eq_getElem h]
  rfl
theorem rd_set (l : List Int) (j c : Nat) (x : Int) (h : c < l.length) : rd (l.set j x) (c : Int) = if c = j then x else rd l (c : Int) := by
  unfold rd
  simp only [Int.toNat_natCast, List.getD_eq_getElem?_getD, List.getElem?_set]
  by_cases e : j = c
  · subst e; simp [h]
  · simp [e, Ne.symm e]
theorem mx_le (a b v : Int) : mx a b ≤ v ↔ a ≤ v ∧ b ≤ v := by unfold mx; split <;> omega
theorem Ev.uniq {α : Type} {g : Nat → Option α} {r s : α} (h : Ev g r) (k : Ev g s) : r = s := by
  obtain ⟨K, h⟩ := h
  obtain ⟨J, k⟩ := k
  have h1 := h (max K J) (by omega)
  have h2 := k (max K J) (by omega)
  rw [h1] at h2
  exact Option.some.inj h2

/-! ### Count -/
theorem scount_loop (l : List Int) (c : Int) (hl : l.length ≤ 1000000) (d : Nat) : ∀ i m : Nat, i + d = l.length → m ≤ i → Ev (fun k => script_Count.l0 k c (m : Int) l (l.length : Int) (i : Int)) (((m + (l.drop i).count c : Nat)) : Int) := by
  induction d with
  | zero =>
    intro i m hi hm
    rw [List.drop_of_length_le (by omega)]
    exact Ev.step (f := fun _ => some (m : Int)) (fun k => by simp only [script_Count.l0]; rw [if_neg (by omega)]) (Ev.now _)
  | succ d ih =>
    intro i m hi hm
    have hlt : i < l.length := by omega
    rw [List.drop_eq_getElem_cons hlt, List.count_cons]
    by_cases e : l[i] = c
    · have h := ih (i + 1) (m + 1) (by omega) (by omega)
      rw [if_pos (beq_iff_eq.2 e)]
      rw [show m + ((l.drop (i + 1)).count c + 1) = m + 1 + (l.drop (i + 1)).count c by omega]
      exact Ev.step (fun k => by simp only [script_Count.l0]; rw [if_pos (by omega), if_pos (by omega), if_pos (by omega), rdN l i hlt, if_pos e, wn m (by omega), wn i (by omega)]) h
    · have h := ih (i + 1) m (by omega) (by omega)
      rw [if_neg (by simpa using e), Nat.add_zero]
      exact Ev.step (fun k => by simp only [script_Count.l0]; rw [if_pos (by omega), if_pos (by omega), if_pos (by omega), rdN l i hlt, if_neg e, wn i (by omega)]) h
theorem scount (l : List Int) (c : Int) (hl : l.length ≤ 1000000) : Ev (fun k => script_Count.f k l c) ((l.count c : Nat) : Int) := by
  have h := scount_loop l c hl l.length 0 0 (by omega) (by omega)
  rw [List.drop_zero, Nat.zero_add] at h
  exact h
theorem rcount_loop (l : List Int) (c : Int) (hl : l.length ≤ 1000000) (d : Nat) : ∀ i m : Nat, i + d = l.length → m ≤ i → Ev (fun k => garrisonref05_Count.l0 k l c (m : Int) (i : Int)) (((m + (l.drop i).count c : Nat)) : Int) := by
  induction d with
  | zero =>
    intro i m hi hm
    rw [List.drop_of_length_le (by omega)]
    exact Ev.step (f := fun _ => some (m : Int)) (fun k => by simp only [garrisonref05_Count.l0]; rw [if_neg (by omega)]) (Ev.now _)
  | succ d ih =>
    intro i m hi hm
    have hlt : i < l.length := by omega
    rw [List.drop_eq_getElem_cons hlt, List.count_cons]
    by_cases e : l[i] = c
    · have h := ih (i + 1) (m + 1) (by omega) (by omega)
      rw [if_pos (beq_iff_eq.2 e)]
      rw [show m + ((l.drop (i + 1)).count c + 1) = m + 1 + (l.drop (i + 1)).count c by omega]
      exact Ev.step (fun k => by simp only [garrisonref05_Count.l0]; rw [if_pos (by omega), if_pos (by omega), rdN l i hlt, if_pos e, wn m (by omega), wn i (by omega)]) h
    · have h := ih (i + 1) m (by omega) (by omega)
      rw [if_neg (by simpa using e), Nat.add_zero]
      exact Ev.step (fun k => by simp only [garrisonref05_Count.l0]; rw [if_pos (by omega), if_pos (by omega), rdN l i hlt, if_neg e, wn i (by omega)]) h
theorem rcount (l : List Int) (c : Int) (hl : l.length ≤ 1000000) : Ev (fun k => garrisonref05_Count.f k l c) ((l.count c : Nat) : Int) := by
  have h := rcount_loop l c hl l.length 0 0 (by omega) (by omega)
  rw [List.drop_zero, Nat.zero_add] at h
  exact h

/-! ### Window -/
theorem win2 (l ls : List Int) (hl : l.length ≤ 1000000) (hn : ls.length ≤ 1000000) (hb : ∀ c : Nat, c < ls.length → -1 ≤ rd ls c ∧ rd ls c ≤ 1000000) (d : Nat) : ∀ (i : Nat) (w : Int), i + d = ls.length →
    ∃ x, Ev (fun k => script_Window.l2 k l w ls (ls.length : Int) (i : Int)) x ∧ ∀ v, x ≤ v ↔ w ≤ v ∧ ∀ c : Nat, i ≤ c → c < ls.length → (l.length : Int) - rd ls c ≤ v := by
  induction d with
  | zero =>
    intro i w hi
    refine ⟨w, Ev.step (f := fun _ => some w) (fun k => by simp only [script_Window.l2]; rw [if_neg (by omega)]) (Ev.now _), fun v => ⟨fun h => ⟨h, fun c h1 h2 => by omega⟩, fun h => h.1⟩⟩
  | succ d ih =>
    intro i w hi
    have hlt : i < ls.length := by omega
    have hbi := hb i hlt
    obtain ⟨x, hx, hv⟩ := ih (i + 1) (mx w ((l.length : Int) - rd ls (i : Int))) (by omega)
    refine ⟨x, Ev.step (fun k => by simp only [script_Window.l2]; rw [if_pos (by omega), if_pos (by omega), if_pos (by omega), wn i (by omega), wi (a := (l.length : Int) - rd ls (i : Int)) (by omega) (by omega)]) hx, fun v => ?_⟩
    rw [hv, mx_le]
    constructor
    · rintro ⟨⟨h1, h2⟩, h3⟩
      refine ⟨h1, fun c h4 h5 => ?_⟩
      by_cases e : c = i
      · subst e; exact h2
      · exact h3 c (by omega) h5
    · rintro ⟨h1, h2⟩
      exact ⟨⟨h1, h2 i (Nat.le_refl _) hlt⟩, fun c h4 h5 => h2 c (by omega) h5⟩
theorem win1 (l : List Int) (n : Nat) (hl : l.length ≤ 1000000) (hn : n ≤ 1000000) (d : Nat) : ∀ (i : Nat) (ls : List Int) (w : Int), i + d = l.length → ls.length = n → (∀ c : Nat, c < ls.length → -1 ≤ rd ls c ∧ rd ls c < i) →
    ∃ x, Ev (fun k => script_Window.l1 k l (n : Int) ls w l (l.length : Int) (i : Int)) x ∧ ∀ v, x ≤ v ↔ w ≤ v ∧ ∀ c : Nat, c < n → gp (c : Int) (l.drop i) (i : Int) (rd ls c) ≤ v := by
  induction d with
  | zero =>
    intro i ls w hi hls hb
    obtain ⟨x, hx, hv⟩ := win2 l ls hl (by omega) (fun c hc => by have := hb c hc; omega) ls.length 0 w (by omega)
    refine ⟨x, Ev.step (fun k => by simp only [script_Window.l1]; rw [if_neg (by omega)]; rfl) hx, fun v => ?_⟩
    rw [hv, List.drop_of_length_le (by omega)]
    have hi2 : i = l.length := by omega
    subst hi2
    exact ⟨fun h => ⟨h.1, fun c hc => h.2 c (Nat.zero_le _) (by omega)⟩, fun h => ⟨h.1, fun c _ hc => h.2 c (by omega)⟩⟩
  | succ d ih =>
    intro i ls w hi hls hb
    have hlt : i < l.length := by omega
    rw [List.drop_eq_getElem_cons hlt]
    by_cases h0 : 0 ≤ l[i]
    · obtain ⟨j, hj⟩ := Int.eq_ofNat_of_zero_le h0
      by_cases h1 : j < n
      · have hbj := hb j (by omega)
        obtain ⟨x, hx, hv⟩ := ih (i + 1) (ls.set j (i : Int)) (mx w ((i : Int) - rd ls (j : Int))) (by omega) (by rw [List.length_set]; exact hls) (fun c hc => by
          rw [List.length_set] at hc
          rw [rd_set ls j c _ hc]
          have := hb c hc
          split <;> omega)
        refine ⟨x, Ev.step (fun k => by simp only [script_Window.l1]; rw [if_pos (by omega), if_pos (by omega), if_pos (by omega), rdN l i hlt, hj, if_pos (by omega), if_pos (by omega), if_pos (by omega), if_pos (by omega), Int.toNat_natCast, wn i (by omega), wi (a := (i : Int) - rd ls (j : Int)) (by omega) (by omega)]) hx, fun v => ?_⟩
        rw [hv, mx_le]
        constructor
        · rintro ⟨⟨h2, h3⟩, h4⟩
          refine ⟨h2, fun c hc => ?_⟩
          have h5 := h4 c hc
          rw [rd_set ls j c _ (by omega)] at h5
          rw [gp_max, hj]
          by_cases e : c = j
          · subst e
            rw [if_pos rfl] at h5
            rw [if_pos rfl]
            exact ⟨h3, by rw [Int.natCast_add] at h5; exact h5⟩
          · rw [if_neg e] at h5
            rw [if_neg (by omega)]
            rw [Int.natCast_add] at h5
            exact h5
        · rintro ⟨h2, h4⟩
          refine ⟨⟨h2, ?_⟩, fun c hc => ?_⟩
          · have h5 := h4 j h1
            rw [gp_max, hj, if_pos rfl] at h5
            exact h5.1
          · have h5 := h4 c hc
            rw [gp_max, hj] at h5
            rw [rd_set ls j c _ (by omega), Int.natCast_add]
            by_cases e : c = j
            · subst e
              rw [if_pos rfl] at h5
              rw [if_pos rfl]
              exact h5.2
            · rw [if_neg (by omega)] at h5
              rw [if_neg e]
              exact h5
      · obtain ⟨x, hx, hv⟩ := ih (i + 1) ls w (by omega) hls (fun c hc => by have := hb c hc; omega)
        refine ⟨x, Ev.step (fun k => by simp only [script_Window.l1]; rw [if_pos (by omega), if_pos (by omega), if_pos (by omega), rdN l i hlt, hj, if_pos (by omega), if_neg (by omega), wn i (by omega)]) hx, fun v => ?_⟩
        rw [hv]
        refine and_congr_right fun _ => ⟨fun h c hc => ?_, fun h c hc => ?_⟩
        · rw [gp_max, hj, if_neg (by omega)]
          have := h c hc
          rw [Int.natCast_add] at this
          exact this
        · have := h c hc
          rw [gp_max, hj, if_neg (by omega)] at this
          rw [Int.natCast_add]
          exact this
    · obtain ⟨x, hx, hv⟩ := ih (i + 1) ls w (by omega) hls (fun c hc => by have := hb c hc; omega)
      refine ⟨x, Ev.step (fun k => by simp only [script_Window.l1]; rw [if_pos (by omega), if_pos (by omega), if_pos (by omega), rdN l i hlt, if_neg (by omega), wn i (by omega)]) hx, fun v => ?_⟩
      rw [hv]
      refine and_congr_right fun _ => ⟨fun h c hc => ?_, fun h c hc => ?_⟩
      · rw [gp_max, if_neg (by omega)]
        have := h c hc
        rw [Int.natCast_add] at this
        exact this
      · have := h c hc
        rw [gp_max, if_neg (by omega)] at this
        rw [Int.natCast_add]
        exact this
theorem rd_rep (n c : Nat) (x : Int) (h : c < n) : rd (List.replicate n x) (c : Int) = x := by
  rw [rdN _ _ (by simpa using h)]
  simp
theorem win0 (l : List Int) (n : Nat) (hn : n ≤ 1000000) (x : Int) (hx : Ev (fun k => script_Window.l1 k l (n : Int) (List.replicate n (-1)) 1 l (l.length : Int) 0) x) (d : Nat) : ∀ i : Nat, i + d = n →
    Ev (fun k => script_Window.l0 k l (n : Int) (List.replicate i (-1) ++ List.replicate d 0) (n : Int) (i : Int)) x := by
  induction d with
  | zero =>
    intro i hi
    obtain rfl : i = n := by omega
    refine Ev.step (fun k => ?_) hx
    simp only [script_Window.l0]
    rw [if_neg (by omega)]
    simp
  | succ d ih =>
    intro i hi
    refine Ev.step (fun k => ?_) (ih (i + 1) (by omega))
    simp only [script_Window.l0]
    have e : (List.replicate i (-1 : Int) ++ List.replicate (d + 1) 0).set i (-1) = List.replicate (i + 1) (-1) ++ List.replicate d 0 := by
      rw [List.set_append_right _ _ (by simp), List.length_replicate, Nat.sub_self, List.replicate_succ (n := d), List.set_cons_zero, List.replicate_succ' (n := i), List.append_assoc]
      rfl
    rw [if_pos (by omega), if_pos (by omega), if_pos (by simp; omega), Int.toNat_natCast, e, wn i (by omega)]
theorem window_ev (l : List Int) (n : Int) (hl : l.length ≤ 1000000) : ∃ x, IsWin l n x ∧ Ev (fun k => script_Window.f k l n) x := by
  by_cases h1 : n < 1
  · exact ⟨1, win_few l n h1, Ev.congr (fun k => by unfold script_Window.f; rw [if_pos h1]) (Ev.now _)⟩
  · by_cases h2 : n > (l.length : Int)
    · exact ⟨_, win_many l n (by omega), Ev.congr (fun k => by unfold script_Window.f; rw [if_neg h1, if_pos h2, wi (by omega) (by omega)]) (Ev.now _)⟩
    · obtain ⟨n, rfl⟩ := Int.eq_ofNat_of_zero_le (show 0 ≤ n by omega)
      obtain ⟨x, hx, hv⟩ := win1 l n hl (by omega) l.length 0 (List.replicate n (-1)) 1 (by omega) (by simp) (fun c hc => by rw [rd_rep n c _ (by simpa using hc)]; omega)
      refine ⟨x, win_mid l n x fun w => ?_, ?_⟩
      · rw [hv w]
        refine and_congr_right fun _ => ⟨fun h c h3 h4 => ?_, fun h c hc => ?_⟩
        · obtain ⟨c, rfl⟩ := Int.eq_ofNat_of_zero_le h3
          have := h c (by omega)
          rw [rd_rep n c _ (by omega), List.drop_zero] at this
          exact this
        · rw [rd_rep n c _ hc, List.drop_zero]
          exact h c (by omega) (by omega)
      · refine Ev.congr (fun k => ?_) (win0 l n (by omega) x hx n 0 (by omega))
        unfold script_Window.f
        rw [if_neg h1, if_neg h2, if_pos (by omega), if_pos (by omega)]
        show script_Window.l0 k l n (List.replicate (n : Int).toNat 0) ((List.replicate (n : Int).toNat (0 : Int)).length : Int) 0 = _
        rw [Int.toNat_natCast, List.length_replicate]
        rfl
theorem sfair_ev (l : List Int) (n w x : Int) (hl : l.length ≤ 1000000) (hx : IsWin l n x) : Ev (fun k => script_Fair.f k l n w) (decide (x ≤ w)) := by
  obtain ⟨y, hy, he⟩ := window_ev l n hl
  obtain rfl := win_one hx hy
  by_cases h1 : w < 1
  · have := hx.1
    rw [show decide (x ≤ w) = decide (w ≥ 1) by rw [decide_eq_false (by omega), decide_eq_false (by omega)]]
    exact Ev.congr (fun k => by unfold script_Fair.f; rw [if_pos h1]) (Ev.now _)
  · by_cases h2 : w > (l.length : Int)
    · have := hx.2.1
      rw [show decide (x ≤ w) = decide (w ≥ 1) by rw [decide_eq_true (by omega), decide_eq_true (by omega)]]
      exact Ev.congr (fun k => by unfold script_Fair.f; rw [if_neg h1, if_pos h2]) (Ev.now _)
    · refine Ev.congr (fun k => by unfold script_Fair.f; rw [if_neg h1, if_neg h2]) (Ev.bind he ?_)
      exact Ev.now _

/-! ### the document's -/
theorem rfair1 (l : List Int) (c n w : Int) (hl : l.length ≤ 1000000) (hw : 1 ≤ w) (d : Nat) : ∀ (i : Nat) (last : Int), i + d = l.length → -1 ≤ last → last < i → (i : Int) - last ≤ w →
    (gp c (l.drop i) (i : Int) last ≤ w → ∀ r, Ev (fun k => garrisonref05_Fair.l0 k l n w (wrap64 (c + 1))) r → Ev (fun k => garrisonref05_Fair.l1 k l n w c last (i : Int)) r) ∧
    (¬ gp c (l.drop i) (i : Int) last ≤ w → Ev (fun k => garrisonref05_Fair.l1 k l n w c last (i : Int)) false) := by
  induction d with
  | zero =>
    intro i last hi h0 h1 h2
    rw [List.drop_of_length_le (by omega)]
    refine ⟨fun _ r hr => Ev.step (fun k => by simp only [garrisonref05_Fair.l1]; rw [if_neg (by omega)]) hr, fun h => absurd h2 h⟩
  | succ d ih =>
    intro i last hi h0 h1 h2
    have hlt : i < l.length := by omega
    rw [List.drop_eq_getElem_cons hlt, gp_max]
    by_cases e : l[i] = c
    · rw [if_pos e]
      obtain ⟨ih1, ih2⟩ := ih (i + 1) (i : Int) (by omega) (by omega) (by omega) (by omega)
      have st : ∀ k, garrisonref05_Fair.l1 (k + 1) l n w c last (i : Int) = garrisonref05_Fair.l1 k l n w c (i : Int) ((i + 1 : Nat) : Int) := fun k => by
        simp only [garrisonref05_Fair.l1]
        rw [if_pos (by omega), if_pos (by omega), rdN l i hlt, if_pos e, wi (a := (i : Int) - (i : Int)) (by omega) (by omega), if_neg (by omega), wn i (by omega)]
      rw [Int.natCast_add] at ih1 ih2
      refine ⟨fun h r hr => Ev.step st (ih1 h.2 r hr), fun h => Ev.step st (ih2 fun h3 => h ⟨h2, h3⟩)⟩
    · rw [if_neg e]
      by_cases h3 : (i : Int) - last ≥ w
      · have hge := gp_ge c (l.drop (i + 1)) ((i : Int) + 1) last
        refine ⟨fun h => by omega, fun _ => Ev.step (f := fun _ => some false) (fun k => ?_) (Ev.now _)⟩
        simp only [garrisonref05_Fair.l1]
        rw [if_pos (by omega), if_pos (by omega), rdN l i hlt, if_neg e, wi (a := (i : Int) - last) (by omega) (by omega), if_pos h3]
      · obtain ⟨ih1, ih2⟩ := ih (i + 1) last (by omega) (by omega) (by omega) (by omega)
        have st : ∀ k, garrisonref05_Fair.l1 (k + 1) l n w c last (i : Int) = garrisonref05_Fair.l1 k l n w c last ((i + 1 : Nat) : Int) := fun k => by
          simp only [garrisonref05_Fair.l1]
          rw [if_pos (by omega), if_pos (by omega), rdN l i hlt, if_neg e, wi (a := (i : Int) - last) (by omega) (by omega), if_neg h3, wn i (by omega)]
        rw [Int.natCast_add] at ih1 ih2
        exact ⟨fun h r hr => Ev.step st (ih1 h r hr), fun h => Ev.step st (ih2 h)⟩
theorem rfair0 (l : List Int) (n : Nat) (w : Int) (hl : l.length ≤ 1000000) (hn : n ≤ 1000000) (hw : 1 ≤ w) (hw2 : w ≤ l.length) (d : Nat) : ∀ c : Nat, c + d = n →
    ∃ b, Ev (fun k => garrisonref05_Fair.l0 k l (n : Int) w (c : Int)) b ∧ (b = true ↔ ∀ c' : Nat, c ≤ c' → c' < n → gp (c' : Int) l 0 (-1) ≤ w) := by
  induction d with
  | zero =>
    intro c hc
    refine ⟨true, Ev.step (fun k => by simp only [garrisonref05_Fair.l0]; rw [if_neg (by omega)]) (Ev.step (f := fun _ => some true) (fun k => by simp only [garrisonref05_Fair.j1]; rw [if_neg (by decide)]) (Ev.now _)), ⟨fun _ c' h1 h2 => by omega, fun _ => rfl⟩⟩
  | succ d ih =>
    intro c hc
    obtain ⟨b, hb, hbt⟩ := ih (c + 1) (by omega)
    obtain ⟨h1, h2⟩ := rfair1 l (c : Int) (n : Int) w hl hw l.length 0 (-1) (by omega) (by omega) (by omega) (by omega)
    rw [List.drop_zero] at h1 h2
    have st : ∀ r, Ev (fun k => garrisonref05_Fair.l1 k l (n : Int) w (c : Int) (-1) 0) r → Ev (fun k => garrisonref05_Fair.l0 k l (n : Int) w (c : Int)) r := fun r hr =>
      Ev.step (fun k => by simp only [garrisonref05_Fair.l0]; rw [if_pos (by omega), decide_eq_true hw2]) (Ev.step (fun k => by simp only [garrisonref05_Fair.j1]; rw [if_pos trivial]) hr)
    by_cases hg : gp (c : Int) l 0 (-1) ≤ w
    · refine ⟨b, st _ (h1 hg b ?_), ?_⟩
      · rw [wn c (by omega)]; exact hb
      · rw [hbt]
        refine ⟨fun h c' h3 h4 => ?_, fun h c' h3 h4 => h c' (by omega) h4⟩
        by_cases e : c' = c
        · subst e; exact hg
        · exact h c' (by omega) h4
    · exact ⟨false, st _ (h2 hg), ⟨(fun h => absurd h (by decide)), fun h => absurd (h c (Nat.le_refl _) (by omega)) hg⟩⟩
theorem rfair_ev (l : List Int) (n w x : Int) (hl : l.length ≤ 1000000) (hn : n ≤ 1000000) (hx : IsWin l n x) : Ev (fun k => garrisonref05_Fair.f k l n w) (decide (x ≤ w)) := by
  have hx1 := hx.1
  have hx2 := hx.2.1
  by_cases h1 : w < 1
  · rw [decide_eq_false (by omega)]
    exact Ev.congr (fun k => by unfold garrisonref05_Fair.f; rw [if_pos h1]) (Ev.now _)
  · refine Ev.congr (fun k => by unfold garrisonref05_Fair.f; rw [if_neg h1]) ?_
    have few : ∀ (hc : ¬ (0 < n ∧ w ≤ (l.length : Int))), Ev (fun k => garrisonref05_Fair.l0 k l n w 0) true := fun hc => by
      refine Ev.step (f := fun k => garrisonref05_Fair.j1 k l n w 0 false) (fun k => ?_) (Ev.step (f := fun _ => some true) (fun k => by simp only [garrisonref05_Fair.j1]; rw [if_neg (by decide)]) (Ev.now _))
      simp only [garrisonref05_Fair.l0]
      by_cases h3 : 0 < n
      · rw [if_pos h3, decide_eq_false (by omega)]
      · rw [if_neg h3]
    have hfr := hx.2.2 w (by omega)
    by_cases hc : 0 < n ∧ w ≤ (l.length : Int)
    · obtain ⟨n, rfl⟩ := Int.eq_ofNat_of_zero_le (show 0 ≤ n by omega)
      obtain ⟨b, hb, hbt⟩ := rfair0 l n w hl (by omega) (by omega) hc.2 n 0 (by omega)
      have e : b = decide (x ≤ w) := by
        rw [Bool.eq_iff_iff, hbt, decide_eq_true_iff, ← hfr]
        refine ⟨fun h => ⟨by omega, fun _ c h3 h4 => ?_⟩, fun h c _ h4 => h.2 hc.2 c (by omega) (by omega)⟩
        obtain ⟨c, rfl⟩ := Int.eq_ofNat_of_zero_le h3
        exact h c (Nat.zero_le _) (by omega)
      rw [← e]
      exact hb
    · rw [decide_eq_true (hfr.1 ⟨by omega, fun h3 c h4 h5 => by omega⟩)]
      exact few hc
theorem rwindow_ev (l : List Int) (n x : Int) (hl : l.length ≤ 1000000) (hn : n ≤ 1000000) (hx : IsWin l n x) : Ev (fun k => garrisonref05_Window.f k l n) x := by
  have hx1 := hx.1
  have hx2 := hx.2.1
  have main : ∀ (d : Nat) (w : Int), 1 ≤ w → w + d = x → Ev (fun k => garrisonref05_Window.l0 k l n w) x := by
    intro d
    induction d with
    | zero =>
      intro w h1 h2
      obtain rfl : w = x := by omega
      refine Ev.step (fun k => by simp only [garrisonref05_Window.l0]; rfl) (Ev.bind (rfair_ev l n w w hl hn hx) ?_)
      rw [decide_eq_true (Int.le_refl _)]
      exact Ev.now _
    | succ d ih =>
      intro w h1 h2
      refine Ev.step (fun k => by simp only [garrisonref05_Window.l0]; rfl) (Ev.bind (rfair_ev l n w x hl hn hx) ?_)
      rw [decide_eq_false (by omega)]
      refine Ev.congr (fun k => ?_) (ih (w + 1) (by omega) (by omega))
      rw [if_neg (by decide), if_pos (by omega), wi (by omega) (by omega)]
  exact main (x - 1).toNat 1 (by omega) (by omega)

/-! ### the same -/
theorem same_loop (a b : List Int) (hl : a.length ≤ 1000000) (he : a.length = b.length) (d : Nat) : ∀ i : Nat, i + d = a.length → Ev (fun k => garrisonref05_Same.l0 k a b (i : Int)) (decide (a.drop i = b.drop i)) := by
  induction d with
  | zero =>
    intro i hi
    rw [decide_eq_true (by rw [List.drop_of_length_le (by omega), List.drop_of_length_le (by omega)])]
    exact Ev.step (f := fun _ => some true) (fun k => by simp only [garrisonref05_Same.l0]; rw [if_neg (by omega)]) (Ev.now _)
  | succ d ih =>
    intro i hi
    have h1 : i < a.length := by omega
    have h2 : i < b.length := by omega
    rw [List.drop_eq_getElem_cons h1, List.drop_eq_getElem_cons h2]
    by_cases e : a[i] = b[i]
    · have h := ih (i + 1) (by omega)
      rw [show decide (a[i] :: a.drop (i + 1) = b[i] :: b.drop (i + 1)) = decide (a.drop (i + 1) = b.drop (i + 1)) from decide_eq_decide.2 (by rw [List.cons.injEq, e]; simp only [true_and])]
      exact Ev.step (fun k => by simp only [garrisonref05_Same.l0]; rw [if_pos (by omega), if_pos (by omega), if_pos (by omega), rdN a i h1, rdN b i h2, if_pos e, wn i (by omega)]) h
    · rw [decide_eq_false (fun h => e (List.cons.inj h).1)]
      exact Ev.step (f := fun _ => some false) (fun k => by simp only [garrisonref05_Same.l0]; rw [if_pos (by omega), if_pos (by omega), if_pos (by omega), rdN a i h1, rdN b i h2, if_neg e]) (Ev.now _)
theorem same_ev (a b : List Int) (hl : a.length ≤ 1000000) : Ev (fun k => garrisonref05_Same.f k a b) (decide (a = b)) := by
  by_cases e : a.length = b.length
  · refine Ev.congr (fun k => by unfold garrisonref05_Same.f; rw [if_pos (by omega)]) ?_
    have h := same_loop a b hl e a.length 0 (by omega)
    rw [List.drop_zero, List.drop_zero] at h
    exact h
  · rw [decide_eq_false (fun h => e (by rw [h]))]
    exact Ev.congr (fun k => by unfold garrisonref05_Same.f; rw [if_neg (by omega)]) (Ev.now _)

/-! ### rounds -/
theorem rnds_snoc (n k : Nat) : rnds n (k + 1) = rnds n k ++ rnd n := by
  induction k with
  | zero => simp [rnds]
  | succ k ih =>
    show rnd n ++ rnds n (k + 1) = rnds n (k + 1) ++ rnd n
    conv => lhs; rw [ih, ← List.append_assoc]
    rfl
def sround (n m : Int) : List Int := if n < 1 ∨ 64 < n ∨ m < 1 ∨ 10000 < m then [] else rnds n.toNat m.toNat
theorem rnd_take (n j : Nat) (h : j < n) : (rnd n).take (j + 1) = (rnd n).take j ++ [(j : Int)] := by
  rw [List.take_succ_eq_append_getElem (by rw [rnd_len]; exact h)]
  congr 2
  simp [rnd]
theorem srounds1 (n m i : Nat) (A : List Int) (hn : n ≤ 64) (hA : A.length ≤ 1000000) (r : List Int) (hr : Ev (fun k => script_Rounds.l0 k (n : Int) (A ++ rnd n) (m : Int) ((i : Int) + 1)) r) (hi : i ≤ 1000000) (d : Nat) : ∀ j : Nat, j + d = n →
    Ev (fun k => script_Rounds.l1 k (n : Int) (A ++ (rnd n).take j) (m : Int) (i : Int) (n : Int) (j : Int)) r := by
  induction d with
  | zero =>
    intro j hj
    obtain rfl : j = n := by omega
    rw [List.take_of_length_le (by rw [rnd_len]; omega)]
    exact Ev.step (fun k => by simp only [script_Rounds.l1]; rw [if_neg (by omega), wi (by omega) (by omega)]) hr
  | succ d ih =>
    intro j hj
    refine Ev.step (fun k => ?_) (ih (j + 1) (by omega))
    simp only [script_Rounds.l1]
    rw [if_pos (by omega), if_pos (by rw [List.length_append, List.length_take, rnd_len]; omega), wn j (by omega), rnd_take n j (by omega), List.append_assoc]
theorem srounds0 (n m : Nat) (hn : n ≤ 64) (hm : m ≤ 10000) (d : Nat) : ∀ i : Nat, i + d = m → Ev (fun k => script_Rounds.l0 k (n : Int) (rnds n i) (m : Int) (i : Int)) (rnds n m) := by
  induction d with
  | zero =>
    intro i hi
    obtain rfl : i = m := by omega
    exact Ev.step (f := fun _ => some (rnds n i)) (fun k => by simp only [script_Rounds.l0]; rw [if_neg (by omega)]) (Ev.now _)
  | succ d ih =>
    intro i hi
    have h := ih (i + 1) (by omega)
    rw [rnds_snoc, Int.natCast_add] at h
    have hlen : (rnds n i).length ≤ 640000 := by rw [rnds_len]; exact Nat.le_trans (Nat.mul_le_mul hn (show i ≤ 10000 by omega)) (by decide)
    have h2 := srounds1 n m i (rnds n i) hn (by omega) _ h (by omega) n 0 (by omega)
    rw [List.take_zero, List.append_nil] at h2
    exact Ev.step (fun k => by simp only [script_Rounds.l0]; rw [if_pos (by omega)]; rfl) h2
theorem srounds_ev (n m : Int) : Ev (fun k => script_Rounds.f k n m) (sround n m) := by
  have jt : Ev (fun k => script_Rounds.j0 k n m [] true) [] := Ev.step (f := fun _ => some []) (fun k => by simp only [script_Rounds.j0]; rw [if_pos trivial]) (Ev.now _)
  unfold sround
  by_cases h1 : n < 1
  · rw [if_pos (by omega)]
    exact Ev.congr (fun k => by unfold script_Rounds.f; rw [if_pos h1]) jt
  · by_cases h2 : n > 64
    · rw [if_pos (by omega)]
      exact Ev.congr (fun k => by unfold script_Rounds.f; rw [if_neg h1, if_pos h2]) jt
    · by_cases h3 : m < 1
      · rw [if_pos (by omega)]
        exact Ev.congr (fun k => by unfold script_Rounds.f; rw [if_neg h1, if_neg h2, if_pos h3]) jt
      · by_cases h4 : m > 10000
        · rw [if_pos (by omega)]
          exact Ev.congr (fun k => by unfold script_Rounds.f; rw [if_neg h1, if_neg h2, if_neg h3, decide_eq_true h4]) jt
        · rw [if_neg (by omega)]
          obtain ⟨n, rfl⟩ := Int.eq_ofNat_of_zero_le (show 0 ≤ n by omega)
          obtain ⟨m, rfl⟩ := Int.eq_ofNat_of_zero_le (show 0 ≤ m by omega)
          refine Ev.congr (fun k => by unfold script_Rounds.f; rw [if_neg h1, if_neg h2, if_neg h3, decide_eq_false h4]) ?_
          have h := srounds0 n m (by omega) (by omega) m 0 (by omega)
          exact Ev.step (fun k => by simp only [script_Rounds.j0]; rw [if_neg (by decide)]; rfl) h
theorem rrounds0 (n m : Nat) (hn : n ≤ 64) (hn1 : 1 ≤ n) (hm : m ≤ 10000) (d : Nat) : ∀ i : Nat, i + d = n * m → Ev (fun k => garrisonref05_Rounds.l0 k (n : Int) (m : Int) ((rnds n m).take i) (i : Int)) (rnds n m) := by
  have hnm : n * m ≤ 640000 := Nat.le_trans (Nat.mul_le_mul hn hm) (by decide)
  have hw : wrap64 ((m : Int) * (n : Int)) = ((n * m : Nat) : Int) := by
    rw [Int.mul_comm, ← Int.natCast_mul]
    exact wi (by omega) (by omega)
  induction d with
  | zero =>
    intro i hi
    refine Ev.step (f := fun _ => some (rnds n m)) (fun k => ?_) (Ev.now _)
    simp only [garrisonref05_Rounds.l0]
    rw [hw, if_neg (by omega), List.take_of_length_le (by rw [rnds_len]; omega)]
  | succ d ih =>
    intro i hi
    refine Ev.step (fun k => ?_) (ih (i + 1) (by omega))
    simp only [garrisonref05_Rounds.l0]
    have hlt : i < (rnds n m).length := by rw [rnds_len]; omega
    have hg := rnds_get n m i (by omega)
    rw [List.getElem?_eq_getElem hlt] at hg
    have e : (rnds n m).take (i + 1) = (rnds n m).take i ++ [Int.tmod (i : Int) (n : Int)] := by
      rw [List.take_succ_eq_append_getElem hlt, Option.some.inj hg]
      rfl
    rw [hw, if_pos (by omega), if_neg (by omega), if_pos (by rw [List.length_take]; omega), wn i (by omega), e]
theorem rrounds_ev (n m : Int) : Ev (fun k => garrisonref05_Rounds.f k n m) (sround n m) := by
  have jt : Ev (fun k => garrisonref05_Rounds.j0 k n m [] true) [] := Ev.step (f := fun _ => some []) (fun k => by simp only [garrisonref05_Rounds.j0]; rw [if_pos trivial]) (Ev.now _)
  unfold sround
  by_cases h1 : n < 1
  · rw [if_pos (by omega)]
    exact Ev.congr (fun k => by unfold garrisonref05_Rounds.f; rw [if_pos h1]) jt
  · by_cases h2 : n > 64
    · rw [if_pos (by omega)]
      exact Ev.congr (fun k => by unfold garrisonref05_Rounds.f; rw [if_neg h1, if_pos h2]) jt
    · by_cases h3 : m < 1
      · rw [if_pos (by omega)]
        exact Ev.congr (fun k => by unfold garrisonref05_Rounds.f; rw [if_neg h1, if_neg h2, if_pos h3]) jt
      · by_cases h4 : m > 10000
        · rw [if_pos (by omega)]
          exact Ev.congr (fun k => by unfold garrisonref05_Rounds.f; rw [if_neg h1, if_neg h2, if_neg h3, decide_eq_true h4]) jt
        · rw [if_neg (by omega)]
          obtain ⟨n, rfl⟩ := Int.eq_ofNat_of_zero_le (show 0 ≤ n by omega)
          obtain ⟨m, rfl⟩ := Int.eq_ofNat_of_zero_le (show 0 ≤ m by omega)
          refine Ev.congr (fun k => by unfold garrisonref05_Rounds.f; rw [if_neg h1, if_neg h2, if_neg h3, decide_eq_false h4]) ?_
          have h := rrounds0 n m (by omega) (by omega) (by omega) (n * m) 0 (by omega)
          exact Ev.step (fun k => by simp only [garrisonref05_Rounds.j0]; rw [if_neg (by decide)]; rfl) h
end Go.Proofs.YthifdmelanbgmaaDoor.Plain
