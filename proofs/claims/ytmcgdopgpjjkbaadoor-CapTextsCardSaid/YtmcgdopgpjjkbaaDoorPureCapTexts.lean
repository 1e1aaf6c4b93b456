/- CapTexts: one text for one capability. -/
import Derived.Test.YtmcgdopgpjjkbaaDoorCap1
import Derived.Laws.Strings
import Derived.Test.YtmcgdopgpjjkbaaDoorPx14
namespace Go.Proofs.YtmcgdopgpjjkbaaDoor.Pure
open Go Go.RowKit Go.Proofs.YtmcgdopgpjjkbaaDoorW.PrintWords Go.Proofs.YtmcgdopgpjjkbaaDoorW.PrintLast Go.Proofs.YtmcgdopgpjjkbaaDoorW.PrintMore Go.Proofs.YtmcgdopgpjjkbaaDoor.P Go.Proofs.YtmcgdopgpjjkbaaDoor.Plain Go.Proofs.YtmcgdopgpjjkbaaDoor.Given

/-- The number that a row of digits tells. -/
def valD (l : List UInt8) : Nat := l.foldl (fun a c => 10 * a + (c.toNat - 48)) 0
theorem val_dec (u : Nat) : valD (Lib.decDigits u) = u := by
  induction u using Nat.strongRecOn with
  | _ u ih =>
    by_cases h : u < 10
    · rw [Lib.decDigits_one h]
      simp [valD]
      omega
    · rw [Lib.decDigits, dif_neg h]
      have := ih (u / 10) (by omega)
      unfold valD at this ⊢
      rw [List.foldl_append, this]
      simp
      omega
theorem dec_in (u : Nat) : ∀ c ∈ Lib.decDigits u, 48 ≤ c.toNat := by
  induction u using Nat.strongRecOn with
  | _ u ih =>
    intro c hc
    by_cases h : u < 10
    · rw [Lib.decDigits_one h] at hc
      simp at hc
      subst hc
      simp
      omega
    · rw [Lib.decDigits, dif_neg h] at hc
      rcases List.mem_append.1 hc with hc | hc
      · exact ih (u / 10) (by omega) c hc
      · simp at hc
        subst hc
        simp
        omega
theorem ito_dec {n : Int} (h : 0 ≤ n) : Lib.itoa n = Lib.decDigits n.toNat := by
  unfold Lib.itoa
  rw [if_neg (by omega)]
theorem ito_no {n : Int} (h : 0 ≤ n) {c : UInt8} (hc : c.toNat < 48) : c ∉ Lib.itoa n := by
  rw [ito_dec h]
  exact fun hm => absurd (dec_in _ c hm) (by omega)
theorem ito_inj {m n : Int} (hm : 0 ≤ m) (hn : 0 ≤ n) (h : Lib.itoa m = Lib.itoa n) : m = n := by
  rw [ito_dec hm, ito_dec hn] at h
  have := congrArg valD h
  rw [val_dec, val_dec] at this
  omega
/-- What stands before the first mark. -/
theorem cut_at (c : UInt8) : ∀ (a b x y : List UInt8), c ∉ a → c ∉ b → a ++ c :: x = b ++ c :: y → a = b ∧ x = y
  | [], [], _, _, _, _, h => ⟨rfl, (List.cons.inj h).2⟩
  | [], d :: b, _, _, _, hb, h => absurd ((List.cons.inj h).1 ▸ List.mem_cons_self) hb
  | d :: a, [], _, _, ha, _, h => absurd ((List.cons.inj h).1.symm ▸ List.mem_cons_self) ha
  | d :: a, e :: b, x, y, ha, hb, h => by
    obtain ⟨h1, h2⟩ := List.cons.inj h
    obtain ⟨h3, h4⟩ := cut_at c a b x y (fun hm => ha (List.mem_cons_of_mem _ hm)) (fun hm => hb (List.mem_cons_of_mem _ hm)) h2
    exact ⟨by rw [h1, h3], h4⟩
def nmL (t : Int) : List UInt8 := (rdOf ByteArray.empty nameS t).data.toList
theorem nm_no {t : Int} (h1 : 1 ≤ t) (h5 : t ≤ 5) : (32 : UInt8) ∉ nmL t := by
  obtain rfl | rfl | rfl | rfl | rfl : t = 1 ∨ t = 2 ∨ t = 3 ∨ t = 4 ∨ t = 5 := by omega
  all_goals decide
theorem nm_inj {t t' : Int} (h1 : 1 ≤ t) (h5 : t ≤ 5) (h1' : 1 ≤ t') (h5' : t' ≤ 5) (h : nmL t = nmL t') : t = t' := by
  obtain rfl | rfl | rfl | rfl | rfl : t = 1 ∨ t = 2 ∨ t = 3 ∨ t = 4 ∨ t = 5 := by omega
  all_goals
    obtain rfl | rfl | rfl | rfl | rfl : t' = 1 ∨ t' = 2 ∨ t' = 3 ∨ t' = 4 ∨ t' = 5 := by omega
    all_goals first | rfl | exact absurd h (by decide)
def rgL (r : Int) : List UInt8 := (rightsS r).data.toList
theorem rg_len {r : Int} (h0 : 0 ≤ r) (h1 : r ≤ 15) : (rgL r).length = 4 := by
  have hb : rightsB r = true := decide_eq_true ⟨h0, h1⟩
  unfold rgL rightsS
  rw [if_pos hb]
  rfl
theorem rg_inj {r r' : Int} (h0 : 0 ≤ r) (h1 : r ≤ 15) (h0' : 0 ≤ r') (h1' : r' ≤ 15) (h : rgL r = rgL r') : r = r' := by
  have hx : ∀ x y : Fin 16, rgL (x.val : Int) = rgL (y.val : Int) → x = y := by decide +kernel
  obtain ⟨x, rfl⟩ := Int.eq_ofNat_of_zero_le h0
  obtain ⟨y, rfl⟩ := Int.eq_ofNat_of_zero_le h0'
  have := hx ⟨x, by omega⟩ ⟨y, by omega⟩ h
  simp only [Fin.mk.injEq] at this
  rw [this]
/-- The text as a row of bytes. -/
def textL (t r b o g : Int) : List UInt8 := nmL t ++ 32 :: (Lib.itoa o ++ 46 :: (Lib.itoa g ++ 32 :: (rgL r ++ (if b = 0 then [] else 32 :: Lib.itoa b))))
theorem text_list {t r b o g : Int} (h : capOk t r b o g = true) (h0 : t ≠ 0) : (textS t r b o g).data.toList = textL t r b o g := by
  unfold textS textA textL nmL rgL itoS
  rw [if_pos h, if_neg h0]
  by_cases hb : b = 0
  · rw [if_pos hb, if_pos hb]
    simp [ByteArray.data_append]
  · rw [if_neg hb, if_neg hb]
    simp [ByteArray.data_append]
theorem textL_inj {t r b o g t' r' b' o' g' : Int} (h : 1 ≤ t ∧ t ≤ 5 ∧ 0 ≤ r ∧ r ≤ 15 ∧ 0 ≤ b ∧ 0 ≤ o ∧ 0 ≤ g) (h' : 1 ≤ t' ∧ t' ≤ 5 ∧ 0 ≤ r' ∧ r' ≤ 15 ∧ 0 ≤ b' ∧ 0 ≤ o' ∧ 0 ≤ g') (e : textL t r b o g = textL t' r' b' o' g') : t = t' ∧ r = r' ∧ b = b' ∧ o = o' ∧ g = g' := by
  obtain ⟨a1, a2, a3, a4, a5, a6, a7⟩ := h
  obtain ⟨c1, c2, c3, c4, c5, c6, c7⟩ := h'
  unfold textL at e
  obtain ⟨e1, e⟩ := cut_at 32 _ _ _ _ (nm_no a1 a2) (nm_no c1 c2) e
  obtain ⟨e2, e⟩ := cut_at 46 _ _ _ _ (ito_no a6 (by decide)) (ito_no c6 (by decide)) e
  obtain ⟨e3, e⟩ := cut_at 32 _ _ _ _ (ito_no a7 (by decide)) (ito_no c7 (by decide)) e
  obtain ⟨e4, e5⟩ := List.append_inj e (by rw [rg_len a3 a4, rg_len c3 c4])
  refine ⟨nm_inj a1 a2 c1 c2 e1, rg_inj a3 a4 c3 c4 e4, ?_, ito_inj a6 c6 e2, ito_inj a7 c7 e3⟩
  by_cases hb : b = 0
  · by_cases hb' : b' = 0
    · rw [hb, hb']
    · rw [if_pos hb, if_neg hb'] at e5
      exact absurd e5 (by simp)
  · by_cases hb' : b' = 0
    · rw [if_neg hb, if_pos hb'] at e5
      exact absurd e5 (by simp)
    · rw [if_neg hb, if_neg hb'] at e5
      exact ito_inj a5 c5 (List.cons.inj e5).2
theorem text_none : (textS 0 0 0 0 0).data.toList = [110, 111, 110, 101] := by decide
theorem textL_has (t r b o g : Int) : (32 : UInt8) ∈ textL t r b o g := by
  unfold textL
  exact List.mem_append_right _ List.mem_cons_self
theorem text_inj {t r b o g t' r' b' o' g' : Int} (h : capOk t r b o g = true) (h' : capOk t' r' b' o' g' = true) : ((textS t r b o g).toList = (textS t' r' b' o' g').toList) ↔ (t = t' ∧ r = r' ∧ b = b' ∧ o = o' ∧ g = g') := by
  rw [ByteArray.toList_eq, ByteArray.toList_eq]
  constructor
  · intro e
    rcases (capOk_iff _ _ _ _ _).1 h with ⟨rfl, rfl, rfl, rfl, rfl⟩ | q
    · rcases (capOk_iff _ _ _ _ _).1 h' with ⟨rfl, rfl, rfl, rfl, rfl⟩ | q'
      · exact ⟨rfl, rfl, rfl, rfl, rfl⟩
      · rw [text_none, text_list h' (by omega)] at e
        have := textL_has t' r' b' o' g'
        rw [← e] at this
        exact absurd this (by decide)
    · rcases (capOk_iff _ _ _ _ _).1 h' with ⟨rfl, rfl, rfl, rfl, rfl⟩ | q'
      · rw [text_none, text_list h (by omega)] at e
        have := textL_has t r b o g
        rw [e] at this
        exact absurd this (by decide)
      · rw [text_list h (by omega), text_list h' (by omega)] at e
        exact textL_inj (by omega) (by omega) e
  · rintro ⟨rfl, rfl, rfl, rfl, rfl⟩
    rfl
theorem text_some {t r b o g : Int} (h : capOk t r b o g = true) : ¬ (textS t r b o g).toList = [] := by
  rw [ByteArray.toList_eq]
  intro e
  rcases (capOk_iff _ _ _ _ _).1 h with ⟨rfl, rfl, rfl, rfl, rfl⟩ | q
  · rw [text_none] at e
    exact absurd e (by simp)
  · rw [text_list h (by omega)] at e
    have := textL_has t r b o g
    rw [e] at this
    exact absurd this (by simp)
theorem text_empty {t r b o g : Int} (h : ¬ capOk t r b o g = true) : (textS t r b o g).toList = [] := by
  rw [ByteArray.toList_eq]
  unfold textS
  rw [if_neg h]
theorem CapTexts : garrisonlaw03_CapTexts.Pure := by
  intro t r b o g t' r' b' o' g' _ _
  unfold garrisonlaw03_CapTexts.f
  rw [check_ok, check_ok, Text_f, Text_f, live_f, five_eq]
  simp only [Option.bind_some, num_f]
  by_cases h : capOk t r b o g = true
  · rw [if_pos h]
    by_cases h' : capOk t' r' b' o' g' = true
    · rw [if_pos h', if_pos (by unfold wrap64; omega), if_neg (text_some h)]
      have e : ((textS t r b o g).toList == (textS t' r' b' o' g').toList) = decide (t = t' ∧ r = r' ∧ b = b' ∧ o = o' ∧ g = g') := by
        rw [Bool.eq_iff_iff, beq_iff_eq, decide_eq_true_eq]
        exact text_inj h h'
      rw [e, beq_self_eq_true, if_pos rfl]
    · rw [if_neg h', if_neg (by unfold wrap64; omega), if_pos rfl]
  · rw [if_neg h, if_neg (by split <;> (unfold wrap64; omega)), if_neg (by decide), if_pos (text_empty h)]
end Go.Proofs.YtmcgdopgpjjkbaaDoor.Pure
