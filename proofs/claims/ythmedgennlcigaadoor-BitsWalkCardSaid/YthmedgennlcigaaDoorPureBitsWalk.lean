/- BitsWalk is true at every word: no condition. -/
import Derived.Test.YthmedgennlcigaaDoorBits6
import Derived.Test.YthmedgennlcigaaDoorPx5
namespace Go.Proofs.YthmedgennlcigaaDoor.Pure
open Go Go.RowKit Go.Proofs.YthmedgennlcigaaDoorW.PrintWords Go.Proofs.YthmedgennlcigaaDoorW.PrintLast Go.Proofs.YthmedgennlcigaaDoorW.PrintMore Go.Proofs.YthmedgennlcigaaDoor.P Go.Proofs.YthmedgennlcigaaDoor.Given Go.Proofs.YthmedgennlcigaaDoor.Plain

theorem pc_clear (w a : Nat) : ∀ d, (∀ t, a ≤ t → t < a + d → w.testBit t = false) → pc (a + d) w = pc a w
  | 0, _ => rfl
  | d + 1, h => by
    rw [show a + (d + 1) = (a + d) + 1 from by omega, pc_snoc, pc_clear w a d (fun t h1 h2 => h t h1 (by omega))]
    have hb : ¬ w / 2 ^ (a + d) % 2 = 1 := fun e => by
      have := (bit_of w (a + d)).1 e
      rw [h (a + d) (by omega) (by omega)] at this
      cases this
    have : w / 2 ^ (a + d) % 2 < 2 := Nat.mod_lt _ (by decide)
    omega
theorem xor_pow (x b : Nat) (hx : x < 18446744073709551616) (hb : b < 64) : bits .xor .u64 (x : Int) (shl .u64 1 (b : Int)) = ((x ^^^ 2 ^ b : Nat) : Int) := by
  rw [show (1 : Int) = ((1 : Nat) : Int) from rfl, shl64 _ _ (by omega), Nat.one_mul, Nat.mod_eq_of_lt (pow_lt64 hb), xor64 _ _ hx (pow_lt64 hb)]

/-- What stands at the head of a round. -/
structure At (w a : Nat) (last : Int) (x : Nat) : Prop where
  lt : x < 18446744073709551616
  bit : ∀ t, t < 64 → x.testBit t = (w.testBit t && decide (a ≤ t))
  last : (last = -1 ∧ ∀ t, t < a → w.testBit t = false) ∨ (∃ b : Nat, last = (b : Int) ∧ b < a ∧ w.testBit b = true ∧ ∀ t, b < t → t < a → w.testBit t = false)

theorem end_ok (w : Nat) (hw : w < 18446744073709551616) (a : Nat) (ha : a ≤ 64) (last : Int) (x : Nat) (h : At w a last x) (hc : ∀ t, a ≤ t → t < 64 → w.testBit t = false) :
    pc a w = pc 64 w ∧ x = 0 ∧ ∃ r, bits_High.f (w : Int) = some r ∧ r.2 = ((w : Int) != 0) ∧ (w ≠ 0 → r.1 = last) := by
  refine ⟨?_, ?_, ?_⟩
  · have := pc_clear w a (64 - a) (fun t h1 h2 => hc t h1 (by omega))
    rw [show a + (64 - a) = 64 from by omega] at this
    exact this.symm
  · apply ext64 h.lt (by decide)
    intro t ht
    rw [h.bit t ht]
    by_cases e : a ≤ t
    · rw [hc t e ht]; simp
    · simp [e]
  · obtain ⟨r, hr, hh⟩ := High_eq w hw
    refine ⟨r, hr, ?_, ?_⟩
    · rcases hh with ⟨i, rfl, h2, h3, h4⟩ | ⟨rfl, h1⟩
      · have hz : w ≠ 0 := fun e => by rw [e] at h3; simp at h3
        have : ((w : Int) != 0) = true := by rw [bne_iff_ne]; omega
        rw [this]
      · have hz : w = 0 := ext64 hw (by decide) (fun t ht => by rw [h1 t ht]; simp)
        subst hz
        rfl
    · intro hz
      rcases hh with ⟨i, rfl, h2, h3, h4⟩ | ⟨rfl, h1⟩
      · have hia : i < a := by
          rcases Nat.lt_or_ge i a with e | e
          · exact e
          · rw [hc i e h2] at h3; cases h3
        rcases h.last with ⟨rfl, g⟩ | ⟨b, rfl, g1, g2, g3⟩
        · rw [g i hia] at h3; cases h3
        · rcases Nat.lt_trichotomy i b with e | e | e
          · rw [h4 b e (by omega)] at g2; cases g2
          · rw [e]
          · rw [g3 i e hia] at h3; cases h3
      · exact absurd (ext64 hw (by decide) (fun t ht => by rw [h1 t ht]; simp)) hz

theorem fin_ok (k w : Nat) (n c last : Int) (r : Int × Bool) (hk : 20 ≤ k) (hn : n = c) (hr : r.2 = ((w : Int) != 0)) (hl : w ≠ 0 → r.1 = last) :
    (if n = c then (if (0 : Int) = 0 then (if (r.2 == ((w : Int) != 0)) = true then (if (w : Int) = 0 then ((garrisonlaw01_live.f k).bind fun t241 => (some t241)) else (if r.1 = last then ((garrisonlaw01_live.f k).bind fun t242 => (some t242)) else (some false))) else (some false)) else (some false)) else (some false)) = some true := by
  rw [if_pos hn, if_pos rfl, hr, beq_self_eq_true, if_pos rfl, live_ok hk]
  by_cases hz : w = 0
  · rw [if_pos (by omega)]; rfl
  · rw [if_neg (by omega), if_pos (hl hz)]; rfl

theorem walk_loop (w : Nat) (hw : w < 18446744073709551616) : ∀ (n d k a i : Nat) (last : Int) (x : Nat), d ≤ n → a + d = 64 → i ≤ a → d + 30 < k → At w a last x →
    garrisonlaw01_BitsWalk.l0 k (w : Int) ((pc a w : Nat) : Int) (a : Int) last (x : Int) (i : Int) = some true := by
  intro n
  induction n with
  | zero =>
    intro d k a i last x hd ha hi hk h
    obtain ⟨k, rfl⟩ : ∃ m, k = m + 1 := ⟨k - 1, by omega⟩
    obtain rfl : a = 64 := by omega
    have g : (i : Int) ≤ 64 := by omega
    obtain ⟨e1, rfl, r, hr, e2, e3⟩ := end_ok w hw 64 (by omega) last x h (fun t h1 h2 => by omega)
    have hN : nextOf w ((64 : Nat) : Int) = (0, false) := rfl
    simp only [garrisonlaw01_BitsWalk.l0]
    rw [if_pos g, Next_eq w hw, hN, hr, Count_eq w hw]
    clear g
    generalize ((pc 64 w : Nat) : Int) = c at *
    exact fin_ok k w c c last r (by omega) rfl e2 e3
  | succ n ih =>
    intro d k a i last x hd ha hi hk h
    obtain ⟨k, rfl⟩ : ∃ m, k = m + 1 := ⟨k - 1, by omega⟩
    have g : (i : Int) ≤ 64 := by omega
    have hN := next_is w hw (a : Int)
    rw [Int.toNat_natCast] at hN
    rcases hN with ⟨b, hb, h1, h2, h3, h4⟩ | ⟨hb, h1⟩
    · have hla : last < (a : Int) := by
        rcases h.last with ⟨rfl, _⟩ | ⟨c, rfl, g1, _⟩ <;> omega
      have c1 : ¬ (b : Int) ≤ last := by omega
      have c2 : ¬ (b : Int) > 63 := by omega
      have c3 : (0 : Int) ≤ (b : Int) := by omega
      have hpc : pc (b + 1) w = pc a w + 1 := by
        have := pc_clear w a (b - a) (fun t e1 e2 => h4 t e1 (by omega))
        rw [show a + (b - a) = b from by omega] at this
        rw [pc_snoc, this, (bit_of w b).2 h3]
      have hl := pc_le (b + 1) w
      have s1 : wrap64 (((pc a w : Nat) : Int) + 1) = ((pc (b + 1) w : Nat) : Int) := by
        rw [hpc] at hl ⊢
        generalize pc a w = p at *
        rw [w64 (by omega) (by omega)]
        rfl
      have s2 := suc64 b h2
      have s3 : wrap64 ((i : Int) + 1) = ((i + 1 : Nat) : Int) := by rw [w64 (by omega) (by omega)]; rfl
      have s4 := xor_pow x b h.lt h2
      simp only [garrisonlaw01_BitsWalk.l0]
      rw [if_pos g, Next_eq w hw, hb]
      simp only [Option.bind_some, if_true]
      rw [if_neg c1, if_neg c2, if_pos c3, s1, s2, s3, s4]
      clear g c1 c2 c3 s1 s2 s3 s4
      refine ih (64 - (b + 1)) k (b + 1) (i + 1) (b : Int) (x ^^^ 2 ^ b) (by omega) (by omega) (by omega) (by omega) ⟨Nat.xor_lt_two_pow (n := 64) h.lt (pow_lt64 h2), ?_, .inr ⟨b, rfl, by omega, h3, fun t e1 e2 => by omega⟩⟩
      intro t ht
      rw [Nat.testBit_xor, h.bit t ht, Nat.testBit_two_pow]
      rcases Nat.lt_trichotomy t b with e | e | e
      · have e9 : ¬ b = t := by omega
        have e10 : ¬ b + 1 ≤ t := by omega
        by_cases e5 : a ≤ t
        · rw [h4 t e5 e]; simp [e9]
        · simp [e5, e9, e10]
      · subst e
        rw [h3]; simp [h1]
      · have e6 : a ≤ t := by omega
        have e7 : b + 1 ≤ t := by omega
        have e8 : ¬ b = t := by omega
        simp [e6, e7, e8]
    · obtain ⟨e1, rfl, r, hr, e2, e3⟩ := end_ok w hw a (by omega) last x h h1
      simp only [garrisonlaw01_BitsWalk.l0]
      rw [if_pos g, Next_eq w hw, hb, hr, Count_eq w hw, e1]
      clear g
      generalize ((pc 64 w : Nat) : Int) = c at *
      exact fin_ok k w c c last r (by omega) rfl e2 e3

theorem BitsWalk : garrisonlaw01_BitsWalk.Pure := by
  intro w hW
  obtain ⟨w, rfl, hw⟩ := wf_u64 hW
  refine ⟨140, ?_⟩
  unfold garrisonlaw01_BitsWalk.f
  exact walk_loop w hw 64 64 140 0 0 (-1) w (by decide) rfl (by decide) (by decide) ⟨hw, fun t _ => by simp, .inl ⟨rfl, fun t h => by omega⟩⟩
end Go.Proofs.YthmedgennlcigaaDoor.Pure
