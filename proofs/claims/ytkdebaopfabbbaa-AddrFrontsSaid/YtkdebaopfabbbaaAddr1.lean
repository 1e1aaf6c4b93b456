/- Addresses and their words as natural numbers: what Check, Put, Parse and the document's answer come to. -/
import Derived.Test.YtkdebaopfabbbaaBits2
import Derived.Test.YtkdebaopfabbbaaGCheck
import Derived.Test.YtkdebaopfabbbaaPx5
import Derived.Test.YtkdebaopfabbbaaPx6
import Derived.Test.YtkdebaopfabbbaaPx7
namespace Go.Proofs.Ytkdebaopfabbbaa.Plain
open Go Go.RowKit Go.Proofs.YtkdebaopfabbbaaW.PrintWords Go.Proofs.YtkdebaopfabbbaaW.PrintLast Go.Proofs.YtkdebaopfabbbaaW.PrintMore Go.Proofs.Ytkdebaopfabbbaa.P Go.Proofs.Ytkdebaopfabbbaa.Given

abbrev Step := S53
theorem wc (n : Nat) (x : Int) (h : x = (n : Int)) (hn : n ≤ 1000000) : wrap64 x = (n : Int) := by
  rw [h]
  exact w64 (by omega) (by omega)
theorem bind_of {α β : Type} {o : Option α} {a : α} (h : o = some a) (f : α → Option β) : o.bind f = f a := by rw [h]; rfl
theorem rdS (l : List Step) (i : Nat) (h : i < l.length) : rd_T53 l (i : Int) = l[i] := by
  unfold rd_T53
  rw [Int.toNat_natCast, List.getD_eq_getElem?_getD, List.getElem?_eq_getElem h]
  rfl

def okS (s : Step) : Prop := (0 ≤ s.f0 ∧ s.f0 < 8) ∧ 0 ≤ s.f1 ∧ s.f1 < 8
instance (s : Step) : Decidable (okS s) := by unfold okS; infer_instance
def okA (l : List Step) : Prop := 1 ≤ l.length ∧ l.length ≤ 4 ∧ ∀ s ∈ l, okS s
instance (l : List Step) : Decidable (okA l) := by unfold okA; infer_instance

theorem badB_iff (s : Step) : badB s = true ↔ ¬ okS s := by
  unfold badB partB okS
  by_cases h0 : 0 ≤ s.f0 ∧ s.f0 < 8
  · by_cases h1 : 0 ≤ s.f1 ∧ s.f1 < 8
    · simp [h0, h1]
    · simp only [decide_eq_true h0, decide_eq_false h1]
      simp only [Bool.true_and, Bool.not_false, true_iff]
      exact fun h => h1 h.2
  · simp only [decide_eq_false h0]
    simp only [Bool.false_and, Bool.not_false, true_iff]
    exact fun h => h0 h.1
theorem badAt_iff : ∀ (l : List Step) (i : Nat), badAt l i < 0 ↔ ∀ s ∈ l, okS s
  | [], i => by simp [badAt]
  | s :: l, i => by
    unfold badAt
    by_cases h : okS s
    · rw [if_neg (fun hb => (badB_iff s).1 hb h), badAt_iff l (i + 1)]
      exact ⟨fun h2 t ht => by rcases List.mem_cons.1 ht with rfl | ht; exact h; exact h2 t ht, fun h2 t ht => h2 t (List.mem_cons_of_mem _ ht)⟩
    · rw [if_pos ((badB_iff s).2 h)]
      exact ⟨fun h2 => by omega, fun h2 => absurd (h2 s (List.mem_cons_self ..)) h⟩
theorem Check_eq (l : List Step) : addr_Check.f l = some (if okA l then 0 else 120) := by
  unfold addr_Check.f addr_Check.ok
  by_cases h : okA l
  · obtain ⟨h1, h2, h3⟩ := id h
    rw [if_pos h, decide_eq_true h1, decide_eq_true h2, decide_eq_true ((badAt_iff l 0).2 h3)]
    rfl
  · rw [if_neg h, if_neg]
    intro hb
    simp only [Bool.and_eq_true, decide_eq_true_eq] at hb
    exact h ⟨hb.1.1, hb.1.2, (badAt_iff l 0).1 hb.2⟩

theorem Is_loop (l : List Step) (hl : l.length ≤ 4) (d : Nat) : ∀ k i, i + d = l.length → d < k → garrisonref12_Is.l0 k l (i : Int) = some (decide (∀ s ∈ l.drop i, okS s)) := by
  induction d with
  | zero =>
    intro k i hd hk
    obtain ⟨k, rfl⟩ : ∃ m, k = m + 1 := ⟨k - 1, by omega⟩
    simp only [garrisonref12_Is.l0]
    rw [if_neg (by omega), List.drop_eq_nil_of_le (by omega)]
    simp
  | succ d ih =>
    intro k i hd hk
    obtain ⟨k, rfl⟩ : ∃ m, k = m + 1 := ⟨k - 1, by omega⟩
    have hi : i < l.length := by omega
    simp only [garrisonref12_Is.l0]
    rw [if_pos (by omega), if_pos (by omega), rdS l i hi, wc (i + 1) ((i : Int) + 1) (by push_cast; rfl) (by omega), ih k (i + 1) (by omega) (by omega), List.drop_eq_getElem_cons hi]
    by_cases ho : okS l[i]
    · have ho' := ho
      obtain ⟨⟨a1, a2⟩, a3, a4⟩ := ho
      rw [if_neg (by omega), if_neg (by omega), if_neg (by omega), if_neg (by omega)]
      congr 1
      apply decide_eq_decide.2
      exact ⟨fun h2 t ht => by rcases List.mem_cons.1 ht with rfl | ht; exact ho'; exact h2 t ht, fun h2 t ht => h2 t (List.mem_cons_of_mem _ ht)⟩
    · have hf : ¬ ∀ s ∈ l[i] :: l.drop (i + 1), okS s := fun h => ho (h _ (List.mem_cons_self ..))
      simp only [hf, decide_false]
      unfold okS at ho
      split
      · rfl
      · split
        · rfl
        · split
          · rfl
          · split
            · rfl
            · omega
theorem Is_eq (l : List Step) {k : Nat} (hk : 10 ≤ k) : garrisonref12_Is.f k l = some (decide (okA l)) := by
  obtain ⟨k, rfl⟩ : ∃ m, k = m + 1 := ⟨k - 1, by omega⟩
  unfold garrisonref12_Is.f
  by_cases h1 : (l.length : Int) < 1
  · rw [if_pos h1, decide_eq_false (fun h : okA l => by have := h.1; omega)]
    simp only [garrisonref12_Is.j0]
    rfl
  · rw [if_neg h1]
    simp only [garrisonref12_Is.j0]
    by_cases h2 : (l.length : Int) > 4
    · rw [if_pos (decide_eq_true h2), decide_eq_false (fun h : okA l => by have := h.2.1; omega)]
    · rw [if_neg (by simpa using h2)]
      have := Is_loop l (by omega) l.length k 0 (by omega) (by omega)
      rw [show ((0 : Nat) : Int) = 0 from rfl] at this
      rw [this, List.drop_zero]
      congr 1
      apply decide_eq_decide.2
      exact ⟨fun h => ⟨by omega, by omega, h⟩, fun h => h.2.2⟩

/-! ### words -/
def pw : Nat → List Step → Nat → Nat
  | w, [], _ => w
  | w, s :: l, i => pw (putN (putN w (3 + 6 * i) 3 s.f0.toNat) (6 + 6 * i) 3 s.f1.toNat) l (i + 1)
theorem pw_cons (w i : Nat) (s : Step) (l : List Step) : pw w (s :: l) i = pw (putN (putN w (3 + 6 * i) 3 s.f0.toNat) (6 + 6 * i) 3 s.f1.toNat) l (i + 1) := by simp only [pw]
theorem pw_nil (w i : Nat) : pw w [] i = w := by simp only [pw]
def wordA (l : List Step) : Nat := pw l.length l 0
theorem wp8 {n : Int} (h : 0 ≤ n ∧ n < 8) : IntKind.u64.wrap n = ((n.toNat : Nat) : Int) := by rw [wu64]; omega
theorem Put3 {w a v : Nat} (hw : w < 18446744073709551616) (h2 : a + 3 ≤ 64) (h : v < 8) : bits_Put.f (w : Int) (a : Int) 3 (v : Int) = some (((putN w a 3 v : Nat) : Int), 0) := Put_yes (n := 3) hw (by decide) h2 h
theorem rPut3 {w a v : Nat} (hw : w < 18446744073709551616) (h2 : a + 3 ≤ 64) (h : v < 8) {k : Nat} (hk : 130 < k) : garrisonref01_Put.f k (w : Int) (a : Int) 3 (v : Int) = some (((putN w a 3 v : Nat) : Int), 0) := refPut_yes (n := 3) hw (by decide) h2 h hk
theorem Get3 {w a : Nat} (hw : w < 18446744073709551616) (h2 : a + 3 ≤ 64) : bits_Get.f (w : Int) (a : Int) 3 = some ((getN w a 3 : Nat) : Int) := Get_yes (n := 3) hw (by decide) h2
theorem rGet3 {w a : Nat} (hw : w < 18446744073709551616) (h2 : a + 3 ≤ 64) {k : Nat} (hk : 64 < k) : garrisonref01_Get.f k (w : Int) (a : Int) 3 = some ((getN w a 3 : Nat) : Int) := refGet_yes (n := 3) hw (by decide) h2 hk
theorem put3_lt {w a v : Nat} (hw : w < 18446744073709551616) (h2 : a + 3 ≤ 64) (h : v < 8) : putN w a 3 v < 18446744073709551616 := putN_lt w a 3 v hw h h2
theorem pw_lt : ∀ (l : List Step) (w i : Nat), w < 18446744073709551616 → (∀ s ∈ l, okS s) → i + l.length ≤ 4 → pw w l i < 18446744073709551616
  | [], w, i, hw, _, _ => hw
  | s :: l, w, i, hw, ho, hl => by
    have hs := ho s (List.mem_cons_self ..)
    simp only [List.length_cons] at hl
    rw [pw_cons]
    exact pw_lt l _ _ (put3_lt (put3_lt hw (by omega) (by have := hs.1; omega)) (by omega) (by have := hs.2; omega)) (fun t ht => ho t (List.mem_cons_of_mem _ ht)) (by omega)

theorem Put_loop (l : List Step) (ho : ∀ s ∈ l, okS s) (hl : l.length ≤ 4) (d : Nat) : ∀ (k i w : Nat), i + d = l.length → d < k → w < 18446744073709551616 →
    addr_Put.l0 k (w : Int) l (l.length : Int) (i : Int) = some (((pw w (l.drop i) i : Nat) : Int), 0) := by
  induction d with
  | zero =>
    intro k i w hd hk hw
    obtain ⟨k, rfl⟩ : ∃ m, k = m + 1 := ⟨k - 1, by omega⟩
    simp only [addr_Put.l0]
    rw [if_neg (by omega), List.drop_eq_nil_of_le (by omega), pw_nil]
  | succ d ih =>
    intro k i w hd hk hw
    obtain ⟨k, rfl⟩ : ∃ m, k = m + 1 := ⟨k - 1, by omega⟩
    have hi : i < l.length := by omega
    have hs := ho _ (List.getElem_mem hi)
    have h3 := put3_lt hw (show 3 + 6 * i + 3 ≤ 64 by omega) (show l[i].f0.toNat < 8 by have := hs.1; omega)
    simp only [addr_Put.l0]
    rw [if_pos (by omega), if_pos (by omega), if_pos (by omega), rdS l i hi, wc (6 * i) (6 * (i : Int)) (by push_cast; rfl) (by omega), wc (3 + 6 * i) (3 + ((6 * i : Nat) : Int)) (by push_cast; rfl) (by omega), wp8 hs.1, bind_of (Put3 hw (by omega) (by have := hs.1; omega))]
    dsimp only
    rw [wc (6 + 6 * i) (((3 + 6 * i : Nat) : Int) + 3) (by omega) (by omega), wp8 hs.2, bind_of (Put3 h3 (by omega) (by have := hs.2; omega))]
    dsimp only
    rw [wc (i + 1) ((i : Int) + 1) (by push_cast; rfl) (by omega), ih k (i + 1) _ (by omega) (by omega) (put3_lt h3 (by omega) (by have := hs.2; omega)), List.drop_eq_getElem_cons hi, pw_cons]
theorem Put_eq (l : List Step) {k : Nat} (hk : 200 ≤ k) : addr_Put.f k l = some (if okA l then (((wordA l : Nat) : Int), 0) else (0, 120)) := by
  unfold addr_Put.f
  rw [Check_eq]
  simp only [Option.bind_some]
  by_cases h : okA l
  · rw [if_pos h, if_pos h, if_pos rfl, wu64]
    have := Put_loop l h.2.2 h.2.1 l.length k 0 l.length (by omega) (by have := h.2.1; omega) (by have := h.2.1; omega)
    rw [show (l.length : Int) % 18446744073709551616 = ((l.length : Nat) : Int) by have := h.2.1; omega]
    exact this
  · rw [if_neg h, if_neg h, if_neg (by decide)]
theorem rPut_loop (l : List Step) (ho : ∀ s ∈ l, okS s) (hl : l.length ≤ 4) (d : Nat) : ∀ (k i w : Nat), i + d = l.length → d + 131 < k → w < 18446744073709551616 →
    garrisonref12_Put.l0 k l (w : Int) (i : Int) = some (((pw w (l.drop i) i : Nat) : Int), 0) := by
  induction d with
  | zero =>
    intro k i w hd hk hw
    obtain ⟨k, rfl⟩ : ∃ m, k = m + 1 := ⟨k - 1, by omega⟩
    simp only [garrisonref12_Put.l0]
    rw [if_neg (by omega), List.drop_eq_nil_of_le (by omega), pw_nil]
  | succ d ih =>
    intro k i w hd hk hw
    obtain ⟨k, rfl⟩ : ∃ m, k = m + 1 := ⟨k - 1, by omega⟩
    have hi : i < l.length := by omega
    have hs := ho _ (List.getElem_mem hi)
    have h3 := put3_lt hw (show 3 + 6 * i + 3 ≤ 64 by omega) (show l[i].f0.toNat < 8 by have := hs.1; omega)
    simp only [garrisonref12_Put.l0]
    rw [if_pos (by omega), if_pos (by omega), rdS l i hi, wc (6 * i) (6 * (i : Int)) (by push_cast; rfl) (by omega), wc (3 + 6 * i) (3 + ((6 * i : Nat) : Int)) (by push_cast; rfl) (by omega), wp8 hs.1, bind_of (rPut3 hw (by omega) (by have := hs.1; omega) (by omega))]
    dsimp only
    rw [wc (6 + 6 * i) (6 + ((6 * i : Nat) : Int)) (by push_cast; rfl) (by omega), wp8 hs.2, bind_of (rPut3 h3 (by omega) (by have := hs.2; omega) (by omega))]
    dsimp only
    rw [wc (i + 1) ((i : Int) + 1) (by push_cast; rfl) (by omega), ih k (i + 1) _ (by omega) (by omega) (put3_lt h3 (by omega) (by have := hs.2; omega)), List.drop_eq_getElem_cons hi, pw_cons]
theorem rPut_eq (l : List Step) {k : Nat} (hk : 200 ≤ k) : garrisonref12_Put.f k l = some (if okA l then (((wordA l : Nat) : Int), 0) else (0, 120)) := by
  unfold garrisonref12_Put.f
  rw [Is_eq l (by omega)]
  simp only [Option.bind_some]
  by_cases h : okA l
  · rw [if_pos (decide_eq_true h), if_pos h, wu64]
    have := rPut_loop l h.2.2 h.2.1 l.length k 0 l.length (by omega) (by have := h.2.1; omega) (by have := h.2.1; omega)
    rw [show (l.length : Int) % 18446744073709551616 = ((l.length : Nat) : Int) by have := h.2.1; omega]
    exact this
  · rw [if_neg (by simpa using h), if_neg h]

/-! ### steps -/
def stepA (w i : Nat) : Step := ⟨((getN w (3 + 6 * i) 3 : Nat) : Int), ((getN w (6 + 6 * i) 3 : Nat) : Int)⟩
def stepsA (w n : Nat) : List Step := (List.range n).map (stepA w)
theorem stepsA_length (w n : Nat) : (stepsA w n).length = n := by simp [stepsA]
theorem stepA_ok (w i : Nat) : okS (stepA w i) := by
  have h1 := getN_lt w (3 + 6 * i) 3
  have h2 := getN_lt w (6 + 6 * i) 3
  unfold okS stepA
  simp only []
  omega
theorem stepsA_ok (w n : Nat) (h1 : 1 ≤ n) (h2 : n ≤ 4) : okA (stepsA w n) := by
  refine ⟨by rw [stepsA_length]; exact h1, by rw [stepsA_length]; exact h2, fun s hs => ?_⟩
  obtain ⟨i, _, rfl⟩ := List.mem_map.1 hs
  exact stepA_ok w i
theorem stepsA_succ (w n : Nat) : stepsA w (n + 1) = stepsA w n ++ [stepA w n] := by unfold stepsA; rw [List.range_succ, List.map_append]; rfl
def lenA (w : Nat) : Nat := min (w % 8) 4
def parseA (w : Nat) : List Step × Int := if 1 ≤ lenA w ∧ wordA (stepsA w (lenA w)) = w then (stepsA w (lenA w), 0) else ([], 120)
theorem parse_end {k w : Nat} (n : Nat) (hn : n ≤ 4) (hk : 200 ≤ k) : ((addr_Put.f k (stepsA w n)).bind fun b => (if b.2 = 0 then (if b.1 = (w : Int) then (some (stepsA w n, (0 : Int))) else (some (([] : List Step), 120))) else (some (([] : List Step), 120)))) = some (if 1 ≤ n ∧ wordA (stepsA w n) = w then (stepsA w n, 0) else ([], 120)) := by
  rw [Put_eq _ hk]
  simp only [Option.bind_some]
  by_cases h1 : 1 ≤ n
  · rw [if_pos (stepsA_ok w n h1 hn)]
    simp only []
    rw [if_pos trivial]
    by_cases h2 : wordA (stepsA w n) = w
    · rw [if_pos (by rw [h2]), if_pos ⟨h1, h2⟩]
    · rw [if_neg (by omega), if_neg (fun h => h2 h.2)]
  · rw [if_neg (fun h : okA (stepsA w n) => by have := h.1; rw [stepsA_length] at this; omega), if_neg (by decide), if_neg (fun h => h1 h.1)]
theorem set_step (w n i : Nat) (hi : i < n) (r : List Step) (hr : r.length = n) (h : ∀ j, j < i → r[j]? = some (stepA w j)) (j : Nat) (hj : j < i + 1) : (r.set i (stepA w i))[j]? = some (stepA w j) := by
  rw [List.getElem?_set]
  by_cases e : i = j
  · subst e; rw [if_pos rfl, if_pos (by omega)]
  · rw [if_neg e]; exact h j (by omega)
theorem wrapGet (w a : Nat) : wrap64 ((getN w a 3 : Nat) : Int) = ((getN w a 3 : Nat) : Int) := wc _ _ rfl (by have := getN_lt w a 3; omega)
theorem Parse_loop (w n : Nat) (hw : w < 18446744073709551616) (hn : n ≤ 4) (d : Nat) : ∀ k i (r : List Step), i + d = n → d + 200 < k → r.length = n → (∀ j, j < i → r[j]? = some (stepA w j)) →
    addr_Parse.l0 k (w : Int) r (n : Int) (i : Int) = some (if 1 ≤ n ∧ wordA (stepsA w n) = w then (stepsA w n, 0) else ([], 120)) := by
  induction d with
  | zero =>
    intro k i r hd hk hr hj
    obtain ⟨k, rfl⟩ : ∃ m, k = m + 1 := ⟨k - 1, by omega⟩
    have e : r = stepsA w n := by
      apply List.ext_getElem?
      intro j
      by_cases h : j < n
      · rw [hj j (by omega)]
        unfold stepsA
        rw [List.getElem?_map, List.getElem?_range h]
        rfl
      · rw [List.getElem?_eq_none (by omega), List.getElem?_eq_none (by rw [stepsA_length]; omega)]
    subst e
    simp only [addr_Parse.l0]
    rw [if_neg (by omega)]
    exact parse_end n hn (by omega)
  | succ d ih =>
    intro k i r hd hk hr hj
    obtain ⟨k, rfl⟩ : ∃ m, k = m + 1 := ⟨k - 1, by omega⟩
    simp only [addr_Parse.l0]
    rw [if_pos (by omega), wc (6 * i) (6 * (i : Int)) (by push_cast; rfl) (by omega), wc (3 + 6 * i) (3 + ((6 * i : Nat) : Int)) (by push_cast; rfl) (by omega), wc (6 + 6 * i) (((3 + 6 * i : Nat) : Int) + 3) (by omega) (by omega), Get3 hw (by omega), Get3 hw (by omega)]
    simp only [Option.bind_some]
    rw [if_pos (by omega), if_pos (by omega), wc (i + 1) ((i : Int) + 1) (by push_cast; rfl) (by omega), wrapGet, wrapGet, Int.toNat_natCast]
    exact ih k (i + 1) _ (by omega) (by omega) (by rw [List.length_set]; exact hr) (set_step w n i (by omega) r hr hj)
theorem mn4 (w : Nat) (_hw : w < 18446744073709551616) : mn ((getN w 0 3 : Nat) : Int) 4 = ((lenA w : Nat) : Int) := by
  have : getN w 0 3 = w % 8 := by unfold getN; simp
  unfold mn lenA
  rw [this]
  split <;> omega
theorem Parse_eq (w : Nat) (hw : w < 18446744073709551616) {k : Nat} (hk : 300 ≤ k) : addr_Parse.f k (w : Int) = some (parseA w) := by
  unfold addr_Parse.f
  have h0 : bits_Get.f (w : Int) 0 3 = some ((getN w 0 3 : Nat) : Int) := Get3 (a := 0) hw (by decide)
  have hl : lenA w ≤ 4 := Nat.min_le_right ..
  rw [h0]
  simp only [Option.bind_some]
  rw [mn4 w hw, if_pos (by omega), Int.toNat_natCast, if_pos (by omega), List.length_replicate]
  exact Parse_loop w (lenA w) hw hl (lenA w) k 0 _ (by omega) (by omega) List.length_replicate (fun j hj => absurd hj (by omega))
theorem rparse_end {k w : Nat} (n : Nat) (hn : n ≤ 4) (hk : 200 ≤ k) : ((garrisonref12_Put.f k (stepsA w n)).bind fun b => (if b.2 = 0 then (if b.1 = (w : Int) then (some (stepsA w n, (0 : Int))) else (some (([] : List Step), 120))) else (some (([] : List Step), 120)))) = some (if 1 ≤ n ∧ wordA (stepsA w n) = w then (stepsA w n, 0) else ([], 120)) := by
  rw [rPut_eq _ hk, ← Put_eq _ hk]
  exact parse_end n hn hk
theorem rParse_loop (w : Nat) (hw : w < 18446744073709551616) (d : Nat) : ∀ k i, i + d = lenA w → 2 * d + 210 < k → garrisonref12_Parse.l0 k (w : Int) (stepsA w i) (i : Int) = some (parseA w) := by
  have ht : wrap64 (Int.tmod (w : Int) 8) = ((w % 8 : Nat) : Int) := wc _ _ (by rw [Int.tmod_eq_emod_of_nonneg (by omega)]; omega) (by omega)
  have hl : lenA w = min (w % 8) 4 := rfl
  induction d with
  | zero =>
    intro k i hd hk
    obtain ⟨k, rfl⟩ : ∃ m, k = m + 2 := ⟨k - 2, by omega⟩
    have e : i = lenA w := by omega
    subst e
    have hj : garrisonref12_Parse.j1 (k + 1) (w : Int) (stepsA w (lenA w)) ((lenA w : Nat) : Int) false = some (parseA w) := by
      simp only [garrisonref12_Parse.j1]
      rw [if_neg (by decide)]
      exact rparse_end (lenA w) (by omega) (by omega)
    simp only [garrisonref12_Parse.l0]
    rw [ht]
    by_cases h : ((lenA w : Nat) : Int) < ((w % 8 : Nat) : Int)
    · rw [if_pos h, decide_eq_false (by omega)]
      exact hj
    · rw [if_neg h]
      exact hj
  | succ d ih =>
    intro k i hd hk
    obtain ⟨k, rfl⟩ : ∃ m, k = m + 2 := ⟨k - 2, by omega⟩
    simp only [garrisonref12_Parse.l0]
    rw [ht, if_pos (by omega), decide_eq_true (by omega)]
    simp only [garrisonref12_Parse.j1]
    rw [if_pos trivial, wc (6 * i) (6 * (i : Int)) (by push_cast; rfl) (by omega), wc (3 + 6 * i) (3 + ((6 * i : Nat) : Int)) (by push_cast; rfl) (by omega), wc (6 + 6 * i) (6 + ((6 * i : Nat) : Int)) (by push_cast; rfl) (by omega), rGet3 hw (by omega) (by omega), rGet3 hw (by omega) (by omega)]
    simp only [Option.bind_some]
    rw [stepsA_length, if_pos (by omega), wc (i + 1) ((i : Int) + 1) (by push_cast; rfl) (by omega), wrapGet, wrapGet]
    have := ih k (i + 1) (by omega) (by omega)
    rw [stepsA_succ] at this
    exact this
theorem rParse_eq (w : Nat) (hw : w < 18446744073709551616) {k : Nat} (hk : 300 ≤ k) : garrisonref12_Parse.f k (w : Int) = some (parseA w) := by
  have := rParse_loop w hw (lenA w) k 0 (by omega) (by have : lenA w ≤ 4 := Nat.min_le_right ..; omega)
  exact this

/-! ### there and back -/
theorem get_word_low (w : Nat) (hw : w < 18446744073709551616) : ∀ (l : List Step) (i : Nat), (∀ s ∈ l, okS s) → i + l.length ≤ 4 → getN (pw w l i) 0 3 = getN w 0 3 := by
  intro l
  induction l generalizing w with
  | nil => intro i _ _; rfl
  | cons s l ih =>
    intro i ho hl
    have hs := ho s (List.mem_cons_self ..)
    simp only [List.length_cons] at hl
    have h0 : s.f0.toNat < 8 := by have := hs.1; omega
    have h1 : s.f1.toNat < 8 := by have := hs.2; omega
    rw [pw_cons]
    have p1 := put3_lt (a := 3 + 6 * i) hw (by omega) h0
    rw [ih _ (put3_lt p1 (by omega) h1) (i + 1) (fun t ht => ho t (List.mem_cons_of_mem _ ht)) (by omega), get_put_other _ _ 3 _ 0 3 p1 h1 (by omega) (by omega), get_put_other _ _ 3 _ 0 3 hw h0 (by omega) (by omega)]
theorem get_word_before (a : Nat) : ∀ (l : List Step) (w i : Nat), w < 18446744073709551616 → a + 3 ≤ 3 + 6 * i → (∀ s ∈ l, okS s) → i + l.length ≤ 4 → getN (pw w l i) a 3 = getN w a 3 := by
  intro l
  induction l with
  | nil => intro w i _ _ _ _; rfl
  | cons s l ih =>
    intro w i hw ha ho hl
    have hs := ho s (List.mem_cons_self ..)
    simp only [List.length_cons] at hl
    have h0 : s.f0.toNat < 8 := by have := hs.1; omega
    have h1 : s.f1.toNat < 8 := by have := hs.2; omega
    rw [pw_cons]
    have p1 := put3_lt (a := 3 + 6 * i) hw (by omega) h0
    rw [ih _ (i + 1) (put3_lt p1 (by omega) h1) (by omega) (fun t ht => ho t (List.mem_cons_of_mem _ ht)) (by omega), get_put_other _ _ 3 _ a 3 p1 h1 (by omega) (by omega), get_put_other _ _ 3 _ a 3 hw h0 (by omega) (by omega)]
theorem step_word : ∀ (l : List Step) (w i : Nat), w < 18446744073709551616 → (∀ s ∈ l, okS s) → i + l.length ≤ 4 → ∀ j, (h : j < l.length) → stepA (pw w l i) (i + j) = l[j] := by
  intro l
  induction l with
  | nil => intro w i _ _ _ j h; exact absurd h (Nat.not_lt_zero _)
  | cons s l ih =>
    intro w i hw ho hl j hj
    have hs := ho s (List.mem_cons_self ..)
    simp only [List.length_cons] at hl hj
    have h0 : s.f0.toNat < 8 := by have := hs.1; omega
    have h1 : s.f1.toNat < 8 := by have := hs.2; omega
    have p1 := put3_lt (a := 3 + 6 * i) hw (by omega) h0
    have p2 := put3_lt (a := 6 + 6 * i) p1 (by omega) h1
    have ho' : ∀ t ∈ l, okS t := fun t ht => ho t (List.mem_cons_of_mem _ ht)
    cases j with
    | zero =>
      show stepA (pw w (s :: l) i) i = s
      rw [pw_cons]
      unfold stepA
      rw [get_word_before _ l _ (i + 1) p2 (by omega) ho' (by omega), get_word_before _ l _ (i + 1) p2 (by omega) ho' (by omega), get_put _ _ 3 _ p1 h1 (by omega), get_put_other _ _ 3 _ (3 + 6 * i) 3 p1 h1 (by omega) (by omega), get_put _ _ 3 _ hw h0 (by omega)]
      obtain ⟨s0, s1⟩ := s
      have e0 : ((s0.toNat : Nat) : Int) = s0 := Int.toNat_of_nonneg hs.1.1
      have e1 : ((s1.toNat : Nat) : Int) = s1 := Int.toNat_of_nonneg hs.2.1
      show (⟨_, _⟩ : Step) = ⟨_, _⟩
      rw [e0, e1]
    | succ j =>
      have := ih _ (i + 1) p2 ho' (by omega) j (by omega)
      rw [show i + (j + 1) = i + 1 + j by omega, pw_cons]
      exact this
theorem len_word (l : List Step) (h : okA l) : lenA (wordA l) = l.length := by
  obtain ⟨h1, h2, h3⟩ := h
  have hg := get_word_low l.length (by omega) l 0 h3 (by omega)
  have e : ∀ x, getN x 0 3 = x % 8 := fun x => by unfold getN; simp
  rw [e, e] at hg
  show min (pw l.length l 0 % 8) 4 = _
  rw [hg]
  omega
theorem steps_word (l : List Step) (h : okA l) : stepsA (wordA l) l.length = l := by
  apply List.ext_getElem
  · rw [stepsA_length]
  · intro j h1 h2
    have := step_word l l.length 0 (by have := h.2.1; omega) h.2.2 (by have := h.2.1; omega) j h2
    rw [Nat.zero_add] at this
    simp only [stepsA, List.getElem_map, List.getElem_range]
    exact this
theorem word_lt (l : List Step) (h : okA l) : wordA l < 18446744073709551616 := pw_lt l _ 0 (by have := h.2.1; omega) h.2.2 (by have := h.2.1; omega)
theorem parse_word (l : List Step) (h : okA l) : parseA (wordA l) = (l, 0) := by
  unfold parseA
  rw [len_word l h, steps_word l h, if_pos ⟨h.1, rfl⟩]
theorem word_inj {l m : List Step} (hl : okA l) (hm : okA m) : wordA l = wordA m ↔ l = m :=
  ⟨fun e => by have h1 := parse_word l hl; rw [e, parse_word m hm] at h1; exact (Prod.mk.injEq .. ▸ h1).1.symm, fun e => by rw [e]⟩
end Go.Proofs.Ytkdebaopfabbbaa.Plain
