/- Texts of scripts: what Put and Parse answer, the program's and the document's. -/
import Derived.Test.YthifdmelanbgmaaDoorScr4
import Derived.Test.YthifdmelanbgmaaDoorGLib
import Derived.Test.YthifdmelanbgmaaDoorGParse
import Derived.Test.YthifdmelanbgmaaDoorGDigits
import Derived.Test.YthifdmelanbgmaaDoorPx1
import Derived.Test.YthifdmelanbgmaaDoorPx3
import Derived.Test.YthifdmelanbgmaaDoorPx4
namespace Go.Proofs.YthifdmelanbgmaaDoor.Plain
open Go Go.RowKit Go.Proofs.YthifdmelanbgmaaDoorW.PrintWords Go.Proofs.YthifdmelanbgmaaDoorW.PrintLast Go.Proofs.YthifdmelanbgmaaDoorW.PrintMore Go.Proofs.YthifdmelanbgmaaDoor.P Go.Proofs.YthifdmelanbgmaaDoor.Given
set_option linter.unusedVariables false
set_option linter.unusedSimpArgs false

/-- A core's digits. -/
def dg (x : Int) : List UInt8 := Lib.decDigits x.toNat
/-- A list's text. -/
def txt (l : List Int) : List UInt8 := Lib.join (l.map dg) [32]
def ofB (l : List UInt8) : ByteArray := ⟨l.toArray⟩
theorem ofB_size (l : List UInt8) : (ofB l).size = l.length := by simp [ofB, ByteArray.size]
theorem ofB_data (l : List UInt8) : (ofB l).data.toList = l := by simp [ofB]
theorem ofB_append (a b : List UInt8) : ofB a ++ ofB b = ofB (a ++ b) := by
  have h : (ofB a ++ ofB b).data = (ofB (a ++ b)).data := by rw [ByteArray.data_append]; simp [ofB]
  exact congrArg ByteArray.mk h
theorem ofB_toList (l : List UInt8) : (ofB l).toList = l := by rw [ByteArray.toList_eq, ofB_data]
theorem ofB_self (s : ByteArray) : ofB s.data.toList = s := by unfold ofB; simp
def putS (l : List Int) : ByteArray := ofB (if okS l 64 = true then txt l else [])

theorem dg_len (x : Int) (h0 : 0 ≤ x) (h1 : x < 64) : 1 ≤ (dg x).length ∧ (dg x).length ≤ 2 := by
  unfold dg
  rw [digs_small x.toNat (by omega)]
  split <;> simp
theorem tail_len (r : List Int) (h : ∀ x ∈ r, 0 ≤ x ∧ x < 64) : 2 * r.length ≤ (Lib.joinTail [32] (r.map dg)).length ∧ (Lib.joinTail [32] (r.map dg)).length ≤ 3 * r.length := by
  induction r with
  | nil => simp [Lib.joinTail]
  | cons x r ih =>
    have hx := h x (by simp)
    have h1 := dg_len x hx.1 hx.2
    have h2 := ih (fun y hy => h y (by simp [hy]))
    have e : Lib.joinTail [32] ((x :: r).map dg) = 32 :: (dg x ++ Lib.joinTail [32] (r.map dg)) := by simp [Lib.joinTail]
    rw [e]
    simp only [List.length_cons, List.length_append]
    omega
theorem txt_cons (x : Int) (r : List Int) : txt (x :: r) = dg x ++ Lib.joinTail [32] (r.map dg) := by unfold txt; rw [List.map_cons, Lib.join_cons]
theorem tail_cons (x : Int) (r : List Int) : Lib.joinTail [32] ((x :: r).map dg) = 32 :: txt (x :: r) := by rw [txt_cons]; simp [Lib.joinTail]
theorem txt_len (l : List Int) (h : ∀ x ∈ l, 0 ≤ x ∧ x < 64) : l.length ≤ (txt l).length ∧ (txt l).length ≤ 3 * l.length := by
  cases l with
  | nil => simp [txt, Lib.join_nil]
  | cons x r =>
    have hx := h x (by simp)
    have h1 := dg_len x hx.1 hx.2
    have h2 := tail_len r (fun y hy => h y (by simp [hy]))
    rw [txt_cons]
    simp only [List.length_cons, List.length_append]
    omega
theorem txt_snoc (m : List Int) (x : Int) : txt (m ++ [x]) = if m = [] then dg x else txt m ++ (32 :: dg x) := by
  cases m with
  | nil => simp [txt, Lib.join_one]
  | cons y r =>
    rw [if_neg (by simp), List.cons_append, txt_cons, txt_cons]
    simp [Lib.joinTail]
theorem ok_all {l : List Int} (h : okS l 64 = true) : ∀ x ∈ l, 0 ≤ x ∧ x < 64 := (of_decide_eq_true h).2.2
theorem ok_of {l : List Int} (h : ∀ x ∈ l, 0 ≤ x ∧ x < 64) : okS l 64 = true := decide_eq_true ⟨by decide, by decide, h⟩

/-! ### Put -/
theorem ito_dg (x : Int) (h0 : 0 ≤ x) : itoS x = ofB (dg x) := by unfold itoS ofB dg Lib.itoa; rw [if_neg (by omega)]
theorem map_ito (l : List Int) (h : ∀ x ∈ l, 0 ≤ x ∧ x < 64) : (l.map itoS).map (·.data.toList) = l.map dg := by
  rw [List.map_map]
  refine List.map_congr_left fun x hx => ?_
  show (itoS x).data.toList = dg x
  rw [ito_dg x (h x hx).1, ofB_data]
theorem join_f (l : List Int) (hl : l.length ≤ 10000) (h : ∀ x ∈ l, 0 ≤ x ∧ x < 64) : strings_Join.f (l.map itoS) (⟨#[32]⟩ : ByteArray) = some (ofB (txt l)) := by
  have h1 := txt_len l h
  have hf : joinFits (l.map itoS) = true := by
    unfold joinFits
    rw [map_ito l h]
    show (decide ((l.map itoS).length ≤ 10000) && decide ((txt l).length ≤ 1000000)) = true
    rw [decide_eq_true (by rw [List.length_map]; exact hl), decide_eq_true (by omega)]
    rfl
  unfold strings_Join.f
  rw [if_pos ⟨hf, rfl⟩]
  unfold joinB
  rw [map_ito l h]
  rfl
theorem sput_loop (l : List Int) (hl : l.length ≤ 10000) (h : ∀ x ∈ l, 0 ≤ x ∧ x < 64) (d : Nat) : ∀ i : Nat, i + d = l.length →
    Ev (fun k => script_Put.l0 k ((l.map itoS).take i ++ List.replicate d (⟨#[]⟩ : ByteArray)) l (l.length : Int) (i : Int)) (ofB (txt l)) := by
  induction d with
  | zero =>
    intro i hi
    refine Ev.step (f := fun _ => some (ofB (txt l))) (fun k => ?_) (Ev.now _)
    simp only [script_Put.l0]
    rw [if_neg (by omega), List.replicate_zero, List.append_nil, List.take_of_length_le (by rw [List.length_map]; omega), join_f l hl h]
    rfl
  | succ d ih =>
    intro i hi
    have hlt : i < l.length := by omega
    have hx := h l[i] (List.getElem_mem hlt)
    have hI : strconv_Itoa.f l[i] = some (itoS l[i]) := by unfold strconv_Itoa.f; rw [if_pos ⟨by omega, by omega⟩]
    refine Ev.step (fun k => ?_) (ih (i + 1) (by omega))
    simp only [script_Put.l0]
    have e : ((l.map itoS).take i ++ List.replicate (d + 1) (⟨#[]⟩ : ByteArray)).set i (itoS l[i]) = (l.map itoS).take (i + 1) ++ List.replicate d (⟨#[]⟩ : ByteArray) := by
      rw [List.set_append_right _ _ (by rw [List.length_take]; omega), List.length_take, List.length_map, Nat.min_eq_left (by omega), Nat.sub_self, List.replicate_succ, List.set_cons_zero, List.take_succ_eq_append_getElem (by rw [List.length_map]; exact hlt), List.append_assoc, List.getElem_map]
      rfl
    rw [if_pos (by omega), if_pos (by omega), if_pos (by omega), rdN l i hlt, hI, Option.bind_some, if_pos (by rw [List.length_append, List.length_take, List.length_replicate, List.length_map]; omega), Int.toNat_natCast, e, wn i (by omega)]
theorem sput_ev (l : List Int) (hl : l.length ≤ 10000) : Ev (fun k => script_Put.f k l) (putS l) := by
  unfold putS
  by_cases hok : okS l 64 = true
  · rw [if_pos hok]
    refine Ev.congr (fun k => ?_) (sput_loop l hl (ok_all hok) l.length 0 (by omega))
    unfold script_Put.f
    rw [check_f, if_pos hok, Option.bind_some, if_pos rfl, if_pos (by omega), if_pos (by omega), Int.toNat_natCast, List.take_zero, List.nil_append]
    rfl
  · rw [if_neg hok]
    refine Ev.congr (f := fun _ => some (ofB [])) (fun k => ?_) (Ev.now _)
    unfold script_Put.f
    rw [check_f, if_neg hok, Option.bind_some, if_neg (by decide)]
    rfl
theorem rput_loop (l : List Int) (hl : l.length ≤ 10000) (h : ∀ x ∈ l, 0 ≤ x ∧ x < 64) (d : Nat) : ∀ i : Nat, i + d = l.length →
    Ev (fun k => garrisonref05_Put.l0 k l (ofB (txt (l.take i))) (i : Int)) (ofB (txt l)) := by
  induction d with
  | zero =>
    intro i hi
    refine Ev.step (f := fun _ => some (ofB (txt l))) (fun k => ?_) (Ev.now _)
    simp only [garrisonref05_Put.l0]
    rw [if_neg (by omega), List.take_of_length_le (by omega)]
  | succ d ih =>
    intro i hi
    have hlt : i < l.length := by omega
    have hx := h l[i] (List.getElem_mem hlt)
    have hD : garrisonref03_Digits.f l[i] = some (ofB (dg l[i])) := by unfold garrisonref03_Digits.f; rw [if_pos (by omega)]; rfl
    have h1 := txt_len (l.take i) (fun x hx => h x (List.mem_of_mem_take hx))
    have h2 := dg_len l[i] hx.1 hx.2
    have hlen : (l.take i).length ≤ 10000 := by rw [List.length_take]; omega
    refine Ev.step (fun k => ?_) (ih (i + 1) (by omega))
    simp only [garrisonref05_Put.l0]
    rw [List.take_succ_eq_append_getElem hlt, txt_snoc]
    by_cases h0 : i = 0
    · subst h0
      rw [if_pos (by omega), if_neg (by omega), if_pos (by omega), rdN l 0 hlt, hD, Option.bind_some, if_pos (by rw [ofB_size, ofB_size]; omega), wn 0 (by omega), ofB_append, List.take_zero, if_pos rfl]
      rfl
    · have hne : l.take i ≠ [] := fun e => by
        have h9 := congrArg List.length e
        rw [List.length_take, List.length_nil] at h9
        omega
      have e3 : (ofB (txt (l.take i)) ++ (⟨#[32]⟩ : ByteArray)) = ofB (txt (l.take i) ++ [32]) := ofB_append _ [32]
      rw [if_pos (by omega), if_pos (by omega), if_pos (by rw [ofB_size]; omega), if_pos (by omega), rdN l i hlt, hD, Option.bind_some, e3, if_pos (by rw [ofB_size, ofB_size, List.length_append]; simp only [List.length_cons, List.length_nil]; omega), wn i (by omega), ofB_append, if_neg hne, List.append_assoc]
      rfl
theorem rput_ev (l : List Int) (hl : l.length ≤ 10000) : Ev (fun k => garrisonref05_Put.f k l) (putS l) := by
  refine Ev.congr (fun k => by unfold garrisonref05_Put.f; rfl) (Ev.bind (is_ev l 64 (by omega)) ?_)
  unfold putS
  by_cases hok : okS l 64 = true
  · rw [hok]
    refine Ev.congr (fun k => if_pos rfl) ?_
    exact rput_loop l hl (ok_all hok) l.length 0 (by omega)
  · rw [Bool.eq_false_iff.mpr hok]
    exact Ev.congr (fun k => if_neg (by decide)) (Ev.now _)

/-! ### Parse -/
/-- What a parse may answer. -/
def Good (s : ByteArray) (r : List Int × Int) : Prop := r = ([], 2) ∨ (r.2 = 0 ∧ r.1.length ≤ 1001 ∧ putS r.1 = s)
theorem eq_of_toList {a b : ByteArray} (h : a.toList = b.toList) : a = b := by
  rw [ByteArray.toList_eq, ByteArray.toList_eq] at h
  rw [← ofB_self a, ← ofB_self b, h]
theorem nums_len (ps : List ByteArray) : ∀ (acc r : List Int), numsFrom acc ps = some r → r.length = acc.length + ps.length := by
  induction ps with
  | nil => intro acc r h; obtain rfl := Option.some.inj h; rfl
  | cons p ps ih =>
    intro acc r h
    obtain ⟨v, _, h2⟩ := Option.bind_eq_some_iff.mp h
    have := ih _ _ h2
    rw [List.length_append] at this
    simp only [List.length_cons, List.length_nil] at this ⊢
    omega
theorem end_ev {g : Nat → Option ByteArray} (s : ByteArray) (l : List Int) (hl : l.length ≤ 1001) (hg : Ev g (putS l)) : ∃ r, Ev (fun k => (g k).bind fun t => if t.toList = s.toList then some (l, (0 : Int)) else some ([], 2)) r ∧ Good s r := by
  by_cases h : (putS l).toList = s.toList
  · exact ⟨(l, 0), Ev.bind hg (Ev.congr (fun k => if_pos h) (Ev.now _)), Or.inr ⟨rfl, hl, eq_of_toList h⟩⟩
  · exact ⟨([], 2), Ev.bind hg (Ev.congr (fun k => if_neg h) (Ev.now _)), Or.inl rfl⟩
theorem sparse_ev (s : ByteArray) (hs : s.size ≤ 1000) (hne : s.toList ≠ []) : ∃ r, Ev (fun k => script_Parse.f k s) r ∧ Good s r := by
  have st : ∀ k, script_Parse.f k s = parseEnd k s (numsFrom [] (piecesB s)) := fun k => by unfold script_Parse.f; rw [if_neg hne, if_pos (by omega)]
  cases hn : numsFrom [] (piecesB s) with
  | none => exact ⟨([], 2), Ev.congr (f := fun _ => some ([], 2)) (fun k => by rw [st, hn]; rfl) (Ev.now _), Or.inl rfl⟩
  | some l =>
    have h1 := nums_len _ _ _ hn
    have h2 := piecesB_len s
    rw [List.length_nil, Nat.zero_add] at h1
    obtain ⟨r, hr, hg⟩ := end_ev s l (by omega) (sput_ev l (by omega))
    exact ⟨r, Ev.congr (fun k => by rw [st, hn]; rfl) hr, hg⟩
theorem nums_ok (l : List Int) (h : ∀ x ∈ l, 0 ≤ x ∧ x < 64) : ∀ (ps : List ByteArray) (acc : List Int), ps.map (·.data.toList) = l.map dg → numsFrom acc ps = some (acc ++ l) := by
  induction l with
  | nil =>
    intro ps acc hp
    rw [List.map_nil, List.map_eq_nil_iff] at hp
    subst hp
    rw [List.append_nil]
    rfl
  | cons x l ih =>
    intro ps acc hp
    cases ps with
    | nil => simp at hp
    | cons p ps =>
      rw [List.map_cons, List.map_cons, List.cons.injEq] at hp
      have hx := h x (by simp)
      have ha : atoS p = some x := by
        unfold atoS
        rw [hp.1]
        unfold dg
        rw [atoi_digs x.toNat (by omega), Int.toNat_of_nonneg hx.1]
      show (atoS p).bind (fun v => numsFrom (acc ++ [v]) ps) = _
      rw [ha, Option.bind_some, ih (fun y hy => h y (by simp [hy])) ps _ hp.2, List.append_assoc]
      rfl
theorem dg_no32 (x : Int) (h0 : 0 ≤ x) (h1 : x < 64) : ∀ c ∈ dg x, c ≠ 32 := digs_no32 x.toNat (by omega)
theorem sparse_ok (l : List Int) (h : ∀ x ∈ l, 0 ≤ x ∧ x < 64) (hne : l ≠ []) (hl : (txt l).length ≤ 10000) : Ev (fun k => script_Parse.f k (ofB (txt l))) (l, 0) := by
  have h1 := txt_len l h
  have hpos : 0 < l.length := List.length_pos_iff.2 hne
  have hp : (piecesB (ofB (txt l))).map (·.data.toList) = l.map dg := by
    unfold piecesB
    rw [Lib.splitB_data]
    show Lib.splitK [32] 0 (Lib.count (ofB (txt l)).data.toList [32]) (ofB (txt l)).data.toList = _
    rw [ofB_data]
    exact pieces_join (l.map dg) (fun e => hne (List.map_eq_nil_iff.1 e)) (fun y hy => by
      rw [List.mem_map] at hy
      obtain ⟨x, hx, rfl⟩ := hy
      exact dg_no32 x (h x hx).1 (h x hx).2)
  have hn := nums_ok l h _ [] hp
  rw [List.nil_append] at hn
  have hput := sput_ev l (by omega)
  have e : putS l = ofB (txt l) := by unfold putS; rw [if_pos (ok_of h)]
  rw [e] at hput
  refine Ev.congr (fun k => ?_) (Ev.bind hput (f := fun _ t => if t.toList = (ofB (txt l)).toList then some (l, (0 : Int)) else some ([], 2)) (Ev.congr (fun k => if_pos rfl) (Ev.now _)))
  unfold script_Parse.f
  rw [if_neg (by rw [ofB_toList]; intro e2; rw [e2, List.length_nil] at h1; omega), if_pos (by rw [ofB_size]; exact hl), hn]
  rfl

/-! ### the document's Parse -/
theorem bt_at (s : ByteArray) (i : Nat) (b : UInt8) (t : List UInt8) (h : s.data.toList.drop i = b :: t) : i < s.size ∧ bt s (i : Int) = (b.toNat : Int) := by
  have hlen := congrArg List.length h
  rw [List.length_drop, List.length_cons] at hlen
  have hs : s.data.toList.length = s.size := by rw [Array.length_toList]; rfl
  have hlt : i < s.size := by omega
  refine ⟨hlt, ?_⟩
  unfold bt
  rw [dif_pos (by rw [Int.toNat_natCast]; exact hlt)]
  have h2 : s.data.toList[i]? = some b := by
    have := congrArg (·[0]?) h
    simp only [List.getElem?_drop, Nat.add_zero, List.getElem?_cons_zero] at this
    exact this
  have h3 : s.data.toList[i]'(by omega) = b := by rw [List.getElem?_eq_getElem (by omega)] at h2; exact Option.some.inj h2
  have h4 : s[(i : Int).toNat]'(by rw [Int.toNat_natCast]; exact hlt) = b := by rw [← h3]; rfl
  rw [h4]
/-- A piece's end. -/
theorem rp_sep (s : ByteArray) (hs : s.size ≤ 10000) (A : List Int) (n : Int) (i : Nat) (hi : i ≤ s.size) (h : i < s.size → bt s (i : Int) = 32) (hA : A.length ≤ 100000) (r : List Int × Int) (hr : Ev (fun k => garrisonref05_Parse.l0 k s (A ++ [n]) 0 false ((i + 1 : Nat) : Int)) r) :
    Ev (fun k => garrisonref05_Parse.l0 k s A n true (i : Int)) r := by
  have hj : Ev (fun k => garrisonref05_Parse.j1 k s A n true (i : Int) true) r := Ev.step (fun k => by simp only [garrisonref05_Parse.j1]; rw [if_pos trivial, if_pos trivial, if_pos (by omega), wn i (by omega)]) hr
  refine Ev.step (fun k => ?_) hj
  simp only [garrisonref05_Parse.l0]
  rw [if_pos (by omega)]
  by_cases e : i = s.size
  · rw [if_pos (by omega)]
  · rw [if_neg (by omega), if_pos (by omega), if_pos (by omega), h (by omega)]
    rfl
theorem rp_digit (s : ByteArray) (hs : s.size ≤ 10000) (A : List Int) (n : Int) (any : Bool) (i : Nat) (hi : i < s.size) (h0 : 48 ≤ bt s (i : Int)) (h1 : bt s (i : Int) ≤ 57) (n0 : 0 ≤ n) (n1 : n ≤ 100) (r : List Int × Int) (hr : Ev (fun k => garrisonref05_Parse.l0 k s A (10 * n + (bt s (i : Int) - 48)) true ((i + 1 : Nat) : Int)) r) :
    Ev (fun k => garrisonref05_Parse.l0 k s A n any (i : Int)) r := by
  have hw : wrap64 (wrap64 (10 * n) + (bt s (i : Int) - 48) % 256) = 10 * n + (bt s (i : Int) - 48) := by
    rw [wi (a := 10 * n) (by omega) (by omega), wi (by omega) (by omega)]
    omega
  have hj : Ev (fun k => garrisonref05_Parse.j1 k s A n any (i : Int) false) r := by
    refine Ev.step (fun k => ?_) hr
    simp only [garrisonref05_Parse.j1]
    rw [hw, if_neg (by decide), if_pos (Int.natCast_nonneg i), if_pos (Int.ofNat_lt.2 hi), if_neg (Int.not_lt.2 h0), if_neg (Int.not_lt.2 h1), if_neg (Int.not_lt.2 n1), wn i (Nat.le_trans (Nat.le_of_lt hi) (Nat.le_trans hs (by decide)))]
  clear hw
  refine Ev.step (fun k => ?_) hj
  simp only [garrisonref05_Parse.l0]
  rw [if_pos (by omega), if_neg (by omega), if_pos (by omega), if_pos (by omega), beq_eq_false_iff_ne.2 (show bt s (i : Int) ≠ 32 by omega)]
theorem rp_all (s : ByteArray) (hs : s.size ≤ 1000) (d : Nat) : ∀ (i : Nat) (A : List Int) (n : Int) (any : Bool), i + d = s.size + 1 → A.length ≤ i → 0 ≤ n → ∃ r, Ev (fun k => garrisonref05_Parse.l0 k s A n any (i : Int)) r ∧ Good s r := by
  induction d with
  | zero =>
    intro i A n any hi hA hn
    obtain ⟨r, hr, hg⟩ := end_ev s A (by omega) (rput_ev A (by omega))
    exact ⟨r, Ev.step (fun k => by simp only [garrisonref05_Parse.l0]; rw [if_neg (by omega)]; try rfl) hr, hg⟩
  | succ d ih =>
    intro i A n any hi hA hn
    have bad : ∀ any : Bool, any = false → Ev (fun k => garrisonref05_Parse.j1 k s A n any (i : Int) true) ([], 2) := fun any h => by
      subst h
      exact Ev.step (f := fun _ => some ([], 2)) (fun k => by simp only [garrisonref05_Parse.j1]; rw [if_pos trivial, if_neg (by decide)]) (Ev.now _)
    by_cases hsep : i < s.size → bt s (i : Int) = 32
    · cases any with
      | true =>
        obtain ⟨r, hr, hg⟩ := ih (i + 1) (A ++ [n]) 0 false (by omega) (by rw [List.length_append]; simp only [List.length_cons, List.length_nil]; omega) (by decide)
        exact ⟨r, rp_sep s (by omega) A n i (by omega) hsep (by omega) r hr, hg⟩
      | false =>
        refine ⟨([], 2), Ev.step (fun k => ?_) (bad false rfl), Or.inl rfl⟩
        simp only [garrisonref05_Parse.l0]
        rw [if_pos (by omega)]
        by_cases e : i = s.size
        · rw [if_pos (by omega)]
        · rw [if_neg (by omega), if_pos (by omega), if_pos (by omega), hsep (by omega)]
          rfl
    · have hlt : i < s.size := by
        rcases Nat.lt_or_ge i s.size with h | h
        · exact h
        · exact absurd (fun h2 => absurd h2 (by omega)) hsep
      have h32 : bt s (i : Int) ≠ 32 := fun e => hsep (fun _ => e)
      have st : ∀ r, Ev (fun k => garrisonref05_Parse.j1 k s A n any (i : Int) false) r → Ev (fun k => garrisonref05_Parse.l0 k s A n any (i : Int)) r := fun r hr => by
        refine Ev.step (fun k => ?_) hr
        simp only [garrisonref05_Parse.l0]
        rw [if_pos (by omega), if_neg (by omega), if_pos (by omega), if_pos (by omega), beq_eq_false_iff_ne.2 h32]
      by_cases h0 : bt s (i : Int) < 48
      · exact ⟨([], 2), st _ (Ev.step (f := fun _ => some ([], 2)) (fun k => by simp only [garrisonref05_Parse.j1]; rw [if_neg (by decide), if_pos (by omega), if_pos (by omega), if_pos h0]) (Ev.now _)), Or.inl rfl⟩
      · by_cases h1 : bt s (i : Int) > 57
        · exact ⟨([], 2), st _ (Ev.step (f := fun _ => some ([], 2)) (fun k => by simp only [garrisonref05_Parse.j1]; rw [if_neg (by decide), if_pos (by omega), if_pos (by omega), if_neg h0, if_pos h1]) (Ev.now _)), Or.inl rfl⟩
        · by_cases h2 : n > 100
          · exact ⟨([], 2), st _ (Ev.step (f := fun _ => some ([], 2)) (fun k => by simp only [garrisonref05_Parse.j1]; rw [if_neg (by decide), if_pos (by omega), if_pos (by omega), if_neg h0, if_neg h1, if_pos h2]) (Ev.now _)), Or.inl rfl⟩
          · obtain ⟨r, hr, hg⟩ := ih (i + 1) A (10 * n + (bt s (i : Int) - 48)) true (by omega) (by omega) (by omega)
            exact ⟨r, rp_digit s (by omega) A n any i hlt (by omega) (by omega) hn (by omega) r hr, hg⟩
theorem rp_piece (s : ByteArray) (hs : s.size ≤ 10000) (A : List Int) (x : Int) (t : List UInt8) (i : Nat) (h0 : 0 ≤ x) (h1 : x < 64) (h : s.data.toList.drop i = dg x ++ t) (r : List Int × Int) (hr : Ev (fun k => garrisonref05_Parse.l0 k s A x true ((i + (dg x).length : Nat) : Int)) r) :
    Ev (fun k => garrisonref05_Parse.l0 k s A 0 false (i : Int)) r := by
  obtain ⟨m, rfl⟩ := Int.eq_ofNat_of_zero_le h0
  unfold dg at h hr
  rw [Int.toNat_natCast, digs_small m (by omega)] at h hr
  by_cases hm : m < 10
  · rw [if_pos hm] at h hr
    obtain ⟨hlt, hb⟩ := bt_at s i _ _ h
    have hv : (UInt8.ofNat (48 + m)).toNat = 48 + m := by rw [UInt8.toNat_ofNat']; exact Nat.mod_eq_of_lt (by omega)
    rw [hv] at hb
    refine rp_digit s hs A 0 false i hlt (by omega) (by omega) (by decide) (by decide) r ?_
    rw [show 10 * (0 : Int) + (bt s (i : Int) - 48) = (m : Int) by omega]
    exact hr
  · rw [if_neg hm] at h hr
    obtain ⟨hlt, hb⟩ := bt_at s i _ _ h
    have h2 : s.data.toList.drop (i + 1) = UInt8.ofNat (48 + m % 10) :: t := by
      rw [← List.drop_drop, h]
      rfl
    obtain ⟨hlt2, hb2⟩ := bt_at s (i + 1) _ _ h2
    have hv : (UInt8.ofNat (48 + m / 10)).toNat = 48 + m / 10 := by rw [UInt8.toNat_ofNat']; exact Nat.mod_eq_of_lt (by omega)
    have hv2 : (UInt8.ofNat (48 + m % 10)).toNat = 48 + m % 10 := by rw [UInt8.toNat_ofNat']; exact Nat.mod_eq_of_lt (by omega)
    rw [hv] at hb
    rw [hv2] at hb2
    refine rp_digit s hs A 0 false i hlt (by omega) (by omega) (by decide) (by decide) r ?_
    rw [show 10 * (0 : Int) + (bt s (i : Int) - 48) = ((m / 10 : Nat) : Int) by omega]
    refine rp_digit s hs A _ true (i + 1) hlt2 (by omega) (by omega) (by omega) (by omega) r ?_
    rw [show 10 * ((m / 10 : Nat) : Int) + (bt s ((i + 1 : Nat) : Int) - 48) = (m : Int) by omega]
    exact hr
theorem rp_list (s : ByteArray) (hs : s.size ≤ 10000) (r : List Int × Int) (l : List Int) : ∀ (A : List Int) (i : Nat), l ≠ [] → (∀ x ∈ l, 0 ≤ x ∧ x < 64) → s.data.toList.drop i = txt l → i ≤ s.size → A.length + l.length ≤ 100000 →
    Ev (fun k => garrisonref05_Parse.l0 k s (A ++ l) 0 false ((s.size + 1 : Nat) : Int)) r → Ev (fun k => garrisonref05_Parse.l0 k s A 0 false (i : Int)) r := by
  induction l with
  | nil => intro A i h; exact absurd rfl h
  | cons x l ih =>
    intro A i _ hall h hi hA hr
    have hx := hall x (by simp)
    have hlen := congrArg List.length h
    have hsz : s.data.toList.length = s.size := by rw [Array.length_toList]; rfl
    rw [txt_cons] at h hlen
    rw [List.length_drop, List.length_append, hsz] at hlen
    refine rp_piece s hs A x _ i hx.1 hx.2 h r ?_
    have hd : s.data.toList.drop (i + (dg x).length) = Lib.joinTail [32] (l.map dg) := by rw [← List.drop_drop, h, List.drop_left]
    have hA2 : A.length ≤ 100000 := by omega
    cases l with
    | nil =>
      have hz : (Lib.joinTail [32] (([] : List Int).map dg)).length = 0 := rfl
      refine rp_sep s hs A x (i + (dg x).length) (by omega) (fun h2 => by omega) hA2 r ?_
      rw [show i + (dg x).length + 1 = s.size + 1 by omega]
      exact hr
    | cons y l =>
      rw [tail_cons] at hd
      obtain ⟨hlt, hb⟩ := bt_at s _ _ _ hd
      refine rp_sep s hs A x (i + (dg x).length) (by omega) (fun _ => hb) hA2 r ?_
      refine ih (A ++ [x]) (i + (dg x).length + 1) (by simp) (fun z hz => hall z (by simp [hz])) ?_ (by omega) (by rw [List.length_append]; simp only [List.length_cons, List.length_nil] at hA ⊢; omega) ?_
      · rw [← List.drop_drop, hd]
        rfl
      · rw [List.append_assoc]
        exact hr
theorem rparse_ok (l : List Int) (h : ∀ x ∈ l, 0 ≤ x ∧ x < 64) (hne : l ≠ []) (hl : (txt l).length ≤ 10000) : Ev (fun k => garrisonref05_Parse.f k (ofB (txt l))) (l, 0) := by
  have h1 := txt_len l h
  have hpos : 0 < l.length := List.length_pos_iff.2 hne
  have hput := rput_ev l (by omega)
  have e : putS l = ofB (txt l) := by unfold putS; rw [if_pos (ok_of h)]
  rw [e] at hput
  have hend : Ev (fun k => garrisonref05_Parse.l0 k (ofB (txt l)) l 0 false (((ofB (txt l)).size + 1 : Nat) : Int)) (l, 0) := by
    refine Ev.step (fun k => by simp only [garrisonref05_Parse.l0]; rw [if_neg (by omega)]; try rfl) (Ev.bind hput ?_)
    exact Ev.congr (fun k => if_pos rfl) (Ev.now _)
  refine Ev.congr (fun k => ?_) (rp_list (ofB (txt l)) (by rw [ofB_size]; exact hl) (l, 0) l [] 0 hne h (by rw [ofB_data]; rfl) (Nat.zero_le _) (by simp only [List.length_nil]; omega) hend)
  unfold garrisonref05_Parse.f
  rw [if_neg (by rw [ofB_toList]; intro e2; rw [e2, List.length_nil] at h1; omega)]
  rfl
theorem rparse_ev (s : ByteArray) (hs : s.size ≤ 1000) (hne : s.toList ≠ []) : ∃ r, Ev (fun k => garrisonref05_Parse.f k s) r ∧ Good s r := by
  obtain ⟨r, hr, hg⟩ := rp_all s hs (s.size + 1) 0 [] 0 false (by omega) (by simp) (by decide)
  exact ⟨r, Ev.congr (fun k => by unfold garrisonref05_Parse.f; rw [if_neg hne]; rfl) hr, hg⟩
/-- A text that is a script's. -/
theorem good_txt {s : ByteArray} {r : List Int × Int} (hne : s.toList ≠ []) (hs : s.size ≤ 1000) (h0 : r.2 = 0) (h : putS r.1 = s) : (∀ x ∈ r.1, 0 ≤ x ∧ x < 64) ∧ r.1 ≠ [] ∧ s = ofB (txt r.1) ∧ (txt r.1).length ≤ 1000 ∧ r = (r.1, 0) := by
  by_cases hok : okS r.1 64 = true
  · have e : s = ofB (txt r.1) := by rw [← h]; unfold putS; rw [if_pos hok]
    refine ⟨ok_all hok, fun h2 => hne ?_, e, ?_, ?_⟩
    · rw [e, h2, ofB_toList]; rfl
    · rw [e, ofB_size] at hs; exact hs
    · rw [← h0]
  · exfalso
    apply hne
    rw [← h]
    unfold putS
    rw [if_neg hok, ofB_toList]
theorem parse_same (s : ByteArray) (hs : s.size ≤ 1000) : ∃ r : List Int × Int, Ev (fun k => script_Parse.f k s) r ∧ Ev (fun k => garrisonref05_Parse.f k s) r ∧ r.1.length ≤ 1001 := by
  by_cases hne : s.toList = []
  · exact ⟨([], 0), Ev.congr (fun k => by unfold script_Parse.f; rw [if_pos hne]) (Ev.now _), Ev.congr (fun k => by unfold garrisonref05_Parse.f; rw [if_pos hne]) (Ev.now _), by simp⟩
  · obtain ⟨r1, hr1, hg1⟩ := sparse_ev s hs hne
    obtain ⟨r2, hr2, hg2⟩ := rparse_ev s hs hne
    rcases hg2 with hg2 | ⟨h0, hl, hp⟩
    · rcases hg1 with hg1 | ⟨h0, hl, hp⟩
      · subst hg1 hg2
        exact ⟨([], 2), hr1, hr2, by simp⟩
      · obtain ⟨h1, h2, h3, h4, h5⟩ := good_txt hne hs h0 hp
        have := rparse_ok r1.1 h1 h2 (by omega)
        rw [← h3, ← h5] at this
        exact ⟨r1, hr1, this, hl⟩
    · obtain ⟨h1, h2, h3, h4, h5⟩ := good_txt hne hs h0 hp
      have := sparse_ok r2.1 h1 h2 (by omega)
      rw [← h3, ← h5] at this
      exact ⟨r2, this, hr2, hl⟩
end Go.Proofs.YthifdmelanbgmaaDoor.Plain
