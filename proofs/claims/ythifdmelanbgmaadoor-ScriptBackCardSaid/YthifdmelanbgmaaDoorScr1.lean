/- Texts of scripts: cut and joined, digits read again. -/
import Derived.Lib.SplitLaws
import Derived.Lib.Join
import Derived.Lib.AtoiAllCases
import Derived.Lib.ItoaMem
namespace Go.Proofs.YthifdmelanbgmaaDoor.Plain
open Go Go.Lib

theorem index_at (x t : List UInt8) (h : ∀ c ∈ x, c ≠ 32) : index (x ++ 32 :: t) [32] = (x.length : Int) := by
  induction x with
  | nil => simp [index, List.isPrefixOf]
  | cons b x ih =>
    have hb : b ≠ 32 := h b (by simp)
    have ih' := ih (fun c hc => h c (by simp [hc]))
    have hp : ([32] : List UInt8).isPrefixOf (b :: (x ++ 32 :: t)) = false := by simp [List.isPrefixOf, Ne.symm hb]
    rw [List.cons_append, index, hp, ih']
    simp

theorem split_tail (x : List UInt8) (r : List (List UInt8)) (hx : ∀ c ∈ x, c ≠ 32) (hr : ∀ y ∈ r, ∀ c ∈ y, c ≠ 32) : splitK [32] 0 r.length (x ++ joinTail [32] r) = x :: r := by
  induction r generalizing x with
  | nil => simp [splitK, joinTail]
  | cons y r ih =>
    have e : x ++ joinTail [32] (y :: r) = x ++ 32 :: (y ++ joinTail [32] r) := by simp [joinTail]
    have hi := index_at x (y ++ joinTail [32] r) hx
    rw [e, List.length_cons, splitK, if_neg (by rw [hi]; simp), hi]
    have e2 : (x ++ 32 :: (y ++ joinTail [32] r)).drop ((x.length : Int).toNat + [(32 : UInt8)].length) = y ++ joinTail [32] r := by
      rw [show (x.length : Int).toNat + [(32 : UInt8)].length = x.length + 1 by simp]
      rw [List.drop_append, List.drop_of_length_le (by omega)]
      simp
    rw [e2, ih y (hr y (by simp)) (fun z hz => hr z (by simp [hz]))]
    simp

theorem count_tail (x : List UInt8) (r : List (List UInt8)) (hx : ∀ c ∈ x, c ≠ 32) (hr : ∀ y ∈ r, ∀ c ∈ y, c ≠ 32) : count (x ++ joinTail [32] r) [32] = r.length := by
  rw [count_one, List.count_append, List.count_eq_zero_of_not_mem (fun h => hx _ h rfl), Nat.zero_add]
  induction r with
  | nil => rfl
  | cons y r ih =>
    have e : joinTail [32] (y :: r) = 32 :: (y ++ joinTail [32] r) := by simp [joinTail]
    rw [e, List.count_cons_self, List.count_append, List.count_eq_zero_of_not_mem (fun h => hr y (by simp) _ h rfl), Nat.zero_add, ih (fun z hz => hr z (by simp [hz]))]
    rfl

/-- The pieces of a text, as lists of bytes. -/
def pieces (s : List UInt8) : List (List UInt8) := splitK [32] 0 (count s [32]) s
theorem pieces_join (xs : List (List UInt8)) (hn : xs ≠ []) (h : ∀ x ∈ xs, ∀ c ∈ x, c ≠ 32) : pieces (join xs [32]) = xs := by
  cases xs with
  | nil => exact absurd rfl hn
  | cons x r =>
    rw [join_cons]
    unfold pieces
    rw [count_tail x r (h x (by simp)) (fun y hy => h y (by simp [hy])), split_tail x r (h x (by simp)) (fun y hy => h y (by simp [hy]))]

theorem digs_small : ∀ n : Nat, n < 64 → decDigits n = if n < 10 then [UInt8.ofNat (48 + n)] else [UInt8.ofNat (48 + n / 10), UInt8.ofNat (48 + n % 10)] := by
  intro n hn
  by_cases h : n < 10
  · rw [decDigits, dif_pos h, if_pos h]
  · rw [decDigits, dif_neg h, if_neg h, decDigits, dif_pos (by omega)]
    rfl
theorem digs_no32 (n : Nat) (hn : n < 64) : ∀ c ∈ decDigits n, c ≠ 32 := by
  rw [digs_small n hn]
  revert n
  decide
theorem atoi_digs (n : Nat) (hn : n < 64) : atoiAll (decDigits n) = .ok (n : Int) := by
  rw [digs_small n hn]
  revert n
  decide
end Go.Proofs.YthifdmelanbgmaaDoor.Plain
