/- Texts of this seat, joined. -/
import Derived.Test.YtmcjccigglekpaaGreatDoorProg
import Derived.Below
import Derived.Deep.Draws
import Derived.Deep.AppendLies
import Derived.Maps.AppendAt
import Derived.OwnWalk
import Derived.Laws.BytesArg
import Derived.Laws.MakeOwn
import Derived.Laws.OwnMore
import Derived.Deep.OwnRows
import Derived.Tactics
import Derived.Lib.ConvBytes
import Derived.Laws.Slices
import Derived.WalkKit
import Derived.KernelRfl
import Derived.RowKit3
import Derived.Deep.LoopGhost
import Derived.Deep.QuietTactic
import Derived.BigQuiet
import Derived.WideLaws
import Derived.Deep.DeepCutAuto
import Derived.Deep.CutBlock
import Derived.Deep.RegionHeld3
import Derived.Laws.Rows
import Derived.Lib.AppendStr
import Derived.ArgAppend
import Derived.Laws.IdiomCopy
import Derived.OrdersHeld
import Derived.Laws.BitsLemmas
import Derived.RowKit
import Derived.Test.YtmcjccigglekpaaGreatDoorL0
import Derived.Test.YtmcjccigglekpaaGreatDoorL1
import Derived.Lib.Hide
import Derived.Outline
import Derived.Shelf.LaysM
import Derived.Shelf.LaysC
import Derived.Shelf.Strconv.Itoa4
import Derived.Shelf.Strconv.ParseIntPublic10
import Derived.Shelf.Strings.Split
import Derived.Shelf.Strings.Cut
import Derived.Lib.LaidTab
import Derived.Lib.AppendIntMem
import Derived.Lib.ItoaMem
import Derived.Lib.ItoaLen
namespace Go.Proofs.YtmcjccigglekpaaGreatDoor.Given
end Go.Proofs.YtmcjccigglekpaaGreatDoor.Given
namespace Go.Proofs.YtmcjccigglekpaaGreatDoor.P
open Go.Proofs.YtmcjccigglekpaaGreatDoor.Given
open Go.RowKit Go.Proofs.YtmcjccigglekpaaGreatDoorW.PrintWords Go.Proofs.YtmcjccigglekpaaGreatDoorW.PrintLast Go.Proofs.YtmcjccigglekpaaGreatDoorW.PrintMore
attribute [local go_sem] max2_int min2_int max_two min_two max_three min_three max_four min_four   -- for this text's walks alone
set_option linter.unusedVariables false
set_option linter.unusedSimpArgs false



def errW : Option Int → Value
 | none => .nilIface
 | some c => .iface 0 (.int .i64 c)
theorem errW_none : errW none = .nilIface := rfl
theorem errW_some (c : Int) : errW (some c) = .iface 0 (.int .i64 c) := rfl

theorem info2 : (Tryz.prog.info? 2).map (fun i => (i.zero, i.size, i.bytes)) = some (some (.int .i64 0), 1, 8) := by kernel_rfl
theorem info3 : (Tryz.prog.info? 3).map (fun i => (i.zero, i.size, i.bytes)) = some (some (.int .i64 0), 1, 8) := by kernel_rfl
theorem info5 : (Tryz.prog.info? 5).map (fun i => (i.zero, i.size, i.bytes)) = some (some (.int .u8 0), 1, 1) := by kernel_rfl
theorem info9 : (Tryz.prog.info? 9).map (fun i => (i.zero, i.size, i.bytes)) = some (some (.string ⟨#[]⟩), 1, 16) := by kernel_rfl
theorem info29 : (Tryz.prog.info? 29).map (fun i => (i.zero, i.size, i.bytes)) = some (some (.slice none 0 0), 1, 24) := by kernel_rfl
theorem info70 : (Tryz.prog.info? 70).map (fun i => (i.zero, i.size, i.bytes)) = some (some (.agg #[(.int .i64 0), (.int .i64 0), (.int .i64 0), (.int .i64 0), (.int .i64 0), (.int .i64 0), (.int .i64 0), (.int .i64 0)]), 8, 64) := by kernel_rfl
-- the values' own types
/-! #### struct type 74 -/
structure S74 where
 f0 : Int
 f1 : Int
def z74 : S74 := ⟨(0 : Int), (0 : Int)⟩
def k74 : Kd S74 := Kd.iso (Kd.pair (Kd.int .i64) (Kd.int .i64)) (fun x : S74 => (x.f0, x.f1))
theorem k74_open {w : World} {x : S74} {cs : List Value} (h : k74.K w x cs) : cs = [.int .i64 x.f0, .int .i64 x.f1] := by
 obtain ⟨_, _, rfl, rfl, rfl⟩ := h
 exact rfl
theorem k74_openM {w : World} {base : Nat} {ok : Nat → Prop} {x : S74} {cs : List Value} (h : k74.M w base ok x cs) : cs = [.int .i64 x.f0, .int .i64 x.f1] := by
 obtain ⟨_, _, rfl, rfl, rfl⟩ := h
 exact rfl
theorem k74_mk (w : World) (x : S74)  : k74.K w x [.int .i64 x.f0, .int .i64 x.f1] := ⟨[.int .i64 x.f0], [.int .i64 x.f1], rfl, rfl, rfl⟩
theorem k74_mkM (w : World) (base : Nat) (ok : Nat → Prop) (x : S74)  : k74.M w base ok x [.int .i64 x.f0, .int .i64 x.f1] := ⟨[.int .i64 x.f0], [.int .i64 x.f1], rfl, rfl, rfl⟩
def rd_T74 (xs : List S74) (i : Int) : S74 := xs.getD i.toNat z74
theorem at_T74 {w : World} {A : Option Addr} {n : Nat} {xs : List S74} (h : Kd.C k74 w A n xs) (i : Int) (h0 : 0 ≤ i) (h1 : i < n) : ∃ ad , A = some ad ∧ w.cell? (ad.add (i.toNat * 2)) = some (.int .i64 (rd_T74 xs i).f0) ∧ w.cell? ⟨(ad.add (i.toNat * 2)).block, (ad.add (i.toNat * 2)).off + 1, none⟩ = some (.int .i64 (rd_T74 xs i).f1) := by
 obtain ⟨ad, c, e, _, hK, hc0⟩ := Kd.C_get h z74 i h0 h1
 have hc : ∀ j u, c[j]? = some u → w.cell? (ad.add (i.toNat * 2 + j)) = some u := hc0
 obtain rfl := k74_open hK
 exact ⟨ad, e, hc 0 _ rfl, by rw [← add_field _ _ 1 (by omega)]; exact hc 1 _ rfl⟩

/-! #### struct type 95 -/
structure S95 where
 f0 : Int
 f1 : Int
 f2 : Int
 f3 : Bool
 f4 : S74
 f5 : Int
 f6 : Bool
def z95 : S95 := ⟨(0 : Int), (0 : Int), (0 : Int), false, z74, (0 : Int), false⟩
def k95 : Kd S95 := Kd.iso (Kd.pair (Kd.int .i64) (Kd.pair (Kd.int .i64) (Kd.pair (Kd.int .i64) (Kd.pair Kd.bool (Kd.pair k74 (Kd.pair (Kd.int .i64) Kd.bool)))))) (fun x : S95 => (x.f0, x.f1, x.f2, x.f3, x.f4, x.f5, x.f6))
theorem k95_open {w : World} {x : S95} {cs : List Value} (h : k95.K w x cs) : cs = [.int .i64 x.f0, .int .i64 x.f1, .int .i64 x.f2, .bool x.f3, .int .i64 x.f4.f0, .int .i64 x.f4.f1, .int .i64 x.f5, .bool x.f6] := by
 obtain ⟨_, _, rfl, rfl, ⟨_, _, rfl, rfl, ⟨_, _, rfl, rfl, ⟨_, _, rfl, rfl, ⟨_, _, rfl, s4, ⟨_, _, rfl, rfl, rfl⟩⟩⟩⟩⟩⟩ := h
 obtain rfl := k74_open s4
 exact rfl
theorem k95_openM {w : World} {base : Nat} {ok : Nat → Prop} {x : S95} {cs : List Value} (h : k95.M w base ok x cs) : cs = [.int .i64 x.f0, .int .i64 x.f1, .int .i64 x.f2, .bool x.f3, .int .i64 x.f4.f0, .int .i64 x.f4.f1, .int .i64 x.f5, .bool x.f6] := by
 obtain ⟨_, _, rfl, rfl, ⟨_, _, rfl, rfl, ⟨_, _, rfl, rfl, ⟨_, _, rfl, rfl, ⟨_, _, rfl, s4, ⟨_, _, rfl, rfl, rfl⟩⟩⟩⟩⟩⟩ := h
 obtain rfl := k74_openM s4
 exact rfl
theorem k95_mk (w : World) (x : S95)  : k95.K w x [.int .i64 x.f0, .int .i64 x.f1, .int .i64 x.f2, .bool x.f3, .int .i64 x.f4.f0, .int .i64 x.f4.f1, .int .i64 x.f5, .bool x.f6] := ⟨[.int .i64 x.f0], [.int .i64 x.f1, .int .i64 x.f2, .bool x.f3, .int .i64 x.f4.f0, .int .i64 x.f4.f1, .int .i64 x.f5, .bool x.f6], rfl, rfl, ⟨[.int .i64 x.f1], [.int .i64 x.f2, .bool x.f3, .int .i64 x.f4.f0, .int .i64 x.f4.f1, .int .i64 x.f5, .bool x.f6], rfl, rfl, ⟨[.int .i64 x.f2], [.bool x.f3, .int .i64 x.f4.f0, .int .i64 x.f4.f1, .int .i64 x.f5, .bool x.f6], rfl, rfl, ⟨[.bool x.f3], [.int .i64 x.f4.f0, .int .i64 x.f4.f1, .int .i64 x.f5, .bool x.f6], rfl, rfl, ⟨[.int .i64 x.f4.f0, .int .i64 x.f4.f1], [.int .i64 x.f5, .bool x.f6], rfl, (k74_mk w x.f4 ), ⟨[.int .i64 x.f5], [.bool x.f6], rfl, rfl, rfl⟩⟩⟩⟩⟩⟩
theorem k95_mkM (w : World) (base : Nat) (ok : Nat → Prop) (x : S95)  : k95.M w base ok x [.int .i64 x.f0, .int .i64 x.f1, .int .i64 x.f2, .bool x.f3, .int .i64 x.f4.f0, .int .i64 x.f4.f1, .int .i64 x.f5, .bool x.f6] := ⟨[.int .i64 x.f0], [.int .i64 x.f1, .int .i64 x.f2, .bool x.f3, .int .i64 x.f4.f0, .int .i64 x.f4.f1, .int .i64 x.f5, .bool x.f6], rfl, rfl, ⟨[.int .i64 x.f1], [.int .i64 x.f2, .bool x.f3, .int .i64 x.f4.f0, .int .i64 x.f4.f1, .int .i64 x.f5, .bool x.f6], rfl, rfl, ⟨[.int .i64 x.f2], [.bool x.f3, .int .i64 x.f4.f0, .int .i64 x.f4.f1, .int .i64 x.f5, .bool x.f6], rfl, rfl, ⟨[.bool x.f3], [.int .i64 x.f4.f0, .int .i64 x.f4.f1, .int .i64 x.f5, .bool x.f6], rfl, rfl, ⟨[.int .i64 x.f4.f0, .int .i64 x.f4.f1], [.int .i64 x.f5, .bool x.f6], rfl, (k74_mkM w base ok x.f4 ), ⟨[.int .i64 x.f5], [.bool x.f6], rfl, rfl, rfl⟩⟩⟩⟩⟩⟩
def rd_T95 (xs : List S95) (i : Int) : S95 := xs.getD i.toNat z95
theorem at_T95 {w : World} {A : Option Addr} {n : Nat} {xs : List S95} (h : Kd.C k95 w A n xs) (i : Int) (h0 : 0 ≤ i) (h1 : i < n) : ∃ ad , A = some ad ∧ w.cell? (ad.add (i.toNat * 8)) = some (.int .i64 (rd_T95 xs i).f0) ∧ w.cell? ⟨(ad.add (i.toNat * 8)).block, (ad.add (i.toNat * 8)).off + 1, none⟩ = some (.int .i64 (rd_T95 xs i).f1) ∧ w.cell? ⟨(ad.add (i.toNat * 8)).block, (ad.add (i.toNat * 8)).off + 2, none⟩ = some (.int .i64 (rd_T95 xs i).f2) ∧ w.cell? ⟨(ad.add (i.toNat * 8)).block, (ad.add (i.toNat * 8)).off + 3, none⟩ = some (.bool (rd_T95 xs i).f3) ∧ w.cell? ⟨(ad.add (i.toNat * 8)).block, (ad.add (i.toNat * 8)).off + 4, none⟩ = some (.int .i64 (rd_T95 xs i).f4.f0) ∧ w.cell? ⟨(ad.add (i.toNat * 8)).block, (ad.add (i.toNat * 8)).off + 5, none⟩ = some (.int .i64 (rd_T95 xs i).f4.f1) ∧ w.cell? ⟨(ad.add (i.toNat * 8)).block, (ad.add (i.toNat * 8)).off + 6, none⟩ = some (.int .i64 (rd_T95 xs i).f5) ∧ w.cell? ⟨(ad.add (i.toNat * 8)).block, (ad.add (i.toNat * 8)).off + 7, none⟩ = some (.bool (rd_T95 xs i).f6) := by
 obtain ⟨ad, c, e, _, hK, hc0⟩ := Kd.C_get h z95 i h0 h1
 have hc : ∀ j u, c[j]? = some u → w.cell? (ad.add (i.toNat * 8 + j)) = some u := hc0
 obtain rfl := k95_open hK
 exact ⟨ad, e, hc 0 _ rfl, by rw [← add_field _ _ 1 (by omega)]; exact hc 1 _ rfl, by rw [← add_field _ _ 2 (by omega)]; exact hc 2 _ rfl, by rw [← add_field _ _ 3 (by omega)]; exact hc 3 _ rfl, by rw [← add_field _ _ 4 (by omega)]; exact hc 4 _ rfl, by rw [← add_field _ _ 5 (by omega)]; exact hc 5 _ rfl, by rw [← add_field _ _ 6 (by omega)]; exact hc 6 _ rfl, by rw [← add_field _ _ 7 (by omega)]; exact hc 7 _ rfl⟩

/-! #### struct type 87 -/
structure S87 where
 f0 : Int
 f1 : Int
 f2 : Int
 f3 : Int
 f4 : Int
def z87 : S87 := ⟨(0 : Int), (0 : Int), (0 : Int), (0 : Int), (0 : Int)⟩
def k87 : Kd S87 := Kd.iso (Kd.pair (Kd.int .i64) (Kd.pair (Kd.int .i64) (Kd.pair (Kd.int .i64) (Kd.pair (Kd.int .i64) (Kd.int .i64))))) (fun x : S87 => (x.f0, x.f1, x.f2, x.f3, x.f4))
theorem k87_open {w : World} {x : S87} {cs : List Value} (h : k87.K w x cs) : cs = [.int .i64 x.f0, .int .i64 x.f1, .int .i64 x.f2, .int .i64 x.f3, .int .i64 x.f4] := by
 obtain ⟨_, _, rfl, rfl, ⟨_, _, rfl, rfl, ⟨_, _, rfl, rfl, ⟨_, _, rfl, rfl, rfl⟩⟩⟩⟩ := h
 exact rfl
theorem k87_openM {w : World} {base : Nat} {ok : Nat → Prop} {x : S87} {cs : List Value} (h : k87.M w base ok x cs) : cs = [.int .i64 x.f0, .int .i64 x.f1, .int .i64 x.f2, .int .i64 x.f3, .int .i64 x.f4] := by
 obtain ⟨_, _, rfl, rfl, ⟨_, _, rfl, rfl, ⟨_, _, rfl, rfl, ⟨_, _, rfl, rfl, rfl⟩⟩⟩⟩ := h
 exact rfl
theorem k87_mk (w : World) (x : S87)  : k87.K w x [.int .i64 x.f0, .int .i64 x.f1, .int .i64 x.f2, .int .i64 x.f3, .int .i64 x.f4] := ⟨[.int .i64 x.f0], [.int .i64 x.f1, .int .i64 x.f2, .int .i64 x.f3, .int .i64 x.f4], rfl, rfl, ⟨[.int .i64 x.f1], [.int .i64 x.f2, .int .i64 x.f3, .int .i64 x.f4], rfl, rfl, ⟨[.int .i64 x.f2], [.int .i64 x.f3, .int .i64 x.f4], rfl, rfl, ⟨[.int .i64 x.f3], [.int .i64 x.f4], rfl, rfl, rfl⟩⟩⟩⟩
theorem k87_mkM (w : World) (base : Nat) (ok : Nat → Prop) (x : S87)  : k87.M w base ok x [.int .i64 x.f0, .int .i64 x.f1, .int .i64 x.f2, .int .i64 x.f3, .int .i64 x.f4] := ⟨[.int .i64 x.f0], [.int .i64 x.f1, .int .i64 x.f2, .int .i64 x.f3, .int .i64 x.f4], rfl, rfl, ⟨[.int .i64 x.f1], [.int .i64 x.f2, .int .i64 x.f3, .int .i64 x.f4], rfl, rfl, ⟨[.int .i64 x.f2], [.int .i64 x.f3, .int .i64 x.f4], rfl, rfl, ⟨[.int .i64 x.f3], [.int .i64 x.f4], rfl, rfl, rfl⟩⟩⟩⟩
def rd_T87 (xs : List S87) (i : Int) : S87 := xs.getD i.toNat z87
theorem at_T87 {w : World} {A : Option Addr} {n : Nat} {xs : List S87} (h : Kd.C k87 w A n xs) (i : Int) (h0 : 0 ≤ i) (h1 : i < n) : ∃ ad , A = some ad ∧ w.cell? (ad.add (i.toNat * 5)) = some (.int .i64 (rd_T87 xs i).f0) ∧ w.cell? ⟨(ad.add (i.toNat * 5)).block, (ad.add (i.toNat * 5)).off + 1, none⟩ = some (.int .i64 (rd_T87 xs i).f1) ∧ w.cell? ⟨(ad.add (i.toNat * 5)).block, (ad.add (i.toNat * 5)).off + 2, none⟩ = some (.int .i64 (rd_T87 xs i).f2) ∧ w.cell? ⟨(ad.add (i.toNat * 5)).block, (ad.add (i.toNat * 5)).off + 3, none⟩ = some (.int .i64 (rd_T87 xs i).f3) ∧ w.cell? ⟨(ad.add (i.toNat * 5)).block, (ad.add (i.toNat * 5)).off + 4, none⟩ = some (.int .i64 (rd_T87 xs i).f4) := by
 obtain ⟨ad, c, e, _, hK, hc0⟩ := Kd.C_get h z87 i h0 h1
 have hc : ∀ j u, c[j]? = some u → w.cell? (ad.add (i.toNat * 5 + j)) = some u := hc0
 obtain rfl := k87_open hK
 exact ⟨ad, e, hc 0 _ rfl, by rw [← add_field _ _ 1 (by omega)]; exact hc 1 _ rfl, by rw [← add_field _ _ 2 (by omega)]; exact hc 2 _ rfl, by rw [← add_field _ _ 3 (by omega)]; exact hc 3 _ rfl, by rw [← add_field _ _ 4 (by omega)]; exact hc 4 _ rfl⟩

def rd_L5 (xs : List (List S87)) (i : Int) : (List S87) := xs.getD i.toNat ([] : List S87)
theorem at_L5 {w : World} {A : Option Addr} {n : Nat} {xs : List (List S87)} (h : Kd.C (Kd.slice 87 k87) w A n xs) (i : Int) (h0 : 0 ≤ i) (h1 : i < n) : ∃ ad A0 c0, A = some ad ∧ w.cell? (ad.add i.toNat) = some (.slice A0 (rd_L5 xs i).length c0) ∧ (rd_L5 xs i).length ≤ c0 ∧ k87.C w A0 (rd_L5 xs i).length (rd_L5 xs i) := by
 obtain ⟨ad, c, e, _, hK, hc0⟩ := Kd.C_get h ([] : List S87) i h0 h1
 have hc : ∀ j u, c[j]? = some u → w.cell? (ad.add (i.toNat * 1 + j)) = some u := hc0
 obtain ⟨A0, c0, rfl, l0, g0⟩ := hK
 exact ⟨ad, A0, c0, e, by have hq := hc 0 _ rfl; rwa [Nat.mul_one, Nat.add_zero] at hq, l0, g0⟩

def rd_L6 (xs : List (List S95)) (i : Int) : (List S95) := xs.getD i.toNat ([] : List S95)
theorem at_L6 {w : World} {A : Option Addr} {n : Nat} {xs : List (List S95)} (h : Kd.C (Kd.slice 95 k95) w A n xs) (i : Int) (h0 : 0 ≤ i) (h1 : i < n) : ∃ ad A0 c0, A = some ad ∧ w.cell? (ad.add i.toNat) = some (.slice A0 (rd_L6 xs i).length c0) ∧ (rd_L6 xs i).length ≤ c0 ∧ k95.C w A0 (rd_L6 xs i).length (rd_L6 xs i) := by
 obtain ⟨ad, c, e, _, hK, hc0⟩ := Kd.C_get h ([] : List S95) i h0 h1
 have hc : ∀ j u, c[j]? = some u → w.cell? (ad.add (i.toNat * 1 + j)) = some u := hc0
 obtain ⟨A0, c0, rfl, l0, g0⟩ := hK
 exact ⟨ad, A0, c0, e, by have hq := hc 0 _ rfl; rwa [Nat.mul_one, Nat.add_zero] at hq, l0, g0⟩

/-! #### struct type 59 -/
structure S59 where
 f0 : Int
 f1 : Int
 f2 : (List S95)
def z59 : S59 := ⟨(0 : Int), (0 : Int), ([] : List S95)⟩
def k59 : Kd S59 := Kd.iso (Kd.pair (Kd.int .i64) (Kd.pair (Kd.int .i64) (Kd.slice 95 k95))) (fun x : S59 => (x.f0, x.f1, x.f2))
theorem k59_open {w : World} {x : S59} {cs : List Value} (h : k59.K w x cs) : ∃ A2 c2, cs = [.int .i64 x.f0, .int .i64 x.f1, .slice A2 x.f2.length c2] ∧ x.f2.length ≤ c2 ∧ k95.C w A2 x.f2.length x.f2 := by
 obtain ⟨_, _, rfl, rfl, ⟨_, _, rfl, rfl, ⟨A2, c2, rfl, l2, g2⟩⟩⟩ := h
 exact ⟨A2, c2, rfl, l2, g2⟩
theorem k59_openM {w : World} {base : Nat} {ok : Nat → Prop} {x : S59} {cs : List Value} (h : k59.M w base ok x cs) : ∃ v2, cs = [.int .i64 x.f0, .int .i64 x.f1, v2] ∧ k95.R 95 w base ok v2 x.f2 := by
 obtain ⟨_, _, rfl, rfl, ⟨_, _, rfl, rfl, ⟨v2, rfl, g2⟩⟩⟩ := h
 exact ⟨v2, rfl, g2⟩
theorem k59_mk (w : World) (x : S59) {A2 : Option Addr} {c2 : Nat} (l2 : x.f2.length ≤ c2) (g2 : k95.C w A2 x.f2.length x.f2) : k59.K w x [.int .i64 x.f0, .int .i64 x.f1, .slice A2 x.f2.length c2] := ⟨[.int .i64 x.f0], [.int .i64 x.f1, .slice A2 x.f2.length c2], rfl, rfl, ⟨[.int .i64 x.f1], [.slice A2 x.f2.length c2], rfl, rfl, ⟨A2, c2, rfl, l2, g2⟩⟩⟩
theorem k59_mkM (w : World) (base : Nat) (ok : Nat → Prop) (x : S59) {v2 : Value} (g2 : k95.R 95 w base ok v2 x.f2) : k59.M w base ok x [.int .i64 x.f0, .int .i64 x.f1, v2] := ⟨[.int .i64 x.f0], [.int .i64 x.f1, v2], rfl, rfl, ⟨[.int .i64 x.f1], [v2], rfl, rfl, ⟨v2, rfl, g2⟩⟩⟩
def rd_T59 (xs : List S59) (i : Int) : S59 := xs.getD i.toNat z59
theorem at_T59 {w : World} {A : Option Addr} {n : Nat} {xs : List S59} (h : Kd.C k59 w A n xs) (i : Int) (h0 : 0 ≤ i) (h1 : i < n) : ∃ ad A2 c2, A = some ad ∧ w.cell? (ad.add (i.toNat * 3)) = some (.int .i64 (rd_T59 xs i).f0) ∧ w.cell? ⟨(ad.add (i.toNat * 3)).block, (ad.add (i.toNat * 3)).off + 1, none⟩ = some (.int .i64 (rd_T59 xs i).f1) ∧ w.cell? ⟨(ad.add (i.toNat * 3)).block, (ad.add (i.toNat * 3)).off + 2, none⟩ = some (.slice A2 (rd_T59 xs i).f2.length c2) ∧ (rd_T59 xs i).f2.length ≤ c2 ∧ k95.C w A2 (rd_T59 xs i).f2.length (rd_T59 xs i).f2 := by
 obtain ⟨ad, c, e, _, hK, hc0⟩ := Kd.C_get h z59 i h0 h1
 have hc : ∀ j u, c[j]? = some u → w.cell? (ad.add (i.toNat * 3 + j)) = some u := hc0
 obtain ⟨A2, c2, rfl, l2, g2⟩ := k59_open hK
 exact ⟨ad, A2, c2, e, hc 0 _ rfl, by rw [← add_field _ _ 1 (by omega)]; exact hc 1 _ rfl, by rw [← add_field _ _ 2 (by omega)]; exact hc 2 _ rfl, l2, g2⟩

def rd_L8 (xs : List (List Int)) (i : Int) : (List Int) := xs.getD i.toNat ([] : List Int)
theorem at_L8 {w : World} {A : Option Addr} {n : Nat} {xs : List (List Int)} (h : Kd.C (Kd.slice 3 (Kd.int .i64)) w A n xs) (i : Int) (h0 : 0 ≤ i) (h1 : i < n) : ∃ ad A0 c0, A = some ad ∧ w.cell? (ad.add i.toNat) = some (.slice A0 (rd_L8 xs i).length c0) ∧ (rd_L8 xs i).length ≤ c0 ∧ (Kd.int .i64).C w A0 (rd_L8 xs i).length (rd_L8 xs i) := by
 obtain ⟨ad, c, e, _, hK, hc0⟩ := Kd.C_get h ([] : List Int) i h0 h1
 have hc : ∀ j u, c[j]? = some u → w.cell? (ad.add (i.toNat * 1 + j)) = some u := hc0
 obtain ⟨A0, c0, rfl, l0, g0⟩ := hK
 exact ⟨ad, A0, c0, e, by have hq := hc 0 _ rfl; rwa [Nat.mul_one, Nat.add_zero] at hq, l0, g0⟩

/-! #### struct type 82 -/
structure S82 where
 f0 : Bool
 f1 : S74
 f2 : Bool
def z82 : S82 := ⟨false, z74, false⟩
def k82 : Kd S82 := Kd.iso (Kd.pair Kd.bool (Kd.pair k74 Kd.bool)) (fun x : S82 => (x.f0, x.f1, x.f2))
theorem k82_open {w : World} {x : S82} {cs : List Value} (h : k82.K w x cs) : cs = [.bool x.f0, .int .i64 x.f1.f0, .int .i64 x.f1.f1, .bool x.f2] := by
 obtain ⟨_, _, rfl, rfl, ⟨_, _, rfl, s1, rfl⟩⟩ := h
 obtain rfl := k74_open s1
 exact rfl
theorem k82_openM {w : World} {base : Nat} {ok : Nat → Prop} {x : S82} {cs : List Value} (h : k82.M w base ok x cs) : cs = [.bool x.f0, .int .i64 x.f1.f0, .int .i64 x.f1.f1, .bool x.f2] := by
 obtain ⟨_, _, rfl, rfl, ⟨_, _, rfl, s1, rfl⟩⟩ := h
 obtain rfl := k74_openM s1
 exact rfl
theorem k82_mk (w : World) (x : S82)  : k82.K w x [.bool x.f0, .int .i64 x.f1.f0, .int .i64 x.f1.f1, .bool x.f2] := ⟨[.bool x.f0], [.int .i64 x.f1.f0, .int .i64 x.f1.f1, .bool x.f2], rfl, rfl, ⟨[.int .i64 x.f1.f0, .int .i64 x.f1.f1], [.bool x.f2], rfl, (k74_mk w x.f1 ), rfl⟩⟩
theorem k82_mkM (w : World) (base : Nat) (ok : Nat → Prop) (x : S82)  : k82.M w base ok x [.bool x.f0, .int .i64 x.f1.f0, .int .i64 x.f1.f1, .bool x.f2] := ⟨[.bool x.f0], [.int .i64 x.f1.f0, .int .i64 x.f1.f1, .bool x.f2], rfl, rfl, ⟨[.int .i64 x.f1.f0, .int .i64 x.f1.f1], [.bool x.f2], rfl, (k74_mkM w base ok x.f1 ), rfl⟩⟩
def rd_T82 (xs : List S82) (i : Int) : S82 := xs.getD i.toNat z82
theorem at_T82 {w : World} {A : Option Addr} {n : Nat} {xs : List S82} (h : Kd.C k82 w A n xs) (i : Int) (h0 : 0 ≤ i) (h1 : i < n) : ∃ ad , A = some ad ∧ w.cell? (ad.add (i.toNat * 4)) = some (.bool (rd_T82 xs i).f0) ∧ w.cell? ⟨(ad.add (i.toNat * 4)).block, (ad.add (i.toNat * 4)).off + 1, none⟩ = some (.int .i64 (rd_T82 xs i).f1.f0) ∧ w.cell? ⟨(ad.add (i.toNat * 4)).block, (ad.add (i.toNat * 4)).off + 2, none⟩ = some (.int .i64 (rd_T82 xs i).f1.f1) ∧ w.cell? ⟨(ad.add (i.toNat * 4)).block, (ad.add (i.toNat * 4)).off + 3, none⟩ = some (.bool (rd_T82 xs i).f2) := by
 obtain ⟨ad, c, e, _, hK, hc0⟩ := Kd.C_get h z82 i h0 h1
 have hc : ∀ j u, c[j]? = some u → w.cell? (ad.add (i.toNat * 4 + j)) = some u := hc0
 obtain rfl := k82_open hK
 exact ⟨ad, e, hc 0 _ rfl, by rw [← add_field _ _ 1 (by omega)]; exact hc 1 _ rfl, by rw [← add_field _ _ 2 (by omega)]; exact hc 2 _ rfl, by rw [← add_field _ _ 3 (by omega)]; exact hc 3 _ rfl⟩

/-! #### struct type 76 -/
structure S76 where
 f0 : S74
 f1 : Int
 f2 : Bool
def z76 : S76 := ⟨z74, (0 : Int), false⟩
def k76 : Kd S76 := Kd.iso (Kd.pair k74 (Kd.pair (Kd.int .i64) Kd.bool)) (fun x : S76 => (x.f0, x.f1, x.f2))
theorem k76_open {w : World} {x : S76} {cs : List Value} (h : k76.K w x cs) : cs = [.int .i64 x.f0.f0, .int .i64 x.f0.f1, .int .i64 x.f1, .bool x.f2] := by
 obtain ⟨_, _, rfl, s0, ⟨_, _, rfl, rfl, rfl⟩⟩ := h
 obtain rfl := k74_open s0
 exact rfl
theorem k76_openM {w : World} {base : Nat} {ok : Nat → Prop} {x : S76} {cs : List Value} (h : k76.M w base ok x cs) : cs = [.int .i64 x.f0.f0, .int .i64 x.f0.f1, .int .i64 x.f1, .bool x.f2] := by
 obtain ⟨_, _, rfl, s0, ⟨_, _, rfl, rfl, rfl⟩⟩ := h
 obtain rfl := k74_openM s0
 exact rfl
theorem k76_mk (w : World) (x : S76)  : k76.K w x [.int .i64 x.f0.f0, .int .i64 x.f0.f1, .int .i64 x.f1, .bool x.f2] := ⟨[.int .i64 x.f0.f0, .int .i64 x.f0.f1], [.int .i64 x.f1, .bool x.f2], rfl, (k74_mk w x.f0 ), ⟨[.int .i64 x.f1], [.bool x.f2], rfl, rfl, rfl⟩⟩
theorem k76_mkM (w : World) (base : Nat) (ok : Nat → Prop) (x : S76)  : k76.M w base ok x [.int .i64 x.f0.f0, .int .i64 x.f0.f1, .int .i64 x.f1, .bool x.f2] := ⟨[.int .i64 x.f0.f0, .int .i64 x.f0.f1], [.int .i64 x.f1, .bool x.f2], rfl, (k74_mkM w base ok x.f0 ), ⟨[.int .i64 x.f1], [.bool x.f2], rfl, rfl, rfl⟩⟩
def rd_T76 (xs : List S76) (i : Int) : S76 := xs.getD i.toNat z76
theorem at_T76 {w : World} {A : Option Addr} {n : Nat} {xs : List S76} (h : Kd.C k76 w A n xs) (i : Int) (h0 : 0 ≤ i) (h1 : i < n) : ∃ ad , A = some ad ∧ w.cell? (ad.add (i.toNat * 4)) = some (.int .i64 (rd_T76 xs i).f0.f0) ∧ w.cell? ⟨(ad.add (i.toNat * 4)).block, (ad.add (i.toNat * 4)).off + 1, none⟩ = some (.int .i64 (rd_T76 xs i).f0.f1) ∧ w.cell? ⟨(ad.add (i.toNat * 4)).block, (ad.add (i.toNat * 4)).off + 2, none⟩ = some (.int .i64 (rd_T76 xs i).f1) ∧ w.cell? ⟨(ad.add (i.toNat * 4)).block, (ad.add (i.toNat * 4)).off + 3, none⟩ = some (.bool (rd_T76 xs i).f2) := by
 obtain ⟨ad, c, e, _, hK, hc0⟩ := Kd.C_get h z76 i h0 h1
 have hc : ∀ j u, c[j]? = some u → w.cell? (ad.add (i.toNat * 4 + j)) = some u := hc0
 obtain rfl := k76_open hK
 exact ⟨ad, e, hc 0 _ rfl, by rw [← add_field _ _ 1 (by omega)]; exact hc 1 _ rfl, by rw [← add_field _ _ 2 (by omega)]; exact hc 2 _ rfl, by rw [← add_field _ _ 3 (by omega)]; exact hc 3 _ rfl⟩

/-! #### struct type 70 -/
structure S70 where
 f0 : Int
 f1 : Int
 f2 : Int
 f3 : Int
 f4 : Int
 f5 : Int
 f6 : Int
 f7 : Int
def z70 : S70 := ⟨(0 : Int), (0 : Int), (0 : Int), (0 : Int), (0 : Int), (0 : Int), (0 : Int), (0 : Int)⟩
def k70 : Kd S70 := Kd.iso (Kd.pair (Kd.int .i64) (Kd.pair (Kd.int .i64) (Kd.pair (Kd.int .i64) (Kd.pair (Kd.int .i64) (Kd.pair (Kd.int .i64) (Kd.pair (Kd.int .i64) (Kd.pair (Kd.int .i64) (Kd.int .i64)))))))) (fun x : S70 => (x.f0, x.f1, x.f2, x.f3, x.f4, x.f5, x.f6, x.f7))
theorem k70_open {w : World} {x : S70} {cs : List Value} (h : k70.K w x cs) : cs = [.int .i64 x.f0, .int .i64 x.f1, .int .i64 x.f2, .int .i64 x.f3, .int .i64 x.f4, .int .i64 x.f5, .int .i64 x.f6, .int .i64 x.f7] := by
 obtain ⟨_, _, rfl, rfl, ⟨_, _, rfl, rfl, ⟨_, _, rfl, rfl, ⟨_, _, rfl, rfl, ⟨_, _, rfl, rfl, ⟨_, _, rfl, rfl, ⟨_, _, rfl, rfl, rfl⟩⟩⟩⟩⟩⟩⟩ := h
 exact rfl
theorem k70_openM {w : World} {base : Nat} {ok : Nat → Prop} {x : S70} {cs : List Value} (h : k70.M w base ok x cs) : cs = [.int .i64 x.f0, .int .i64 x.f1, .int .i64 x.f2, .int .i64 x.f3, .int .i64 x.f4, .int .i64 x.f5, .int .i64 x.f6, .int .i64 x.f7] := by
 obtain ⟨_, _, rfl, rfl, ⟨_, _, rfl, rfl, ⟨_, _, rfl, rfl, ⟨_, _, rfl, rfl, ⟨_, _, rfl, rfl, ⟨_, _, rfl, rfl, ⟨_, _, rfl, rfl, rfl⟩⟩⟩⟩⟩⟩⟩ := h
 exact rfl
theorem k70_mk (w : World) (x : S70)  : k70.K w x [.int .i64 x.f0, .int .i64 x.f1, .int .i64 x.f2, .int .i64 x.f3, .int .i64 x.f4, .int .i64 x.f5, .int .i64 x.f6, .int .i64 x.f7] := ⟨[.int .i64 x.f0], [.int .i64 x.f1, .int .i64 x.f2, .int .i64 x.f3, .int .i64 x.f4, .int .i64 x.f5, .int .i64 x.f6, .int .i64 x.f7], rfl, rfl, ⟨[.int .i64 x.f1], [.int .i64 x.f2, .int .i64 x.f3, .int .i64 x.f4, .int .i64 x.f5, .int .i64 x.f6, .int .i64 x.f7], rfl, rfl, ⟨[.int .i64 x.f2], [.int .i64 x.f3, .int .i64 x.f4, .int .i64 x.f5, .int .i64 x.f6, .int .i64 x.f7], rfl, rfl, ⟨[.int .i64 x.f3], [.int .i64 x.f4, .int .i64 x.f5, .int .i64 x.f6, .int .i64 x.f7], rfl, rfl, ⟨[.int .i64 x.f4], [.int .i64 x.f5, .int .i64 x.f6, .int .i64 x.f7], rfl, rfl, ⟨[.int .i64 x.f5], [.int .i64 x.f6, .int .i64 x.f7], rfl, rfl, ⟨[.int .i64 x.f6], [.int .i64 x.f7], rfl, rfl, rfl⟩⟩⟩⟩⟩⟩⟩
theorem k70_mkM (w : World) (base : Nat) (ok : Nat → Prop) (x : S70)  : k70.M w base ok x [.int .i64 x.f0, .int .i64 x.f1, .int .i64 x.f2, .int .i64 x.f3, .int .i64 x.f4, .int .i64 x.f5, .int .i64 x.f6, .int .i64 x.f7] := ⟨[.int .i64 x.f0], [.int .i64 x.f1, .int .i64 x.f2, .int .i64 x.f3, .int .i64 x.f4, .int .i64 x.f5, .int .i64 x.f6, .int .i64 x.f7], rfl, rfl, ⟨[.int .i64 x.f1], [.int .i64 x.f2, .int .i64 x.f3, .int .i64 x.f4, .int .i64 x.f5, .int .i64 x.f6, .int .i64 x.f7], rfl, rfl, ⟨[.int .i64 x.f2], [.int .i64 x.f3, .int .i64 x.f4, .int .i64 x.f5, .int .i64 x.f6, .int .i64 x.f7], rfl, rfl, ⟨[.int .i64 x.f3], [.int .i64 x.f4, .int .i64 x.f5, .int .i64 x.f6, .int .i64 x.f7], rfl, rfl, ⟨[.int .i64 x.f4], [.int .i64 x.f5, .int .i64 x.f6, .int .i64 x.f7], rfl, rfl, ⟨[.int .i64 x.f5], [.int .i64 x.f6, .int .i64 x.f7], rfl, rfl, ⟨[.int .i64 x.f6], [.int .i64 x.f7], rfl, rfl, rfl⟩⟩⟩⟩⟩⟩⟩
def rd_T70 (xs : List S70) (i : Int) : S70 := xs.getD i.toNat z70
theorem at_T70 {w : World} {A : Option Addr} {n : Nat} {xs : List S70} (h : Kd.C k70 w A n xs) (i : Int) (h0 : 0 ≤ i) (h1 : i < n) : ∃ ad , A = some ad ∧ w.cell? (ad.add (i.toNat * 8)) = some (.int .i64 (rd_T70 xs i).f0) ∧ w.cell? ⟨(ad.add (i.toNat * 8)).block, (ad.add (i.toNat * 8)).off + 1, none⟩ = some (.int .i64 (rd_T70 xs i).f1) ∧ w.cell? ⟨(ad.add (i.toNat * 8)).block, (ad.add (i.toNat * 8)).off + 2, none⟩ = some (.int .i64 (rd_T70 xs i).f2) ∧ w.cell? ⟨(ad.add (i.toNat * 8)).block, (ad.add (i.toNat * 8)).off + 3, none⟩ = some (.int .i64 (rd_T70 xs i).f3) ∧ w.cell? ⟨(ad.add (i.toNat * 8)).block, (ad.add (i.toNat * 8)).off + 4, none⟩ = some (.int .i64 (rd_T70 xs i).f4) ∧ w.cell? ⟨(ad.add (i.toNat * 8)).block, (ad.add (i.toNat * 8)).off + 5, none⟩ = some (.int .i64 (rd_T70 xs i).f5) ∧ w.cell? ⟨(ad.add (i.toNat * 8)).block, (ad.add (i.toNat * 8)).off + 6, none⟩ = some (.int .i64 (rd_T70 xs i).f6) ∧ w.cell? ⟨(ad.add (i.toNat * 8)).block, (ad.add (i.toNat * 8)).off + 7, none⟩ = some (.int .i64 (rd_T70 xs i).f7) := by
 obtain ⟨ad, c, e, _, hK, hc0⟩ := Kd.C_get h z70 i h0 h1
 have hc : ∀ j u, c[j]? = some u → w.cell? (ad.add (i.toNat * 8 + j)) = some u := hc0
 obtain rfl := k70_open hK
 exact ⟨ad, e, hc 0 _ rfl, by rw [← add_field _ _ 1 (by omega)]; exact hc 1 _ rfl, by rw [← add_field _ _ 2 (by omega)]; exact hc 2 _ rfl, by rw [← add_field _ _ 3 (by omega)]; exact hc 3 _ rfl, by rw [← add_field _ _ 4 (by omega)]; exact hc 4 _ rfl, by rw [← add_field _ _ 5 (by omega)]; exact hc 5 _ rfl, by rw [← add_field _ _ 6 (by omega)]; exact hc 6 _ rfl, by rw [← add_field _ _ 7 (by omega)]; exact hc 7 _ rfl⟩

def rd_L13 (xs : List (List S70)) (i : Int) : (List S70) := xs.getD i.toNat ([] : List S70)
theorem at_L13 {w : World} {A : Option Addr} {n : Nat} {xs : List (List S70)} (h : Kd.C (Kd.slice 70 k70) w A n xs) (i : Int) (h0 : 0 ≤ i) (h1 : i < n) : ∃ ad A0 c0, A = some ad ∧ w.cell? (ad.add i.toNat) = some (.slice A0 (rd_L13 xs i).length c0) ∧ (rd_L13 xs i).length ≤ c0 ∧ k70.C w A0 (rd_L13 xs i).length (rd_L13 xs i) := by
 obtain ⟨ad, c, e, _, hK, hc0⟩ := Kd.C_get h ([] : List S70) i h0 h1
 have hc : ∀ j u, c[j]? = some u → w.cell? (ad.add (i.toNat * 1 + j)) = some u := hc0
 obtain ⟨A0, c0, rfl, l0, g0⟩ := hK
 exact ⟨ad, A0, c0, e, by have hq := hc 0 _ rfl; rwa [Nat.mul_one, Nat.add_zero] at hq, l0, g0⟩

def rd_L14 (xs : List (List (List Int))) (i : Int) : (List (List Int)) := xs.getD i.toNat ([] : List (List Int))
theorem at_L14 {w : World} {A : Option Addr} {n : Nat} {xs : List (List (List Int))} (h : Kd.C (Kd.slice 29 (Kd.slice 3 (Kd.int .i64))) w A n xs) (i : Int) (h0 : 0 ≤ i) (h1 : i < n) : ∃ ad A0 c0, A = some ad ∧ w.cell? (ad.add i.toNat) = some (.slice A0 (rd_L14 xs i).length c0) ∧ (rd_L14 xs i).length ≤ c0 ∧ (Kd.slice 3 (Kd.int .i64)).C w A0 (rd_L14 xs i).length (rd_L14 xs i) := by
 obtain ⟨ad, c, e, _, hK, hc0⟩ := Kd.C_get h ([] : List (List Int)) i h0 h1
 have hc : ∀ j u, c[j]? = some u → w.cell? (ad.add (i.toNat * 1 + j)) = some u := hc0
 obtain ⟨A0, c0, rfl, l0, g0⟩ := hK
 exact ⟨ad, A0, c0, e, by have hq := hc 0 _ rfl; rwa [Nat.mul_one, Nat.add_zero] at hq, l0, g0⟩

/-! #### struct type 25 -/
structure S25 where
 f0 : (List S70)
 f1 : (List (List Int))
def z25 : S25 := ⟨([] : List S70), ([] : List (List Int))⟩
def k25 : Kd S25 := Kd.iso (Kd.pair (Kd.slice 70 k70) (Kd.slice 29 (Kd.slice 3 (Kd.int .i64)))) (fun x : S25 => (x.f0, x.f1))
theorem k25_open {w : World} {x : S25} {cs : List Value} (h : k25.K w x cs) : ∃ A0 c0 A1 c1, cs = [.slice A0 x.f0.length c0, .slice A1 x.f1.length c1] ∧ x.f0.length ≤ c0 ∧ k70.C w A0 x.f0.length x.f0 ∧ x.f1.length ≤ c1 ∧ (Kd.slice 3 (Kd.int .i64)).C w A1 x.f1.length x.f1 := by
 obtain ⟨_, _, rfl, ⟨A0, c0, rfl, l0, g0⟩, ⟨A1, c1, rfl, l1, g1⟩⟩ := h
 exact ⟨A0, c0, A1, c1, rfl, l0, g0, l1, g1⟩
theorem k25_openM {w : World} {base : Nat} {ok : Nat → Prop} {x : S25} {cs : List Value} (h : k25.M w base ok x cs) : ∃ v0 v1, cs = [v0, v1] ∧ k70.R 70 w base ok v0 x.f0 ∧ (Kd.slice 3 (Kd.int .i64)).R 29 w base ok v1 x.f1 := by
 obtain ⟨_, _, rfl, ⟨v0, rfl, g0⟩, ⟨v1, rfl, g1⟩⟩ := h
 exact ⟨v0, v1, rfl, g0, g1⟩
theorem k25_mk (w : World) (x : S25) {A0 : Option Addr} {c0 : Nat} (l0 : x.f0.length ≤ c0) (g0 : k70.C w A0 x.f0.length x.f0) {A1 : Option Addr} {c1 : Nat} (l1 : x.f1.length ≤ c1) (g1 : (Kd.slice 3 (Kd.int .i64)).C w A1 x.f1.length x.f1) : k25.K w x [.slice A0 x.f0.length c0, .slice A1 x.f1.length c1] := ⟨[.slice A0 x.f0.length c0], [.slice A1 x.f1.length c1], rfl, ⟨A0, c0, rfl, l0, g0⟩, ⟨A1, c1, rfl, l1, g1⟩⟩
theorem k25_mkM (w : World) (base : Nat) (ok : Nat → Prop) (x : S25) {v0 : Value} (g0 : k70.R 70 w base ok v0 x.f0) {v1 : Value} (g1 : (Kd.slice 3 (Kd.int .i64)).R 29 w base ok v1 x.f1) : k25.M w base ok x [v0, v1] := ⟨[v0], [v1], rfl, ⟨v0, rfl, g0⟩, ⟨v1, rfl, g1⟩⟩
def rd_T25 (xs : List S25) (i : Int) : S25 := xs.getD i.toNat z25
theorem at_T25 {w : World} {A : Option Addr} {n : Nat} {xs : List S25} (h : Kd.C k25 w A n xs) (i : Int) (h0 : 0 ≤ i) (h1 : i < n) : ∃ ad A0 c0 A1 c1, A = some ad ∧ w.cell? (ad.add (i.toNat * 2)) = some (.slice A0 (rd_T25 xs i).f0.length c0) ∧ w.cell? ⟨(ad.add (i.toNat * 2)).block, (ad.add (i.toNat * 2)).off + 1, none⟩ = some (.slice A1 (rd_T25 xs i).f1.length c1) ∧ (rd_T25 xs i).f0.length ≤ c0 ∧ k70.C w A0 (rd_T25 xs i).f0.length (rd_T25 xs i).f0 ∧ (rd_T25 xs i).f1.length ≤ c1 ∧ (Kd.slice 3 (Kd.int .i64)).C w A1 (rd_T25 xs i).f1.length (rd_T25 xs i).f1 := by
 obtain ⟨ad, c, e, _, hK, hc0⟩ := Kd.C_get h z25 i h0 h1
 have hc : ∀ j u, c[j]? = some u → w.cell? (ad.add (i.toNat * 2 + j)) = some u := hc0
 obtain ⟨A0, c0, A1, c1, rfl, l0, g0, l1, g1⟩ := k25_open hK
 exact ⟨ad, A0, c0, A1, c1, e, hc 0 _ rfl, by rw [← add_field _ _ 1 (by omega)]; exact hc 1 _ rfl, l0, g0, l1, g1⟩

def rd_L16 (xs : List (List (List S87))) (i : Int) : (List (List S87)) := xs.getD i.toNat ([] : List (List S87))
theorem at_L16 {w : World} {A : Option Addr} {n : Nat} {xs : List (List (List S87))} (h : Kd.C (Kd.slice 56 (Kd.slice 87 k87)) w A n xs) (i : Int) (h0 : 0 ≤ i) (h1 : i < n) : ∃ ad A0 c0, A = some ad ∧ w.cell? (ad.add i.toNat) = some (.slice A0 (rd_L16 xs i).length c0) ∧ (rd_L16 xs i).length ≤ c0 ∧ (Kd.slice 87 k87).C w A0 (rd_L16 xs i).length (rd_L16 xs i) := by
 obtain ⟨ad, c, e, _, hK, hc0⟩ := Kd.C_get h ([] : List (List S87)) i h0 h1
 have hc : ∀ j u, c[j]? = some u → w.cell? (ad.add (i.toNat * 1 + j)) = some u := hc0
 obtain ⟨A0, c0, rfl, l0, g0⟩ := hK
 exact ⟨ad, A0, c0, e, by have hq := hc 0 _ rfl; rwa [Nat.mul_one, Nat.add_zero] at hq, l0, g0⟩

def rd_L17 (xs : List (List S76)) (i : Int) : (List S76) := xs.getD i.toNat ([] : List S76)
theorem at_L17 {w : World} {A : Option Addr} {n : Nat} {xs : List (List S76)} (h : Kd.C (Kd.slice 76 k76) w A n xs) (i : Int) (h0 : 0 ≤ i) (h1 : i < n) : ∃ ad A0 c0, A = some ad ∧ w.cell? (ad.add i.toNat) = some (.slice A0 (rd_L17 xs i).length c0) ∧ (rd_L17 xs i).length ≤ c0 ∧ k76.C w A0 (rd_L17 xs i).length (rd_L17 xs i) := by
 obtain ⟨ad, c, e, _, hK, hc0⟩ := Kd.C_get h ([] : List S76) i h0 h1
 have hc : ∀ j u, c[j]? = some u → w.cell? (ad.add (i.toNat * 1 + j)) = some u := hc0
 obtain ⟨A0, c0, rfl, l0, g0⟩ := hK
 exact ⟨ad, A0, c0, e, by have hq := hc 0 _ rfl; rwa [Nat.mul_one, Nat.add_zero] at hq, l0, g0⟩

def rd_L18 (xs : List (List S59)) (i : Int) : (List S59) := xs.getD i.toNat ([] : List S59)
theorem at_L18 {w : World} {A : Option Addr} {n : Nat} {xs : List (List S59)} (h : Kd.C (Kd.slice 59 k59) w A n xs) (i : Int) (h0 : 0 ≤ i) (h1 : i < n) : ∃ ad A0 c0, A = some ad ∧ w.cell? (ad.add i.toNat) = some (.slice A0 (rd_L18 xs i).length c0) ∧ (rd_L18 xs i).length ≤ c0 ∧ k59.C w A0 (rd_L18 xs i).length (rd_L18 xs i) := by
 obtain ⟨ad, c, e, _, hK, hc0⟩ := Kd.C_get h ([] : List S59) i h0 h1
 have hc : ∀ j u, c[j]? = some u → w.cell? (ad.add (i.toNat * 1 + j)) = some u := hc0
 obtain ⟨A0, c0, rfl, l0, g0⟩ := hK
 exact ⟨ad, A0, c0, e, by have hq := hc 0 _ rfl; rwa [Nat.mul_one, Nat.add_zero] at hq, l0, g0⟩

def rd_L19 (xs : List (List S82)) (i : Int) : (List S82) := xs.getD i.toNat ([] : List S82)
theorem at_L19 {w : World} {A : Option Addr} {n : Nat} {xs : List (List S82)} (h : Kd.C (Kd.slice 82 k82) w A n xs) (i : Int) (h0 : 0 ≤ i) (h1 : i < n) : ∃ ad A0 c0, A = some ad ∧ w.cell? (ad.add i.toNat) = some (.slice A0 (rd_L19 xs i).length c0) ∧ (rd_L19 xs i).length ≤ c0 ∧ k82.C w A0 (rd_L19 xs i).length (rd_L19 xs i) := by
 obtain ⟨ad, c, e, _, hK, hc0⟩ := Kd.C_get h ([] : List S82) i h0 h1
 have hc : ∀ j u, c[j]? = some u → w.cell? (ad.add (i.toNat * 1 + j)) = some u := hc0
 obtain ⟨A0, c0, rfl, l0, g0⟩ := hK
 exact ⟨ad, A0, c0, e, by have hq := hc 0 _ rfl; rwa [Nat.mul_one, Nat.add_zero] at hq, l0, g0⟩

/-! #### struct type 32 -/
structure S32 where
 f0 : S25
 f1 : (List (List S87))
 f2 : (List S76)
 f3 : (List S59)
 f4 : (List (List Int))
 f5 : (List Int)
 f6 : (List S82)
def z32 : S32 := ⟨z25, ([] : List (List S87)), ([] : List S76), ([] : List S59), ([] : List (List Int)), ([] : List Int), ([] : List S82)⟩
def k32 : Kd S32 := Kd.iso (Kd.pair k25 (Kd.pair (Kd.slice 56 (Kd.slice 87 k87)) (Kd.pair (Kd.slice 76 k76) (Kd.pair (Kd.slice 59 k59) (Kd.pair (Kd.slice 29 (Kd.slice 3 (Kd.int .i64))) (Kd.pair (Kd.slice 3 (Kd.int .i64)) (Kd.slice 82 k82))))))) (fun x : S32 => (x.f0, x.f1, x.f2, x.f3, x.f4, x.f5, x.f6))
theorem k32_open {w : World} {x : S32} {cs : List Value} (h : k32.K w x cs) : ∃ A0 c0 A1 c1 A2 c2 A3 c3 A4 c4 A5 c5 A6 c6 A7 c7, cs = [.slice A0 x.f0.f0.length c0, .slice A1 x.f0.f1.length c1, .slice A2 x.f1.length c2, .slice A3 x.f2.length c3, .slice A4 x.f3.length c4, .slice A5 x.f4.length c5, .slice A6 x.f5.length c6, .slice A7 x.f6.length c7] ∧ x.f0.f0.length ≤ c0 ∧ k70.C w A0 x.f0.f0.length x.f0.f0 ∧ x.f0.f1.length ≤ c1 ∧ (Kd.slice 3 (Kd.int .i64)).C w A1 x.f0.f1.length x.f0.f1 ∧ x.f1.length ≤ c2 ∧ (Kd.slice 87 k87).C w A2 x.f1.length x.f1 ∧ x.f2.length ≤ c3 ∧ k76.C w A3 x.f2.length x.f2 ∧ x.f3.length ≤ c4 ∧ k59.C w A4 x.f3.length x.f3 ∧ x.f4.length ≤ c5 ∧ (Kd.slice 3 (Kd.int .i64)).C w A5 x.f4.length x.f4 ∧ x.f5.length ≤ c6 ∧ (Kd.int .i64).C w A6 x.f5.length x.f5 ∧ x.f6.length ≤ c7 ∧ k82.C w A7 x.f6.length x.f6 := by
 obtain ⟨_, _, rfl, s0, ⟨_, _, rfl, ⟨A2, c2, rfl, l2, g2⟩, ⟨_, _, rfl, ⟨A3, c3, rfl, l3, g3⟩, ⟨_, _, rfl, ⟨A4, c4, rfl, l4, g4⟩, ⟨_, _, rfl, ⟨A5, c5, rfl, l5, g5⟩, ⟨_, _, rfl, ⟨A6, c6, rfl, l6, g6⟩, ⟨A7, c7, rfl, l7, g7⟩⟩⟩⟩⟩⟩⟩ := h
 obtain ⟨A0, c0, A1, c1, rfl, l0, g0, l1, g1⟩ := k25_open s0
 exact ⟨A0, c0, A1, c1, A2, c2, A3, c3, A4, c4, A5, c5, A6, c6, A7, c7, rfl, l0, g0, l1, g1, l2, g2, l3, g3, l4, g4, l5, g5, l6, g6, l7, g7⟩
theorem k32_openM {w : World} {base : Nat} {ok : Nat → Prop} {x : S32} {cs : List Value} (h : k32.M w base ok x cs) : ∃ v0 v1 v2 v3 v4 v5 v6 v7, cs = [v0, v1, v2, v3, v4, v5, v6, v7] ∧ k70.R 70 w base ok v0 x.f0.f0 ∧ (Kd.slice 3 (Kd.int .i64)).R 29 w base ok v1 x.f0.f1 ∧ (Kd.slice 87 k87).R 56 w base ok v2 x.f1 ∧ k76.R 76 w base ok v3 x.f2 ∧ k59.R 59 w base ok v4 x.f3 ∧ (Kd.slice 3 (Kd.int .i64)).R 29 w base ok v5 x.f4 ∧ (Kd.int .i64).R 3 w base ok v6 x.f5 ∧ k82.R 82 w base ok v7 x.f6 := by
 obtain ⟨_, _, rfl, s0, ⟨_, _, rfl, ⟨v2, rfl, g2⟩, ⟨_, _, rfl, ⟨v3, rfl, g3⟩, ⟨_, _, rfl, ⟨v4, rfl, g4⟩, ⟨_, _, rfl, ⟨v5, rfl, g5⟩, ⟨_, _, rfl, ⟨v6, rfl, g6⟩, ⟨v7, rfl, g7⟩⟩⟩⟩⟩⟩⟩ := h
 obtain ⟨v0, v1, rfl, g0, g1⟩ := k25_openM s0
 exact ⟨v0, v1, v2, v3, v4, v5, v6, v7, rfl, g0, g1, g2, g3, g4, g5, g6, g7⟩
theorem k32_mk (w : World) (x : S32) {A0 : Option Addr} {c0 : Nat} (l0 : x.f0.f0.length ≤ c0) (g0 : k70.C w A0 x.f0.f0.length x.f0.f0) {A1 : Option Addr} {c1 : Nat} (l1 : x.f0.f1.length ≤ c1) (g1 : (Kd.slice 3 (Kd.int .i64)).C w A1 x.f0.f1.length x.f0.f1) {A2 : Option Addr} {c2 : Nat} (l2 : x.f1.length ≤ c2) (g2 : (Kd.slice 87 k87).C w A2 x.f1.length x.f1) {A3 : Option Addr} {c3 : Nat} (l3 : x.f2.length ≤ c3) (g3 : k76.C w A3 x.f2.length x.f2) {A4 : Option Addr} {c4 : Nat} (l4 : x.f3.length ≤ c4) (g4 : k59.C w A4 x.f3.length x.f3) {A5 : Option Addr} {c5 : Nat} (l5 : x.f4.length ≤ c5) (g5 : (Kd.slice 3 (Kd.int .i64)).C w A5 x.f4.length x.f4) {A6 : Option Addr} {c6 : Nat} (l6 : x.f5.length ≤ c6) (g6 : (Kd.int .i64).C w A6 x.f5.length x.f5) {A7 : Option Addr} {c7 : Nat} (l7 : x.f6.length ≤ c7) (g7 : k82.C w A7 x.f6.length x.f6) : k32.K w x [.slice A0 x.f0.f0.length c0, .slice A1 x.f0.f1.length c1, .slice A2 x.f1.length c2, .slice A3 x.f2.length c3, .slice A4 x.f3.length c4, .slice A5 x.f4.length c5, .slice A6 x.f5.length c6, .slice A7 x.f6.length c7] := ⟨[.slice A0 x.f0.f0.length c0, .slice A1 x.f0.f1.length c1], [.slice A2 x.f1.length c2, .slice A3 x.f2.length c3, .slice A4 x.f3.length c4, .slice A5 x.f4.length c5, .slice A6 x.f5.length c6, .slice A7 x.f6.length c7], rfl, (k25_mk w x.f0 l0 g0 l1 g1), ⟨[.slice A2 x.f1.length c2], [.slice A3 x.f2.length c3, .slice A4 x.f3.length c4, .slice A5 x.f4.length c5, .slice A6 x.f5.length c6, .slice A7 x.f6.length c7], rfl, ⟨A2, c2, rfl, l2, g2⟩, ⟨[.slice A3 x.f2.length c3], [.slice A4 x.f3.length c4, .slice A5 x.f4.length c5, .slice A6 x.f5.length c6, .slice A7 x.f6.length c7], rfl, ⟨A3, c3, rfl, l3, g3⟩, ⟨[.slice A4 x.f3.length c4], [.slice A5 x.f4.length c5, .slice A6 x.f5.length c6, .slice A7 x.f6.length c7], rfl, ⟨A4, c4, rfl, l4, g4⟩, ⟨[.slice A5 x.f4.length c5], [.slice A6 x.f5.length c6, .slice A7 x.f6.length c7], rfl, ⟨A5, c5, rfl, l5, g5⟩, ⟨[.slice A6 x.f5.length c6], [.slice A7 x.f6.length c7], rfl, ⟨A6, c6, rfl, l6, g6⟩, ⟨A7, c7, rfl, l7, g7⟩⟩⟩⟩⟩⟩⟩
theorem k32_mkM (w : World) (base : Nat) (ok : Nat → Prop) (x : S32) {v0 : Value} (g0 : k70.R 70 w base ok v0 x.f0.f0) {v1 : Value} (g1 : (Kd.slice 3 (Kd.int .i64)).R 29 w base ok v1 x.f0.f1) {v2 : Value} (g2 : (Kd.slice 87 k87).R 56 w base ok v2 x.f1) {v3 : Value} (g3 : k76.R 76 w base ok v3 x.f2) {v4 : Value} (g4 : k59.R 59 w base ok v4 x.f3) {v5 : Value} (g5 : (Kd.slice 3 (Kd.int .i64)).R 29 w base ok v5 x.f4) {v6 : Value} (g6 : (Kd.int .i64).R 3 w base ok v6 x.f5) {v7 : Value} (g7 : k82.R 82 w base ok v7 x.f6) : k32.M w base ok x [v0, v1, v2, v3, v4, v5, v6, v7] := ⟨[v0, v1], [v2, v3, v4, v5, v6, v7], rfl, (k25_mkM w base ok x.f0 g0 g1), ⟨[v2], [v3, v4, v5, v6, v7], rfl, ⟨v2, rfl, g2⟩, ⟨[v3], [v4, v5, v6, v7], rfl, ⟨v3, rfl, g3⟩, ⟨[v4], [v5, v6, v7], rfl, ⟨v4, rfl, g4⟩, ⟨[v5], [v6, v7], rfl, ⟨v5, rfl, g5⟩, ⟨[v6], [v7], rfl, ⟨v6, rfl, g6⟩, ⟨v7, rfl, g7⟩⟩⟩⟩⟩⟩⟩
def rd_T32 (xs : List S32) (i : Int) : S32 := xs.getD i.toNat z32
theorem at_T32 {w : World} {A : Option Addr} {n : Nat} {xs : List S32} (h : Kd.C k32 w A n xs) (i : Int) (h0 : 0 ≤ i) (h1 : i < n) : ∃ ad A0 c0 A1 c1 A2 c2 A3 c3 A4 c4 A5 c5 A6 c6 A7 c7, A = some ad ∧ w.cell? (ad.add (i.toNat * 8)) = some (.slice A0 (rd_T32 xs i).f0.f0.length c0) ∧ w.cell? ⟨(ad.add (i.toNat * 8)).block, (ad.add (i.toNat * 8)).off + 1, none⟩ = some (.slice A1 (rd_T32 xs i).f0.f1.length c1) ∧ w.cell? ⟨(ad.add (i.toNat * 8)).block, (ad.add (i.toNat * 8)).off + 2, none⟩ = some (.slice A2 (rd_T32 xs i).f1.length c2) ∧ w.cell? ⟨(ad.add (i.toNat * 8)).block, (ad.add (i.toNat * 8)).off + 3, none⟩ = some (.slice A3 (rd_T32 xs i).f2.length c3) ∧ w.cell? ⟨(ad.add (i.toNat * 8)).block, (ad.add (i.toNat * 8)).off + 4, none⟩ = some (.slice A4 (rd_T32 xs i).f3.length c4) ∧ w.cell? ⟨(ad.add (i.toNat * 8)).block, (ad.add (i.toNat * 8)).off + 5, none⟩ = some (.slice A5 (rd_T32 xs i).f4.length c5) ∧ w.cell? ⟨(ad.add (i.toNat * 8)).block, (ad.add (i.toNat * 8)).off + 6, none⟩ = some (.slice A6 (rd_T32 xs i).f5.length c6) ∧ w.cell? ⟨(ad.add (i.toNat * 8)).block, (ad.add (i.toNat * 8)).off + 7, none⟩ = some (.slice A7 (rd_T32 xs i).f6.length c7) ∧ (rd_T32 xs i).f0.f0.length ≤ c0 ∧ k70.C w A0 (rd_T32 xs i).f0.f0.length (rd_T32 xs i).f0.f0 ∧ (rd_T32 xs i).f0.f1.length ≤ c1 ∧ (Kd.slice 3 (Kd.int .i64)).C w A1 (rd_T32 xs i).f0.f1.length (rd_T32 xs i).f0.f1 ∧ (rd_T32 xs i).f1.length ≤ c2 ∧ (Kd.slice 87 k87).C w A2 (rd_T32 xs i).f1.length (rd_T32 xs i).f1 ∧ (rd_T32 xs i).f2.length ≤ c3 ∧ k76.C w A3 (rd_T32 xs i).f2.length (rd_T32 xs i).f2 ∧ (rd_T32 xs i).f3.length ≤ c4 ∧ k59.C w A4 (rd_T32 xs i).f3.length (rd_T32 xs i).f3 ∧ (rd_T32 xs i).f4.length ≤ c5 ∧ (Kd.slice 3 (Kd.int .i64)).C w A5 (rd_T32 xs i).f4.length (rd_T32 xs i).f4 ∧ (rd_T32 xs i).f5.length ≤ c6 ∧ (Kd.int .i64).C w A6 (rd_T32 xs i).f5.length (rd_T32 xs i).f5 ∧ (rd_T32 xs i).f6.length ≤ c7 ∧ k82.C w A7 (rd_T32 xs i).f6.length (rd_T32 xs i).f6 := by
 obtain ⟨ad, c, e, _, hK, hc0⟩ := Kd.C_get h z32 i h0 h1
 have hc : ∀ j u, c[j]? = some u → w.cell? (ad.add (i.toNat * 8 + j)) = some u := hc0
 obtain ⟨A0, c0, A1, c1, A2, c2, A3, c3, A4, c4, A5, c5, A6, c6, A7, c7, rfl, l0, g0, l1, g1, l2, g2, l3, g3, l4, g4, l5, g5, l6, g6, l7, g7⟩ := k32_open hK
 exact ⟨ad, A0, c0, A1, c1, A2, c2, A3, c3, A4, c4, A5, c5, A6, c6, A7, c7, e, hc 0 _ rfl, by rw [← add_field _ _ 1 (by omega)]; exact hc 1 _ rfl, by rw [← add_field _ _ 2 (by omega)]; exact hc 2 _ rfl, by rw [← add_field _ _ 3 (by omega)]; exact hc 3 _ rfl, by rw [← add_field _ _ 4 (by omega)]; exact hc 4 _ rfl, by rw [← add_field _ _ 5 (by omega)]; exact hc 5 _ rfl, by rw [← add_field _ _ 6 (by omega)]; exact hc 6 _ rfl, by rw [← add_field _ _ 7 (by omega)]; exact hc 7 _ rfl, l0, g0, l1, g1, l2, g2, l3, g3, l4, g4, l5, g5, l6, g6, l7, g7⟩

end Go.Proofs.YtmcjccigglekpaaGreatDoor.P
namespace Go.Proofs.YtmcjccigglekpaaGreatDoor.Given
end Go.Proofs.YtmcjccigglekpaaGreatDoor.Given
namespace Go.Proofs.YtmcjccigglekpaaGreatDoor.P
open Go.Proofs.YtmcjccigglekpaaGreatDoor.Given
open Go.RowKit Go.Proofs.YtmcjccigglekpaaGreatDoorW.PrintWords Go.Proofs.YtmcjccigglekpaaGreatDoorW.PrintLast Go.Proofs.YtmcjccigglekpaaGreatDoorW.PrintMore
attribute [local go_sem] max2_int min2_int max_two min_two max_three min_three max_four min_four   -- for this text's walks alone
set_option linter.unusedVariables false
set_option linter.unusedSimpArgs false

/-! ### garrisonlaw27_num: function 12 -/
def garrisonlaw27_num.f (a0 : Int) : Option (Int) := some a0
set_option maxHeartbeats 8000000 in
set_option maxRecDepth 100000 in
theorem garrisonlaw27_num.calls (a0 : Int) (r : Int) (w : World) (h : garrisonlaw27_num.f a0 = some r) :
  Calls Tryz.prog 12 #[.int .i64 a0] w fun e w' => e = .returned (.int .i64 r) ∧ Drawn0 w w' := by
 have H : (some a0) = some r := h
 clear h
 obtain rfl := Option.some.inj H
 go_enter Tryz.func12, Tryz.ntmps12
 go_wp2
 go_ret
 exact ⟨by first | rfl | (simp; done) | (simp [*]; done), by repeat (first | exact Drawn0.refl _ | apply Drawn0.step)⟩

end Go.Proofs.YtmcjccigglekpaaGreatDoor.P
namespace Go.Proofs.YtmcjccigglekpaaGreatDoor.Given
open Go Go.RowKit Go.Proofs Go.Proofs.YtmcjccigglekpaaGreatDoorW.PrintWords Go.Proofs.YtmcjccigglekpaaGreatDoorW.PrintLast Go.Proofs.YtmcjccigglekpaaGreatDoorW.PrintMore Go.Proofs.YtmcjccigglekpaaGreatDoor.P

theorem capEq (d : Nat) (w : World) (x0 y0 : Int) (x1 y1 : Int) (x2 y2 : Int) (x3 y3 : Int) (x4 y4 : Int) :
  (Op.equalIn (d + 2) 87 (.agg #[.int .i64 x0, .int .i64 x1, .int .i64 x2, .int .i64 x3, .int .i64 x4]) (.agg #[.int .i64 y0, .int .i64 y1, .int .i64 y2, .int .i64 y3, .int .i64 y4])).run Tryz.prog w = .ok (x0 == y0 && (x1 == y1 && (x2 == y2 && (x3 == y3 && (x4 == y4))))) w := by
 refine eqA_of Tryz.underlying87 (by kernel_rfl) ?_
 refine eqf_cons (by rfl) (by go_simp; rfl) (by go_simp; rfl) (by go_simp) ?_
 refine eqf_cons (by rfl) (by go_simp; rfl) (by go_simp; rfl) (by go_simp) ?_
 refine eqf_cons (by rfl) (by go_simp; rfl) (by go_simp; rfl) (by go_simp) ?_
 refine eqf_cons (by rfl) (by go_simp; rfl) (by go_simp; rfl) (by go_simp) ?_
 exact eqf_last (by rfl) (by go_simp; rfl) (by go_simp; rfl) (by go_simp)
attribute [local go_sem high] capEq
/-- The greatest badge of a type. -/
def capBadges (t : Int) : Int := if t = 2 then 7 else if t = 4 ∨ t = 5 then 65535 else 0

set_option maxHeartbeats 400000 in
theorem cap_badges_calls (t : Int) (w : World) : Calls Tryz.prog 108 #[.int .i64 t] w fun e w' => e = .returned (.int .i64 (capBadges t)) ∧ w' = w := by
 unfold capBadges
 by_cases h2 : t = 2
 ·have b2 : (t == 2) = true := beq_iff_eq.mpr h2
  rw [if_pos h2]
  go_enter Tryz.func108, Tryz.ntmps108
  go_wp2
  go_ret
  exact ⟨rfl, rfl⟩
 ·have b2 : (t == 2) = false := beq_eq_false_iff_ne.mpr h2
  rw [if_neg h2]
  by_cases h4 : t = 4
  ·have b4 : (t == 4) = true := beq_iff_eq.mpr h4
   rw [if_pos (.inl h4)]
   go_enter Tryz.func108, Tryz.ntmps108
   go_wp2
   go_ret
   exact ⟨rfl, rfl⟩
  ·have b4 : (t == 4) = false := beq_eq_false_iff_ne.mpr h4
   by_cases h5 : t = 5
   ·have b5 : (t == 5) = true := beq_iff_eq.mpr h5
    rw [if_pos (.inr h5)]
    go_enter Tryz.func108, Tryz.ntmps108
    go_wp2
    go_ret
    exact ⟨rfl, rfl⟩
   ·have b5 : (t == 5) = false := beq_eq_false_iff_ne.mpr h5
    rw [if_neg (fun h => h.elim h4 h5)]
    go_enter Tryz.func108, Tryz.ntmps108
    go_wp2
    go_ret
    exact ⟨rfl, rfl⟩

set_option maxHeartbeats 400000 in
theorem cap_numbers_calls (t r b o g : Int) (w : World) : Calls Tryz.prog 104 #[.agg #[.int .i64 t, .int .i64 r, .int .i64 b, .int .i64 o, .int .i64 g]] w fun e w' => e = .returned (.agg #[.int .i64 t, .int .i64 r, .int .i64 b, .int .i64 o, .int .i64 g]) ∧ Below w.heap.size w w' := by
 go_enter Tryz.func104, Tryz.ntmps104
 go_wp2
 refine bodyPost_ret (v := .agg #[.int .i64 t, .int .i64 r, .int .i64 b, .int .i64 o, .int .i64 g]) ?_ rfl ⟨rfl, ?_⟩
 ·have hres : Tryz.f104.results = #[.cell 2 174] := rfl
  simp only [results, hres]
  go_simp
 ·exact ((Below.refl _ _).alloc (Nat.le_refl _) _).alloc (by simp) _

/-- The k-th number, and its greatest. -/
def capNum (t r b o g : Int) : Nat → Int | 0 => t | 1 => r | 2 => b | 3 => o | _ => g
def capMost (t : Int) : Nat → Int | 0 => 5 | 1 => 15 | 2 => capBadges t | 3 => 1023 | _ => 4095
def capIn (t r b o g : Int) (k : Nat) : Bool := decide (0 ≤ capNum t r b o g k) && decide (capNum t r b o g k ≤ capMost t k)
def capAll (t r b o g : Int) : Bool := capIn t r b o g 0 && capIn t r b o g 1 && capIn t r b o g 2 && capIn t r b o g 3 && capIn t r b o g 4
def capZero (t r b o g : Int) : Bool := (t == 0) && ((r == 0) && ((b == 0) && ((o == 0) && (g == 0))))
def cap_Check.f (t r b o g : Int) : Option Int := some (if capZero t r b o g = true then 0 else if capAll t r b o g = true ∧ t ≠ 0 then 0 else 30)

set_option maxRecDepth 100000 in
set_option maxHeartbeats 4000000 in
theorem cap_Check.calls (t r b o g : Int) (res : Int) (w : World) (h : cap_Check.f t r b o g = some res) : Calls Tryz.prog 70 #[.agg #[.int .i64 t, .int .i64 r, .int .i64 b, .int .i64 o, .int .i64 g]] w fun e w' => e = .returned (.int .i64 res) ∧ Below w.heap.size w w' := by
 have hres : res = if capZero t r b o g = true then 0 else if capAll t r b o g = true ∧ t ≠ 0 then 0 else 30 := (Option.some.inj h).symm
 clear h
 have hu := Tryz.underlying87
 have HR := Lib.hid hres
 clear hres
 by_cases hz : capZero t r b o g = true
 ·have hz' := hz
  unfold capZero at hz'
  have e0 := HR.out
  rw [if_pos hz] at e0
  subst e0
  simp only [Bool.and_eq_true, beq_iff_eq] at hz'
  obtain ⟨rfl, rfl, rfl, rfl, rfl⟩ := hz'
  clear hz
  go_enter Tryz.func70, Tryz.ntmps70
  go_wp2
  go_ret
  exact ⟨rfl, (Below.refl _ _).alloc (Nat.le_refl _) _⟩
 ·have hz' : ((t == 0) && ((r == 0) && ((b == 0) && ((o == 0) && (g == 0))))) = false := by simpa [capZero] using hz
  go_enter Tryz.func70, Tryz.ntmps70
  go_wp2_with (first | (go_at_call 108; (with_reducible refine (cap_badges_calls _ _).mono ?_); rintro e w' ⟨rfl, rfl⟩) | (go_at_call 104; (with_reducible refine (cap_numbers_calls _ _ _ _ _ _).mono ?_); rintro e w' ⟨rfl, hb⟩))
  have hB : Below w.heap.size w w' := (((Below.refl w.heap.size w).alloc (Nat.le_refl _) _).alloc (by simp) _).trans (hb.mono (by simp; omega))
  have m0 : w'.cell? ⟨w.heap.size + 1, 0, none⟩ = some (.int .i64 (5)) := (hb.cell (by simp)).trans (by simp)
  have m1 : w'.cell? ⟨w.heap.size + 1, 1, none⟩ = some (.int .i64 (15)) := (hb.cell (by simp)).trans (by simp)
  have m2 : w'.cell? ⟨w.heap.size + 1, 2, none⟩ = some (.int .i64 (capBadges t)) := (hb.cell (by simp)).trans (by simp)
  have m3 : w'.cell? ⟨w.heap.size + 1, 3, none⟩ = some (.int .i64 (1023)) := (hb.cell (by simp)).trans (by simp)
  have m4 : w'.cell? ⟨w.heap.size + 1, 4, none⟩ = some (.int .i64 (4095)) := (hb.cell (by simp)).trans (by simp)
  have t0 : w'.cell? ⟨w.heap.size, 0, none⟩ = some (.int .i64 t) := (hb.cell (by simp; omega)).trans (by simp)
  have hres0 : res = if capAll t r b o g = true ∧ t ≠ 0 then 0 else 30 := by
   have h := HR.out
   rwa [if_neg hz] at h
  have HR0 := Lib.hid hres0
  clear hb hres0 HR hz hz'
  have x0 : ∀ w : World, (Instr.index 174 (.agg #[.int .i64 t, .int .i64 r, .int .i64 b, .int .i64 o, .int .i64 g]) (.int .i64 0)).run Tryz.prog w = .ok (.int .i64 t) w := fun _ => by kernel_rfl
  have x1 : ∀ w : World, (Instr.index 174 (.agg #[.int .i64 t, .int .i64 r, .int .i64 b, .int .i64 o, .int .i64 g]) (.int .i64 1)).run Tryz.prog w = .ok (.int .i64 r) w := fun _ => by kernel_rfl
  have x2 : ∀ w : World, (Instr.index 174 (.agg #[.int .i64 t, .int .i64 r, .int .i64 b, .int .i64 o, .int .i64 g]) (.int .i64 2)).run Tryz.prog w = .ok (.int .i64 b) w := fun _ => by kernel_rfl
  have x3 : ∀ w : World, (Instr.index 174 (.agg #[.int .i64 t, .int .i64 r, .int .i64 b, .int .i64 o, .int .i64 g]) (.int .i64 3)).run Tryz.prog w = .ok (.int .i64 o) w := fun _ => by kernel_rfl
  have x4 : ∀ w : World, (Instr.index 174 (.agg #[.int .i64 t, .int .i64 r, .int .i64 b, .int .i64 o, .int .i64 g]) (.int .i64 4)).run Tryz.prog w = .ok (.int .i64 g) w := fun _ => by kernel_rfl
  go_loop [15] (fun i => ∃ k : Int, 0 ≤ k ∧ k ≤ 5 ∧ i = .int .i64 k ∧ Hid (∀ j : Nat, (j : Int) < k → capIn t r b o g j = true)) (fun i => 5 - (intOf i).toNat)
  case atStart => exact ⟨0, by omega, by omega, rfl, Lib.hid (fun j hj => absurd hj (by omega))⟩
  case round =>
   obtain ⟨k, hk0, hk, rfl, hin⟩ := hrel
   by_cases hlt : k < 5
   ·obtain rfl | rfl | rfl | rfl | rfl : k = 0 ∨ k = 1 ∨ k = 2 ∨ k = 3 ∨ k = 4 := by omega
    ·by_cases hlo : 0 ≤ t
     ·have dlo : decide (t < 0) = false := decide_eq_false (by omega)
      by_cases hhi : t ≤ 5
      ·have dhi : decide (5 < t) = false := decide_eq_false (by omega)
       have hin' : Hid (∀ j : Nat, (j : Int) < (0 + 1 : Int) → capIn t r b o g j = true) := Lib.hid (fun j hj => by
        by_cases hj' : (j : Int) < 0
        ·exact hin.out j hj'
        ·obtain rfl : j = 0 := by omega
         exact Bool.and_eq_true_iff.mpr ⟨decide_eq_true hlo, decide_eq_true hhi⟩)
       clear hin hlo hhi
       go_wp2
       exact ⟨⟨0 + 1, by decide, by decide, rfl, hin'⟩, by decide⟩
      ·have dhi : decide (5 < t) = true := decide_eq_true (by omega)
       have e30 : res = 30 := by
        have h := HR0.out
        rw [if_neg (fun h => by
         have h1 := h.1
         simp only [capAll, Bool.and_eq_true, capIn, capNum, capMost, decide_eq_true_eq] at h1
         omega)] at h
        exact h
       subst e30
       clear HR0 hin hlo hhi
       go_wp2
       go_ret
       exact ⟨rfl, hB⟩
     ·have dlo : decide (t < 0) = true := decide_eq_true (by omega)
      have e30 : res = 30 := by
       have h := HR0.out
       rw [if_neg (fun h => by
        have h1 := h.1
        simp only [capAll, Bool.and_eq_true, capIn, capNum, capMost, decide_eq_true_eq] at h1
        omega)] at h
       exact h
      subst e30
      clear HR0 hin hlo
      go_wp2
      go_ret
      exact ⟨rfl, hB⟩
    ·by_cases hlo : 0 ≤ r
     ·have dlo : decide (r < 0) = false := decide_eq_false (by omega)
      by_cases hhi : r ≤ 15
      ·have dhi : decide (15 < r) = false := decide_eq_false (by omega)
       have hin' : Hid (∀ j : Nat, (j : Int) < (1 + 1 : Int) → capIn t r b o g j = true) := Lib.hid (fun j hj => by
        by_cases hj' : (j : Int) < 1
        ·exact hin.out j hj'
        ·obtain rfl : j = 1 := by omega
         exact Bool.and_eq_true_iff.mpr ⟨decide_eq_true hlo, decide_eq_true hhi⟩)
       clear hin hlo hhi
       go_wp2
       exact ⟨⟨1 + 1, by decide, by decide, rfl, hin'⟩, by decide⟩
      ·have dhi : decide (15 < r) = true := decide_eq_true (by omega)
       have e30 : res = 30 := by
        have h := HR0.out
        rw [if_neg (fun h => by
         have h1 := h.1
         simp only [capAll, Bool.and_eq_true, capIn, capNum, capMost, decide_eq_true_eq] at h1
         omega)] at h
        exact h
       subst e30
       clear HR0 hin hlo hhi
       go_wp2
       go_ret
       exact ⟨rfl, hB⟩
     ·have dlo : decide (r < 0) = true := decide_eq_true (by omega)
      have e30 : res = 30 := by
       have h := HR0.out
       rw [if_neg (fun h => by
        have h1 := h.1
        simp only [capAll, Bool.and_eq_true, capIn, capNum, capMost, decide_eq_true_eq] at h1
        omega)] at h
       exact h
      subst e30
      clear HR0 hin hlo
      go_wp2
      go_ret
      exact ⟨rfl, hB⟩
    ·by_cases hlo : 0 ≤ b
     ·have dlo : decide (b < 0) = false := decide_eq_false (by omega)
      by_cases hhi : b ≤ capBadges t
      ·have dhi : decide (capBadges t < b) = false := decide_eq_false (by omega)
       have hin' : Hid (∀ j : Nat, (j : Int) < (2 + 1 : Int) → capIn t r b o g j = true) := Lib.hid (fun j hj => by
        by_cases hj' : (j : Int) < 2
        ·exact hin.out j hj'
        ·obtain rfl : j = 2 := by omega
         exact Bool.and_eq_true_iff.mpr ⟨decide_eq_true hlo, decide_eq_true hhi⟩)
       clear hin hlo hhi
       go_wp2
       exact ⟨⟨2 + 1, by decide, by decide, rfl, hin'⟩, by decide⟩
      ·have dhi : decide (capBadges t < b) = true := decide_eq_true (by omega)
       have e30 : res = 30 := by
        have h := HR0.out
        rw [if_neg (fun h => by
         have h1 := h.1
         simp only [capAll, Bool.and_eq_true, capIn, capNum, capMost, decide_eq_true_eq] at h1
         omega)] at h
        exact h
       subst e30
       clear HR0 hin hlo hhi
       go_wp2
       go_ret
       exact ⟨rfl, hB⟩
     ·have dlo : decide (b < 0) = true := decide_eq_true (by omega)
      have e30 : res = 30 := by
       have h := HR0.out
       rw [if_neg (fun h => by
        have h1 := h.1
        simp only [capAll, Bool.and_eq_true, capIn, capNum, capMost, decide_eq_true_eq] at h1
        omega)] at h
       exact h
      subst e30
      clear HR0 hin hlo
      go_wp2
      go_ret
      exact ⟨rfl, hB⟩
    ·by_cases hlo : 0 ≤ o
     ·have dlo : decide (o < 0) = false := decide_eq_false (by omega)
      by_cases hhi : o ≤ 1023
      ·have dhi : decide (1023 < o) = false := decide_eq_false (by omega)
       have hin' : Hid (∀ j : Nat, (j : Int) < (3 + 1 : Int) → capIn t r b o g j = true) := Lib.hid (fun j hj => by
        by_cases hj' : (j : Int) < 3
        ·exact hin.out j hj'
        ·obtain rfl : j = 3 := by omega
         exact Bool.and_eq_true_iff.mpr ⟨decide_eq_true hlo, decide_eq_true hhi⟩)
       clear hin hlo hhi
       go_wp2
       exact ⟨⟨3 + 1, by decide, by decide, rfl, hin'⟩, by decide⟩
      ·have dhi : decide (1023 < o) = true := decide_eq_true (by omega)
       have e30 : res = 30 := by
        have h := HR0.out
        rw [if_neg (fun h => by
         have h1 := h.1
         simp only [capAll, Bool.and_eq_true, capIn, capNum, capMost, decide_eq_true_eq] at h1
         omega)] at h
        exact h
       subst e30
       clear HR0 hin hlo hhi
       go_wp2
       go_ret
       exact ⟨rfl, hB⟩
     ·have dlo : decide (o < 0) = true := decide_eq_true (by omega)
      have e30 : res = 30 := by
       have h := HR0.out
       rw [if_neg (fun h => by
        have h1 := h.1
        simp only [capAll, Bool.and_eq_true, capIn, capNum, capMost, decide_eq_true_eq] at h1
        omega)] at h
       exact h
      subst e30
      clear HR0 hin hlo
      go_wp2
      go_ret
      exact ⟨rfl, hB⟩
    ·by_cases hlo : 0 ≤ g
     ·have dlo : decide (g < 0) = false := decide_eq_false (by omega)
      by_cases hhi : g ≤ 4095
      ·have dhi : decide (4095 < g) = false := decide_eq_false (by omega)
       have hin' : Hid (∀ j : Nat, (j : Int) < (4 + 1 : Int) → capIn t r b o g j = true) := Lib.hid (fun j hj => by
        by_cases hj' : (j : Int) < 4
        ·exact hin.out j hj'
        ·obtain rfl : j = 4 := by omega
         exact Bool.and_eq_true_iff.mpr ⟨decide_eq_true hlo, decide_eq_true hhi⟩)
       clear hin hlo hhi
       go_wp2
       exact ⟨⟨4 + 1, by decide, by decide, rfl, hin'⟩, by decide⟩
      ·have dhi : decide (4095 < g) = true := decide_eq_true (by omega)
       have e30 : res = 30 := by
        have h := HR0.out
        rw [if_neg (fun h => by
         have h1 := h.1
         simp only [capAll, Bool.and_eq_true, capIn, capNum, capMost, decide_eq_true_eq] at h1
         omega)] at h
        exact h
       subst e30
       clear HR0 hin hlo hhi
       go_wp2
       go_ret
       exact ⟨rfl, hB⟩
     ·have dlo : decide (g < 0) = true := decide_eq_true (by omega)
      have e30 : res = 30 := by
       have h := HR0.out
       rw [if_neg (fun h => by
        have h1 := h.1
        simp only [capAll, Bool.and_eq_true, capIn, capNum, capMost, decide_eq_true_eq] at h1
        omega)] at h
       exact h
      subst e30
      clear HR0 hin hlo
      go_wp2
      go_ret
      exact ⟨rfl, hB⟩
   ·obtain rfl : k = 5 := by omega
    have hall : capAll t r b o g = true := by
     unfold capAll
     rw [hin.out 0 (by omega), hin.out 1 (by omega), hin.out 2 (by omega), hin.out 3 (by omega), hin.out 4 (by omega)]
     rfl
    by_cases ht : t = 0
    ·have bt : (t == 0) = true := beq_iff_eq.mpr ht
     have e30 : res = 30 := by
      have h := HR0.out
      rwa [if_neg (fun h => h.2 ht)] at h
     subst e30
     clear HR0 hin ht
     go_wp2
     go_ret
     exact ⟨rfl, hB⟩
    ·have bt : (t == 0) = false := beq_eq_false_iff_ne.mpr ht
     have e0 : res = 0 := by
      have h := HR0.out
      rwa [if_pos ⟨hall, ht⟩] at h
     subst e0
     clear HR0 hin ht hall
     go_wp2
     go_ret
     exact ⟨rfl, hB⟩
end Go.Proofs.YtmcjccigglekpaaGreatDoor.Given
namespace Go.Proofs.YtmcjccigglekpaaGreatDoor.Given
open Go Go.RowKit Go.Proofs Go.Proofs.YtmcjccigglekpaaGreatDoorW.PrintWords Go.Proofs.YtmcjccigglekpaaGreatDoorW.PrintLast Go.Proofs.YtmcjccigglekpaaGreatDoorW.PrintMore Go.Proofs.YtmcjccigglekpaaGreatDoor.P

def keyB (k : S74) : Bool := decide (0 ≤ k.f0) && (decide (k.f0 ≤ 9999) && (decide (0 ≤ k.f1) && decide (k.f1 ≤ 9999)))
def capRes (c : S87) : Int := if capZero c.f0 c.f1 c.f2 c.f3 c.f4 = true then 0 else if capAll c.f0 c.f1 c.f2 c.f3 c.f4 = true ∧ c.f0 ≠ 0 then 0 else 30
def capBad (c : S87) : Bool := capRes c != 0
def waitBad (x : S95) : Bool := !keyB x.f4
def branchBad (x : S76) : Bool := !keyB x.f0

set_option maxHeartbeats 400000 in
theorem isKey_calls (k : S74) (w : World) : Calls Tryz.prog 39 #[.agg #[.int .i64 k.f0, .int .i64 k.f1]] w fun e w' => e = .returned (.bool (keyB k)) ∧ Below w.heap.size w w' := by
 have hp : keyB k = (decide (0 ≤ k.f0) && (decide (k.f0 ≤ 9999) && (decide (0 ≤ k.f1) && decide (k.f1 ≤ 9999)))) := rfl
 rw [hp]
 clear hp
 obtain ⟨a, b⟩ := k
 dsimp only
 by_cases h0 : 0 ≤ a
 ·have b0 : decide (0 ≤ a) = true := decide_eq_true h0
  by_cases h1 : a ≤ 9999
  ·have b1 : decide (a ≤ 9999) = true := decide_eq_true h1
   by_cases h2 : 0 ≤ b
   ·have b2 : decide (0 ≤ b) = true := decide_eq_true h2
    by_cases h3 : b ≤ 9999
    all_goals
     first | have b3 : decide (b ≤ 9999) = true := decide_eq_true h3
           | have b3 : decide (b ≤ 9999) = false := decide_eq_false h3
     rw [b0, b1, b2, b3]
     clear h0 h1 h2 h3
     go_enter Tryz.func39, Tryz.ntmps39
     go_wp2
     go_ret
     exact ⟨rfl, (Below.refl _ _).alloc (Nat.le_refl _) _⟩
   ·have b2 : decide (0 ≤ b) = false := decide_eq_false h2
    rw [b0, b1, b2]
    clear h0 h1 h2
    go_enter Tryz.func39, Tryz.ntmps39
    go_wp2
    go_ret
    exact ⟨rfl, (Below.refl _ _).alloc (Nat.le_refl _) _⟩
  ·have b1 : decide (a ≤ 9999) = false := decide_eq_false h1
   rw [b0, b1]
   clear h0 h1
   go_enter Tryz.func39, Tryz.ntmps39
   go_wp2
   go_ret
   exact ⟨rfl, (Below.refl _ _).alloc (Nat.le_refl _) _⟩
 ·have b0 : decide (0 ≤ a) = false := decide_eq_false h0
  rw [b0]
  clear h0
  go_enter Tryz.func39, Tryz.ntmps39
  go_wp2
  go_ret
  exact ⟨rfl, (Below.refl _ _).alloc (Nat.le_refl _) _⟩

set_option maxHeartbeats 400000 in
theorem capBad_calls (s : S87) (w : World) : Calls Tryz.prog 69 #[.agg #[.int .i64 s.f0, .int .i64 s.f1, .int .i64 s.f2, .int .i64 s.f3, .int .i64 s.f4]] w fun e w' => e = .returned (.bool (capBad s)) ∧ Below w.heap.size w w' := by
 have c0 := fun w => cap_Check.calls s.f0 s.f1 s.f2 s.f3 s.f4 (capRes s) w rfl
 have hb : capBad s = (capRes s != 0) := rfl
 rw [hb]
 generalize capRes s = q at *
 have C0 := Lib.hid c0
 clear c0 hb
 go_enter Tryz.func69, Tryz.ntmps69
 go_wp2_with (go_at_call 70; (with_reducible refine (C0.out _).mono ?_); clear C0; rintro e w' ⟨rfl, hb⟩)
 go_ret
 exact ⟨rfl, ((Below.refl _ _).alloc (Nat.le_refl _) _).trans (hb.mono (by simp))⟩

set_option maxHeartbeats 400000 in
theorem waitBad_calls (s : S95) (w : World) : Calls Tryz.prog 72 #[.agg #[.int .i64 s.f0, .int .i64 s.f1, .int .i64 s.f2, .bool s.f3, .int .i64 s.f4.f0, .int .i64 s.f4.f1, .int .i64 s.f5, .bool s.f6]] w fun e w' => e = .returned (.bool (waitBad s)) ∧ Below w.heap.size w w' := by
 have c0 := isKey_calls s.f4
 have hb : waitBad s = !keyB s.f4 := rfl
 rw [hb]
 generalize keyB s.f4 = q at *
 have C0 := Lib.hid c0
 clear c0 hb
 go_enter Tryz.func72, Tryz.ntmps72
 go_wp2_with (go_at_call 39; (with_reducible refine (C0.out _).mono ?_); clear C0; rintro e w' ⟨rfl, hb⟩)
 go_ret
 exact ⟨rfl, ((Below.refl _ _).alloc (Nat.le_refl _) _).trans (hb.mono (by simp))⟩

set_option maxHeartbeats 400000 in
theorem branchBad_calls (s : S76) (w : World) : Calls Tryz.prog 41 #[.agg #[.int .i64 s.f0.f0, .int .i64 s.f0.f1, .int .i64 s.f1, .bool s.f2]] w fun e w' => e = .returned (.bool (branchBad s)) ∧ Below w.heap.size w w' := by
 have c0 := isKey_calls s.f0
 have hb : branchBad s = !keyB s.f0 := rfl
 rw [hb]
 generalize keyB s.f0 = q at *
 have C0 := Lib.hid c0
 clear c0 hb
 go_enter Tryz.func41, Tryz.ntmps41
 go_wp2_with (go_at_call 39; (with_reducible refine (C0.out _).mono ?_); clear C0; rintro e w' ⟨rfl, hb⟩)
 go_ret
 exact ⟨rfl, ((Below.refl _ _).alloc (Nat.le_refl _) _).trans (hb.mono (by simp))⟩

/-- The place of the first one that is bad. -/
def capBadAt : List S87 → Nat → Int
 | [], _ => -1
 | s :: l, i => if capBad s = true then (i : Int) else capBadAt l (i + 1)
theorem capBadAt_drop (l : List S87) (k : Nat) (hk : k < l.length) : capBadAt (l.drop k) k = if capBad (rd_T87 l k) = true then (k : Int) else capBadAt (l.drop (k + 1)) (k + 1) := by
 rw [List.drop_eq_getElem_cons hk]
 have : rd_T87 l (k : Int) = l[k] := by
  unfold rd_T87
  rw [Int.toNat_natCast, List.getD_eq_getElem?_getD, List.getElem?_eq_getElem hk]
  rfl
 rw [this]
 rfl
theorem capBadAt_any : ∀ (l : List S87) (i : Nat), decide (0 ≤ capBadAt l i) = l.any capBad
 | [], _ => rfl
 | s :: l, i => by
  have ih := capBadAt_any l (i + 1)
  rw [List.any_cons]
  unfold capBadAt
  cases h : capBad s with
  | true => rw [if_pos rfl]; exact decide_eq_true (by omega)
  | false => rw [if_neg (by decide), ih]; rfl

def capBadPost (l : List S87) (w : World) (e : Ending) (w' : World) : Prop := ∃ r, r = capBadAt l 0 ∧ e = .returned (.int .i64 r) ∧ Below w.heap.size w w'

set_option maxRecDepth 100000 in
set_option maxHeartbeats 1000000 in
theorem capBadIndex_calls (A : Option Addr) (c : Nat) (l : List S87) (w : World) (hr : Kd.C k87 w A l.length l) :
  Calls Tryz.prog 109 #[.slice A l.length c, .func (.func 69) #[] #[]] w (capBadPost l w) := by
 have hm := Kd.C_max hr
 go_enter Tryz.func109, Tryz.ntmps109
 go_wp2
 go_loopw [8] (fun i wr => ∃ k : Nat, k ≤ l.length ∧ i = .int .i64 k ∧ Hid (capBadAt (l.drop k) k = capBadAt l 0) ∧ Below w.heap.size w wr) (fun i _ => l.length - (intOf i).toNat)
 case atStart => exact ⟨0, Nat.zero_le _, rfl, Lib.hid rfl, Below.refl _ _⟩
 case round =>
  obtain ⟨k, hk, rfl, hbad, hB⟩ := hrel
  by_cases hlt : k < l.length
  ·have hd : decide (k < l.length) = true := decide_eq_true hlt
   have hd2 : decide ((k : Int) < (l.length : Int)) = true := decide_eq_true (by omega)
   obtain ⟨ad, e1, hx0, hx1, hx2, hx3, hx4⟩ := at_T87 (Kd.C_below hr hB) (k : Int) (by omega) (by omega)
   cases e1
   rw [Int.toNat_natCast] at hx0 hx1 hx2 hx3 hx4
   have hdrop := capBadAt_drop l k hlt
   have c0 := capBad_calls (rd_T87 l (k : Int))
   generalize capBad (rd_T87 l (k : Int)) = b at *
   have HD := Lib.hid hdrop
   have C0 := Lib.hid c0
   clear hdrop c0
   cases b
   ·go_wp2_with (go_at_call 69; (with_reducible refine (C0.out _).mono ?_); rintro e w' ⟨rfl, hb⟩)
    have hlt' := hlt
    refine ⟨⟨k + 1, hlt, rfl, ?_, ?_⟩, ?_⟩
    ·exact Lib.hid ((HD.out.symm.trans hbad.out))
    ·exact hB.trans (hb.mono hB.size)
    ·show l.length - ((k : Int) + 1).toNat < l.length - ((k : Int)).toNat
     omega
   ·go_wp2_with (go_at_call 69; (with_reducible refine (C0.out _).mono ?_); rintro e w' ⟨rfl, hb⟩)
    go_ret
    exact ⟨_, (HD.out.symm.trans hbad.out), rfl, hB.trans (hb.mono hB.size)⟩
  ·have hd : decide (k < l.length) = false := decide_eq_false hlt
   have hd2 : decide ((k : Int) < (l.length : Int)) = false := decide_eq_false (by omega)
   have hkl : l.drop k = [] := List.drop_eq_nil_of_le (Nat.le_of_not_lt hlt)
   rw [hkl] at hbad
   go_wp2
   go_ret
   exact ⟨_, hbad.out, rfl, hB⟩

set_option maxHeartbeats 400000 in
theorem capBadContains_calls (A : Option Addr) (c : Nat) (l : List S87) (w : World) (hr : Kd.C k87 w A l.length l) :
  Calls Tryz.prog 71 #[.slice A l.length c, .func (.func 69) #[] #[]] w fun e w' => e = .returned (.bool (l.any capBad)) ∧ Below w.heap.size w w' := by
 have hi := (capBadIndex_calls A c l w hr).mono (R' := fun e w' => e = .returned (.int .i64 (capBadAt l 0)) ∧ Below w.heap.size w w') (by rintro e w' ⟨_, rfl, h1, h2⟩; exact ⟨h1, h2⟩)
 rw [← capBadAt_any l 0]
 generalize capBadAt l 0 = r at *
 have Hi := Lib.hid hi
 clear hi
 by_cases h0 : 0 ≤ r
 all_goals
  first | have b0 : decide (0 ≤ r) = true := decide_eq_true h0
        | have b0 : decide (0 ≤ r) = false := decide_eq_false h0
  rw [b0]
  go_enter Tryz.func71, Tryz.ntmps71
  go_wp2_with (go_at_call 109; (with_reducible refine Hi.out.mono ?_); clear Hi; rintro e w' ⟨rfl, hb⟩)
  go_ret
  exact ⟨rfl, hb⟩

/-- The place of the first one that is bad. -/
def waitBadAt : List S95 → Nat → Int
 | [], _ => -1
 | s :: l, i => if waitBad s = true then (i : Int) else waitBadAt l (i + 1)
theorem waitBadAt_drop (l : List S95) (k : Nat) (hk : k < l.length) : waitBadAt (l.drop k) k = if waitBad (rd_T95 l k) = true then (k : Int) else waitBadAt (l.drop (k + 1)) (k + 1) := by
 rw [List.drop_eq_getElem_cons hk]
 have : rd_T95 l (k : Int) = l[k] := by
  unfold rd_T95
  rw [Int.toNat_natCast, List.getD_eq_getElem?_getD, List.getElem?_eq_getElem hk]
  rfl
 rw [this]
 rfl
theorem waitBadAt_any : ∀ (l : List S95) (i : Nat), decide (0 ≤ waitBadAt l i) = l.any waitBad
 | [], _ => rfl
 | s :: l, i => by
  have ih := waitBadAt_any l (i + 1)
  rw [List.any_cons]
  unfold waitBadAt
  cases h : waitBad s with
  | true => rw [if_pos rfl]; exact decide_eq_true (by omega)
  | false => rw [if_neg (by decide), ih]; rfl

def waitBadPost (l : List S95) (w : World) (e : Ending) (w' : World) : Prop := ∃ r, r = waitBadAt l 0 ∧ e = .returned (.int .i64 r) ∧ Below w.heap.size w w'

set_option maxRecDepth 100000 in
set_option maxHeartbeats 1000000 in
theorem waitBadIndex_calls (A : Option Addr) (c : Nat) (l : List S95) (w : World) (hr : Kd.C k95 w A l.length l) :
  Calls Tryz.prog 110 #[.slice A l.length c, .func (.func 72) #[] #[]] w (waitBadPost l w) := by
 have hm := Kd.C_max hr
 go_enter Tryz.func110, Tryz.ntmps110
 go_wp2
 go_loopw [8] (fun i wr => ∃ k : Nat, k ≤ l.length ∧ i = .int .i64 k ∧ Hid (waitBadAt (l.drop k) k = waitBadAt l 0) ∧ Below w.heap.size w wr) (fun i _ => l.length - (intOf i).toNat)
 case atStart => exact ⟨0, Nat.zero_le _, rfl, Lib.hid rfl, Below.refl _ _⟩
 case round =>
  obtain ⟨k, hk, rfl, hbad, hB⟩ := hrel
  by_cases hlt : k < l.length
  ·have hd : decide (k < l.length) = true := decide_eq_true hlt
   have hd2 : decide ((k : Int) < (l.length : Int)) = true := decide_eq_true (by omega)
   obtain ⟨ad, e1, hx0, hx1, hx2, hx3, hx4, hx5, hx6, hx7⟩ := at_T95 (Kd.C_below hr hB) (k : Int) (by omega) (by omega)
   cases e1
   rw [Int.toNat_natCast] at hx0 hx1 hx2 hx3 hx4 hx5 hx6 hx7
   have hdrop := waitBadAt_drop l k hlt
   have c0 := waitBad_calls (rd_T95 l (k : Int))
   generalize waitBad (rd_T95 l (k : Int)) = b at *
   have HD := Lib.hid hdrop
   have C0 := Lib.hid c0
   clear hdrop c0
   cases b
   ·go_wp2_with (go_at_call 72; (with_reducible refine (C0.out _).mono ?_); rintro e w' ⟨rfl, hb⟩)
    have hlt' := hlt
    refine ⟨⟨k + 1, hlt, rfl, ?_, ?_⟩, ?_⟩
    ·exact Lib.hid ((HD.out.symm.trans hbad.out))
    ·exact hB.trans (hb.mono hB.size)
    ·show l.length - ((k : Int) + 1).toNat < l.length - ((k : Int)).toNat
     omega
   ·go_wp2_with (go_at_call 72; (with_reducible refine (C0.out _).mono ?_); rintro e w' ⟨rfl, hb⟩)
    go_ret
    exact ⟨_, (HD.out.symm.trans hbad.out), rfl, hB.trans (hb.mono hB.size)⟩
  ·have hd : decide (k < l.length) = false := decide_eq_false hlt
   have hd2 : decide ((k : Int) < (l.length : Int)) = false := decide_eq_false (by omega)
   have hkl : l.drop k = [] := List.drop_eq_nil_of_le (Nat.le_of_not_lt hlt)
   rw [hkl] at hbad
   go_wp2
   go_ret
   exact ⟨_, hbad.out, rfl, hB⟩

set_option maxHeartbeats 400000 in
theorem waitBadContains_calls (A : Option Addr) (c : Nat) (l : List S95) (w : World) (hr : Kd.C k95 w A l.length l) :
  Calls Tryz.prog 73 #[.slice A l.length c, .func (.func 72) #[] #[]] w fun e w' => e = .returned (.bool (l.any waitBad)) ∧ Below w.heap.size w w' := by
 have hi := (waitBadIndex_calls A c l w hr).mono (R' := fun e w' => e = .returned (.int .i64 (waitBadAt l 0)) ∧ Below w.heap.size w w') (by rintro e w' ⟨_, rfl, h1, h2⟩; exact ⟨h1, h2⟩)
 rw [← waitBadAt_any l 0]
 generalize waitBadAt l 0 = r at *
 have Hi := Lib.hid hi
 clear hi
 by_cases h0 : 0 ≤ r
 all_goals
  first | have b0 : decide (0 ≤ r) = true := decide_eq_true h0
        | have b0 : decide (0 ≤ r) = false := decide_eq_false h0
  rw [b0]
  go_enter Tryz.func73, Tryz.ntmps73
  go_wp2_with (go_at_call 110; (with_reducible refine Hi.out.mono ?_); clear Hi; rintro e w' ⟨rfl, hb⟩)
  go_ret
  exact ⟨rfl, hb⟩

/-- The place of the first one that is bad. -/
def branchBadAt : List S76 → Nat → Int
 | [], _ => -1
 | s :: l, i => if branchBad s = true then (i : Int) else branchBadAt l (i + 1)
theorem branchBadAt_drop (l : List S76) (k : Nat) (hk : k < l.length) : branchBadAt (l.drop k) k = if branchBad (rd_T76 l k) = true then (k : Int) else branchBadAt (l.drop (k + 1)) (k + 1) := by
 rw [List.drop_eq_getElem_cons hk]
 have : rd_T76 l (k : Int) = l[k] := by
  unfold rd_T76
  rw [Int.toNat_natCast, List.getD_eq_getElem?_getD, List.getElem?_eq_getElem hk]
  rfl
 rw [this]
 rfl
theorem branchBadAt_any : ∀ (l : List S76) (i : Nat), decide (0 ≤ branchBadAt l i) = l.any branchBad
 | [], _ => rfl
 | s :: l, i => by
  have ih := branchBadAt_any l (i + 1)
  rw [List.any_cons]
  unfold branchBadAt
  cases h : branchBad s with
  | true => rw [if_pos rfl]; exact decide_eq_true (by omega)
  | false => rw [if_neg (by decide), ih]; rfl

def branchBadPost (l : List S76) (w : World) (e : Ending) (w' : World) : Prop := ∃ r, r = branchBadAt l 0 ∧ e = .returned (.int .i64 r) ∧ Below w.heap.size w w'

set_option maxRecDepth 100000 in
set_option maxHeartbeats 1000000 in
theorem branchBadIndex_calls (A : Option Addr) (c : Nat) (l : List S76) (w : World) (hr : Kd.C k76 w A l.length l) :
  Calls Tryz.prog 74 #[.slice A l.length c, .func (.func 41) #[] #[]] w (branchBadPost l w) := by
 have hm := Kd.C_max hr
 go_enter Tryz.func74, Tryz.ntmps74
 go_wp2
 go_loopw [8] (fun i wr => ∃ k : Nat, k ≤ l.length ∧ i = .int .i64 k ∧ Hid (branchBadAt (l.drop k) k = branchBadAt l 0) ∧ Below w.heap.size w wr) (fun i _ => l.length - (intOf i).toNat)
 case atStart => exact ⟨0, Nat.zero_le _, rfl, Lib.hid rfl, Below.refl _ _⟩
 case round =>
  obtain ⟨k, hk, rfl, hbad, hB⟩ := hrel
  by_cases hlt : k < l.length
  ·have hd : decide (k < l.length) = true := decide_eq_true hlt
   have hd2 : decide ((k : Int) < (l.length : Int)) = true := decide_eq_true (by omega)
   obtain ⟨ad, e1, hx0, hx1, hx2, hx3⟩ := at_T76 (Kd.C_below hr hB) (k : Int) (by omega) (by omega)
   cases e1
   rw [Int.toNat_natCast] at hx0 hx1 hx2 hx3
   have hdrop := branchBadAt_drop l k hlt
   have c0 := branchBad_calls (rd_T76 l (k : Int))
   generalize branchBad (rd_T76 l (k : Int)) = b at *
   have HD := Lib.hid hdrop
   have C0 := Lib.hid c0
   clear hdrop c0
   cases b
   ·go_wp2_with (go_at_call 41; (with_reducible refine (C0.out _).mono ?_); rintro e w' ⟨rfl, hb⟩)
    have hlt' := hlt
    refine ⟨⟨k + 1, hlt, rfl, ?_, ?_⟩, ?_⟩
    ·exact Lib.hid ((HD.out.symm.trans hbad.out))
    ·exact hB.trans (hb.mono hB.size)
    ·show l.length - ((k : Int) + 1).toNat < l.length - ((k : Int)).toNat
     omega
   ·go_wp2_with (go_at_call 41; (with_reducible refine (C0.out _).mono ?_); rintro e w' ⟨rfl, hb⟩)
    go_ret
    exact ⟨_, (HD.out.symm.trans hbad.out), rfl, hB.trans (hb.mono hB.size)⟩
  ·have hd : decide (k < l.length) = false := decide_eq_false hlt
   have hd2 : decide ((k : Int) < (l.length : Int)) = false := decide_eq_false (by omega)
   have hkl : l.drop k = [] := List.drop_eq_nil_of_le (Nat.le_of_not_lt hlt)
   rw [hkl] at hbad
   go_wp2
   go_ret
   exact ⟨_, hbad.out, rfl, hB⟩

set_option maxHeartbeats 400000 in
theorem branchBadContains_calls (A : Option Addr) (c : Nat) (l : List S76) (w : World) (hr : Kd.C k76 w A l.length l) :
  Calls Tryz.prog 40 #[.slice A l.length c, .func (.func 41) #[] #[]] w fun e w' => e = .returned (.bool (l.any branchBad)) ∧ Below w.heap.size w w' := by
 have hi := (branchBadIndex_calls A c l w hr).mono (R' := fun e w' => e = .returned (.int .i64 (branchBadAt l 0)) ∧ Below w.heap.size w w') (by rintro e w' ⟨_, rfl, h1, h2⟩; exact ⟨h1, h2⟩)
 rw [← branchBadAt_any l 0]
 generalize branchBadAt l 0 = r at *
 have Hi := Lib.hid hi
 clear hi
 by_cases h0 : 0 ≤ r
 all_goals
  first | have b0 : decide (0 ≤ r) = true := decide_eq_true h0
        | have b0 : decide (0 ≤ r) = false := decide_eq_false h0
  rw [b0]
  go_enter Tryz.func40, Tryz.ntmps40
  go_wp2_with (go_at_call 74; (with_reducible refine Hi.out.mono ?_); clear Hi; rintro e w' ⟨rfl, hb⟩)
  go_ret
  exact ⟨rfl, hb⟩

/-- May slots be written? -/
def nodeB (l : List S87) : Bool := (decide (l.length = 0) || decide (l.length = 8)) && !l.any capBad
def portB (x : S59) : Bool := decide (x.f2.length ≤ 64) && !x.f2.any waitBad

set_option maxHeartbeats 800000 in
theorem isNode_calls (A : Option Addr) (c : Nat) (l : List S87) (w : World) (hr : Kd.C k87 w A l.length l) :
  Calls Tryz.prog 37 #[.slice A l.length c] w fun e w' => e = .returned (.bool (nodeB l)) ∧ Below w.heap.size w w' := by
 have hn : nodeB l = ((decide (l.length = 0) || decide (l.length = 8)) && !l.any capBad) := rfl
 rw [hn]
 clear hn
 have hi := fun w' (hb : Below w.heap.size w w') => capBadContains_calls A c l w' (Kd.C_below hr hb)
 generalize l.any capBad = q at *
 have Hi := Lib.hid hi
 clear hi hr
 have z : ∀ n : Nat, decide (l.length = n) = ((l.length : Int) == (n : Int)) := fun n => by rw [Bool.eq_iff_iff]; simp only [decide_eq_true_eq, beq_iff_eq]; omega
 rw [z, z]
 by_cases h0 : (l.length : Int) = 0
 ·have b0 : ((l.length : Int) == 0) = true := beq_iff_eq.mpr h0
  show Calls _ _ _ _ fun e w' => e = .returned (.bool ((((l.length : Int) == 0) || ((l.length : Int) == 8)) && !q)) ∧ _
  rw [b0]
  go_enter Tryz.func37, Tryz.ntmps37
  go_wp2_with (go_at_call 71; (with_reducible refine (Hi.out _ ?_).mono ?_); clear Hi; (exact Below.refl _ _); rintro e w' ⟨rfl, hb⟩)
  go_ret
  exact ⟨rfl, hb⟩
 ·have b0 : ((l.length : Int) == 0) = false := beq_eq_false_iff_ne.mpr h0
  show Calls _ _ _ _ fun e w' => e = .returned (.bool ((((l.length : Int) == 0) || ((l.length : Int) == 8)) && !q)) ∧ _
  by_cases h1 : (l.length : Int) = 8
  ·have b1 : ((l.length : Int) == 8) = true := beq_iff_eq.mpr h1
   rw [b0, b1]
   go_enter Tryz.func37, Tryz.ntmps37
   go_wp2_with (go_at_call 71; (with_reducible refine (Hi.out _ ?_).mono ?_); clear Hi; (exact Below.refl _ _); rintro e w' ⟨rfl, hb⟩)
   go_ret
   exact ⟨rfl, hb⟩
  ·have b1 : ((l.length : Int) == 8) = false := beq_eq_false_iff_ne.mpr h1
   rw [b0, b1]
   go_enter Tryz.func37, Tryz.ntmps37
   go_wp2
   go_ret
   exact ⟨rfl, Below.refl _ _⟩

set_option maxHeartbeats 800000 in
theorem isPort_calls (k v : Int) (A : Option Addr) (c : Nat) (l : List S95) (w : World) (hr : Kd.C k95 w A l.length l) :
  Calls Tryz.prog 38 #[.agg #[.int .i64 k, .int .i64 v, .slice A l.length c]] w fun e w' => e = .returned (.bool (decide (l.length ≤ 64) && !l.any waitBad)) ∧ Below w.heap.size w w' := by
 have hi := fun w' (hb : Below w.heap.size w w') => waitBadContains_calls A c l w' (Kd.C_below hr hb)
 generalize l.any waitBad = q at *
 have Hi := Lib.hid hi
 clear hi hr
 have z : decide (l.length ≤ 64) = decide ((l.length : Int) ≤ 64) := by rw [Bool.eq_iff_iff]; simp only [decide_eq_true_eq]; omega
 rw [z]
 by_cases h0 : (l.length : Int) ≤ 64
 ·have b0 : decide ((l.length : Int) ≤ 64) = true := decide_eq_true h0
  rw [b0]
  clear z h0
  go_enter Tryz.func38, Tryz.ntmps38
  go_wp2_with (go_at_call 73; (with_reducible refine (Hi.out _ ?_).mono ?_); clear Hi; (exact (Below.refl _ _).alloc (Nat.le_refl _) _); rintro e w' ⟨rfl, hb⟩)
  go_ret
  exact ⟨rfl, ((Below.refl _ _).alloc (Nat.le_refl _) _).trans (hb.mono (by simp))⟩
 ·have b0 : decide ((l.length : Int) ≤ 64) = false := decide_eq_false h0
  rw [b0]
  clear z h0
  go_enter Tryz.func38, Tryz.ntmps38
  go_wp2
  go_ret
  exact ⟨rfl, (Below.refl _ _).alloc (Nat.le_refl _) _⟩

end Go.Proofs.YtmcjccigglekpaaGreatDoor.Given
namespace Go.Proofs.YtmcjccigglekpaaGreatDoor.Given
open Go Go.RowKit Go.Proofs Go.Proofs.YtmcjccigglekpaaGreatDoorW.PrintWords Go.Proofs.YtmcjccigglekpaaGreatDoorW.PrintLast Go.Proofs.YtmcjccigglekpaaGreatDoorW.PrintMore Go.Proofs.YtmcjccigglekpaaGreatDoor.P

/-- A state. -/
structure St where
 th : List S70
 fr : List (List Int)
 no : List (List S87)
 tr : List S76
 po : List S59
 li : List (List Int)
 ro : List Int
 sw : List S82
structure Sv where
 (A0 A1 A2 A3 A4 A5 A6 A7 : Option Addr)
 (c0 c1 c2 c3 c4 c5 c6 c7 : Nat)
abbrev Sv.cells (h : Sv) (s : St) : Array Value := #[.slice h.A0 s.th.length h.c0, .slice h.A1 s.fr.length h.c1, .slice h.A2 s.no.length h.c2, .slice h.A3 s.tr.length h.c3, .slice h.A4 s.po.length h.c4, .slice h.A5 s.li.length h.c5, .slice h.A6 s.ro.length h.c6, .slice h.A7 s.sw.length h.c7]
structure Sv.At (h : Sv) (s : St) (w : World) : Prop where
 r0 : Kd.C k70 w h.A0 s.th.length s.th
 r1 : Kd.C (Kd.slice 3 (Kd.int .i64)) w h.A1 s.fr.length s.fr
 r2 : Kd.C (Kd.slice 87 k87) w h.A2 s.no.length s.no
 r3 : Kd.C k76 w h.A3 s.tr.length s.tr
 r4 : Kd.C k59 w h.A4 s.po.length s.po
 r5 : Kd.C (Kd.slice 3 (Kd.int .i64)) w h.A5 s.li.length s.li
 r6 : Kd.C (Kd.int .i64) w h.A6 s.ro.length s.ro
 r7 : Kd.C k82 w h.A7 s.sw.length s.sw
 l0 : s.th.length ≤ h.c0
 l1 : s.fr.length ≤ h.c1
 l2 : s.no.length ≤ h.c2
 l3 : s.tr.length ≤ h.c3
 l4 : s.po.length ≤ h.c4
 l5 : s.li.length ≤ h.c5
 l6 : s.ro.length ≤ h.c6
 l7 : s.sw.length ≤ h.c7
theorem Sv.At.below {h : Sv} {s : St} {w w' : World} (H : h.At s w) (hb : Below w.heap.size w w') : h.At s w' :=
 ⟨Kd.C_below H.r0 hb, Kd.C_below H.r1 hb, Kd.C_below H.r2 hb, Kd.C_below H.r3 hb, Kd.C_below H.r4 hb, Kd.C_below H.r5 hb, Kd.C_below H.r6 hb, Kd.C_below H.r7 hb, H.l0, H.l1, H.l2, H.l3, H.l4, H.l5, H.l6, H.l7⟩

/-- A row's cell in a row of rows. -/
theorem at_row {α : Type} {t : Nat} {K : Kd α} {w : World} {A : Option Addr} {xs : List (List α)} (h : Kd.C (Kd.slice t K) w A xs.length xs) (k : Nat) (hk : k < xs.length) :
  ∃ ad A0 c0, A = some ad ∧ w.cell? (ad.add k) = some (.slice A0 xs[k].length c0) ∧ xs[k].length ≤ c0 ∧ K.C w A0 xs[k].length xs[k] := by
 obtain ⟨ad, c, e, _, hK, hc0⟩ := Kd.C_get h ([] : List α) (k : Int) (by omega) (by omega)
 rw [Int.toNat_natCast] at hK hc0
 have hx : xs.getD k [] = xs[k] := by rw [List.getD_eq_getElem?_getD, List.getElem?_eq_getElem hk]; rfl
 rw [hx] at hK
 obtain ⟨A0, c0, rfl, l0, g0⟩ := hK
 exact ⟨ad, A0, c0, e, by have hq : w.cell? (ad.add (k * 1 + 0)) = some _ := hc0 0 _ rfl; rwa [Nat.mul_one, Nat.add_zero] at hq, l0, g0⟩
theorem rdPort (xs : List S59) (k : Nat) (hk : k < xs.length) : rd_T59 xs (k : Int) = xs[k] := by
 unfold rd_T59
 rw [Int.toNat_natCast, List.getD_eq_getElem?_getD, List.getElem?_eq_getElem hk]
 rfl
theorem rdSweep (xs : List S82) (k : Nat) (hk : k < xs.length) : rd_T82 xs (k : Int) = xs[k] := by
 unfold rd_T82
 rw [Int.toNat_natCast, List.getD_eq_getElem?_getD, List.getElem?_eq_getElem hk]
 rfl

/-- May a state be written? -/
def sizesB (s : St) : Bool := decide (s.th.length ≤ 64 ∧ s.no.length = s.th.length ∧ s.po.length = s.th.length ∧ s.fr.length ≤ 64 ∧ s.li.length = s.fr.length ∧ s.sw.length = s.fr.length ∧ s.ro.length = s.fr.length ∧ s.tr.length ≤ 512)
def stateB (s : St) : Bool := sizesB s && (s.no.all nodeB && s.po.all portB) && (s.fr.all (fun l => decide (l.length ≤ 64)) && s.li.all (fun l => decide (l.length ≤ 64)) && s.sw.all (fun x => keyB x.f1)) && !s.tr.any branchBad
end Go.Proofs.YtmcjccigglekpaaGreatDoor.Given
namespace Go.Proofs
open Go.Shelf
def Tryz.itoaM_ren : Go.Shelf.Ren := ⟨fun | 171 => 62 | 243 => 101 | 246 => 102 | 283 => 146 | 284 => 147 | 285 => 148 | 286 => 149 | 129 => 195 | 317 => 194 | 318 => 196 | 319 => 197 | 320 => 198 | 337 => 241 | 338 => 242 | n => n, fun | 3 => 3 | 9 => 9 | 2 => 2 | 4 => 4 | 171 => 222 | 0 => 0 | 53 => 88 | 37 => 48 | 5 => 5 | 173 => 225 | 212 => 277 | 51 => 278 | 20 => 20 | 213 => 279 | 46 => 229 | 232 => 345 | 233 => 346 | n => n, fun | 17 => 0 | 18 => 6 | 19 => 7 | n => n⟩
theorem Tryz.itoaM : Go.Proofs.LaysM.n171 Tryz.prog Tryz.itoaM_ren := {
 mixed := by kernel_rfl
 f129 := Tryz.func195.trans (congrArg some (by kernel_rfl))
 f171 := Tryz.func62.trans (congrArg some (by kernel_rfl))
 f243 := Tryz.func101.trans (congrArg some (by kernel_rfl))
 f246 := Tryz.func102.trans (congrArg some (by kernel_rfl))
 f283 := Tryz.func146.trans (congrArg some (by kernel_rfl))
 f284 := Tryz.func147.trans (congrArg some (by kernel_rfl))
 f285 := Tryz.func148.trans (congrArg some (by kernel_rfl))
 f286 := Tryz.func149.trans (congrArg some (by kernel_rfl))
 f317 := Tryz.func194.trans (congrArg some (by kernel_rfl))
 f318 := Tryz.func196.trans (congrArg some (by kernel_rfl))
 f319 := Tryz.func197.trans (congrArg some (by kernel_rfl))
 f320 := Tryz.func198.trans (congrArg some (by kernel_rfl))
 f337 := Tryz.func241.trans (congrArg some (by kernel_rfl))
 f338 := Tryz.func242.trans (congrArg some (by kernel_rfl))
 t0 := Tryz.underlying0
 a0 := Tryz.isAgg0
 z0 := Tryz.sizeOf0
 v0 := Tryz.zeroValue0
 t2 := Tryz.underlying2
 a2 := Tryz.isAgg2
 z2 := Tryz.sizeOf2
 v2 := Tryz.zeroValue2
 t3 := Tryz.underlying3
 a3 := Tryz.isAgg3
 z3 := Tryz.sizeOf3
 v3 := Tryz.zeroValue3
 t4 := Tryz.underlying4
 a4 := Tryz.isAgg4
 z4 := Tryz.sizeOf4
 v4 := Tryz.zeroValue4
 t5 := Tryz.underlying5
 a5 := Tryz.isAgg5
 z5 := Tryz.sizeOf5
 v5 := Tryz.zeroValue5
 t9 := Tryz.underlying9
 a9 := Tryz.isAgg9
 z9 := Tryz.sizeOf9
 v9 := Tryz.zeroValue9
 t20 := Tryz.underlying20
 a20 := Tryz.isAgg20
 z20 := Tryz.sizeOf20
 v20 := Tryz.zeroValue20
 t37 := Tryz.underlying48
 a37 := Tryz.isAgg48
 z37 := Tryz.sizeOf48
 v37 := Tryz.zeroValue48
 t46 := Tryz.underlying229
 a46 := Tryz.isAgg229
 z46 := Tryz.sizeOf229
 v46 := Tryz.zeroValue229
 t51 := Tryz.underlying278
 a51 := Tryz.isAgg278
 z51 := Tryz.sizeOf278
 v51 := Tryz.zeroValue278
 t53 := Tryz.underlying88
 a53 := Tryz.isAgg88
 z53 := Tryz.sizeOf88
 v53 := Tryz.zeroValue88
 t171 := Tryz.underlying222
 a171 := Tryz.isAgg222
 z171 := Tryz.sizeOf222
 v171 := Tryz.zeroValue222
 t173 := Tryz.underlying225
 a173 := Tryz.isAgg225
 z173 := Tryz.sizeOf225
 v173 := Tryz.zeroValue225
 t212 := Tryz.underlying277
 a212 := Tryz.isAgg277
 z212 := Tryz.sizeOf277
 v212 := Tryz.zeroValue277
 t213 := Tryz.underlying279
 a213 := Tryz.isAgg279
 z213 := Tryz.sizeOf279
 t232 := Tryz.underlying345
 a232 := Tryz.isAgg345
 z232 := Tryz.sizeOf345
 v232 := Tryz.zeroValue345
 t233 := Tryz.underlying346
 a233 := Tryz.isAgg346
 z233 := Tryz.sizeOf346
 v233 := Tryz.zeroValue346
 g17 := by kernel_rfl
 g18 := by kernel_rfl
 g19 := by kernel_rfl
 i0 := by kernel_rfl
 i2 := by kernel_rfl
 i3 := by kernel_rfl
 i4 := by kernel_rfl
 i5 := by kernel_rfl
 i9 := by kernel_rfl
 i20 := by kernel_rfl
 i37 := by kernel_rfl
 i46 := by kernel_rfl
 i51 := by kernel_rfl
 i53 := by kernel_rfl
 i171 := by kernel_rfl
 i173 := by kernel_rfl
 i212 := by kernel_rfl
 i232 := by kernel_rfl
 i233 := by kernel_rfl
 m17 := by kernel_rfl
 m18 := by kernel_rfl
 m19 := by kernel_rfl }
def Tryz.fmtM_ren : Go.Shelf.Ren := ⟨fun | 173 => 63 | 246 => 102 | 283 => 146 | 284 => 147 | 285 => 148 | 286 => 149 | 129 => 195 | 317 => 194 | 318 => 196 | 319 => 197 | 320 => 198 | 337 => 241 | 338 => 242 | n => n, fun | 2 => 2 | 3 => 3 | 9 => 9 | 4 => 4 | 171 => 222 | 0 => 0 | 53 => 88 | 37 => 48 | 5 => 5 | 173 => 225 | 212 => 277 | 51 => 278 | 20 => 20 | 213 => 279 | 46 => 229 | 232 => 345 | 233 => 346 | n => n, fun | 17 => 0 | 18 => 6 | 19 => 7 | n => n⟩
theorem Tryz.fmtM : Go.Proofs.LaysM.n173 Tryz.prog Tryz.fmtM_ren := {
 mixed := by kernel_rfl
 f129 := Tryz.func195.trans (congrArg some (by kernel_rfl))
 f173 := Tryz.func63.trans (congrArg some (by kernel_rfl))
 f246 := Tryz.func102.trans (congrArg some (by kernel_rfl))
 f283 := Tryz.func146.trans (congrArg some (by kernel_rfl))
 f284 := Tryz.func147.trans (congrArg some (by kernel_rfl))
 f285 := Tryz.func148.trans (congrArg some (by kernel_rfl))
 f286 := Tryz.func149.trans (congrArg some (by kernel_rfl))
 f317 := Tryz.func194.trans (congrArg some (by kernel_rfl))
 f318 := Tryz.func196.trans (congrArg some (by kernel_rfl))
 f319 := Tryz.func197.trans (congrArg some (by kernel_rfl))
 f320 := Tryz.func198.trans (congrArg some (by kernel_rfl))
 f337 := Tryz.func241.trans (congrArg some (by kernel_rfl))
 f338 := Tryz.func242.trans (congrArg some (by kernel_rfl))
 t0 := Tryz.underlying0
 a0 := Tryz.isAgg0
 z0 := Tryz.sizeOf0
 v0 := Tryz.zeroValue0
 t2 := Tryz.underlying2
 a2 := Tryz.isAgg2
 z2 := Tryz.sizeOf2
 v2 := Tryz.zeroValue2
 t3 := Tryz.underlying3
 a3 := Tryz.isAgg3
 z3 := Tryz.sizeOf3
 v3 := Tryz.zeroValue3
 t4 := Tryz.underlying4
 a4 := Tryz.isAgg4
 z4 := Tryz.sizeOf4
 v4 := Tryz.zeroValue4
 t5 := Tryz.underlying5
 a5 := Tryz.isAgg5
 z5 := Tryz.sizeOf5
 v5 := Tryz.zeroValue5
 t9 := Tryz.underlying9
 a9 := Tryz.isAgg9
 z9 := Tryz.sizeOf9
 v9 := Tryz.zeroValue9
 t20 := Tryz.underlying20
 a20 := Tryz.isAgg20
 z20 := Tryz.sizeOf20
 v20 := Tryz.zeroValue20
 t37 := Tryz.underlying48
 a37 := Tryz.isAgg48
 z37 := Tryz.sizeOf48
 v37 := Tryz.zeroValue48
 t46 := Tryz.underlying229
 a46 := Tryz.isAgg229
 z46 := Tryz.sizeOf229
 v46 := Tryz.zeroValue229
 t51 := Tryz.underlying278
 a51 := Tryz.isAgg278
 z51 := Tryz.sizeOf278
 v51 := Tryz.zeroValue278
 t53 := Tryz.underlying88
 a53 := Tryz.isAgg88
 z53 := Tryz.sizeOf88
 v53 := Tryz.zeroValue88
 t171 := Tryz.underlying222
 a171 := Tryz.isAgg222
 z171 := Tryz.sizeOf222
 v171 := Tryz.zeroValue222
 t173 := Tryz.underlying225
 a173 := Tryz.isAgg225
 z173 := Tryz.sizeOf225
 v173 := Tryz.zeroValue225
 t212 := Tryz.underlying277
 a212 := Tryz.isAgg277
 z212 := Tryz.sizeOf277
 v212 := Tryz.zeroValue277
 t213 := Tryz.underlying279
 a213 := Tryz.isAgg279
 z213 := Tryz.sizeOf279
 t232 := Tryz.underlying345
 a232 := Tryz.isAgg345
 z232 := Tryz.sizeOf345
 v232 := Tryz.zeroValue345
 t233 := Tryz.underlying346
 a233 := Tryz.isAgg346
 z233 := Tryz.sizeOf346
 v233 := Tryz.zeroValue346
 g17 := by kernel_rfl
 g18 := by kernel_rfl
 g19 := by kernel_rfl
 i0 := by kernel_rfl
 i2 := by kernel_rfl
 i3 := by kernel_rfl
 i4 := by kernel_rfl
 i5 := by kernel_rfl
 i9 := by kernel_rfl
 i20 := by kernel_rfl
 i37 := by kernel_rfl
 i46 := by kernel_rfl
 i51 := by kernel_rfl
 i53 := by kernel_rfl
 i171 := by kernel_rfl
 i173 := by kernel_rfl
 i212 := by kernel_rfl
 i232 := by kernel_rfl
 i233 := by kernel_rfl
 m17 := by kernel_rfl
 m18 := by kernel_rfl
 m19 := by kernel_rfl }
def Tryz.pintC_ren : Go.Shelf.Ren := ⟨fun | 174 => 90 | 247 => 122 | 245 => 123 | 287 => 158 | 279 => 159 | 280 => 160 | 281 => 161 | 282 => 162 | 321 => 204 | 322 => 205 | 316 => 206 | 171 => 62 | 205 => 207 | 243 => 101 | 246 => 102 | 283 => 146 | 284 => 147 | 285 => 148 | 286 => 149 | 129 => 195 | 317 => 194 | 318 => 196 | 319 => 197 | 320 => 198 | 337 => 241 | 338 => 242 | n => n, fun | 9 => 9 | 3 => 3 | 2 => 2 | 75 => 137 | 85 => 157 | 4 => 4 | 167 => 234 | 5 => 5 | 53 => 88 | 175 => 235 | 46 => 229 | 168 => 237 | 37 => 48 | 0 => 0 | 210 => 284 | 21 => 21 | 127 => 146 | 145 => 315 | 143 => 313 | 171 => 222 | 173 => 225 | 212 => 277 | 51 => 278 | 20 => 20 | 213 => 279 | 232 => 345 | 233 => 346 | 80 => 83 | n => n, fun | 15 => 2 | 16 => 3 | 17 => 0 | 18 => 6 | 19 => 7 | n => n⟩
theorem Tryz.pintC : Go.Proofs.LaysC.n174 Tryz.prog Tryz.pintC_ren := {
 mixed := by kernel_rfl
 f129 := Tryz.func195.trans (congrArg some (by kernel_rfl))
 f171 := Tryz.func62.trans (congrArg some (by kernel_rfl))
 f174 := Tryz.func90.trans (congrArg some (by kernel_rfl))
 f205 := Tryz.func207.trans (congrArg some (by kernel_rfl))
 f243 := Tryz.func101.trans (congrArg some (by kernel_rfl))
 f245 := Tryz.func123.trans (congrArg some (by kernel_rfl))
 f246 := Tryz.func102.trans (congrArg some (by kernel_rfl))
 f247 := Tryz.func122.trans (congrArg some (by kernel_rfl))
 f279 := Tryz.func159.trans (congrArg some (by kernel_rfl))
 f280 := Tryz.func160.trans (congrArg some (by kernel_rfl))
 f281 := Tryz.func161.trans (congrArg some (by kernel_rfl))
 f282 := Tryz.func162.trans (congrArg some (by kernel_rfl))
 f283 := Tryz.func146.trans (congrArg some (by kernel_rfl))
 f284 := Tryz.func147.trans (congrArg some (by kernel_rfl))
 f285 := Tryz.func148.trans (congrArg some (by kernel_rfl))
 f286 := Tryz.func149.trans (congrArg some (by kernel_rfl))
 f287 := Tryz.func158.trans (congrArg some (by kernel_rfl))
 f316 := Tryz.func206.trans (congrArg some (by kernel_rfl))
 f317 := Tryz.func194.trans (congrArg some (by kernel_rfl))
 f318 := Tryz.func196.trans (congrArg some (by kernel_rfl))
 f319 := Tryz.func197.trans (congrArg some (by kernel_rfl))
 f320 := Tryz.func198.trans (congrArg some (by kernel_rfl))
 f321 := Tryz.func204.trans (congrArg some (by kernel_rfl))
 f322 := Tryz.func205.trans (congrArg some (by kernel_rfl))
 f337 := Tryz.func241.trans (congrArg some (by kernel_rfl))
 f338 := Tryz.func242.trans (congrArg some (by kernel_rfl))
 t0 := Tryz.underlying0
 a0 := Tryz.isAgg0
 z0 := Tryz.sizeOf0
 v0 := Tryz.zeroValue0
 t2 := Tryz.underlying2
 a2 := Tryz.isAgg2
 z2 := Tryz.sizeOf2
 v2 := Tryz.zeroValue2
 t3 := Tryz.underlying3
 a3 := Tryz.isAgg3
 z3 := Tryz.sizeOf3
 v3 := Tryz.zeroValue3
 t4 := Tryz.underlying4
 a4 := Tryz.isAgg4
 z4 := Tryz.sizeOf4
 v4 := Tryz.zeroValue4
 t5 := Tryz.underlying5
 a5 := Tryz.isAgg5
 z5 := Tryz.sizeOf5
 v5 := Tryz.zeroValue5
 t9 := Tryz.underlying9
 a9 := Tryz.isAgg9
 z9 := Tryz.sizeOf9
 v9 := Tryz.zeroValue9
 t20 := Tryz.underlying20
 a20 := Tryz.isAgg20
 z20 := Tryz.sizeOf20
 v20 := Tryz.zeroValue20
 t21 := Tryz.underlying21
 a21 := Tryz.isAgg21
 z21 := Tryz.sizeOf21
 v21 := Tryz.zeroValue21
 t37 := Tryz.underlying48
 a37 := Tryz.isAgg48
 z37 := Tryz.sizeOf48
 v37 := Tryz.zeroValue48
 t46 := Tryz.underlying229
 a46 := Tryz.isAgg229
 z46 := Tryz.sizeOf229
 v46 := Tryz.zeroValue229
 t51 := Tryz.underlying278
 a51 := Tryz.isAgg278
 z51 := Tryz.sizeOf278
 v51 := Tryz.zeroValue278
 t53 := Tryz.underlying88
 a53 := Tryz.isAgg88
 z53 := Tryz.sizeOf88
 v53 := Tryz.zeroValue88
 t75 := Tryz.underlying137
 a75 := Tryz.isAgg137
 z75 := Tryz.sizeOf137
 v75 := Tryz.zeroValue137
 t85 := Tryz.underlying157
 a85 := Tryz.isAgg157
 z85 := Tryz.sizeOf157
 v85 := Tryz.zeroValue157
 t127 := Tryz.underlying146
 a127 := Tryz.isAgg146
 z127 := Tryz.sizeOf146
 v127 := Tryz.zeroValue146
 t143 := Tryz.underlying313
 a143 := Tryz.isAgg313
 z143 := Tryz.sizeOf313
 v143 := Tryz.zeroValue313
 t145 := Tryz.underlying315
 a145 := Tryz.isAgg315
 z145 := Tryz.sizeOf315
 v145 := Tryz.zeroValue315
 t167 := Tryz.underlying234
 a167 := Tryz.isAgg234
 z167 := Tryz.sizeOf234
 v167 := Tryz.zeroValue234
 t168 := Tryz.underlying237
 a168 := Tryz.isAgg237
 z168 := Tryz.sizeOf237
 v168 := Tryz.zeroValue237
 t171 := Tryz.underlying222
 a171 := Tryz.isAgg222
 z171 := Tryz.sizeOf222
 v171 := Tryz.zeroValue222
 t173 := Tryz.underlying225
 a173 := Tryz.isAgg225
 z173 := Tryz.sizeOf225
 v173 := Tryz.zeroValue225
 t175 := Tryz.underlying235
 a175 := Tryz.isAgg235
 z175 := Tryz.sizeOf235
 v175 := Tryz.zeroValue235
 t210 := Tryz.underlying284
 a210 := Tryz.isAgg284
 z210 := Tryz.sizeOf284
 v210 := Tryz.zeroValue284
 t212 := Tryz.underlying277
 a212 := Tryz.isAgg277
 z212 := Tryz.sizeOf277
 v212 := Tryz.zeroValue277
 t213 := Tryz.underlying279
 a213 := Tryz.isAgg279
 z213 := Tryz.sizeOf279
 t232 := Tryz.underlying345
 a232 := Tryz.isAgg345
 z232 := Tryz.sizeOf345
 v232 := Tryz.zeroValue345
 t233 := Tryz.underlying346
 a233 := Tryz.isAgg346
 z233 := Tryz.sizeOf346
 v233 := Tryz.zeroValue346
 g15 := by kernel_rfl
 g16 := by kernel_rfl
 g17 := by kernel_rfl
 g18 := by kernel_rfl
 g19 := by kernel_rfl
 t80 := Tryz.underlying83
 a80 := Tryz.isAgg83
 z80 := Tryz.sizeOf83
 v80 := Tryz.zeroValue83
 i0 := by kernel_rfl
 i2 := by kernel_rfl
 i3 := by kernel_rfl
 i4 := by kernel_rfl
 i5 := by kernel_rfl
 i9 := by kernel_rfl
 i20 := by kernel_rfl
 i21 := by kernel_rfl
 i37 := by kernel_rfl
 i46 := by kernel_rfl
 i51 := by kernel_rfl
 i53 := by kernel_rfl
 i75 := by kernel_rfl
 i80 := by kernel_rfl
 i85 := by kernel_rfl
 i127 := by kernel_rfl
 i143 := by kernel_rfl
 i145 := by kernel_rfl
 i167 := by kernel_rfl
 i168 := by kernel_rfl
 i171 := by kernel_rfl
 i173 := by kernel_rfl
 i175 := by kernel_rfl
 i210 := by kernel_rfl
 i212 := by kernel_rfl
 i232 := by kernel_rfl
 i233 := by kernel_rfl
 m15 := by kernel_rfl
 m16 := by kernel_rfl
 m17 := by kernel_rfl
 m18 := by kernel_rfl
 m19 := by kernel_rfl
 c0 := by kernel_rfl
 c2 := by kernel_rfl
 c3 := by kernel_rfl
 c4 := by kernel_rfl
 c5 := by kernel_rfl
 c9 := by kernel_rfl
 c20 := by kernel_rfl
 c21 := by kernel_rfl
 c37 := by kernel_rfl
 c46 := by kernel_rfl
 c51 := by kernel_rfl
 c53 := by kernel_rfl
 c75 := by kernel_rfl
 c80 := by kernel_rfl
 c85 := by kernel_rfl
 c127 := by kernel_rfl
 c143 := by kernel_rfl
 c145 := by kernel_rfl
 c167 := by kernel_rfl
 c168 := by kernel_rfl
 c171 := by kernel_rfl
 c173 := by kernel_rfl
 c175 := by kernel_rfl
 c210 := by kernel_rfl
 c212 := by kernel_rfl
 c213 := by kernel_rfl
 c232 := by kernel_rfl
 c233 := by kernel_rfl }
def Tryz.splitL_ren : Go.Shelf.Ren := ⟨fun | 146 => 46 | 221 => 89 | 268 => 119 | 138 => 120 | 143 => 121 | 195 => 155 | 197 => 156 | 218 => 157 | 219 => 154 | 260 => 203 | 217 => 199 | 225 => 200 | 224 => 201 | 267 => 202 | 266 => 243 | 314 => 244 | n => n, fun | 9 => 9 | 31 => 103 | 3 => 3 | 4 => 4 | 0 => 0 | 105 => 231 | 21 => 21 | 5 => 5 | 46 => 229 | 119 => 309 | 139 => 312 | 138 => 311 | 146 => 307 | 51 => 278 | n => n, fun | 1 => 1 | 3 => 4 | 4 => 5 | n => n⟩
theorem Tryz.splitL : Go.Proofs.Lays.n146 Tryz.prog Tryz.splitL_ren := {
 mixed := by kernel_rfl
 f138 := Tryz.func120.trans (congrArg some (by kernel_rfl))
 f143 := Tryz.func121.trans (congrArg some (by kernel_rfl))
 f146 := Tryz.func46.trans (congrArg some (by kernel_rfl))
 f195 := Tryz.func155.trans (congrArg some (by kernel_rfl))
 f197 := Tryz.func156.trans (congrArg some (by kernel_rfl))
 f217 := Tryz.func199.trans (congrArg some (by kernel_rfl))
 f218 := Tryz.func157.trans (congrArg some (by kernel_rfl))
 f219 := Tryz.func154.trans (congrArg some (by kernel_rfl))
 f221 := Tryz.func89.trans (congrArg some (by kernel_rfl))
 f224 := Tryz.func201.trans (congrArg some (by kernel_rfl))
 f225 := Tryz.func200.trans (congrArg some (by kernel_rfl))
 f260 := Tryz.func203.trans (congrArg some (by kernel_rfl))
 f266 := Tryz.func243.trans (congrArg some (by kernel_rfl))
 f267 := Tryz.func202.trans (congrArg some (by kernel_rfl))
 f268 := Tryz.func119.trans (congrArg some (by kernel_rfl))
 f314 := Tryz.func244.trans (congrArg some (by kernel_rfl))
 t0 := Tryz.underlying0
 a0 := Tryz.isAgg0
 z0 := Tryz.sizeOf0
 v0 := Tryz.zeroValue0
 t3 := Tryz.underlying3
 a3 := Tryz.isAgg3
 z3 := Tryz.sizeOf3
 v3 := Tryz.zeroValue3
 t4 := Tryz.underlying4
 a4 := Tryz.isAgg4
 z4 := Tryz.sizeOf4
 v4 := Tryz.zeroValue4
 t5 := Tryz.underlying5
 a5 := Tryz.isAgg5
 z5 := Tryz.sizeOf5
 v5 := Tryz.zeroValue5
 t9 := Tryz.underlying9
 a9 := Tryz.isAgg9
 z9 := Tryz.sizeOf9
 v9 := Tryz.zeroValue9
 t21 := Tryz.underlying21
 a21 := Tryz.isAgg21
 z21 := Tryz.sizeOf21
 v21 := Tryz.zeroValue21
 t31 := Tryz.underlying103
 a31 := Tryz.isAgg103
 z31 := Tryz.sizeOf103
 v31 := Tryz.zeroValue103
 t46 := Tryz.underlying229
 a46 := Tryz.isAgg229
 z46 := Tryz.sizeOf229
 v46 := Tryz.zeroValue229
 t51 := Tryz.underlying278
 a51 := Tryz.isAgg278
 z51 := Tryz.sizeOf278
 v51 := Tryz.zeroValue278
 t105 := Tryz.underlying231
 a105 := Tryz.isAgg231
 z105 := Tryz.sizeOf231
 v105 := Tryz.zeroValue231
 t119 := Tryz.underlying309
 a119 := Tryz.isAgg309
 z119 := Tryz.sizeOf309
 t138 := Tryz.underlying311
 a138 := Tryz.isAgg311
 z138 := Tryz.sizeOf311
 v138 := Tryz.zeroValue311
 t139 := Tryz.underlying312
 a139 := Tryz.isAgg312
 z139 := Tryz.sizeOf312
 v139 := Tryz.zeroValue312
 t146 := Tryz.underlying307
 a146 := Tryz.isAgg307
 z146 := Tryz.sizeOf307
 v146 := Tryz.zeroValue307
 g1 := by kernel_rfl
 g3 := by kernel_rfl
 g4 := by kernel_rfl }
def Tryz.cutL_ren : Go.Shelf.Ren := ⟨fun | 145 => 88 | 220 => 118 | 219 => 154 | 217 => 199 | 225 => 200 | 224 => 201 | 267 => 202 | 266 => 243 | 314 => 244 | n => n, fun | 9 => 9 | 4 => 4 | 59 => 154 | 3 => 3 | 5 => 5 | 46 => 229 | 146 => 307 | 51 => 278 | n => n, fun | 1 => 1 | n => n⟩
theorem Tryz.cutL : Go.Proofs.Lays.n145 Tryz.prog Tryz.cutL_ren := {
 mixed := by kernel_rfl
 f145 := Tryz.func88.trans (congrArg some (by kernel_rfl))
 f217 := Tryz.func199.trans (congrArg some (by kernel_rfl))
 f219 := Tryz.func154.trans (congrArg some (by kernel_rfl))
 f220 := Tryz.func118.trans (congrArg some (by kernel_rfl))
 f224 := Tryz.func201.trans (congrArg some (by kernel_rfl))
 f225 := Tryz.func200.trans (congrArg some (by kernel_rfl))
 f266 := Tryz.func243.trans (congrArg some (by kernel_rfl))
 f267 := Tryz.func202.trans (congrArg some (by kernel_rfl))
 f314 := Tryz.func244.trans (congrArg some (by kernel_rfl))
 t3 := Tryz.underlying3
 a3 := Tryz.isAgg3
 z3 := Tryz.sizeOf3
 v3 := Tryz.zeroValue3
 t4 := Tryz.underlying4
 a4 := Tryz.isAgg4
 z4 := Tryz.sizeOf4
 v4 := Tryz.zeroValue4
 t5 := Tryz.underlying5
 a5 := Tryz.isAgg5
 z5 := Tryz.sizeOf5
 v5 := Tryz.zeroValue5
 t9 := Tryz.underlying9
 a9 := Tryz.isAgg9
 z9 := Tryz.sizeOf9
 v9 := Tryz.zeroValue9
 t46 := Tryz.underlying229
 a46 := Tryz.isAgg229
 z46 := Tryz.sizeOf229
 v46 := Tryz.zeroValue229
 t51 := Tryz.underlying278
 a51 := Tryz.isAgg278
 z51 := Tryz.sizeOf278
 v51 := Tryz.zeroValue278
 t59 := Tryz.underlying154
 a59 := Tryz.isAgg154
 z59 := Tryz.sizeOf154
 v59 := Tryz.zeroValue154
 t146 := Tryz.underlying307
 a146 := Tryz.isAgg307
 z146 := Tryz.sizeOf307
 v146 := Tryz.zeroValue307
 g1 := by kernel_rfl }
end Go.Proofs
namespace Go.Proofs.YtmcjccigglekpaaGreatDoor.Given
open Go Go.RowKit Go.Proofs Go.Proofs.YtmcjccigglekpaaGreatDoorW.PrintWords Go.Lib Go.Sort

/-- A cell holds an error, or none. -/
def ErrCell (w : World) (g : Nat) : Prop := ∃ ev, w.cell? ⟨g, 0, none⟩ = some ev ∧ (ev = .nilIface ∨ ∃ te pe, ev = .iface te pe)
/-- The library's variables: the table of powers, the two errors, a number. -/
def GL (w : World) : Prop := Lib.TabIs Tryz.prog w "internal/strconv.uint64pow10" .u64 Lib.pow10Tab ∧ ErrCell w 2 ∧ ErrCell w 3 ∧ ∃ m, w.cell? ⟨1, 0, none⟩ = some (.int .i64 m)
theorem cell_on {w w' : World} {g : Nat} {v : Value} (h : w.cell? ⟨g, 0, none⟩ = some v) (hb : Below w.heap.size w w') : w'.cell? ⟨g, 0, none⟩ = some v := (hb.cell (World.block_lt_of_cell? w _ h)).trans h
theorem ErrCell.below {w w' : World} {g : Nat} (h : ErrCell w g) (hb : Below w.heap.size w w') : ErrCell w' g := h.elim fun ev hv => ⟨ev, cell_on hv.1 hb, hv.2⟩
theorem GL.below {w w' : World} (h : GL w) (hb : Below w.heap.size w w') : GL w' :=
 ⟨((Lib.tabBelow_of_tabIs h.1).on hb).here, h.2.1.below hb, h.2.2.1.below hb, h.2.2.2.elim fun m hm => ⟨m, cell_on hm hb⟩⟩
theorem below_grow (w : World) (k : Nat) (os : Array Obj) : Below w.heap.size w (grow (w.drewN k) os) :=
 ⟨rfl, rfl, rfl, by simp [grow, World.drewN], fun i hi => by simp [grow, World.drewN, Array.getElem?_append_left hi]⟩
theorem below_drewN (w : World) (k : Nat) : Below w.heap.size w (w.drewN k) := ⟨rfl, rfl, rfl, by simp [World.drewN], fun _ _ => rfl⟩

/-- A number of 64 bits. -/
def R64 (n : Int) : Prop := -9223372036854775808 ≤ n ∧ n ≤ 9223372036854775807
/-- A number as text. -/
def itoS (n : Int) : ByteArray := ⟨(Lib.itoa n).toArray⟩
theorem itoa_calls (n : Int) (hn : R64 n) (w : World) (hG : GL w) : Calls Tryz.prog 62 #[.int .i64 n] w fun e w' => e = .returned (.string (itoS n)) ∧ Below w.heap.size w w' := by
 refine Calls.mono (Any.strconv_Itoa Tryz.itoaM n hn.1 hn.2 w hG.1) ?_
 rintro e w' ⟨rfl, k, os, rfl⟩
 exact ⟨rfl, below_grow w k os⟩
theorem fmt_calls (n : Int) (hn : R64 n) (w : World) (hG : GL w) : Calls Tryz.prog 63 #[.int .i64 n, .int .i64 10] w fun e w' => e = .returned (.string (itoS n)) ∧ Below w.heap.size w w' := by
 refine Calls.mono (Any.strconv_FormatInt_10 Tryz.fmtM n hn.1 hn.2 w hG.1) ?_
 rintro e w' ⟨rfl, k, os, rfl⟩
 exact ⟨rfl, below_grow w k os⟩

/-- What strings.Cut tells. -/
def cutA (s sep : ByteArray) : ByteArray := ⟨(Lib.cut s.data.toList sep.data.toList).1.toArray⟩
def cutB (s sep : ByteArray) : ByteArray := ⟨(Lib.cut s.data.toList sep.data.toList).2.1.toArray⟩
def cutC (s sep : ByteArray) : Bool := (Lib.cut s.data.toList sep.data.toList).2.2
theorem cut_calls (s sep : ByteArray) (hs : s.size ≤ 1000000) (w : World) (hG : GL w) : Calls Tryz.prog 88 #[.string s, .string sep] w fun e w' => e = .returned (.tuple #[.string (cutA s sep), .string (cutB s sep), .bool (cutC s sep)]) ∧ ∃ n, w' = w.drewN n := by
 obtain ⟨_, _, _, m, hm⟩ := hG
 exact Any.strings_Cut Tryz.cutL s sep m w (by omega) hm

/-- The space. -/
def sp : ByteArray := ⟨#[32]⟩
/-- The pieces of a text. -/
def piecesB (s : ByteArray) : List ByteArray := Lib.splitB sp 0 (Lib.countB s sp) s
theorem split_calls (s : ByteArray) (hs : s.size ≤ 1000000) (w : World) (hG : GL w) : Calls Tryz.prog 46 #[.string s, .string ⟨#[32]⟩] w fun e w' =>
  e = .returned (.slice (some ⟨w.heap.size, 0, none⟩) (piecesB s).length (piecesB s).length) ∧ w' = w.alloc (.cells ((piecesB s).map Value.string).toArray 9) := by
 obtain ⟨_, _, _, m, hm⟩ := hG
 have hl : (piecesB s).length = Lib.countB s sp + 1 := Lib.splitB_all sp (by decide) 0 _ s rfl
 have h := Any.strings_Split Tryz.splitL (by kernel_rfl) s sp m w (by omega) hm (by decide)
 rw [hl]
 exact h
end Go.Proofs.YtmcjccigglekpaaGreatDoor.Given
namespace Go.Proofs.YtmcjccigglekpaaGreatDoor.Given
open Go Go.RowKit Go.Proofs Go.Proofs.YtmcjccigglekpaaGreatDoorW.PrintWords Go.Lib Go.Sort

/-- The number that a word is read as; 0, or the nearest one, where it is none. -/
def numS (s : ByteArray) : Int := match Lib.parseIntB 64 s.data.toList with
 | .ok v => v
 | .range => Lib.intSat 64 s.data.toList
 | _ => 0
theorem numS_64 (s : ByteArray) : R64 (numS s) := by
 unfold numS
 rcases h : Lib.parseIntB 64 s.data.toList with v | _ | _
 ·show R64 v
  unfold Lib.parseIntB at h
  split at h
  ·cases h
  ·dsimp only at h
   split at h
   ·cases h
   ·cases h
   ·split at h
    ·cases h
    ·split at h
     ·cases h
     ·injection h with h
      subst h
      unfold R64
      split <;> omega
 ·show R64 0; exact ⟨by decide, by decide⟩
 ·show R64 (Lib.intSat 64 _)
  unfold Lib.intSat R64
  split <;> simp
theorem pint_calls (s : ByteArray) (hs : s.size ≤ 1000000) (w : World) (hG : GL w) : Calls Tryz.prog 90 #[.string s, .int .i64 10, .int .i64 64] w fun e w' => (∃ ev, e = .returned (.tuple #[.int .i64 (numS s), ev])) ∧ Below w.heap.size w w' := by
 obtain ⟨_, ⟨e1, hv1, he1⟩, ⟨e2, hv2, he2⟩, _⟩ := hG
 rcases hq : Lib.parseIntB 64 s.data.toList with v | _ | _
 ·have hn : numS s = v := by unfold numS; rw [hq]
  rw [hn]
  refine Calls.mono (Any.strconv_ParseInt_10_at64_ok Tryz.pintC s (by omega) v hq w) ?_
  rintro e w' ⟨rfl, hw⟩
  refine ⟨⟨_, rfl⟩, ?_⟩
  rcases hw with rfl | ⟨t, rfl⟩
  ·exact Below.refl _ _
  ·exact Lib.bytesWorld_below _ _ _
 ·have hn : numS s = 0 := by unfold numS; rw [hq]
  rw [hn]
  refine Calls.mono (Any.strconv_ParseInt_10_at64_syntax Tryz.pintC s (by omega) hq e1 w hv1 he1) ?_
  rintro e w' ⟨N, rfl, _, _, hb⟩
  exact ⟨⟨_, rfl⟩, hb⟩
 ·have hn : numS s = Lib.intSat 64 s.data.toList := by unfold numS; rw [hq]
  rw [hn]
  refine Calls.mono (Any.strconv_ParseInt_10_at64_range Tryz.pintC s (by omega) hq e2 w hv2 he2) ?_
  rintro e w' ⟨N, rfl, _, _, hb⟩
  exact ⟨⟨_, rfl⟩, hb⟩
end Go.Proofs.YtmcjccigglekpaaGreatDoor.Given
