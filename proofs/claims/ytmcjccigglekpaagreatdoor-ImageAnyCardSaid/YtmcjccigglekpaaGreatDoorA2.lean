/- Texts of this seat, joined. -/
import Derived.Test.YtmcjccigglekpaaGreatDoorProg
import Derived.Below
import Derived.Deep.Draws
import Derived.Deep.AppendLies
import Derived.Maps.AppendAt
import Derived.OwnWalk
import Derived.Laws.BytesArg
import Derived.Laws.MakeOwn
import Derived.Laws.OwnMore
import Derived.Deep.OwnRows
import Derived.Tactics
import Derived.Lib.ConvBytes
import Derived.Laws.Slices
import Derived.WalkKit
import Derived.KernelRfl
import Derived.RowKit3
import Derived.Deep.LoopGhost
import Derived.Deep.QuietTactic
import Derived.BigQuiet
import Derived.WideLaws
import Derived.Deep.DeepCutAuto
import Derived.Deep.CutBlock
import Derived.Deep.RegionHeld3
import Derived.Laws.Rows
import Derived.Lib.AppendStr
import Derived.ArgAppend
import Derived.Laws.IdiomCopy
import Derived.OrdersHeld
import Derived.Laws.BitsLemmas
import Derived.RowKit
import Derived.Test.YtmcjccigglekpaaGreatDoorA0
import Derived.Test.YtmcjccigglekpaaGreatDoorA1
import Derived.Lib.Hide
import Derived.Outline
import Derived.Lib.Strings
import Derived.Lib.Slices
import Derived.Lib.Walk
import Derived.Lib.Builder
import Derived.Lib.UnsafeStr
import Derived.Laws.Externs
import Derived.Shelf.RegionOpenPlain
namespace Go.Proofs.YtmcjccigglekpaaGreatDoor.Given
end Go.Proofs.YtmcjccigglekpaaGreatDoor.Given
namespace Go.Proofs.YtmcjccigglekpaaGreatDoor.P
open Go.Proofs.YtmcjccigglekpaaGreatDoor.Given
open Go.RowKit Go.Proofs.YtmcjccigglekpaaGreatDoorW.PrintWords Go.Proofs.YtmcjccigglekpaaGreatDoorW.PrintLast Go.Proofs.YtmcjccigglekpaaGreatDoorW.PrintMore
attribute [local go_sem] max2_int min2_int max_two min_two max_three min_three max_four min_four   -- for this text's walks alone
set_option linter.unusedVariables false
set_option linter.unusedSimpArgs false



def errW : Option Int → Value
 | none => .nilIface
 | some c => .iface 0 (.int .i64 c)
theorem errW_none : errW none = .nilIface := rfl
theorem errW_some (c : Int) : errW (some c) = .iface 0 (.int .i64 c) := rfl

theorem info2 : (Tryz.prog.info? 2).map (fun i => (i.zero, i.size, i.bytes)) = some (some (.int .i64 0), 1, 8) := by kernel_rfl
theorem info3 : (Tryz.prog.info? 3).map (fun i => (i.zero, i.size, i.bytes)) = some (some (.int .i64 0), 1, 8) := by kernel_rfl
theorem info5 : (Tryz.prog.info? 5).map (fun i => (i.zero, i.size, i.bytes)) = some (some (.int .u8 0), 1, 1) := by kernel_rfl
theorem info9 : (Tryz.prog.info? 9).map (fun i => (i.zero, i.size, i.bytes)) = some (some (.string ⟨#[]⟩), 1, 16) := by kernel_rfl
theorem info29 : (Tryz.prog.info? 29).map (fun i => (i.zero, i.size, i.bytes)) = some (some (.slice none 0 0), 1, 24) := by kernel_rfl
theorem info70 : (Tryz.prog.info? 70).map (fun i => (i.zero, i.size, i.bytes)) = some (some (.agg #[(.int .i64 0), (.int .i64 0), (.int .i64 0), (.int .i64 0), (.int .i64 0), (.int .i64 0), (.int .i64 0), (.int .i64 0)]), 8, 64) := by kernel_rfl
-- the values' own types
/-! #### struct type 74 -/
structure S74 where
 f0 : Int
 f1 : Int
def z74 : S74 := ⟨(0 : Int), (0 : Int)⟩
def k74 : Kd S74 := Kd.iso (Kd.pair (Kd.int .i64) (Kd.int .i64)) (fun x : S74 => (x.f0, x.f1))
theorem k74_open {w : World} {x : S74} {cs : List Value} (h : k74.K w x cs) : cs = [.int .i64 x.f0, .int .i64 x.f1] := by
 obtain ⟨_, _, rfl, rfl, rfl⟩ := h
 exact rfl
theorem k74_openM {w : World} {base : Nat} {ok : Nat → Prop} {x : S74} {cs : List Value} (h : k74.M w base ok x cs) : cs = [.int .i64 x.f0, .int .i64 x.f1] := by
 obtain ⟨_, _, rfl, rfl, rfl⟩ := h
 exact rfl
theorem k74_mk (w : World) (x : S74)  : k74.K w x [.int .i64 x.f0, .int .i64 x.f1] := ⟨[.int .i64 x.f0], [.int .i64 x.f1], rfl, rfl, rfl⟩
theorem k74_mkM (w : World) (base : Nat) (ok : Nat → Prop) (x : S74)  : k74.M w base ok x [.int .i64 x.f0, .int .i64 x.f1] := ⟨[.int .i64 x.f0], [.int .i64 x.f1], rfl, rfl, rfl⟩
def rd_T74 (xs : List S74) (i : Int) : S74 := xs.getD i.toNat z74
theorem at_T74 {w : World} {A : Option Addr} {n : Nat} {xs : List S74} (h : Kd.C k74 w A n xs) (i : Int) (h0 : 0 ≤ i) (h1 : i < n) : ∃ ad , A = some ad ∧ w.cell? (ad.add (i.toNat * 2)) = some (.int .i64 (rd_T74 xs i).f0) ∧ w.cell? ⟨(ad.add (i.toNat * 2)).block, (ad.add (i.toNat * 2)).off + 1, none⟩ = some (.int .i64 (rd_T74 xs i).f1) := by
 obtain ⟨ad, c, e, _, hK, hc0⟩ := Kd.C_get h z74 i h0 h1
 have hc : ∀ j u, c[j]? = some u → w.cell? (ad.add (i.toNat * 2 + j)) = some u := hc0
 obtain rfl := k74_open hK
 exact ⟨ad, e, hc 0 _ rfl, by rw [← add_field _ _ 1 (by omega)]; exact hc 1 _ rfl⟩

/-! #### struct type 95 -/
structure S95 where
 f0 : Int
 f1 : Int
 f2 : Int
 f3 : Bool
 f4 : S74
 f5 : Int
 f6 : Bool
def z95 : S95 := ⟨(0 : Int), (0 : Int), (0 : Int), false, z74, (0 : Int), false⟩
def k95 : Kd S95 := Kd.iso (Kd.pair (Kd.int .i64) (Kd.pair (Kd.int .i64) (Kd.pair (Kd.int .i64) (Kd.pair Kd.bool (Kd.pair k74 (Kd.pair (Kd.int .i64) Kd.bool)))))) (fun x : S95 => (x.f0, x.f1, x.f2, x.f3, x.f4, x.f5, x.f6))
theorem k95_open {w : World} {x : S95} {cs : List Value} (h : k95.K w x cs) : cs = [.int .i64 x.f0, .int .i64 x.f1, .int .i64 x.f2, .bool x.f3, .int .i64 x.f4.f0, .int .i64 x.f4.f1, .int .i64 x.f5, .bool x.f6] := by
 obtain ⟨_, _, rfl, rfl, ⟨_, _, rfl, rfl, ⟨_, _, rfl, rfl, ⟨_, _, rfl, rfl, ⟨_, _, rfl, s4, ⟨_, _, rfl, rfl, rfl⟩⟩⟩⟩⟩⟩ := h
 obtain rfl := k74_open s4
 exact rfl
theorem k95_openM {w : World} {base : Nat} {ok : Nat → Prop} {x : S95} {cs : List Value} (h : k95.M w base ok x cs) : cs = [.int .i64 x.f0, .int .i64 x.f1, .int .i64 x.f2, .bool x.f3, .int .i64 x.f4.f0, .int .i64 x.f4.f1, .int .i64 x.f5, .bool x.f6] := by
 obtain ⟨_, _, rfl, rfl, ⟨_, _, rfl, rfl, ⟨_, _, rfl, rfl, ⟨_, _, rfl, rfl, ⟨_, _, rfl, s4, ⟨_, _, rfl, rfl, rfl⟩⟩⟩⟩⟩⟩ := h
 obtain rfl := k74_openM s4
 exact rfl
theorem k95_mk (w : World) (x : S95)  : k95.K w x [.int .i64 x.f0, .int .i64 x.f1, .int .i64 x.f2, .bool x.f3, .int .i64 x.f4.f0, .int .i64 x.f4.f1, .int .i64 x.f5, .bool x.f6] := ⟨[.int .i64 x.f0], [.int .i64 x.f1, .int .i64 x.f2, .bool x.f3, .int .i64 x.f4.f0, .int .i64 x.f4.f1, .int .i64 x.f5, .bool x.f6], rfl, rfl, ⟨[.int .i64 x.f1], [.int .i64 x.f2, .bool x.f3, .int .i64 x.f4.f0, .int .i64 x.f4.f1, .int .i64 x.f5, .bool x.f6], rfl, rfl, ⟨[.int .i64 x.f2], [.bool x.f3, .int .i64 x.f4.f0, .int .i64 x.f4.f1, .int .i64 x.f5, .bool x.f6], rfl, rfl, ⟨[.bool x.f3], [.int .i64 x.f4.f0, .int .i64 x.f4.f1, .int .i64 x.f5, .bool x.f6], rfl, rfl, ⟨[.int .i64 x.f4.f0, .int .i64 x.f4.f1], [.int .i64 x.f5, .bool x.f6], rfl, (k74_mk w x.f4 ), ⟨[.int .i64 x.f5], [.bool x.f6], rfl, rfl, rfl⟩⟩⟩⟩⟩⟩
theorem k95_mkM (w : World) (base : Nat) (ok : Nat → Prop) (x : S95)  : k95.M w base ok x [.int .i64 x.f0, .int .i64 x.f1, .int .i64 x.f2, .bool x.f3, .int .i64 x.f4.f0, .int .i64 x.f4.f1, .int .i64 x.f5, .bool x.f6] := ⟨[.int .i64 x.f0], [.int .i64 x.f1, .int .i64 x.f2, .bool x.f3, .int .i64 x.f4.f0, .int .i64 x.f4.f1, .int .i64 x.f5, .bool x.f6], rfl, rfl, ⟨[.int .i64 x.f1], [.int .i64 x.f2, .bool x.f3, .int .i64 x.f4.f0, .int .i64 x.f4.f1, .int .i64 x.f5, .bool x.f6], rfl, rfl, ⟨[.int .i64 x.f2], [.bool x.f3, .int .i64 x.f4.f0, .int .i64 x.f4.f1, .int .i64 x.f5, .bool x.f6], rfl, rfl, ⟨[.bool x.f3], [.int .i64 x.f4.f0, .int .i64 x.f4.f1, .int .i64 x.f5, .bool x.f6], rfl, rfl, ⟨[.int .i64 x.f4.f0, .int .i64 x.f4.f1], [.int .i64 x.f5, .bool x.f6], rfl, (k74_mkM w base ok x.f4 ), ⟨[.int .i64 x.f5], [.bool x.f6], rfl, rfl, rfl⟩⟩⟩⟩⟩⟩
def rd_T95 (xs : List S95) (i : Int) : S95 := xs.getD i.toNat z95
theorem at_T95 {w : World} {A : Option Addr} {n : Nat} {xs : List S95} (h : Kd.C k95 w A n xs) (i : Int) (h0 : 0 ≤ i) (h1 : i < n) : ∃ ad , A = some ad ∧ w.cell? (ad.add (i.toNat * 8)) = some (.int .i64 (rd_T95 xs i).f0) ∧ w.cell? ⟨(ad.add (i.toNat * 8)).block, (ad.add (i.toNat * 8)).off + 1, none⟩ = some (.int .i64 (rd_T95 xs i).f1) ∧ w.cell? ⟨(ad.add (i.toNat * 8)).block, (ad.add (i.toNat * 8)).off + 2, none⟩ = some (.int .i64 (rd_T95 xs i).f2) ∧ w.cell? ⟨(ad.add (i.toNat * 8)).block, (ad.add (i.toNat * 8)).off + 3, none⟩ = some (.bool (rd_T95 xs i).f3) ∧ w.cell? ⟨(ad.add (i.toNat * 8)).block, (ad.add (i.toNat * 8)).off + 4, none⟩ = some (.int .i64 (rd_T95 xs i).f4.f0) ∧ w.cell? ⟨(ad.add (i.toNat * 8)).block, (ad.add (i.toNat * 8)).off + 5, none⟩ = some (.int .i64 (rd_T95 xs i).f4.f1) ∧ w.cell? ⟨(ad.add (i.toNat * 8)).block, (ad.add (i.toNat * 8)).off + 6, none⟩ = some (.int .i64 (rd_T95 xs i).f5) ∧ w.cell? ⟨(ad.add (i.toNat * 8)).block, (ad.add (i.toNat * 8)).off + 7, none⟩ = some (.bool (rd_T95 xs i).f6) := by
 obtain ⟨ad, c, e, _, hK, hc0⟩ := Kd.C_get h z95 i h0 h1
 have hc : ∀ j u, c[j]? = some u → w.cell? (ad.add (i.toNat * 8 + j)) = some u := hc0
 obtain rfl := k95_open hK
 exact ⟨ad, e, hc 0 _ rfl, by rw [← add_field _ _ 1 (by omega)]; exact hc 1 _ rfl, by rw [← add_field _ _ 2 (by omega)]; exact hc 2 _ rfl, by rw [← add_field _ _ 3 (by omega)]; exact hc 3 _ rfl, by rw [← add_field _ _ 4 (by omega)]; exact hc 4 _ rfl, by rw [← add_field _ _ 5 (by omega)]; exact hc 5 _ rfl, by rw [← add_field _ _ 6 (by omega)]; exact hc 6 _ rfl, by rw [← add_field _ _ 7 (by omega)]; exact hc 7 _ rfl⟩

/-! #### struct type 87 -/
structure S87 where
 f0 : Int
 f1 : Int
 f2 : Int
 f3 : Int
 f4 : Int
def z87 : S87 := ⟨(0 : Int), (0 : Int), (0 : Int), (0 : Int), (0 : Int)⟩
def k87 : Kd S87 := Kd.iso (Kd.pair (Kd.int .i64) (Kd.pair (Kd.int .i64) (Kd.pair (Kd.int .i64) (Kd.pair (Kd.int .i64) (Kd.int .i64))))) (fun x : S87 => (x.f0, x.f1, x.f2, x.f3, x.f4))
theorem k87_open {w : World} {x : S87} {cs : List Value} (h : k87.K w x cs) : cs = [.int .i64 x.f0, .int .i64 x.f1, .int .i64 x.f2, .int .i64 x.f3, .int .i64 x.f4] := by
 obtain ⟨_, _, rfl, rfl, ⟨_, _, rfl, rfl, ⟨_, _, rfl, rfl, ⟨_, _, rfl, rfl, rfl⟩⟩⟩⟩ := h
 exact rfl
theorem k87_openM {w : World} {base : Nat} {ok : Nat → Prop} {x : S87} {cs : List Value} (h : k87.M w base ok x cs) : cs = [.int .i64 x.f0, .int .i64 x.f1, .int .i64 x.f2, .int .i64 x.f3, .int .i64 x.f4] := by
 obtain ⟨_, _, rfl, rfl, ⟨_, _, rfl, rfl, ⟨_, _, rfl, rfl, ⟨_, _, rfl, rfl, rfl⟩⟩⟩⟩ := h
 exact rfl
theorem k87_mk (w : World) (x : S87)  : k87.K w x [.int .i64 x.f0, .int .i64 x.f1, .int .i64 x.f2, .int .i64 x.f3, .int .i64 x.f4] := ⟨[.int .i64 x.f0], [.int .i64 x.f1, .int .i64 x.f2, .int .i64 x.f3, .int .i64 x.f4], rfl, rfl, ⟨[.int .i64 x.f1], [.int .i64 x.f2, .int .i64 x.f3, .int .i64 x.f4], rfl, rfl, ⟨[.int .i64 x.f2], [.int .i64 x.f3, .int .i64 x.f4], rfl, rfl, ⟨[.int .i64 x.f3], [.int .i64 x.f4], rfl, rfl, rfl⟩⟩⟩⟩
theorem k87_mkM (w : World) (base : Nat) (ok : Nat → Prop) (x : S87)  : k87.M w base ok x [.int .i64 x.f0, .int .i64 x.f1, .int .i64 x.f2, .int .i64 x.f3, .int .i64 x.f4] := ⟨[.int .i64 x.f0], [.int .i64 x.f1, .int .i64 x.f2, .int .i64 x.f3, .int .i64 x.f4], rfl, rfl, ⟨[.int .i64 x.f1], [.int .i64 x.f2, .int .i64 x.f3, .int .i64 x.f4], rfl, rfl, ⟨[.int .i64 x.f2], [.int .i64 x.f3, .int .i64 x.f4], rfl, rfl, ⟨[.int .i64 x.f3], [.int .i64 x.f4], rfl, rfl, rfl⟩⟩⟩⟩
def rd_T87 (xs : List S87) (i : Int) : S87 := xs.getD i.toNat z87
theorem at_T87 {w : World} {A : Option Addr} {n : Nat} {xs : List S87} (h : Kd.C k87 w A n xs) (i : Int) (h0 : 0 ≤ i) (h1 : i < n) : ∃ ad , A = some ad ∧ w.cell? (ad.add (i.toNat * 5)) = some (.int .i64 (rd_T87 xs i).f0) ∧ w.cell? ⟨(ad.add (i.toNat * 5)).block, (ad.add (i.toNat * 5)).off + 1, none⟩ = some (.int .i64 (rd_T87 xs i).f1) ∧ w.cell? ⟨(ad.add (i.toNat * 5)).block, (ad.add (i.toNat * 5)).off + 2, none⟩ = some (.int .i64 (rd_T87 xs i).f2) ∧ w.cell? ⟨(ad.add (i.toNat * 5)).block, (ad.add (i.toNat * 5)).off + 3, none⟩ = some (.int .i64 (rd_T87 xs i).f3) ∧ w.cell? ⟨(ad.add (i.toNat * 5)).block, (ad.add (i.toNat * 5)).off + 4, none⟩ = some (.int .i64 (rd_T87 xs i).f4) := by
 obtain ⟨ad, c, e, _, hK, hc0⟩ := Kd.C_get h z87 i h0 h1
 have hc : ∀ j u, c[j]? = some u → w.cell? (ad.add (i.toNat * 5 + j)) = some u := hc0
 obtain rfl := k87_open hK
 exact ⟨ad, e, hc 0 _ rfl, by rw [← add_field _ _ 1 (by omega)]; exact hc 1 _ rfl, by rw [← add_field _ _ 2 (by omega)]; exact hc 2 _ rfl, by rw [← add_field _ _ 3 (by omega)]; exact hc 3 _ rfl, by rw [← add_field _ _ 4 (by omega)]; exact hc 4 _ rfl⟩

def rd_L5 (xs : List (List S87)) (i : Int) : (List S87) := xs.getD i.toNat ([] : List S87)
theorem at_L5 {w : World} {A : Option Addr} {n : Nat} {xs : List (List S87)} (h : Kd.C (Kd.slice 87 k87) w A n xs) (i : Int) (h0 : 0 ≤ i) (h1 : i < n) : ∃ ad A0 c0, A = some ad ∧ w.cell? (ad.add i.toNat) = some (.slice A0 (rd_L5 xs i).length c0) ∧ (rd_L5 xs i).length ≤ c0 ∧ k87.C w A0 (rd_L5 xs i).length (rd_L5 xs i) := by
 obtain ⟨ad, c, e, _, hK, hc0⟩ := Kd.C_get h ([] : List S87) i h0 h1
 have hc : ∀ j u, c[j]? = some u → w.cell? (ad.add (i.toNat * 1 + j)) = some u := hc0
 obtain ⟨A0, c0, rfl, l0, g0⟩ := hK
 exact ⟨ad, A0, c0, e, by have hq := hc 0 _ rfl; rwa [Nat.mul_one, Nat.add_zero] at hq, l0, g0⟩

def rd_L6 (xs : List (List S95)) (i : Int) : (List S95) := xs.getD i.toNat ([] : List S95)
theorem at_L6 {w : World} {A : Option Addr} {n : Nat} {xs : List (List S95)} (h : Kd.C (Kd.slice 95 k95) w A n xs) (i : Int) (h0 : 0 ≤ i) (h1 : i < n) : ∃ ad A0 c0, A = some ad ∧ w.cell? (ad.add i.toNat) = some (.slice A0 (rd_L6 xs i).length c0) ∧ (rd_L6 xs i).length ≤ c0 ∧ k95.C w A0 (rd_L6 xs i).length (rd_L6 xs i) := by
 obtain ⟨ad, c, e, _, hK, hc0⟩ := Kd.C_get h ([] : List S95) i h0 h1
 have hc : ∀ j u, c[j]? = some u → w.cell? (ad.add (i.toNat * 1 + j)) = some u := hc0
 obtain ⟨A0, c0, rfl, l0, g0⟩ := hK
 exact ⟨ad, A0, c0, e, by have hq := hc 0 _ rfl; rwa [Nat.mul_one, Nat.add_zero] at hq, l0, g0⟩

/-! #### struct type 59 -/
structure S59 where
 f0 : Int
 f1 : Int
 f2 : (List S95)
def z59 : S59 := ⟨(0 : Int), (0 : Int), ([] : List S95)⟩
def k59 : Kd S59 := Kd.iso (Kd.pair (Kd.int .i64) (Kd.pair (Kd.int .i64) (Kd.slice 95 k95))) (fun x : S59 => (x.f0, x.f1, x.f2))
theorem k59_open {w : World} {x : S59} {cs : List Value} (h : k59.K w x cs) : ∃ A2 c2, cs = [.int .i64 x.f0, .int .i64 x.f1, .slice A2 x.f2.length c2] ∧ x.f2.length ≤ c2 ∧ k95.C w A2 x.f2.length x.f2 := by
 obtain ⟨_, _, rfl, rfl, ⟨_, _, rfl, rfl, ⟨A2, c2, rfl, l2, g2⟩⟩⟩ := h
 exact ⟨A2, c2, rfl, l2, g2⟩
theorem k59_openM {w : World} {base : Nat} {ok : Nat → Prop} {x : S59} {cs : List Value} (h : k59.M w base ok x cs) : ∃ v2, cs = [.int .i64 x.f0, .int .i64 x.f1, v2] ∧ k95.R 95 w base ok v2 x.f2 := by
 obtain ⟨_, _, rfl, rfl, ⟨_, _, rfl, rfl, ⟨v2, rfl, g2⟩⟩⟩ := h
 exact ⟨v2, rfl, g2⟩
theorem k59_mk (w : World) (x : S59) {A2 : Option Addr} {c2 : Nat} (l2 : x.f2.length ≤ c2) (g2 : k95.C w A2 x.f2.length x.f2) : k59.K w x [.int .i64 x.f0, .int .i64 x.f1, .slice A2 x.f2.length c2] := ⟨[.int .i64 x.f0], [.int .i64 x.f1, .slice A2 x.f2.length c2], rfl, rfl, ⟨[.int .i64 x.f1], [.slice A2 x.f2.length c2], rfl, rfl, ⟨A2, c2, rfl, l2, g2⟩⟩⟩
theorem k59_mkM (w : World) (base : Nat) (ok : Nat → Prop) (x : S59) {v2 : Value} (g2 : k95.R 95 w base ok v2 x.f2) : k59.M w base ok x [.int .i64 x.f0, .int .i64 x.f1, v2] := ⟨[.int .i64 x.f0], [.int .i64 x.f1, v2], rfl, rfl, ⟨[.int .i64 x.f1], [v2], rfl, rfl, ⟨v2, rfl, g2⟩⟩⟩
def rd_T59 (xs : List S59) (i : Int) : S59 := xs.getD i.toNat z59
theorem at_T59 {w : World} {A : Option Addr} {n : Nat} {xs : List S59} (h : Kd.C k59 w A n xs) (i : Int) (h0 : 0 ≤ i) (h1 : i < n) : ∃ ad A2 c2, A = some ad ∧ w.cell? (ad.add (i.toNat * 3)) = some (.int .i64 (rd_T59 xs i).f0) ∧ w.cell? ⟨(ad.add (i.toNat * 3)).block, (ad.add (i.toNat * 3)).off + 1, none⟩ = some (.int .i64 (rd_T59 xs i).f1) ∧ w.cell? ⟨(ad.add (i.toNat * 3)).block, (ad.add (i.toNat * 3)).off + 2, none⟩ = some (.slice A2 (rd_T59 xs i).f2.length c2) ∧ (rd_T59 xs i).f2.length ≤ c2 ∧ k95.C w A2 (rd_T59 xs i).f2.length (rd_T59 xs i).f2 := by
 obtain ⟨ad, c, e, _, hK, hc0⟩ := Kd.C_get h z59 i h0 h1
 have hc : ∀ j u, c[j]? = some u → w.cell? (ad.add (i.toNat * 3 + j)) = some u := hc0
 obtain ⟨A2, c2, rfl, l2, g2⟩ := k59_open hK
 exact ⟨ad, A2, c2, e, hc 0 _ rfl, by rw [← add_field _ _ 1 (by omega)]; exact hc 1 _ rfl, by rw [← add_field _ _ 2 (by omega)]; exact hc 2 _ rfl, l2, g2⟩

def rd_L8 (xs : List (List Int)) (i : Int) : (List Int) := xs.getD i.toNat ([] : List Int)
theorem at_L8 {w : World} {A : Option Addr} {n : Nat} {xs : List (List Int)} (h : Kd.C (Kd.slice 3 (Kd.int .i64)) w A n xs) (i : Int) (h0 : 0 ≤ i) (h1 : i < n) : ∃ ad A0 c0, A = some ad ∧ w.cell? (ad.add i.toNat) = some (.slice A0 (rd_L8 xs i).length c0) ∧ (rd_L8 xs i).length ≤ c0 ∧ (Kd.int .i64).C w A0 (rd_L8 xs i).length (rd_L8 xs i) := by
 obtain ⟨ad, c, e, _, hK, hc0⟩ := Kd.C_get h ([] : List Int) i h0 h1
 have hc : ∀ j u, c[j]? = some u → w.cell? (ad.add (i.toNat * 1 + j)) = some u := hc0
 obtain ⟨A0, c0, rfl, l0, g0⟩ := hK
 exact ⟨ad, A0, c0, e, by have hq := hc 0 _ rfl; rwa [Nat.mul_one, Nat.add_zero] at hq, l0, g0⟩

/-! #### struct type 82 -/
structure S82 where
 f0 : Bool
 f1 : S74
 f2 : Bool
def z82 : S82 := ⟨false, z74, false⟩
def k82 : Kd S82 := Kd.iso (Kd.pair Kd.bool (Kd.pair k74 Kd.bool)) (fun x : S82 => (x.f0, x.f1, x.f2))
theorem k82_open {w : World} {x : S82} {cs : List Value} (h : k82.K w x cs) : cs = [.bool x.f0, .int .i64 x.f1.f0, .int .i64 x.f1.f1, .bool x.f2] := by
 obtain ⟨_, _, rfl, rfl, ⟨_, _, rfl, s1, rfl⟩⟩ := h
 obtain rfl := k74_open s1
 exact rfl
theorem k82_openM {w : World} {base : Nat} {ok : Nat → Prop} {x : S82} {cs : List Value} (h : k82.M w base ok x cs) : cs = [.bool x.f0, .int .i64 x.f1.f0, .int .i64 x.f1.f1, .bool x.f2] := by
 obtain ⟨_, _, rfl, rfl, ⟨_, _, rfl, s1, rfl⟩⟩ := h
 obtain rfl := k74_openM s1
 exact rfl
theorem k82_mk (w : World) (x : S82)  : k82.K w x [.bool x.f0, .int .i64 x.f1.f0, .int .i64 x.f1.f1, .bool x.f2] := ⟨[.bool x.f0], [.int .i64 x.f1.f0, .int .i64 x.f1.f1, .bool x.f2], rfl, rfl, ⟨[.int .i64 x.f1.f0, .int .i64 x.f1.f1], [.bool x.f2], rfl, (k74_mk w x.f1 ), rfl⟩⟩
theorem k82_mkM (w : World) (base : Nat) (ok : Nat → Prop) (x : S82)  : k82.M w base ok x [.bool x.f0, .int .i64 x.f1.f0, .int .i64 x.f1.f1, .bool x.f2] := ⟨[.bool x.f0], [.int .i64 x.f1.f0, .int .i64 x.f1.f1, .bool x.f2], rfl, rfl, ⟨[.int .i64 x.f1.f0, .int .i64 x.f1.f1], [.bool x.f2], rfl, (k74_mkM w base ok x.f1 ), rfl⟩⟩
def rd_T82 (xs : List S82) (i : Int) : S82 := xs.getD i.toNat z82
theorem at_T82 {w : World} {A : Option Addr} {n : Nat} {xs : List S82} (h : Kd.C k82 w A n xs) (i : Int) (h0 : 0 ≤ i) (h1 : i < n) : ∃ ad , A = some ad ∧ w.cell? (ad.add (i.toNat * 4)) = some (.bool (rd_T82 xs i).f0) ∧ w.cell? ⟨(ad.add (i.toNat * 4)).block, (ad.add (i.toNat * 4)).off + 1, none⟩ = some (.int .i64 (rd_T82 xs i).f1.f0) ∧ w.cell? ⟨(ad.add (i.toNat * 4)).block, (ad.add (i.toNat * 4)).off + 2, none⟩ = some (.int .i64 (rd_T82 xs i).f1.f1) ∧ w.cell? ⟨(ad.add (i.toNat * 4)).block, (ad.add (i.toNat * 4)).off + 3, none⟩ = some (.bool (rd_T82 xs i).f2) := by
 obtain ⟨ad, c, e, _, hK, hc0⟩ := Kd.C_get h z82 i h0 h1
 have hc : ∀ j u, c[j]? = some u → w.cell? (ad.add (i.toNat * 4 + j)) = some u := hc0
 obtain rfl := k82_open hK
 exact ⟨ad, e, hc 0 _ rfl, by rw [← add_field _ _ 1 (by omega)]; exact hc 1 _ rfl, by rw [← add_field _ _ 2 (by omega)]; exact hc 2 _ rfl, by rw [← add_field _ _ 3 (by omega)]; exact hc 3 _ rfl⟩

/-! #### struct type 76 -/
structure S76 where
 f0 : S74
 f1 : Int
 f2 : Bool
def z76 : S76 := ⟨z74, (0 : Int), false⟩
def k76 : Kd S76 := Kd.iso (Kd.pair k74 (Kd.pair (Kd.int .i64) Kd.bool)) (fun x : S76 => (x.f0, x.f1, x.f2))
theorem k76_open {w : World} {x : S76} {cs : List Value} (h : k76.K w x cs) : cs = [.int .i64 x.f0.f0, .int .i64 x.f0.f1, .int .i64 x.f1, .bool x.f2] := by
 obtain ⟨_, _, rfl, s0, ⟨_, _, rfl, rfl, rfl⟩⟩ := h
 obtain rfl := k74_open s0
 exact rfl
theorem k76_openM {w : World} {base : Nat} {ok : Nat → Prop} {x : S76} {cs : List Value} (h : k76.M w base ok x cs) : cs = [.int .i64 x.f0.f0, .int .i64 x.f0.f1, .int .i64 x.f1, .bool x.f2] := by
 obtain ⟨_, _, rfl, s0, ⟨_, _, rfl, rfl, rfl⟩⟩ := h
 obtain rfl := k74_openM s0
 exact rfl
theorem k76_mk (w : World) (x : S76)  : k76.K w x [.int .i64 x.f0.f0, .int .i64 x.f0.f1, .int .i64 x.f1, .bool x.f2] := ⟨[.int .i64 x.f0.f0, .int .i64 x.f0.f1], [.int .i64 x.f1, .bool x.f2], rfl, (k74_mk w x.f0 ), ⟨[.int .i64 x.f1], [.bool x.f2], rfl, rfl, rfl⟩⟩
theorem k76_mkM (w : World) (base : Nat) (ok : Nat → Prop) (x : S76)  : k76.M w base ok x [.int .i64 x.f0.f0, .int .i64 x.f0.f1, .int .i64 x.f1, .bool x.f2] := ⟨[.int .i64 x.f0.f0, .int .i64 x.f0.f1], [.int .i64 x.f1, .bool x.f2], rfl, (k74_mkM w base ok x.f0 ), ⟨[.int .i64 x.f1], [.bool x.f2], rfl, rfl, rfl⟩⟩
def rd_T76 (xs : List S76) (i : Int) : S76 := xs.getD i.toNat z76
theorem at_T76 {w : World} {A : Option Addr} {n : Nat} {xs : List S76} (h : Kd.C k76 w A n xs) (i : Int) (h0 : 0 ≤ i) (h1 : i < n) : ∃ ad , A = some ad ∧ w.cell? (ad.add (i.toNat * 4)) = some (.int .i64 (rd_T76 xs i).f0.f0) ∧ w.cell? ⟨(ad.add (i.toNat * 4)).block, (ad.add (i.toNat * 4)).off + 1, none⟩ = some (.int .i64 (rd_T76 xs i).f0.f1) ∧ w.cell? ⟨(ad.add (i.toNat * 4)).block, (ad.add (i.toNat * 4)).off + 2, none⟩ = some (.int .i64 (rd_T76 xs i).f1) ∧ w.cell? ⟨(ad.add (i.toNat * 4)).block, (ad.add (i.toNat * 4)).off + 3, none⟩ = some (.bool (rd_T76 xs i).f2) := by
 obtain ⟨ad, c, e, _, hK, hc0⟩ := Kd.C_get h z76 i h0 h1
 have hc : ∀ j u, c[j]? = some u → w.cell? (ad.add (i.toNat * 4 + j)) = some u := hc0
 obtain rfl := k76_open hK
 exact ⟨ad, e, hc 0 _ rfl, by rw [← add_field _ _ 1 (by omega)]; exact hc 1 _ rfl, by rw [← add_field _ _ 2 (by omega)]; exact hc 2 _ rfl, by rw [← add_field _ _ 3 (by omega)]; exact hc 3 _ rfl⟩

/-! #### struct type 70 -/
structure S70 where
 f0 : Int
 f1 : Int
 f2 : Int
 f3 : Int
 f4 : Int
 f5 : Int
 f6 : Int
 f7 : Int
def z70 : S70 := ⟨(0 : Int), (0 : Int), (0 : Int), (0 : Int), (0 : Int), (0 : Int), (0 : Int), (0 : Int)⟩
def k70 : Kd S70 := Kd.iso (Kd.pair (Kd.int .i64) (Kd.pair (Kd.int .i64) (Kd.pair (Kd.int .i64) (Kd.pair (Kd.int .i64) (Kd.pair (Kd.int .i64) (Kd.pair (Kd.int .i64) (Kd.pair (Kd.int .i64) (Kd.int .i64)))))))) (fun x : S70 => (x.f0, x.f1, x.f2, x.f3, x.f4, x.f5, x.f6, x.f7))
theorem k70_open {w : World} {x : S70} {cs : List Value} (h : k70.K w x cs) : cs = [.int .i64 x.f0, .int .i64 x.f1, .int .i64 x.f2, .int .i64 x.f3, .int .i64 x.f4, .int .i64 x.f5, .int .i64 x.f6, .int .i64 x.f7] := by
 obtain ⟨_, _, rfl, rfl, ⟨_, _, rfl, rfl, ⟨_, _, rfl, rfl, ⟨_, _, rfl, rfl, ⟨_, _, rfl, rfl, ⟨_, _, rfl, rfl, ⟨_, _, rfl, rfl, rfl⟩⟩⟩⟩⟩⟩⟩ := h
 exact rfl
theorem k70_openM {w : World} {base : Nat} {ok : Nat → Prop} {x : S70} {cs : List Value} (h : k70.M w base ok x cs) : cs = [.int .i64 x.f0, .int .i64 x.f1, .int .i64 x.f2, .int .i64 x.f3, .int .i64 x.f4, .int .i64 x.f5, .int .i64 x.f6, .int .i64 x.f7] := by
 obtain ⟨_, _, rfl, rfl, ⟨_, _, rfl, rfl, ⟨_, _, rfl, rfl, ⟨_, _, rfl, rfl, ⟨_, _, rfl, rfl, ⟨_, _, rfl, rfl, ⟨_, _, rfl, rfl, rfl⟩⟩⟩⟩⟩⟩⟩ := h
 exact rfl
theorem k70_mk (w : World) (x : S70)  : k70.K w x [.int .i64 x.f0, .int .i64 x.f1, .int .i64 x.f2, .int .i64 x.f3, .int .i64 x.f4, .int .i64 x.f5, .int .i64 x.f6, .int .i64 x.f7] := ⟨[.int .i64 x.f0], [.int .i64 x.f1, .int .i64 x.f2, .int .i64 x.f3, .int .i64 x.f4, .int .i64 x.f5, .int .i64 x.f6, .int .i64 x.f7], rfl, rfl, ⟨[.int .i64 x.f1], [.int .i64 x.f2, .int .i64 x.f3, .int .i64 x.f4, .int .i64 x.f5, .int .i64 x.f6, .int .i64 x.f7], rfl, rfl, ⟨[.int .i64 x.f2], [.int .i64 x.f3, .int .i64 x.f4, .int .i64 x.f5, .int .i64 x.f6, .int .i64 x.f7], rfl, rfl, ⟨[.int .i64 x.f3], [.int .i64 x.f4, .int .i64 x.f5, .int .i64 x.f6, .int .i64 x.f7], rfl, rfl, ⟨[.int .i64 x.f4], [.int .i64 x.f5, .int .i64 x.f6, .int .i64 x.f7], rfl, rfl, ⟨[.int .i64 x.f5], [.int .i64 x.f6, .int .i64 x.f7], rfl, rfl, ⟨[.int .i64 x.f6], [.int .i64 x.f7], rfl, rfl, rfl⟩⟩⟩⟩⟩⟩⟩
theorem k70_mkM (w : World) (base : Nat) (ok : Nat → Prop) (x : S70)  : k70.M w base ok x [.int .i64 x.f0, .int .i64 x.f1, .int .i64 x.f2, .int .i64 x.f3, .int .i64 x.f4, .int .i64 x.f5, .int .i64 x.f6, .int .i64 x.f7] := ⟨[.int .i64 x.f0], [.int .i64 x.f1, .int .i64 x.f2, .int .i64 x.f3, .int .i64 x.f4, .int .i64 x.f5, .int .i64 x.f6, .int .i64 x.f7], rfl, rfl, ⟨[.int .i64 x.f1], [.int .i64 x.f2, .int .i64 x.f3, .int .i64 x.f4, .int .i64 x.f5, .int .i64 x.f6, .int .i64 x.f7], rfl, rfl, ⟨[.int .i64 x.f2], [.int .i64 x.f3, .int .i64 x.f4, .int .i64 x.f5, .int .i64 x.f6, .int .i64 x.f7], rfl, rfl, ⟨[.int .i64 x.f3], [.int .i64 x.f4, .int .i64 x.f5, .int .i64 x.f6, .int .i64 x.f7], rfl, rfl, ⟨[.int .i64 x.f4], [.int .i64 x.f5, .int .i64 x.f6, .int .i64 x.f7], rfl, rfl, ⟨[.int .i64 x.f5], [.int .i64 x.f6, .int .i64 x.f7], rfl, rfl, ⟨[.int .i64 x.f6], [.int .i64 x.f7], rfl, rfl, rfl⟩⟩⟩⟩⟩⟩⟩
def rd_T70 (xs : List S70) (i : Int) : S70 := xs.getD i.toNat z70
theorem at_T70 {w : World} {A : Option Addr} {n : Nat} {xs : List S70} (h : Kd.C k70 w A n xs) (i : Int) (h0 : 0 ≤ i) (h1 : i < n) : ∃ ad , A = some ad ∧ w.cell? (ad.add (i.toNat * 8)) = some (.int .i64 (rd_T70 xs i).f0) ∧ w.cell? ⟨(ad.add (i.toNat * 8)).block, (ad.add (i.toNat * 8)).off + 1, none⟩ = some (.int .i64 (rd_T70 xs i).f1) ∧ w.cell? ⟨(ad.add (i.toNat * 8)).block, (ad.add (i.toNat * 8)).off + 2, none⟩ = some (.int .i64 (rd_T70 xs i).f2) ∧ w.cell? ⟨(ad.add (i.toNat * 8)).block, (ad.add (i.toNat * 8)).off + 3, none⟩ = some (.int .i64 (rd_T70 xs i).f3) ∧ w.cell? ⟨(ad.add (i.toNat * 8)).block, (ad.add (i.toNat * 8)).off + 4, none⟩ = some (.int .i64 (rd_T70 xs i).f4) ∧ w.cell? ⟨(ad.add (i.toNat * 8)).block, (ad.add (i.toNat * 8)).off + 5, none⟩ = some (.int .i64 (rd_T70 xs i).f5) ∧ w.cell? ⟨(ad.add (i.toNat * 8)).block, (ad.add (i.toNat * 8)).off + 6, none⟩ = some (.int .i64 (rd_T70 xs i).f6) ∧ w.cell? ⟨(ad.add (i.toNat * 8)).block, (ad.add (i.toNat * 8)).off + 7, none⟩ = some (.int .i64 (rd_T70 xs i).f7) := by
 obtain ⟨ad, c, e, _, hK, hc0⟩ := Kd.C_get h z70 i h0 h1
 have hc : ∀ j u, c[j]? = some u → w.cell? (ad.add (i.toNat * 8 + j)) = some u := hc0
 obtain rfl := k70_open hK
 exact ⟨ad, e, hc 0 _ rfl, by rw [← add_field _ _ 1 (by omega)]; exact hc 1 _ rfl, by rw [← add_field _ _ 2 (by omega)]; exact hc 2 _ rfl, by rw [← add_field _ _ 3 (by omega)]; exact hc 3 _ rfl, by rw [← add_field _ _ 4 (by omega)]; exact hc 4 _ rfl, by rw [← add_field _ _ 5 (by omega)]; exact hc 5 _ rfl, by rw [← add_field _ _ 6 (by omega)]; exact hc 6 _ rfl, by rw [← add_field _ _ 7 (by omega)]; exact hc 7 _ rfl⟩

def rd_L13 (xs : List (List S70)) (i : Int) : (List S70) := xs.getD i.toNat ([] : List S70)
theorem at_L13 {w : World} {A : Option Addr} {n : Nat} {xs : List (List S70)} (h : Kd.C (Kd.slice 70 k70) w A n xs) (i : Int) (h0 : 0 ≤ i) (h1 : i < n) : ∃ ad A0 c0, A = some ad ∧ w.cell? (ad.add i.toNat) = some (.slice A0 (rd_L13 xs i).length c0) ∧ (rd_L13 xs i).length ≤ c0 ∧ k70.C w A0 (rd_L13 xs i).length (rd_L13 xs i) := by
 obtain ⟨ad, c, e, _, hK, hc0⟩ := Kd.C_get h ([] : List S70) i h0 h1
 have hc : ∀ j u, c[j]? = some u → w.cell? (ad.add (i.toNat * 1 + j)) = some u := hc0
 obtain ⟨A0, c0, rfl, l0, g0⟩ := hK
 exact ⟨ad, A0, c0, e, by have hq := hc 0 _ rfl; rwa [Nat.mul_one, Nat.add_zero] at hq, l0, g0⟩

def rd_L14 (xs : List (List (List Int))) (i : Int) : (List (List Int)) := xs.getD i.toNat ([] : List (List Int))
theorem at_L14 {w : World} {A : Option Addr} {n : Nat} {xs : List (List (List Int))} (h : Kd.C (Kd.slice 29 (Kd.slice 3 (Kd.int .i64))) w A n xs) (i : Int) (h0 : 0 ≤ i) (h1 : i < n) : ∃ ad A0 c0, A = some ad ∧ w.cell? (ad.add i.toNat) = some (.slice A0 (rd_L14 xs i).length c0) ∧ (rd_L14 xs i).length ≤ c0 ∧ (Kd.slice 3 (Kd.int .i64)).C w A0 (rd_L14 xs i).length (rd_L14 xs i) := by
 obtain ⟨ad, c, e, _, hK, hc0⟩ := Kd.C_get h ([] : List (List Int)) i h0 h1
 have hc : ∀ j u, c[j]? = some u → w.cell? (ad.add (i.toNat * 1 + j)) = some u := hc0
 obtain ⟨A0, c0, rfl, l0, g0⟩ := hK
 exact ⟨ad, A0, c0, e, by have hq := hc 0 _ rfl; rwa [Nat.mul_one, Nat.add_zero] at hq, l0, g0⟩

/-! #### struct type 25 -/
structure S25 where
 f0 : (List S70)
 f1 : (List (List Int))
def z25 : S25 := ⟨([] : List S70), ([] : List (List Int))⟩
def k25 : Kd S25 := Kd.iso (Kd.pair (Kd.slice 70 k70) (Kd.slice 29 (Kd.slice 3 (Kd.int .i64)))) (fun x : S25 => (x.f0, x.f1))
theorem k25_open {w : World} {x : S25} {cs : List Value} (h : k25.K w x cs) : ∃ A0 c0 A1 c1, cs = [.slice A0 x.f0.length c0, .slice A1 x.f1.length c1] ∧ x.f0.length ≤ c0 ∧ k70.C w A0 x.f0.length x.f0 ∧ x.f1.length ≤ c1 ∧ (Kd.slice 3 (Kd.int .i64)).C w A1 x.f1.length x.f1 := by
 obtain ⟨_, _, rfl, ⟨A0, c0, rfl, l0, g0⟩, ⟨A1, c1, rfl, l1, g1⟩⟩ := h
 exact ⟨A0, c0, A1, c1, rfl, l0, g0, l1, g1⟩
theorem k25_openM {w : World} {base : Nat} {ok : Nat → Prop} {x : S25} {cs : List Value} (h : k25.M w base ok x cs) : ∃ v0 v1, cs = [v0, v1] ∧ k70.R 70 w base ok v0 x.f0 ∧ (Kd.slice 3 (Kd.int .i64)).R 29 w base ok v1 x.f1 := by
 obtain ⟨_, _, rfl, ⟨v0, rfl, g0⟩, ⟨v1, rfl, g1⟩⟩ := h
 exact ⟨v0, v1, rfl, g0, g1⟩
theorem k25_mk (w : World) (x : S25) {A0 : Option Addr} {c0 : Nat} (l0 : x.f0.length ≤ c0) (g0 : k70.C w A0 x.f0.length x.f0) {A1 : Option Addr} {c1 : Nat} (l1 : x.f1.length ≤ c1) (g1 : (Kd.slice 3 (Kd.int .i64)).C w A1 x.f1.length x.f1) : k25.K w x [.slice A0 x.f0.length c0, .slice A1 x.f1.length c1] := ⟨[.slice A0 x.f0.length c0], [.slice A1 x.f1.length c1], rfl, ⟨A0, c0, rfl, l0, g0⟩, ⟨A1, c1, rfl, l1, g1⟩⟩
theorem k25_mkM (w : World) (base : Nat) (ok : Nat → Prop) (x : S25) {v0 : Value} (g0 : k70.R 70 w base ok v0 x.f0) {v1 : Value} (g1 : (Kd.slice 3 (Kd.int .i64)).R 29 w base ok v1 x.f1) : k25.M w base ok x [v0, v1] := ⟨[v0], [v1], rfl, ⟨v0, rfl, g0⟩, ⟨v1, rfl, g1⟩⟩
def rd_T25 (xs : List S25) (i : Int) : S25 := xs.getD i.toNat z25
theorem at_T25 {w : World} {A : Option Addr} {n : Nat} {xs : List S25} (h : Kd.C k25 w A n xs) (i : Int) (h0 : 0 ≤ i) (h1 : i < n) : ∃ ad A0 c0 A1 c1, A = some ad ∧ w.cell? (ad.add (i.toNat * 2)) = some (.slice A0 (rd_T25 xs i).f0.length c0) ∧ w.cell? ⟨(ad.add (i.toNat * 2)).block, (ad.add (i.toNat * 2)).off + 1, none⟩ = some (.slice A1 (rd_T25 xs i).f1.length c1) ∧ (rd_T25 xs i).f0.length ≤ c0 ∧ k70.C w A0 (rd_T25 xs i).f0.length (rd_T25 xs i).f0 ∧ (rd_T25 xs i).f1.length ≤ c1 ∧ (Kd.slice 3 (Kd.int .i64)).C w A1 (rd_T25 xs i).f1.length (rd_T25 xs i).f1 := by
 obtain ⟨ad, c, e, _, hK, hc0⟩ := Kd.C_get h z25 i h0 h1
 have hc : ∀ j u, c[j]? = some u → w.cell? (ad.add (i.toNat * 2 + j)) = some u := hc0
 obtain ⟨A0, c0, A1, c1, rfl, l0, g0, l1, g1⟩ := k25_open hK
 exact ⟨ad, A0, c0, A1, c1, e, hc 0 _ rfl, by rw [← add_field _ _ 1 (by omega)]; exact hc 1 _ rfl, l0, g0, l1, g1⟩

def rd_L16 (xs : List (List (List S87))) (i : Int) : (List (List S87)) := xs.getD i.toNat ([] : List (List S87))
theorem at_L16 {w : World} {A : Option Addr} {n : Nat} {xs : List (List (List S87))} (h : Kd.C (Kd.slice 56 (Kd.slice 87 k87)) w A n xs) (i : Int) (h0 : 0 ≤ i) (h1 : i < n) : ∃ ad A0 c0, A = some ad ∧ w.cell? (ad.add i.toNat) = some (.slice A0 (rd_L16 xs i).length c0) ∧ (rd_L16 xs i).length ≤ c0 ∧ (Kd.slice 87 k87).C w A0 (rd_L16 xs i).length (rd_L16 xs i) := by
 obtain ⟨ad, c, e, _, hK, hc0⟩ := Kd.C_get h ([] : List (List S87)) i h0 h1
 have hc : ∀ j u, c[j]? = some u → w.cell? (ad.add (i.toNat * 1 + j)) = some u := hc0
 obtain ⟨A0, c0, rfl, l0, g0⟩ := hK
 exact ⟨ad, A0, c0, e, by have hq := hc 0 _ rfl; rwa [Nat.mul_one, Nat.add_zero] at hq, l0, g0⟩

def rd_L17 (xs : List (List S76)) (i : Int) : (List S76) := xs.getD i.toNat ([] : List S76)
theorem at_L17 {w : World} {A : Option Addr} {n : Nat} {xs : List (List S76)} (h : Kd.C (Kd.slice 76 k76) w A n xs) (i : Int) (h0 : 0 ≤ i) (h1 : i < n) : ∃ ad A0 c0, A = some ad ∧ w.cell? (ad.add i.toNat) = some (.slice A0 (rd_L17 xs i).length c0) ∧ (rd_L17 xs i).length ≤ c0 ∧ k76.C w A0 (rd_L17 xs i).length (rd_L17 xs i) := by
 obtain ⟨ad, c, e, _, hK, hc0⟩ := Kd.C_get h ([] : List S76) i h0 h1
 have hc : ∀ j u, c[j]? = some u → w.cell? (ad.add (i.toNat * 1 + j)) = some u := hc0
 obtain ⟨A0, c0, rfl, l0, g0⟩ := hK
 exact ⟨ad, A0, c0, e, by have hq := hc 0 _ rfl; rwa [Nat.mul_one, Nat.add_zero] at hq, l0, g0⟩

def rd_L18 (xs : List (List S59)) (i : Int) : (List S59) := xs.getD i.toNat ([] : List S59)
theorem at_L18 {w : World} {A : Option Addr} {n : Nat} {xs : List (List S59)} (h : Kd.C (Kd.slice 59 k59) w A n xs) (i : Int) (h0 : 0 ≤ i) (h1 : i < n) : ∃ ad A0 c0, A = some ad ∧ w.cell? (ad.add i.toNat) = some (.slice A0 (rd_L18 xs i).length c0) ∧ (rd_L18 xs i).length ≤ c0 ∧ k59.C w A0 (rd_L18 xs i).length (rd_L18 xs i) := by
 obtain ⟨ad, c, e, _, hK, hc0⟩ := Kd.C_get h ([] : List S59) i h0 h1
 have hc : ∀ j u, c[j]? = some u → w.cell? (ad.add (i.toNat * 1 + j)) = some u := hc0
 obtain ⟨A0, c0, rfl, l0, g0⟩ := hK
 exact ⟨ad, A0, c0, e, by have hq := hc 0 _ rfl; rwa [Nat.mul_one, Nat.add_zero] at hq, l0, g0⟩

def rd_L19 (xs : List (List S82)) (i : Int) : (List S82) := xs.getD i.toNat ([] : List S82)
theorem at_L19 {w : World} {A : Option Addr} {n : Nat} {xs : List (List S82)} (h : Kd.C (Kd.slice 82 k82) w A n xs) (i : Int) (h0 : 0 ≤ i) (h1 : i < n) : ∃ ad A0 c0, A = some ad ∧ w.cell? (ad.add i.toNat) = some (.slice A0 (rd_L19 xs i).length c0) ∧ (rd_L19 xs i).length ≤ c0 ∧ k82.C w A0 (rd_L19 xs i).length (rd_L19 xs i) := by
 obtain ⟨ad, c, e, _, hK, hc0⟩ := Kd.C_get h ([] : List S82) i h0 h1
 have hc : ∀ j u, c[j]? = some u → w.cell? (ad.add (i.toNat * 1 + j)) = some u := hc0
 obtain ⟨A0, c0, rfl, l0, g0⟩ := hK
 exact ⟨ad, A0, c0, e, by have hq := hc 0 _ rfl; rwa [Nat.mul_one, Nat.add_zero] at hq, l0, g0⟩

/-! #### struct type 32 -/
structure S32 where
 f0 : S25
 f1 : (List (List S87))
 f2 : (List S76)
 f3 : (List S59)
 f4 : (List (List Int))
 f5 : (List Int)
 f6 : (List S82)
def z32 : S32 := ⟨z25, ([] : List (List S87)), ([] : List S76), ([] : List S59), ([] : List (List Int)), ([] : List Int), ([] : List S82)⟩
def k32 : Kd S32 := Kd.iso (Kd.pair k25 (Kd.pair (Kd.slice 56 (Kd.slice 87 k87)) (Kd.pair (Kd.slice 76 k76) (Kd.pair (Kd.slice 59 k59) (Kd.pair (Kd.slice 29 (Kd.slice 3 (Kd.int .i64))) (Kd.pair (Kd.slice 3 (Kd.int .i64)) (Kd.slice 82 k82))))))) (fun x : S32 => (x.f0, x.f1, x.f2, x.f3, x.f4, x.f5, x.f6))
theorem k32_open {w : World} {x : S32} {cs : List Value} (h : k32.K w x cs) : ∃ A0 c0 A1 c1 A2 c2 A3 c3 A4 c4 A5 c5 A6 c6 A7 c7, cs = [.slice A0 x.f0.f0.length c0, .slice A1 x.f0.f1.length c1, .slice A2 x.f1.length c2, .slice A3 x.f2.length c3, .slice A4 x.f3.length c4, .slice A5 x.f4.length c5, .slice A6 x.f5.length c6, .slice A7 x.f6.length c7] ∧ x.f0.f0.length ≤ c0 ∧ k70.C w A0 x.f0.f0.length x.f0.f0 ∧ x.f0.f1.length ≤ c1 ∧ (Kd.slice 3 (Kd.int .i64)).C w A1 x.f0.f1.length x.f0.f1 ∧ x.f1.length ≤ c2 ∧ (Kd.slice 87 k87).C w A2 x.f1.length x.f1 ∧ x.f2.length ≤ c3 ∧ k76.C w A3 x.f2.length x.f2 ∧ x.f3.length ≤ c4 ∧ k59.C w A4 x.f3.length x.f3 ∧ x.f4.length ≤ c5 ∧ (Kd.slice 3 (Kd.int .i64)).C w A5 x.f4.length x.f4 ∧ x.f5.length ≤ c6 ∧ (Kd.int .i64).C w A6 x.f5.length x.f5 ∧ x.f6.length ≤ c7 ∧ k82.C w A7 x.f6.length x.f6 := by
 obtain ⟨_, _, rfl, s0, ⟨_, _, rfl, ⟨A2, c2, rfl, l2, g2⟩, ⟨_, _, rfl, ⟨A3, c3, rfl, l3, g3⟩, ⟨_, _, rfl, ⟨A4, c4, rfl, l4, g4⟩, ⟨_, _, rfl, ⟨A5, c5, rfl, l5, g5⟩, ⟨_, _, rfl, ⟨A6, c6, rfl, l6, g6⟩, ⟨A7, c7, rfl, l7, g7⟩⟩⟩⟩⟩⟩⟩ := h
 obtain ⟨A0, c0, A1, c1, rfl, l0, g0, l1, g1⟩ := k25_open s0
 exact ⟨A0, c0, A1, c1, A2, c2, A3, c3, A4, c4, A5, c5, A6, c6, A7, c7, rfl, l0, g0, l1, g1, l2, g2, l3, g3, l4, g4, l5, g5, l6, g6, l7, g7⟩
theorem k32_openM {w : World} {base : Nat} {ok : Nat → Prop} {x : S32} {cs : List Value} (h : k32.M w base ok x cs) : ∃ v0 v1 v2 v3 v4 v5 v6 v7, cs = [v0, v1, v2, v3, v4, v5, v6, v7] ∧ k70.R 70 w base ok v0 x.f0.f0 ∧ (Kd.slice 3 (Kd.int .i64)).R 29 w base ok v1 x.f0.f1 ∧ (Kd.slice 87 k87).R 56 w base ok v2 x.f1 ∧ k76.R 76 w base ok v3 x.f2 ∧ k59.R 59 w base ok v4 x.f3 ∧ (Kd.slice 3 (Kd.int .i64)).R 29 w base ok v5 x.f4 ∧ (Kd.int .i64).R 3 w base ok v6 x.f5 ∧ k82.R 82 w base ok v7 x.f6 := by
 obtain ⟨_, _, rfl, s0, ⟨_, _, rfl, ⟨v2, rfl, g2⟩, ⟨_, _, rfl, ⟨v3, rfl, g3⟩, ⟨_, _, rfl, ⟨v4, rfl, g4⟩, ⟨_, _, rfl, ⟨v5, rfl, g5⟩, ⟨_, _, rfl, ⟨v6, rfl, g6⟩, ⟨v7, rfl, g7⟩⟩⟩⟩⟩⟩⟩ := h
 obtain ⟨v0, v1, rfl, g0, g1⟩ := k25_openM s0
 exact ⟨v0, v1, v2, v3, v4, v5, v6, v7, rfl, g0, g1, g2, g3, g4, g5, g6, g7⟩
theorem k32_mk (w : World) (x : S32) {A0 : Option Addr} {c0 : Nat} (l0 : x.f0.f0.length ≤ c0) (g0 : k70.C w A0 x.f0.f0.length x.f0.f0) {A1 : Option Addr} {c1 : Nat} (l1 : x.f0.f1.length ≤ c1) (g1 : (Kd.slice 3 (Kd.int .i64)).C w A1 x.f0.f1.length x.f0.f1) {A2 : Option Addr} {c2 : Nat} (l2 : x.f1.length ≤ c2) (g2 : (Kd.slice 87 k87).C w A2 x.f1.length x.f1) {A3 : Option Addr} {c3 : Nat} (l3 : x.f2.length ≤ c3) (g3 : k76.C w A3 x.f2.length x.f2) {A4 : Option Addr} {c4 : Nat} (l4 : x.f3.length ≤ c4) (g4 : k59.C w A4 x.f3.length x.f3) {A5 : Option Addr} {c5 : Nat} (l5 : x.f4.length ≤ c5) (g5 : (Kd.slice 3 (Kd.int .i64)).C w A5 x.f4.length x.f4) {A6 : Option Addr} {c6 : Nat} (l6 : x.f5.length ≤ c6) (g6 : (Kd.int .i64).C w A6 x.f5.length x.f5) {A7 : Option Addr} {c7 : Nat} (l7 : x.f6.length ≤ c7) (g7 : k82.C w A7 x.f6.length x.f6) : k32.K w x [.slice A0 x.f0.f0.length c0, .slice A1 x.f0.f1.length c1, .slice A2 x.f1.length c2, .slice A3 x.f2.length c3, .slice A4 x.f3.length c4, .slice A5 x.f4.length c5, .slice A6 x.f5.length c6, .slice A7 x.f6.length c7] := ⟨[.slice A0 x.f0.f0.length c0, .slice A1 x.f0.f1.length c1], [.slice A2 x.f1.length c2, .slice A3 x.f2.length c3, .slice A4 x.f3.length c4, .slice A5 x.f4.length c5, .slice A6 x.f5.length c6, .slice A7 x.f6.length c7], rfl, (k25_mk w x.f0 l0 g0 l1 g1), ⟨[.slice A2 x.f1.length c2], [.slice A3 x.f2.length c3, .slice A4 x.f3.length c4, .slice A5 x.f4.length c5, .slice A6 x.f5.length c6, .slice A7 x.f6.length c7], rfl, ⟨A2, c2, rfl, l2, g2⟩, ⟨[.slice A3 x.f2.length c3], [.slice A4 x.f3.length c4, .slice A5 x.f4.length c5, .slice A6 x.f5.length c6, .slice A7 x.f6.length c7], rfl, ⟨A3, c3, rfl, l3, g3⟩, ⟨[.slice A4 x.f3.length c4], [.slice A5 x.f4.length c5, .slice A6 x.f5.length c6, .slice A7 x.f6.length c7], rfl, ⟨A4, c4, rfl, l4, g4⟩, ⟨[.slice A5 x.f4.length c5], [.slice A6 x.f5.length c6, .slice A7 x.f6.length c7], rfl, ⟨A5, c5, rfl, l5, g5⟩, ⟨[.slice A6 x.f5.length c6], [.slice A7 x.f6.length c7], rfl, ⟨A6, c6, rfl, l6, g6⟩, ⟨A7, c7, rfl, l7, g7⟩⟩⟩⟩⟩⟩⟩
theorem k32_mkM (w : World) (base : Nat) (ok : Nat → Prop) (x : S32) {v0 : Value} (g0 : k70.R 70 w base ok v0 x.f0.f0) {v1 : Value} (g1 : (Kd.slice 3 (Kd.int .i64)).R 29 w base ok v1 x.f0.f1) {v2 : Value} (g2 : (Kd.slice 87 k87).R 56 w base ok v2 x.f1) {v3 : Value} (g3 : k76.R 76 w base ok v3 x.f2) {v4 : Value} (g4 : k59.R 59 w base ok v4 x.f3) {v5 : Value} (g5 : (Kd.slice 3 (Kd.int .i64)).R 29 w base ok v5 x.f4) {v6 : Value} (g6 : (Kd.int .i64).R 3 w base ok v6 x.f5) {v7 : Value} (g7 : k82.R 82 w base ok v7 x.f6) : k32.M w base ok x [v0, v1, v2, v3, v4, v5, v6, v7] := ⟨[v0, v1], [v2, v3, v4, v5, v6, v7], rfl, (k25_mkM w base ok x.f0 g0 g1), ⟨[v2], [v3, v4, v5, v6, v7], rfl, ⟨v2, rfl, g2⟩, ⟨[v3], [v4, v5, v6, v7], rfl, ⟨v3, rfl, g3⟩, ⟨[v4], [v5, v6, v7], rfl, ⟨v4, rfl, g4⟩, ⟨[v5], [v6, v7], rfl, ⟨v5, rfl, g5⟩, ⟨[v6], [v7], rfl, ⟨v6, rfl, g6⟩, ⟨v7, rfl, g7⟩⟩⟩⟩⟩⟩⟩
def rd_T32 (xs : List S32) (i : Int) : S32 := xs.getD i.toNat z32
theorem at_T32 {w : World} {A : Option Addr} {n : Nat} {xs : List S32} (h : Kd.C k32 w A n xs) (i : Int) (h0 : 0 ≤ i) (h1 : i < n) : ∃ ad A0 c0 A1 c1 A2 c2 A3 c3 A4 c4 A5 c5 A6 c6 A7 c7, A = some ad ∧ w.cell? (ad.add (i.toNat * 8)) = some (.slice A0 (rd_T32 xs i).f0.f0.length c0) ∧ w.cell? ⟨(ad.add (i.toNat * 8)).block, (ad.add (i.toNat * 8)).off + 1, none⟩ = some (.slice A1 (rd_T32 xs i).f0.f1.length c1) ∧ w.cell? ⟨(ad.add (i.toNat * 8)).block, (ad.add (i.toNat * 8)).off + 2, none⟩ = some (.slice A2 (rd_T32 xs i).f1.length c2) ∧ w.cell? ⟨(ad.add (i.toNat * 8)).block, (ad.add (i.toNat * 8)).off + 3, none⟩ = some (.slice A3 (rd_T32 xs i).f2.length c3) ∧ w.cell? ⟨(ad.add (i.toNat * 8)).block, (ad.add (i.toNat * 8)).off + 4, none⟩ = some (.slice A4 (rd_T32 xs i).f3.length c4) ∧ w.cell? ⟨(ad.add (i.toNat * 8)).block, (ad.add (i.toNat * 8)).off + 5, none⟩ = some (.slice A5 (rd_T32 xs i).f4.length c5) ∧ w.cell? ⟨(ad.add (i.toNat * 8)).block, (ad.add (i.toNat * 8)).off + 6, none⟩ = some (.slice A6 (rd_T32 xs i).f5.length c6) ∧ w.cell? ⟨(ad.add (i.toNat * 8)).block, (ad.add (i.toNat * 8)).off + 7, none⟩ = some (.slice A7 (rd_T32 xs i).f6.length c7) ∧ (rd_T32 xs i).f0.f0.length ≤ c0 ∧ k70.C w A0 (rd_T32 xs i).f0.f0.length (rd_T32 xs i).f0.f0 ∧ (rd_T32 xs i).f0.f1.length ≤ c1 ∧ (Kd.slice 3 (Kd.int .i64)).C w A1 (rd_T32 xs i).f0.f1.length (rd_T32 xs i).f0.f1 ∧ (rd_T32 xs i).f1.length ≤ c2 ∧ (Kd.slice 87 k87).C w A2 (rd_T32 xs i).f1.length (rd_T32 xs i).f1 ∧ (rd_T32 xs i).f2.length ≤ c3 ∧ k76.C w A3 (rd_T32 xs i).f2.length (rd_T32 xs i).f2 ∧ (rd_T32 xs i).f3.length ≤ c4 ∧ k59.C w A4 (rd_T32 xs i).f3.length (rd_T32 xs i).f3 ∧ (rd_T32 xs i).f4.length ≤ c5 ∧ (Kd.slice 3 (Kd.int .i64)).C w A5 (rd_T32 xs i).f4.length (rd_T32 xs i).f4 ∧ (rd_T32 xs i).f5.length ≤ c6 ∧ (Kd.int .i64).C w A6 (rd_T32 xs i).f5.length (rd_T32 xs i).f5 ∧ (rd_T32 xs i).f6.length ≤ c7 ∧ k82.C w A7 (rd_T32 xs i).f6.length (rd_T32 xs i).f6 := by
 obtain ⟨ad, c, e, _, hK, hc0⟩ := Kd.C_get h z32 i h0 h1
 have hc : ∀ j u, c[j]? = some u → w.cell? (ad.add (i.toNat * 8 + j)) = some u := hc0
 obtain ⟨A0, c0, A1, c1, A2, c2, A3, c3, A4, c4, A5, c5, A6, c6, A7, c7, rfl, l0, g0, l1, g1, l2, g2, l3, g3, l4, g4, l5, g5, l6, g6, l7, g7⟩ := k32_open hK
 exact ⟨ad, A0, c0, A1, c1, A2, c2, A3, c3, A4, c4, A5, c5, A6, c6, A7, c7, e, hc 0 _ rfl, by rw [← add_field _ _ 1 (by omega)]; exact hc 1 _ rfl, by rw [← add_field _ _ 2 (by omega)]; exact hc 2 _ rfl, by rw [← add_field _ _ 3 (by omega)]; exact hc 3 _ rfl, by rw [← add_field _ _ 4 (by omega)]; exact hc 4 _ rfl, by rw [← add_field _ _ 5 (by omega)]; exact hc 5 _ rfl, by rw [← add_field _ _ 6 (by omega)]; exact hc 6 _ rfl, by rw [← add_field _ _ 7 (by omega)]; exact hc 7 _ rfl, l0, g0, l1, g1, l2, g2, l3, g3, l4, g4, l5, g5, l6, g6, l7, g7⟩

end Go.Proofs.YtmcjccigglekpaaGreatDoor.P
namespace Go.Proofs.YtmcjccigglekpaaGreatDoor.Given
open Go Go.RowKit Go.Proofs Go.Proofs.YtmcjccigglekpaaGreatDoorW.PrintWords Go.Proofs.YtmcjccigglekpaaGreatDoorW.PrintLast Go.Proofs.YtmcjccigglekpaaGreatDoorW.PrintMore Go.Proofs.YtmcjccigglekpaaGreatDoor.P

theorem capEq (d : Nat) (w : World) (x0 y0 : Int) (x1 y1 : Int) (x2 y2 : Int) (x3 y3 : Int) (x4 y4 : Int) :
  (Op.equalIn (d + 2) 87 (.agg #[.int .i64 x0, .int .i64 x1, .int .i64 x2, .int .i64 x3, .int .i64 x4]) (.agg #[.int .i64 y0, .int .i64 y1, .int .i64 y2, .int .i64 y3, .int .i64 y4])).run Tryz.prog w = .ok (x0 == y0 && (x1 == y1 && (x2 == y2 && (x3 == y3 && (x4 == y4))))) w := by
 refine eqA_of Tryz.underlying87 (by kernel_rfl) ?_
 refine eqf_cons (by rfl) (by go_simp; rfl) (by go_simp; rfl) (by go_simp) ?_
 refine eqf_cons (by rfl) (by go_simp; rfl) (by go_simp; rfl) (by go_simp) ?_
 refine eqf_cons (by rfl) (by go_simp; rfl) (by go_simp; rfl) (by go_simp) ?_
 refine eqf_cons (by rfl) (by go_simp; rfl) (by go_simp; rfl) (by go_simp) ?_
 exact eqf_last (by rfl) (by go_simp; rfl) (by go_simp; rfl) (by go_simp)
attribute [local go_sem high] capEq
/-- The greatest badge of a type. -/
def capBadges (t : Int) : Int := if t = 2 then 7 else if t = 4 ∨ t = 5 then 65535 else 0

set_option maxHeartbeats 400000 in
theorem cap_badges_calls (t : Int) (w : World) : Calls Tryz.prog 108 #[.int .i64 t] w fun e w' => e = .returned (.int .i64 (capBadges t)) ∧ w' = w := by
 unfold capBadges
 by_cases h2 : t = 2
 ·have b2 : (t == 2) = true := beq_iff_eq.mpr h2
  rw [if_pos h2]
  go_enter Tryz.func108, Tryz.ntmps108
  go_wp2
  go_ret
  exact ⟨rfl, rfl⟩
 ·have b2 : (t == 2) = false := beq_eq_false_iff_ne.mpr h2
  rw [if_neg h2]
  by_cases h4 : t = 4
  ·have b4 : (t == 4) = true := beq_iff_eq.mpr h4
   rw [if_pos (.inl h4)]
   go_enter Tryz.func108, Tryz.ntmps108
   go_wp2
   go_ret
   exact ⟨rfl, rfl⟩
  ·have b4 : (t == 4) = false := beq_eq_false_iff_ne.mpr h4
   by_cases h5 : t = 5
   ·have b5 : (t == 5) = true := beq_iff_eq.mpr h5
    rw [if_pos (.inr h5)]
    go_enter Tryz.func108, Tryz.ntmps108
    go_wp2
    go_ret
    exact ⟨rfl, rfl⟩
   ·have b5 : (t == 5) = false := beq_eq_false_iff_ne.mpr h5
    rw [if_neg (fun h => h.elim h4 h5)]
    go_enter Tryz.func108, Tryz.ntmps108
    go_wp2
    go_ret
    exact ⟨rfl, rfl⟩

set_option maxHeartbeats 400000 in
theorem cap_numbers_calls (t r b o g : Int) (w : World) : Calls Tryz.prog 104 #[.agg #[.int .i64 t, .int .i64 r, .int .i64 b, .int .i64 o, .int .i64 g]] w fun e w' => e = .returned (.agg #[.int .i64 t, .int .i64 r, .int .i64 b, .int .i64 o, .int .i64 g]) ∧ Below w.heap.size w w' := by
 go_enter Tryz.func104, Tryz.ntmps104
 go_wp2
 refine bodyPost_ret (v := .agg #[.int .i64 t, .int .i64 r, .int .i64 b, .int .i64 o, .int .i64 g]) ?_ rfl ⟨rfl, ?_⟩
 ·have hres : Tryz.f104.results = #[.cell 2 174] := rfl
  simp only [results, hres]
  go_simp
 ·exact ((Below.refl _ _).alloc (Nat.le_refl _) _).alloc (by simp) _

/-- The k-th number, and its greatest. -/
def capNum (t r b o g : Int) : Nat → Int | 0 => t | 1 => r | 2 => b | 3 => o | _ => g
def capMost (t : Int) : Nat → Int | 0 => 5 | 1 => 15 | 2 => capBadges t | 3 => 1023 | _ => 4095
def capIn (t r b o g : Int) (k : Nat) : Bool := decide (0 ≤ capNum t r b o g k) && decide (capNum t r b o g k ≤ capMost t k)
def capAll (t r b o g : Int) : Bool := capIn t r b o g 0 && capIn t r b o g 1 && capIn t r b o g 2 && capIn t r b o g 3 && capIn t r b o g 4
def capZero (t r b o g : Int) : Bool := (t == 0) && ((r == 0) && ((b == 0) && ((o == 0) && (g == 0))))
def cap_Check.f (t r b o g : Int) : Option Int := some (if capZero t r b o g = true then 0 else if capAll t r b o g = true ∧ t ≠ 0 then 0 else 30)

set_option maxRecDepth 100000 in
set_option maxHeartbeats 4000000 in
theorem cap_Check.calls (t r b o g : Int) (res : Int) (w : World) (h : cap_Check.f t r b o g = some res) : Calls Tryz.prog 70 #[.agg #[.int .i64 t, .int .i64 r, .int .i64 b, .int .i64 o, .int .i64 g]] w fun e w' => e = .returned (.int .i64 res) ∧ Below w.heap.size w w' := by
 have hres : res = if capZero t r b o g = true then 0 else if capAll t r b o g = true ∧ t ≠ 0 then 0 else 30 := (Option.some.inj h).symm
 clear h
 have hu := Tryz.underlying87
 have HR := Lib.hid hres
 clear hres
 by_cases hz : capZero t r b o g = true
 ·have hz' := hz
  unfold capZero at hz'
  have e0 := HR.out
  rw [if_pos hz] at e0
  subst e0
  simp only [Bool.and_eq_true, beq_iff_eq] at hz'
  obtain ⟨rfl, rfl, rfl, rfl, rfl⟩ := hz'
  clear hz
  go_enter Tryz.func70, Tryz.ntmps70
  go_wp2
  go_ret
  exact ⟨rfl, (Below.refl _ _).alloc (Nat.le_refl _) _⟩
 ·have hz' : ((t == 0) && ((r == 0) && ((b == 0) && ((o == 0) && (g == 0))))) = false := by simpa [capZero] using hz
  go_enter Tryz.func70, Tryz.ntmps70
  go_wp2_with (first | (go_at_call 108; (with_reducible refine (cap_badges_calls _ _).mono ?_); rintro e w' ⟨rfl, rfl⟩) | (go_at_call 104; (with_reducible refine (cap_numbers_calls _ _ _ _ _ _).mono ?_); rintro e w' ⟨rfl, hb⟩))
  have hB : Below w.heap.size w w' := (((Below.refl w.heap.size w).alloc (Nat.le_refl _) _).alloc (by simp) _).trans (hb.mono (by simp; omega))
  have m0 : w'.cell? ⟨w.heap.size + 1, 0, none⟩ = some (.int .i64 (5)) := (hb.cell (by simp)).trans (by simp)
  have m1 : w'.cell? ⟨w.heap.size + 1, 1, none⟩ = some (.int .i64 (15)) := (hb.cell (by simp)).trans (by simp)
  have m2 : w'.cell? ⟨w.heap.size + 1, 2, none⟩ = some (.int .i64 (capBadges t)) := (hb.cell (by simp)).trans (by simp)
  have m3 : w'.cell? ⟨w.heap.size + 1, 3, none⟩ = some (.int .i64 (1023)) := (hb.cell (by simp)).trans (by simp)
  have m4 : w'.cell? ⟨w.heap.size + 1, 4, none⟩ = some (.int .i64 (4095)) := (hb.cell (by simp)).trans (by simp)
  have t0 : w'.cell? ⟨w.heap.size, 0, none⟩ = some (.int .i64 t) := (hb.cell (by simp; omega)).trans (by simp)
  have hres0 : res = if capAll t r b o g = true ∧ t ≠ 0 then 0 else 30 := by
   have h := HR.out
   rwa [if_neg hz] at h
  have HR0 := Lib.hid hres0
  clear hb hres0 HR hz hz'
  have x0 : ∀ w : World, (Instr.index 174 (.agg #[.int .i64 t, .int .i64 r, .int .i64 b, .int .i64 o, .int .i64 g]) (.int .i64 0)).run Tryz.prog w = .ok (.int .i64 t) w := fun _ => by kernel_rfl
  have x1 : ∀ w : World, (Instr.index 174 (.agg #[.int .i64 t, .int .i64 r, .int .i64 b, .int .i64 o, .int .i64 g]) (.int .i64 1)).run Tryz.prog w = .ok (.int .i64 r) w := fun _ => by kernel_rfl
  have x2 : ∀ w : World, (Instr.index 174 (.agg #[.int .i64 t, .int .i64 r, .int .i64 b, .int .i64 o, .int .i64 g]) (.int .i64 2)).run Tryz.prog w = .ok (.int .i64 b) w := fun _ => by kernel_rfl
  have x3 : ∀ w : World, (Instr.index 174 (.agg #[.int .i64 t, .int .i64 r, .int .i64 b, .int .i64 o, .int .i64 g]) (.int .i64 3)).run Tryz.prog w = .ok (.int .i64 o) w := fun _ => by kernel_rfl
  have x4 : ∀ w : World, (Instr.index 174 (.agg #[.int .i64 t, .int .i64 r, .int .i64 b, .int .i64 o, .int .i64 g]) (.int .i64 4)).run Tryz.prog w = .ok (.int .i64 g) w := fun _ => by kernel_rfl
  go_loop [15] (fun i => ∃ k : Int, 0 ≤ k ∧ k ≤ 5 ∧ i = .int .i64 k ∧ Hid (∀ j : Nat, (j : Int) < k → capIn t r b o g j = true)) (fun i => 5 - (intOf i).toNat)
  case atStart => exact ⟨0, by omega, by omega, rfl, Lib.hid (fun j hj => absurd hj (by omega))⟩
  case round =>
   obtain ⟨k, hk0, hk, rfl, hin⟩ := hrel
   by_cases hlt : k < 5
   ·obtain rfl | rfl | rfl | rfl | rfl : k = 0 ∨ k = 1 ∨ k = 2 ∨ k = 3 ∨ k = 4 := by omega
    ·by_cases hlo : 0 ≤ t
     ·have dlo : decide (t < 0) = false := decide_eq_false (by omega)
      by_cases hhi : t ≤ 5
      ·have dhi : decide (5 < t) = false := decide_eq_false (by omega)
       have hin' : Hid (∀ j : Nat, (j : Int) < (0 + 1 : Int) → capIn t r b o g j = true) := Lib.hid (fun j hj => by
        by_cases hj' : (j : Int) < 0
        ·exact hin.out j hj'
        ·obtain rfl : j = 0 := by omega
         exact Bool.and_eq_true_iff.mpr ⟨decide_eq_true hlo, decide_eq_true hhi⟩)
       clear hin hlo hhi
       go_wp2
       exact ⟨⟨0 + 1, by decide, by decide, rfl, hin'⟩, by decide⟩
      ·have dhi : decide (5 < t) = true := decide_eq_true (by omega)
       have e30 : res = 30 := by
        have h := HR0.out
        rw [if_neg (fun h => by
         have h1 := h.1
         simp only [capAll, Bool.and_eq_true, capIn, capNum, capMost, decide_eq_true_eq] at h1
         omega)] at h
        exact h
       subst e30
       clear HR0 hin hlo hhi
       go_wp2
       go_ret
       exact ⟨rfl, hB⟩
     ·have dlo : decide (t < 0) = true := decide_eq_true (by omega)
      have e30 : res = 30 := by
       have h := HR0.out
       rw [if_neg (fun h => by
        have h1 := h.1
        simp only [capAll, Bool.and_eq_true, capIn, capNum, capMost, decide_eq_true_eq] at h1
        omega)] at h
       exact h
      subst e30
      clear HR0 hin hlo
      go_wp2
      go_ret
      exact ⟨rfl, hB⟩
    ·by_cases hlo : 0 ≤ r
     ·have dlo : decide (r < 0) = false := decide_eq_false (by omega)
      by_cases hhi : r ≤ 15
      ·have dhi : decide (15 < r) = false := decide_eq_false (by omega)
       have hin' : Hid (∀ j : Nat, (j : Int) < (1 + 1 : Int) → capIn t r b o g j = true) := Lib.hid (fun j hj => by
        by_cases hj' : (j : Int) < 1
        ·exact hin.out j hj'
        ·obtain rfl : j = 1 := by omega
         exact Bool.and_eq_true_iff.mpr ⟨decide_eq_true hlo, decide_eq_true hhi⟩)
       clear hin hlo hhi
       go_wp2
       exact ⟨⟨1 + 1, by decide, by decide, rfl, hin'⟩, by decide⟩
      ·have dhi : decide (15 < r) = true := decide_eq_true (by omega)
       have e30 : res = 30 := by
        have h := HR0.out
        rw [if_neg (fun h => by
         have h1 := h.1
         simp only [capAll, Bool.and_eq_true, capIn, capNum, capMost, decide_eq_true_eq] at h1
         omega)] at h
        exact h
       subst e30
       clear HR0 hin hlo hhi
       go_wp2
       go_ret
       exact ⟨rfl, hB⟩
     ·have dlo : decide (r < 0) = true := decide_eq_true (by omega)
      have e30 : res = 30 := by
       have h := HR0.out
       rw [if_neg (fun h => by
        have h1 := h.1
        simp only [capAll, Bool.and_eq_true, capIn, capNum, capMost, decide_eq_true_eq] at h1
        omega)] at h
       exact h
      subst e30
      clear HR0 hin hlo
      go_wp2
      go_ret
      exact ⟨rfl, hB⟩
    ·by_cases hlo : 0 ≤ b
     ·have dlo : decide (b < 0) = false := decide_eq_false (by omega)
      by_cases hhi : b ≤ capBadges t
      ·have dhi : decide (capBadges t < b) = false := decide_eq_false (by omega)
       have hin' : Hid (∀ j : Nat, (j : Int) < (2 + 1 : Int) → capIn t r b o g j = true) := Lib.hid (fun j hj => by
        by_cases hj' : (j : Int) < 2
        ·exact hin.out j hj'
        ·obtain rfl : j = 2 := by omega
         exact Bool.and_eq_true_iff.mpr ⟨decide_eq_true hlo, decide_eq_true hhi⟩)
       clear hin hlo hhi
       go_wp2
       exact ⟨⟨2 + 1, by decide, by decide, rfl, hin'⟩, by decide⟩
      ·have dhi : decide (capBadges t < b) = true := decide_eq_true (by omega)
       have e30 : res = 30 := by
        have h := HR0.out
        rw [if_neg (fun h => by
         have h1 := h.1
         simp only [capAll, Bool.and_eq_true, capIn, capNum, capMost, decide_eq_true_eq] at h1
         omega)] at h
        exact h
       subst e30
       clear HR0 hin hlo hhi
       go_wp2
       go_ret
       exact ⟨rfl, hB⟩
     ·have dlo : decide (b < 0) = true := decide_eq_true (by omega)
      have e30 : res = 30 := by
       have h := HR0.out
       rw [if_neg (fun h => by
        have h1 := h.1
        simp only [capAll, Bool.and_eq_true, capIn, capNum, capMost, decide_eq_true_eq] at h1
        omega)] at h
       exact h
      subst e30
      clear HR0 hin hlo
      go_wp2
      go_ret
      exact ⟨rfl, hB⟩
    ·by_cases hlo : 0 ≤ o
     ·have dlo : decide (o < 0) = false := decide_eq_false (by omega)
      by_cases hhi : o ≤ 1023
      ·have dhi : decide (1023 < o) = false := decide_eq_false (by omega)
       have hin' : Hid (∀ j : Nat, (j : Int) < (3 + 1 : Int) → capIn t r b o g j = true) := Lib.hid (fun j hj => by
        by_cases hj' : (j : Int) < 3
        ·exact hin.out j hj'
        ·obtain rfl : j = 3 := by omega
         exact Bool.and_eq_true_iff.mpr ⟨decide_eq_true hlo, decide_eq_true hhi⟩)
       clear hin hlo hhi
       go_wp2
       exact ⟨⟨3 + 1, by decide, by decide, rfl, hin'⟩, by decide⟩
      ·have dhi : decide (1023 < o) = true := decide_eq_true (by omega)
       have e30 : res = 30 := by
        have h := HR0.out
        rw [if_neg (fun h => by
         have h1 := h.1
         simp only [capAll, Bool.and_eq_true, capIn, capNum, capMost, decide_eq_true_eq] at h1
         omega)] at h
        exact h
       subst e30
       clear HR0 hin hlo hhi
       go_wp2
       go_ret
       exact ⟨rfl, hB⟩
     ·have dlo : decide (o < 0) = true := decide_eq_true (by omega)
      have e30 : res = 30 := by
       have h := HR0.out
       rw [if_neg (fun h => by
        have h1 := h.1
        simp only [capAll, Bool.and_eq_true, capIn, capNum, capMost, decide_eq_true_eq] at h1
        omega)] at h
       exact h
      subst e30
      clear HR0 hin hlo
      go_wp2
      go_ret
      exact ⟨rfl, hB⟩
    ·by_cases hlo : 0 ≤ g
     ·have dlo : decide (g < 0) = false := decide_eq_false (by omega)
      by_cases hhi : g ≤ 4095
      ·have dhi : decide (4095 < g) = false := decide_eq_false (by omega)
       have hin' : Hid (∀ j : Nat, (j : Int) < (4 + 1 : Int) → capIn t r b o g j = true) := Lib.hid (fun j hj => by
        by_cases hj' : (j : Int) < 4
        ·exact hin.out j hj'
        ·obtain rfl : j = 4 := by omega
         exact Bool.and_eq_true_iff.mpr ⟨decide_eq_true hlo, decide_eq_true hhi⟩)
       clear hin hlo hhi
       go_wp2
       exact ⟨⟨4 + 1, by decide, by decide, rfl, hin'⟩, by decide⟩
      ·have dhi : decide (4095 < g) = true := decide_eq_true (by omega)
       have e30 : res = 30 := by
        have h := HR0.out
        rw [if_neg (fun h => by
         have h1 := h.1
         simp only [capAll, Bool.and_eq_true, capIn, capNum, capMost, decide_eq_true_eq] at h1
         omega)] at h
        exact h
       subst e30
       clear HR0 hin hlo hhi
       go_wp2
       go_ret
       exact ⟨rfl, hB⟩
     ·have dlo : decide (g < 0) = true := decide_eq_true (by omega)
      have e30 : res = 30 := by
       have h := HR0.out
       rw [if_neg (fun h => by
        have h1 := h.1
        simp only [capAll, Bool.and_eq_true, capIn, capNum, capMost, decide_eq_true_eq] at h1
        omega)] at h
       exact h
      subst e30
      clear HR0 hin hlo
      go_wp2
      go_ret
      exact ⟨rfl, hB⟩
   ·obtain rfl : k = 5 := by omega
    have hall : capAll t r b o g = true := by
     unfold capAll
     rw [hin.out 0 (by omega), hin.out 1 (by omega), hin.out 2 (by omega), hin.out 3 (by omega), hin.out 4 (by omega)]
     rfl
    by_cases ht : t = 0
    ·have bt : (t == 0) = true := beq_iff_eq.mpr ht
     have e30 : res = 30 := by
      have h := HR0.out
      rwa [if_neg (fun h => h.2 ht)] at h
     subst e30
     clear HR0 hin ht
     go_wp2
     go_ret
     exact ⟨rfl, hB⟩
    ·have bt : (t == 0) = false := beq_eq_false_iff_ne.mpr ht
     have e0 : res = 0 := by
      have h := HR0.out
      rwa [if_pos ⟨hall, ht⟩] at h
     subst e0
     clear HR0 hin ht hall
     go_wp2
     go_ret
     exact ⟨rfl, hB⟩
end Go.Proofs.YtmcjccigglekpaaGreatDoor.Given
namespace Go.Proofs.YtmcjccigglekpaaGreatDoor.Given
open Go Go.RowKit Go.Proofs Go.Proofs.YtmcjccigglekpaaGreatDoorW.PrintWords Go.Proofs.YtmcjccigglekpaaGreatDoorW.PrintLast Go.Proofs.YtmcjccigglekpaaGreatDoorW.PrintMore Go.Proofs.YtmcjccigglekpaaGreatDoor.P

def keyB (k : S74) : Bool := decide (0 ≤ k.f0) && (decide (k.f0 ≤ 9999) && (decide (0 ≤ k.f1) && decide (k.f1 ≤ 9999)))
def capRes (c : S87) : Int := if capZero c.f0 c.f1 c.f2 c.f3 c.f4 = true then 0 else if capAll c.f0 c.f1 c.f2 c.f3 c.f4 = true ∧ c.f0 ≠ 0 then 0 else 30
def capBad (c : S87) : Bool := capRes c != 0
def waitBad (x : S95) : Bool := !keyB x.f4
def branchBad (x : S76) : Bool := !keyB x.f0

set_option maxHeartbeats 400000 in
theorem isKey_calls (k : S74) (w : World) : Calls Tryz.prog 39 #[.agg #[.int .i64 k.f0, .int .i64 k.f1]] w fun e w' => e = .returned (.bool (keyB k)) ∧ Below w.heap.size w w' := by
 have hp : keyB k = (decide (0 ≤ k.f0) && (decide (k.f0 ≤ 9999) && (decide (0 ≤ k.f1) && decide (k.f1 ≤ 9999)))) := rfl
 rw [hp]
 clear hp
 obtain ⟨a, b⟩ := k
 dsimp only
 by_cases h0 : 0 ≤ a
 ·have b0 : decide (0 ≤ a) = true := decide_eq_true h0
  by_cases h1 : a ≤ 9999
  ·have b1 : decide (a ≤ 9999) = true := decide_eq_true h1
   by_cases h2 : 0 ≤ b
   ·have b2 : decide (0 ≤ b) = true := decide_eq_true h2
    by_cases h3 : b ≤ 9999
    all_goals
     first | have b3 : decide (b ≤ 9999) = true := decide_eq_true h3
           | have b3 : decide (b ≤ 9999) = false := decide_eq_false h3
     rw [b0, b1, b2, b3]
     clear h0 h1 h2 h3
     go_enter Tryz.func39, Tryz.ntmps39
     go_wp2
     go_ret
     exact ⟨rfl, (Below.refl _ _).alloc (Nat.le_refl _) _⟩
   ·have b2 : decide (0 ≤ b) = false := decide_eq_false h2
    rw [b0, b1, b2]
    clear h0 h1 h2
    go_enter Tryz.func39, Tryz.ntmps39
    go_wp2
    go_ret
    exact ⟨rfl, (Below.refl _ _).alloc (Nat.le_refl _) _⟩
  ·have b1 : decide (a ≤ 9999) = false := decide_eq_false h1
   rw [b0, b1]
   clear h0 h1
   go_enter Tryz.func39, Tryz.ntmps39
   go_wp2
   go_ret
   exact ⟨rfl, (Below.refl _ _).alloc (Nat.le_refl _) _⟩
 ·have b0 : decide (0 ≤ a) = false := decide_eq_false h0
  rw [b0]
  clear h0
  go_enter Tryz.func39, Tryz.ntmps39
  go_wp2
  go_ret
  exact ⟨rfl, (Below.refl _ _).alloc (Nat.le_refl _) _⟩

set_option maxHeartbeats 400000 in
theorem capBad_calls (s : S87) (w : World) : Calls Tryz.prog 69 #[.agg #[.int .i64 s.f0, .int .i64 s.f1, .int .i64 s.f2, .int .i64 s.f3, .int .i64 s.f4]] w fun e w' => e = .returned (.bool (capBad s)) ∧ Below w.heap.size w w' := by
 have c0 := fun w => cap_Check.calls s.f0 s.f1 s.f2 s.f3 s.f4 (capRes s) w rfl
 have hb : capBad s = (capRes s != 0) := rfl
 rw [hb]
 generalize capRes s = q at *
 have C0 := Lib.hid c0
 clear c0 hb
 go_enter Tryz.func69, Tryz.ntmps69
 go_wp2_with (go_at_call 70; (with_reducible refine (C0.out _).mono ?_); clear C0; rintro e w' ⟨rfl, hb⟩)
 go_ret
 exact ⟨rfl, ((Below.refl _ _).alloc (Nat.le_refl _) _).trans (hb.mono (by simp))⟩

set_option maxHeartbeats 400000 in
theorem waitBad_calls (s : S95) (w : World) : Calls Tryz.prog 72 #[.agg #[.int .i64 s.f0, .int .i64 s.f1, .int .i64 s.f2, .bool s.f3, .int .i64 s.f4.f0, .int .i64 s.f4.f1, .int .i64 s.f5, .bool s.f6]] w fun e w' => e = .returned (.bool (waitBad s)) ∧ Below w.heap.size w w' := by
 have c0 := isKey_calls s.f4
 have hb : waitBad s = !keyB s.f4 := rfl
 rw [hb]
 generalize keyB s.f4 = q at *
 have C0 := Lib.hid c0
 clear c0 hb
 go_enter Tryz.func72, Tryz.ntmps72
 go_wp2_with (go_at_call 39; (with_reducible refine (C0.out _).mono ?_); clear C0; rintro e w' ⟨rfl, hb⟩)
 go_ret
 exact ⟨rfl, ((Below.refl _ _).alloc (Nat.le_refl _) _).trans (hb.mono (by simp))⟩

set_option maxHeartbeats 400000 in
theorem branchBad_calls (s : S76) (w : World) : Calls Tryz.prog 41 #[.agg #[.int .i64 s.f0.f0, .int .i64 s.f0.f1, .int .i64 s.f1, .bool s.f2]] w fun e w' => e = .returned (.bool (branchBad s)) ∧ Below w.heap.size w w' := by
 have c0 := isKey_calls s.f0
 have hb : branchBad s = !keyB s.f0 := rfl
 rw [hb]
 generalize keyB s.f0 = q at *
 have C0 := Lib.hid c0
 clear c0 hb
 go_enter Tryz.func41, Tryz.ntmps41
 go_wp2_with (go_at_call 39; (with_reducible refine (C0.out _).mono ?_); clear C0; rintro e w' ⟨rfl, hb⟩)
 go_ret
 exact ⟨rfl, ((Below.refl _ _).alloc (Nat.le_refl _) _).trans (hb.mono (by simp))⟩

/-- The place of the first one that is bad. -/
def capBadAt : List S87 → Nat → Int
 | [], _ => -1
 | s :: l, i => if capBad s = true then (i : Int) else capBadAt l (i + 1)
theorem capBadAt_drop (l : List S87) (k : Nat) (hk : k < l.length) : capBadAt (l.drop k) k = if capBad (rd_T87 l k) = true then (k : Int) else capBadAt (l.drop (k + 1)) (k + 1) := by
 rw [List.drop_eq_getElem_cons hk]
 have : rd_T87 l (k : Int) = l[k] := by
  unfold rd_T87
  rw [Int.toNat_natCast, List.getD_eq_getElem?_getD, List.getElem?_eq_getElem hk]
  rfl
 rw [this]
 rfl
theorem capBadAt_any : ∀ (l : List S87) (i : Nat), decide (0 ≤ capBadAt l i) = l.any capBad
 | [], _ => rfl
 | s :: l, i => by
  have ih := capBadAt_any l (i + 1)
  rw [List.any_cons]
  unfold capBadAt
  cases h : capBad s with
  | true => rw [if_pos rfl]; exact decide_eq_true (by omega)
  | false => rw [if_neg (by decide), ih]; rfl

def capBadPost (l : List S87) (w : World) (e : Ending) (w' : World) : Prop := ∃ r, r = capBadAt l 0 ∧ e = .returned (.int .i64 r) ∧ Below w.heap.size w w'

set_option maxRecDepth 100000 in
set_option maxHeartbeats 1000000 in
theorem capBadIndex_calls (A : Option Addr) (c : Nat) (l : List S87) (w : World) (hr : Kd.C k87 w A l.length l) :
  Calls Tryz.prog 109 #[.slice A l.length c, .func (.func 69) #[] #[]] w (capBadPost l w) := by
 have hm := Kd.C_max hr
 go_enter Tryz.func109, Tryz.ntmps109
 go_wp2
 go_loopw [8] (fun i wr => ∃ k : Nat, k ≤ l.length ∧ i = .int .i64 k ∧ Hid (capBadAt (l.drop k) k = capBadAt l 0) ∧ Below w.heap.size w wr) (fun i _ => l.length - (intOf i).toNat)
 case atStart => exact ⟨0, Nat.zero_le _, rfl, Lib.hid rfl, Below.refl _ _⟩
 case round =>
  obtain ⟨k, hk, rfl, hbad, hB⟩ := hrel
  by_cases hlt : k < l.length
  ·have hd : decide (k < l.length) = true := decide_eq_true hlt
   have hd2 : decide ((k : Int) < (l.length : Int)) = true := decide_eq_true (by omega)
   obtain ⟨ad, e1, hx0, hx1, hx2, hx3, hx4⟩ := at_T87 (Kd.C_below hr hB) (k : Int) (by omega) (by omega)
   cases e1
   rw [Int.toNat_natCast] at hx0 hx1 hx2 hx3 hx4
   have hdrop := capBadAt_drop l k hlt
   have c0 := capBad_calls (rd_T87 l (k : Int))
   generalize capBad (rd_T87 l (k : Int)) = b at *
   have HD := Lib.hid hdrop
   have C0 := Lib.hid c0
   clear hdrop c0
   cases b
   ·go_wp2_with (go_at_call 69; (with_reducible refine (C0.out _).mono ?_); rintro e w' ⟨rfl, hb⟩)
    have hlt' := hlt
    refine ⟨⟨k + 1, hlt, rfl, ?_, ?_⟩, ?_⟩
    ·exact Lib.hid ((HD.out.symm.trans hbad.out))
    ·exact hB.trans (hb.mono hB.size)
    ·show l.length - ((k : Int) + 1).toNat < l.length - ((k : Int)).toNat
     omega
   ·go_wp2_with (go_at_call 69; (with_reducible refine (C0.out _).mono ?_); rintro e w' ⟨rfl, hb⟩)
    go_ret
    exact ⟨_, (HD.out.symm.trans hbad.out), rfl, hB.trans (hb.mono hB.size)⟩
  ·have hd : decide (k < l.length) = false := decide_eq_false hlt
   have hd2 : decide ((k : Int) < (l.length : Int)) = false := decide_eq_false (by omega)
   have hkl : l.drop k = [] := List.drop_eq_nil_of_le (Nat.le_of_not_lt hlt)
   rw [hkl] at hbad
   go_wp2
   go_ret
   exact ⟨_, hbad.out, rfl, hB⟩

set_option maxHeartbeats 400000 in
theorem capBadContains_calls (A : Option Addr) (c : Nat) (l : List S87) (w : World) (hr : Kd.C k87 w A l.length l) :
  Calls Tryz.prog 71 #[.slice A l.length c, .func (.func 69) #[] #[]] w fun e w' => e = .returned (.bool (l.any capBad)) ∧ Below w.heap.size w w' := by
 have hi := (capBadIndex_calls A c l w hr).mono (R' := fun e w' => e = .returned (.int .i64 (capBadAt l 0)) ∧ Below w.heap.size w w') (by rintro e w' ⟨_, rfl, h1, h2⟩; exact ⟨h1, h2⟩)
 rw [← capBadAt_any l 0]
 generalize capBadAt l 0 = r at *
 have Hi := Lib.hid hi
 clear hi
 by_cases h0 : 0 ≤ r
 all_goals
  first | have b0 : decide (0 ≤ r) = true := decide_eq_true h0
        | have b0 : decide (0 ≤ r) = false := decide_eq_false h0
  rw [b0]
  go_enter Tryz.func71, Tryz.ntmps71
  go_wp2_with (go_at_call 109; (with_reducible refine Hi.out.mono ?_); clear Hi; rintro e w' ⟨rfl, hb⟩)
  go_ret
  exact ⟨rfl, hb⟩

/-- The place of the first one that is bad. -/
def waitBadAt : List S95 → Nat → Int
 | [], _ => -1
 | s :: l, i => if waitBad s = true then (i : Int) else waitBadAt l (i + 1)
theorem waitBadAt_drop (l : List S95) (k : Nat) (hk : k < l.length) : waitBadAt (l.drop k) k = if waitBad (rd_T95 l k) = true then (k : Int) else waitBadAt (l.drop (k + 1)) (k + 1) := by
 rw [List.drop_eq_getElem_cons hk]
 have : rd_T95 l (k : Int) = l[k] := by
  unfold rd_T95
  rw [Int.toNat_natCast, List.getD_eq_getElem?_getD, List.getElem?_eq_getElem hk]
  rfl
 rw [this]
 rfl
theorem waitBadAt_any : ∀ (l : List S95) (i : Nat), decide (0 ≤ waitBadAt l i) = l.any waitBad
 | [], _ => rfl
 | s :: l, i => by
  have ih := waitBadAt_any l (i + 1)
  rw [List.any_cons]
  unfold waitBadAt
  cases h : waitBad s with
  | true => rw [if_pos rfl]; exact decide_eq_true (by omega)
  | false => rw [if_neg (by decide), ih]; rfl

def waitBadPost (l : List S95) (w : World) (e : Ending) (w' : World) : Prop := ∃ r, r = waitBadAt l 0 ∧ e = .returned (.int .i64 r) ∧ Below w.heap.size w w'

set_option maxRecDepth 100000 in
set_option maxHeartbeats 1000000 in
theorem waitBadIndex_calls (A : Option Addr) (c : Nat) (l : List S95) (w : World) (hr : Kd.C k95 w A l.length l) :
  Calls Tryz.prog 110 #[.slice A l.length c, .func (.func 72) #[] #[]] w (waitBadPost l w) := by
 have hm := Kd.C_max hr
 go_enter Tryz.func110, Tryz.ntmps110
 go_wp2
 go_loopw [8] (fun i wr => ∃ k : Nat, k ≤ l.length ∧ i = .int .i64 k ∧ Hid (waitBadAt (l.drop k) k = waitBadAt l 0) ∧ Below w.heap.size w wr) (fun i _ => l.length - (intOf i).toNat)
 case atStart => exact ⟨0, Nat.zero_le _, rfl, Lib.hid rfl, Below.refl _ _⟩
 case round =>
  obtain ⟨k, hk, rfl, hbad, hB⟩ := hrel
  by_cases hlt : k < l.length
  ·have hd : decide (k < l.length) = true := decide_eq_true hlt
   have hd2 : decide ((k : Int) < (l.length : Int)) = true := decide_eq_true (by omega)
   obtain ⟨ad, e1, hx0, hx1, hx2, hx3, hx4, hx5, hx6, hx7⟩ := at_T95 (Kd.C_below hr hB) (k : Int) (by omega) (by omega)
   cases e1
   rw [Int.toNat_natCast] at hx0 hx1 hx2 hx3 hx4 hx5 hx6 hx7
   have hdrop := waitBadAt_drop l k hlt
   have c0 := waitBad_calls (rd_T95 l (k : Int))
   generalize waitBad (rd_T95 l (k : Int)) = b at *
   have HD := Lib.hid hdrop
   have C0 := Lib.hid c0
   clear hdrop c0
   cases b
   ·go_wp2_with (go_at_call 72; (with_reducible refine (C0.out _).mono ?_); rintro e w' ⟨rfl, hb⟩)
    have hlt' := hlt
    refine ⟨⟨k + 1, hlt, rfl, ?_, ?_⟩, ?_⟩
    ·exact Lib.hid ((HD.out.symm.trans hbad.out))
    ·exact hB.trans (hb.mono hB.size)
    ·show l.length - ((k : Int) + 1).toNat < l.length - ((k : Int)).toNat
     omega
   ·go_wp2_with (go_at_call 72; (with_reducible refine (C0.out _).mono ?_); rintro e w' ⟨rfl, hb⟩)
    go_ret
    exact ⟨_, (HD.out.symm.trans hbad.out), rfl, hB.trans (hb.mono hB.size)⟩
  ·have hd : decide (k < l.length) = false := decide_eq_false hlt
   have hd2 : decide ((k : Int) < (l.length : Int)) = false := decide_eq_false (by omega)
   have hkl : l.drop k = [] := List.drop_eq_nil_of_le (Nat.le_of_not_lt hlt)
   rw [hkl] at hbad
   go_wp2
   go_ret
   exact ⟨_, hbad.out, rfl, hB⟩

set_option maxHeartbeats 400000 in
theorem waitBadContains_calls (A : Option Addr) (c : Nat) (l : List S95) (w : World) (hr : Kd.C k95 w A l.length l) :
  Calls Tryz.prog 73 #[.slice A l.length c, .func (.func 72) #[] #[]] w fun e w' => e = .returned (.bool (l.any waitBad)) ∧ Below w.heap.size w w' := by
 have hi := (waitBadIndex_calls A c l w hr).mono (R' := fun e w' => e = .returned (.int .i64 (waitBadAt l 0)) ∧ Below w.heap.size w w') (by rintro e w' ⟨_, rfl, h1, h2⟩; exact ⟨h1, h2⟩)
 rw [← waitBadAt_any l 0]
 generalize waitBadAt l 0 = r at *
 have Hi := Lib.hid hi
 clear hi
 by_cases h0 : 0 ≤ r
 all_goals
  first | have b0 : decide (0 ≤ r) = true := decide_eq_true h0
        | have b0 : decide (0 ≤ r) = false := decide_eq_false h0
  rw [b0]
  go_enter Tryz.func73, Tryz.ntmps73
  go_wp2_with (go_at_call 110; (with_reducible refine Hi.out.mono ?_); clear Hi; rintro e w' ⟨rfl, hb⟩)
  go_ret
  exact ⟨rfl, hb⟩

/-- The place of the first one that is bad. -/
def branchBadAt : List S76 → Nat → Int
 | [], _ => -1
 | s :: l, i => if branchBad s = true then (i : Int) else branchBadAt l (i + 1)
theorem branchBadAt_drop (l : List S76) (k : Nat) (hk : k < l.length) : branchBadAt (l.drop k) k = if branchBad (rd_T76 l k) = true then (k : Int) else branchBadAt (l.drop (k + 1)) (k + 1) := by
 rw [List.drop_eq_getElem_cons hk]
 have : rd_T76 l (k : Int) = l[k] := by
  unfold rd_T76
  rw [Int.toNat_natCast, List.getD_eq_getElem?_getD, List.getElem?_eq_getElem hk]
  rfl
 rw [this]
 rfl
theorem branchBadAt_any : ∀ (l : List S76) (i : Nat), decide (0 ≤ branchBadAt l i) = l.any branchBad
 | [], _ => rfl
 | s :: l, i => by
  have ih := branchBadAt_any l (i + 1)
  rw [List.any_cons]
  unfold branchBadAt
  cases h : branchBad s with
  | true => rw [if_pos rfl]; exact decide_eq_true (by omega)
  | false => rw [if_neg (by decide), ih]; rfl

def branchBadPost (l : List S76) (w : World) (e : Ending) (w' : World) : Prop := ∃ r, r = branchBadAt l 0 ∧ e = .returned (.int .i64 r) ∧ Below w.heap.size w w'

set_option maxRecDepth 100000 in
set_option maxHeartbeats 1000000 in
theorem branchBadIndex_calls (A : Option Addr) (c : Nat) (l : List S76) (w : World) (hr : Kd.C k76 w A l.length l) :
  Calls Tryz.prog 74 #[.slice A l.length c, .func (.func 41) #[] #[]] w (branchBadPost l w) := by
 have hm := Kd.C_max hr
 go_enter Tryz.func74, Tryz.ntmps74
 go_wp2
 go_loopw [8] (fun i wr => ∃ k : Nat, k ≤ l.length ∧ i = .int .i64 k ∧ Hid (branchBadAt (l.drop k) k = branchBadAt l 0) ∧ Below w.heap.size w wr) (fun i _ => l.length - (intOf i).toNat)
 case atStart => exact ⟨0, Nat.zero_le _, rfl, Lib.hid rfl, Below.refl _ _⟩
 case round =>
  obtain ⟨k, hk, rfl, hbad, hB⟩ := hrel
  by_cases hlt : k < l.length
  ·have hd : decide (k < l.length) = true := decide_eq_true hlt
   have hd2 : decide ((k : Int) < (l.length : Int)) = true := decide_eq_true (by omega)
   obtain ⟨ad, e1, hx0, hx1, hx2, hx3⟩ := at_T76 (Kd.C_below hr hB) (k : Int) (by omega) (by omega)
   cases e1
   rw [Int.toNat_natCast] at hx0 hx1 hx2 hx3
   have hdrop := branchBadAt_drop l k hlt
   have c0 := branchBad_calls (rd_T76 l (k : Int))
   generalize branchBad (rd_T76 l (k : Int)) = b at *
   have HD := Lib.hid hdrop
   have C0 := Lib.hid c0
   clear hdrop c0
   cases b
   ·go_wp2_with (go_at_call 41; (with_reducible refine (C0.out _).mono ?_); rintro e w' ⟨rfl, hb⟩)
    have hlt' := hlt
    refine ⟨⟨k + 1, hlt, rfl, ?_, ?_⟩, ?_⟩
    ·exact Lib.hid ((HD.out.symm.trans hbad.out))
    ·exact hB.trans (hb.mono hB.size)
    ·show l.length - ((k : Int) + 1).toNat < l.length - ((k : Int)).toNat
     omega
   ·go_wp2_with (go_at_call 41; (with_reducible refine (C0.out _).mono ?_); rintro e w' ⟨rfl, hb⟩)
    go_ret
    exact ⟨_, (HD.out.symm.trans hbad.out), rfl, hB.trans (hb.mono hB.size)⟩
  ·have hd : decide (k < l.length) = false := decide_eq_false hlt
   have hd2 : decide ((k : Int) < (l.length : Int)) = false := decide_eq_false (by omega)
   have hkl : l.drop k = [] := List.drop_eq_nil_of_le (Nat.le_of_not_lt hlt)
   rw [hkl] at hbad
   go_wp2
   go_ret
   exact ⟨_, hbad.out, rfl, hB⟩

set_option maxHeartbeats 400000 in
theorem branchBadContains_calls (A : Option Addr) (c : Nat) (l : List S76) (w : World) (hr : Kd.C k76 w A l.length l) :
  Calls Tryz.prog 40 #[.slice A l.length c, .func (.func 41) #[] #[]] w fun e w' => e = .returned (.bool (l.any branchBad)) ∧ Below w.heap.size w w' := by
 have hi := (branchBadIndex_calls A c l w hr).mono (R' := fun e w' => e = .returned (.int .i64 (branchBadAt l 0)) ∧ Below w.heap.size w w') (by rintro e w' ⟨_, rfl, h1, h2⟩; exact ⟨h1, h2⟩)
 rw [← branchBadAt_any l 0]
 generalize branchBadAt l 0 = r at *
 have Hi := Lib.hid hi
 clear hi
 by_cases h0 : 0 ≤ r
 all_goals
  first | have b0 : decide (0 ≤ r) = true := decide_eq_true h0
        | have b0 : decide (0 ≤ r) = false := decide_eq_false h0
  rw [b0]
  go_enter Tryz.func40, Tryz.ntmps40
  go_wp2_with (go_at_call 74; (with_reducible refine Hi.out.mono ?_); clear Hi; rintro e w' ⟨rfl, hb⟩)
  go_ret
  exact ⟨rfl, hb⟩

/-- May slots be written? -/
def nodeB (l : List S87) : Bool := (decide (l.length = 0) || decide (l.length = 8)) && !l.any capBad
def portB (x : S59) : Bool := decide (x.f2.length ≤ 64) && !x.f2.any waitBad

set_option maxHeartbeats 800000 in
theorem isNode_calls (A : Option Addr) (c : Nat) (l : List S87) (w : World) (hr : Kd.C k87 w A l.length l) :
  Calls Tryz.prog 37 #[.slice A l.length c] w fun e w' => e = .returned (.bool (nodeB l)) ∧ Below w.heap.size w w' := by
 have hn : nodeB l = ((decide (l.length = 0) || decide (l.length = 8)) && !l.any capBad) := rfl
 rw [hn]
 clear hn
 have hi := fun w' (hb : Below w.heap.size w w') => capBadContains_calls A c l w' (Kd.C_below hr hb)
 generalize l.any capBad = q at *
 have Hi := Lib.hid hi
 clear hi hr
 have z : ∀ n : Nat, decide (l.length = n) = ((l.length : Int) == (n : Int)) := fun n => by rw [Bool.eq_iff_iff]; simp only [decide_eq_true_eq, beq_iff_eq]; omega
 rw [z, z]
 by_cases h0 : (l.length : Int) = 0
 ·have b0 : ((l.length : Int) == 0) = true := beq_iff_eq.mpr h0
  show Calls _ _ _ _ fun e w' => e = .returned (.bool ((((l.length : Int) == 0) || ((l.length : Int) == 8)) && !q)) ∧ _
  rw [b0]
  go_enter Tryz.func37, Tryz.ntmps37
  go_wp2_with (go_at_call 71; (with_reducible refine (Hi.out _ ?_).mono ?_); clear Hi; (exact Below.refl _ _); rintro e w' ⟨rfl, hb⟩)
  go_ret
  exact ⟨rfl, hb⟩
 ·have b0 : ((l.length : Int) == 0) = false := beq_eq_false_iff_ne.mpr h0
  show Calls _ _ _ _ fun e w' => e = .returned (.bool ((((l.length : Int) == 0) || ((l.length : Int) == 8)) && !q)) ∧ _
  by_cases h1 : (l.length : Int) = 8
  ·have b1 : ((l.length : Int) == 8) = true := beq_iff_eq.mpr h1
   rw [b0, b1]
   go_enter Tryz.func37, Tryz.ntmps37
   go_wp2_with (go_at_call 71; (with_reducible refine (Hi.out _ ?_).mono ?_); clear Hi; (exact Below.refl _ _); rintro e w' ⟨rfl, hb⟩)
   go_ret
   exact ⟨rfl, hb⟩
  ·have b1 : ((l.length : Int) == 8) = false := beq_eq_false_iff_ne.mpr h1
   rw [b0, b1]
   go_enter Tryz.func37, Tryz.ntmps37
   go_wp2
   go_ret
   exact ⟨rfl, Below.refl _ _⟩

set_option maxHeartbeats 800000 in
theorem isPort_calls (k v : Int) (A : Option Addr) (c : Nat) (l : List S95) (w : World) (hr : Kd.C k95 w A l.length l) :
  Calls Tryz.prog 38 #[.agg #[.int .i64 k, .int .i64 v, .slice A l.length c]] w fun e w' => e = .returned (.bool (decide (l.length ≤ 64) && !l.any waitBad)) ∧ Below w.heap.size w w' := by
 have hi := fun w' (hb : Below w.heap.size w w') => waitBadContains_calls A c l w' (Kd.C_below hr hb)
 generalize l.any waitBad = q at *
 have Hi := Lib.hid hi
 clear hi hr
 have z : decide (l.length ≤ 64) = decide ((l.length : Int) ≤ 64) := by rw [Bool.eq_iff_iff]; simp only [decide_eq_true_eq]; omega
 rw [z]
 by_cases h0 : (l.length : Int) ≤ 64
 ·have b0 : decide ((l.length : Int) ≤ 64) = true := decide_eq_true h0
  rw [b0]
  clear z h0
  go_enter Tryz.func38, Tryz.ntmps38
  go_wp2_with (go_at_call 73; (with_reducible refine (Hi.out _ ?_).mono ?_); clear Hi; (exact (Below.refl _ _).alloc (Nat.le_refl _) _); rintro e w' ⟨rfl, hb⟩)
  go_ret
  exact ⟨rfl, ((Below.refl _ _).alloc (Nat.le_refl _) _).trans (hb.mono (by simp))⟩
 ·have b0 : decide ((l.length : Int) ≤ 64) = false := decide_eq_false h0
  rw [b0]
  clear z h0
  go_enter Tryz.func38, Tryz.ntmps38
  go_wp2
  go_ret
  exact ⟨rfl, (Below.refl _ _).alloc (Nat.le_refl _) _⟩

end Go.Proofs.YtmcjccigglekpaaGreatDoor.Given
namespace Go.Proofs.YtmcjccigglekpaaGreatDoor.Given
open Go Go.RowKit Go.Proofs Go.Proofs.YtmcjccigglekpaaGreatDoorW.PrintWords Go.Proofs.YtmcjccigglekpaaGreatDoorW.PrintLast Go.Proofs.YtmcjccigglekpaaGreatDoorW.PrintMore Go.Proofs.YtmcjccigglekpaaGreatDoor.P

/-- A state. -/
structure St where
 th : List S70
 fr : List (List Int)
 no : List (List S87)
 tr : List S76
 po : List S59
 li : List (List Int)
 ro : List Int
 sw : List S82
structure Sv where
 (A0 A1 A2 A3 A4 A5 A6 A7 : Option Addr)
 (c0 c1 c2 c3 c4 c5 c6 c7 : Nat)
abbrev Sv.cells (h : Sv) (s : St) : Array Value := #[.slice h.A0 s.th.length h.c0, .slice h.A1 s.fr.length h.c1, .slice h.A2 s.no.length h.c2, .slice h.A3 s.tr.length h.c3, .slice h.A4 s.po.length h.c4, .slice h.A5 s.li.length h.c5, .slice h.A6 s.ro.length h.c6, .slice h.A7 s.sw.length h.c7]
structure Sv.At (h : Sv) (s : St) (w : World) : Prop where
 r0 : Kd.C k70 w h.A0 s.th.length s.th
 r1 : Kd.C (Kd.slice 3 (Kd.int .i64)) w h.A1 s.fr.length s.fr
 r2 : Kd.C (Kd.slice 87 k87) w h.A2 s.no.length s.no
 r3 : Kd.C k76 w h.A3 s.tr.length s.tr
 r4 : Kd.C k59 w h.A4 s.po.length s.po
 r5 : Kd.C (Kd.slice 3 (Kd.int .i64)) w h.A5 s.li.length s.li
 r6 : Kd.C (Kd.int .i64) w h.A6 s.ro.length s.ro
 r7 : Kd.C k82 w h.A7 s.sw.length s.sw
 l0 : s.th.length ≤ h.c0
 l1 : s.fr.length ≤ h.c1
 l2 : s.no.length ≤ h.c2
 l3 : s.tr.length ≤ h.c3
 l4 : s.po.length ≤ h.c4
 l5 : s.li.length ≤ h.c5
 l6 : s.ro.length ≤ h.c6
 l7 : s.sw.length ≤ h.c7
theorem Sv.At.below {h : Sv} {s : St} {w w' : World} (H : h.At s w) (hb : Below w.heap.size w w') : h.At s w' :=
 ⟨Kd.C_below H.r0 hb, Kd.C_below H.r1 hb, Kd.C_below H.r2 hb, Kd.C_below H.r3 hb, Kd.C_below H.r4 hb, Kd.C_below H.r5 hb, Kd.C_below H.r6 hb, Kd.C_below H.r7 hb, H.l0, H.l1, H.l2, H.l3, H.l4, H.l5, H.l6, H.l7⟩

/-- A row's cell in a row of rows. -/
theorem at_row {α : Type} {t : Nat} {K : Kd α} {w : World} {A : Option Addr} {xs : List (List α)} (h : Kd.C (Kd.slice t K) w A xs.length xs) (k : Nat) (hk : k < xs.length) :
  ∃ ad A0 c0, A = some ad ∧ w.cell? (ad.add k) = some (.slice A0 xs[k].length c0) ∧ xs[k].length ≤ c0 ∧ K.C w A0 xs[k].length xs[k] := by
 obtain ⟨ad, c, e, _, hK, hc0⟩ := Kd.C_get h ([] : List α) (k : Int) (by omega) (by omega)
 rw [Int.toNat_natCast] at hK hc0
 have hx : xs.getD k [] = xs[k] := by rw [List.getD_eq_getElem?_getD, List.getElem?_eq_getElem hk]; rfl
 rw [hx] at hK
 obtain ⟨A0, c0, rfl, l0, g0⟩ := hK
 exact ⟨ad, A0, c0, e, by have hq : w.cell? (ad.add (k * 1 + 0)) = some _ := hc0 0 _ rfl; rwa [Nat.mul_one, Nat.add_zero] at hq, l0, g0⟩
theorem rdPort (xs : List S59) (k : Nat) (hk : k < xs.length) : rd_T59 xs (k : Int) = xs[k] := by
 unfold rd_T59
 rw [Int.toNat_natCast, List.getD_eq_getElem?_getD, List.getElem?_eq_getElem hk]
 rfl
theorem rdSweep (xs : List S82) (k : Nat) (hk : k < xs.length) : rd_T82 xs (k : Int) = xs[k] := by
 unfold rd_T82
 rw [Int.toNat_natCast, List.getD_eq_getElem?_getD, List.getElem?_eq_getElem hk]
 rfl

/-- May a state be written? -/
def sizesB (s : St) : Bool := decide (s.th.length ≤ 64 ∧ s.no.length = s.th.length ∧ s.po.length = s.th.length ∧ s.fr.length ≤ 64 ∧ s.li.length = s.fr.length ∧ s.sw.length = s.fr.length ∧ s.ro.length = s.fr.length ∧ s.tr.length ≤ 512)
def stateB (s : St) : Bool := sizesB s && (s.no.all nodeB && s.po.all portB) && (s.fr.all (fun l => decide (l.length ≤ 64)) && s.li.all (fun l => decide (l.length ≤ 64)) && s.sw.all (fun x => keyB x.f1)) && !s.tr.any branchBad
end Go.Proofs.YtmcjccigglekpaaGreatDoor.Given
namespace Go.Proofs.YtmcjccigglekpaaGreatDoor.Given
open Go Go.RowKit Go.Proofs Go.Proofs.YtmcjccigglekpaaGreatDoorW.PrintWords Go.Proofs.YtmcjccigglekpaaGreatDoorW.PrintLast Go.Proofs.YtmcjccigglekpaaGreatDoorW.PrintMore Go.Proofs.YtmcjccigglekpaaGreatDoor.P

instance decKey : DecidableEq S74 := fun x y => decidable_of_iff (x.f0 = y.f0 ∧ x.f1 = y.f1) ⟨fun h => by
 cases x; cases y; simp only at h; obtain ⟨rfl, rfl⟩ := h; rfl, fun h => by subst h; exact ⟨rfl, rfl⟩⟩
instance decWaiter : DecidableEq S95 := fun x y => decidable_of_iff (x.f0 = y.f0 ∧ x.f1 = y.f1 ∧ x.f2 = y.f2 ∧ x.f3 = y.f3 ∧ x.f4 = y.f4 ∧ x.f5 = y.f5 ∧ x.f6 = y.f6) ⟨fun h => by
 cases x; cases y; simp only at h; obtain ⟨rfl, rfl, rfl, rfl, rfl, rfl, rfl⟩ := h; rfl, fun h => by subst h; exact ⟨rfl, rfl, rfl, rfl, rfl, rfl, rfl⟩⟩
instance decThing : DecidableEq S70 := fun x y => decidable_of_iff (x.f0 = y.f0 ∧ x.f1 = y.f1 ∧ x.f2 = y.f2 ∧ x.f3 = y.f3 ∧ x.f4 = y.f4 ∧ x.f5 = y.f5 ∧ x.f6 = y.f6 ∧ x.f7 = y.f7) ⟨fun h => by
 cases x; cases y; simp only at h; obtain ⟨rfl, rfl, rfl, rfl, rfl, rfl, rfl, rfl⟩ := h; rfl, fun h => by subst h; exact ⟨rfl, rfl, rfl, rfl, rfl, rfl, rfl, rfl⟩⟩
instance decBranch : DecidableEq S76 := fun x y => decidable_of_iff (x.f0 = y.f0 ∧ x.f1 = y.f1 ∧ x.f2 = y.f2) ⟨fun h => by
 cases x; cases y; simp only at h; obtain ⟨rfl, rfl, rfl⟩ := h; rfl, fun h => by subst h; exact ⟨rfl, rfl, rfl⟩⟩
instance decCap : DecidableEq S87 := fun x y => decidable_of_iff (x.f0 = y.f0 ∧ x.f1 = y.f1 ∧ x.f2 = y.f2 ∧ x.f3 = y.f3 ∧ x.f4 = y.f4) ⟨fun h => by
 cases x; cases y; simp only at h; obtain ⟨rfl, rfl, rfl, rfl, rfl⟩ := h; rfl, fun h => by subst h; exact ⟨rfl, rfl, rfl, rfl, rfl⟩⟩
instance decSweep : DecidableEq S82 := fun x y => decidable_of_iff (x.f0 = y.f0 ∧ x.f1 = y.f1 ∧ x.f2 = y.f2) ⟨fun h => by
 cases x; cases y; simp only at h; obtain ⟨rfl, rfl, rfl⟩ := h; rfl, fun h => by subst h; exact ⟨rfl, rfl, rfl⟩⟩
instance decPort : DecidableEq S59 := fun x y => decidable_of_iff (x.f0 = y.f0 ∧ x.f1 = y.f1 ∧ x.f2 = y.f2) ⟨fun h => by
 cases x; cases y; simp only at h; obtain ⟨rfl, rfl, rfl⟩ := h; rfl, fun h => by subst h; exact ⟨rfl, rfl, rfl⟩⟩
instance decSt : DecidableEq St := fun x y => decidable_of_iff (x.th = y.th ∧ x.fr = y.fr ∧ x.no = y.no ∧ x.tr = y.tr ∧ x.po = y.po ∧ x.li = y.li ∧ x.ro = y.ro ∧ x.sw = y.sw) ⟨fun h => by
 cases x; cases y; simp only at h; obtain ⟨rfl, rfl, rfl, rfl, rfl, rfl, rfl, rfl⟩ := h; rfl, fun h => by subst h; exact ⟨rfl, rfl, rfl, rfl, rfl, rfl, rfl, rfl⟩⟩
theorem keyExt {x y : S74} (h0 : x.f0 = y.f0) (h1 : x.f1 = y.f1) : x = y := by cases x; cases y; simp only at h0 h1; subst h0 h1; rfl
theorem ifneWaiter {α : Sort _} {x y : S95} (h : ¬ x = y) (p q : α) : (if x.f0 = y.f0 then (if x.f1 = y.f1 then (if x.f2 = y.f2 then (if x.f3 = y.f3 then (if x.f4.f0 = y.f4.f0 then (if x.f4.f1 = y.f4.f1 then (if x.f5 = y.f5 then (if x.f6 = y.f6 then p else q) else q) else q) else q) else q) else q) else q) else q) = q := by
 repeat' split
 ·exfalso
  apply h
  rename_i kf0 kf1 kf2 kf3 kf4_f0 kf4_f1 kf5 kf6
  cases x; cases y
  dsimp only at *
  have ef4 := keyExt kf4_f0 kf4_f1
  subst_vars
  rfl
 all_goals rfl
theorem ifneThing {α : Sort _} {x y : S70} (h : ¬ x = y) (p q : α) : (if x.f0 = y.f0 then (if x.f1 = y.f1 then (if x.f2 = y.f2 then (if x.f3 = y.f3 then (if x.f4 = y.f4 then (if x.f5 = y.f5 then (if x.f6 = y.f6 then (if x.f7 = y.f7 then p else q) else q) else q) else q) else q) else q) else q) else q) = q := by
 repeat' split
 ·exfalso
  apply h
  rename_i kf0 kf1 kf2 kf3 kf4 kf5 kf6 kf7
  cases x; cases y
  dsimp only at *
  subst_vars
  rfl
 all_goals rfl
theorem ifneBranch {α : Sort _} {x y : S76} (h : ¬ x = y) (p q : α) : (if x.f0.f0 = y.f0.f0 then (if x.f0.f1 = y.f0.f1 then (if x.f1 = y.f1 then (if x.f2 = y.f2 then p else q) else q) else q) else q) = q := by
 repeat' split
 ·exfalso
  apply h
  rename_i kf0_f0 kf0_f1 kf1 kf2
  cases x; cases y
  dsimp only at *
  have ef0 := keyExt kf0_f0 kf0_f1
  subst_vars
  rfl
 all_goals rfl
theorem ifneCap {α : Sort _} {x y : S87} (h : ¬ x = y) (p q : α) : (if x.f0 = y.f0 then (if x.f1 = y.f1 then (if x.f2 = y.f2 then (if x.f3 = y.f3 then (if x.f4 = y.f4 then p else q) else q) else q) else q) else q) = q := by
 repeat' split
 ·exfalso
  apply h
  rename_i kf0 kf1 kf2 kf3 kf4
  cases x; cases y
  dsimp only at *
  subst_vars
  rfl
 all_goals rfl
theorem ifneSweep {α : Sort _} {x y : S82} (h : ¬ x = y) (p q : α) : (if x.f0 = y.f0 then (if x.f1.f0 = y.f1.f0 then (if x.f1.f1 = y.f1.f1 then (if x.f2 = y.f2 then p else q) else q) else q) else q) = q := by
 repeat' split
 ·exfalso
  apply h
  rename_i kf0 kf1_f0 kf1_f1 kf2
  cases x; cases y
  dsimp only at *
  have ef1 := keyExt kf1_f0 kf1_f1
  subst_vars
  rfl
 all_goals rfl
theorem take_more {α : Type} {a b : List α} {k : Nat} (h : a.take k = b.take k) (ha : k < a.length) (hb : k < b.length) (he : a[k] = b[k]) : a.take (k + 1) = b.take (k + 1) := by
 rw [List.take_succ_eq_append_getElem ha, List.take_succ_eq_append_getElem hb, h, he]
theorem take_done {α : Type} {a b : List α} {k : Nat} (h : a.take k = b.take k) (ha : k = a.length) (hl : a.length = b.length) : a = b := by
 rw [← List.take_length (l := a), ← List.take_length (l := b), ← hl, ← ha]; exact h
theorem not_at {α : Type} {a b : List α} {k : Nat} (ha : k < a.length) (hb : k < b.length) (he : ¬ a[k] = b[k]) : ¬ a = b := fun h => by subst h; exact he rfl
end Go.Proofs.YtmcjccigglekpaaGreatDoor.Given
namespace Go.Proofs.YtmcjccigglekpaaGreatDoor.Given
open Go Go.RowKit Go.Proofs Go.Proofs.YtmcjccigglekpaaGreatDoorW.PrintWords Go.Proofs.YtmcjccigglekpaaGreatDoorW.PrintLast Go.Proofs.YtmcjccigglekpaaGreatDoorW.PrintMore Go.Proofs.YtmcjccigglekpaaGreatDoor.P

/-- Block b is a pen of ours (from B on) that holds the text t. -/
def Pen (B b : Nat) (t : ByteArray) (w : World) : Prop := Lib.IsBuilder 65 5 B b (Lib.strCells t) w
abbrev PenU (B b : Nat) (t : ByteArray) (w : World) : Prop := Lib.BuilderAt 65 5 B b (.pointer (some ⟨b, 0, none⟩)) (Lib.strCells t) w

theorem strCells_append (s t : ByteArray) : Lib.strCells (s ++ t) = Lib.strCells s ++ Lib.strCells t := by
 unfold Lib.strCells
 rw [ByteArray.data_append, Array.toList_append, List.map_append]
theorem builderAt_below {T e : TypeId} {B b : Nat} {p : Value} {bs : List Value} {w w' : World} (h : Lib.BuilderAt T e B b p bs w) (hb : Below w.heap.size w w') : Lib.BuilderAt T e B b p bs w' := by
 have hlt := h.lt
 obtain ⟨hB, v, hk, ho, hn⟩ := h
 refine ⟨hB, v, (hb.block b hlt).trans hk, ⟨ho.1, ?_⟩, hn⟩
 rcases ho.2 with h | ⟨g, cap, cur, hv, h1, h2, h3⟩
 ·exact .inl h
 ·exact .inr ⟨g, cap, cur, hv, h1, (hb.block g (by rcases Nat.lt_or_ge g w.heap.size with h' | h'; exact h'; simp [Array.getElem?_eq_none h'] at h2)).trans h2, h3⟩
theorem Pen.below {B b : Nat} {t : ByteArray} {w w' : World} (h : Pen B b t w) (hb : Below w.heap.size w w') : Pen B b t w' :=
 h.elim (fun h => .inl (builderAt_below h hb)) (fun h => .inr (builderAt_below h hb))

/-- Blocks that are no bytes, and not b, are as they were. -/
def Kept (b : Nat) (w w' : World) : Prop := ∀ k cs T z, k ≠ b → T ≠ 5 → w.heap[k]? = some (.cells cs T z) → w'.heap[k]? = some (.cells cs T z)
theorem Kept.refl (b : Nat) (w : World) : Kept b w w := fun _ _ _ _ _ _ h => h
theorem Kept.trans {b : Nat} {w w1 w2 : World} (h : Kept b w w1) (k : Kept b w1 w2) : Kept b w w2 := fun i cs T z a c e => k i cs T z a c (h i cs T z a c e)
theorem heap_lt {w : World} {k : Nat} {o : Obj} (h : w.heap[k]? = some o) : k < w.heap.size := by
 rcases Nat.lt_or_ge k w.heap.size with h' | h'
 ·exact h'
 ·simp [Array.getElem?_eq_none h'] at h
theorem Kept.below {b : Nat} {w w1 w2 : World} (h : Kept b w w1) (hb : Below w1.heap.size w1 w2) : Kept b w w2 := fun i cs T z a c e => (hb.block i (heap_lt (h i cs T z a c e))).trans (h i cs T z a c e)
theorem Kept.alloc {b : Nat} {w w1 : World} (h : Kept b w w1) (o : Obj) : Kept b w (w1.alloc o) := h.below ((Below.refl _ _).alloc (Nat.le_refl _) _)
theorem Kept.set {b : Nat} {w w1 : World} (h : Kept b w w1) (i : Nat) (u : Value) : Kept b w (w1.setCell ⟨b, i, none⟩ u) := fun k cs T z a c e => (heap_setCell_other w1 ⟨b, i, none⟩ k u a).trans (h k cs T z a c e)
theorem Kept.grown {b B n s : Nat} {xs : List Value} {v : Value} {w w1 w2 : World} (h : Kept b w w1) (ho : w1.ownsRow B 5 s v n xs) (hg : w1.grownBy w2 v.ownBlock) : Kept b w w2 := fun k cs T z a c e => by
 have h1 := h k cs T z a c e
 rw [hg.block k (heap_lt h1) ?_]
 ·exact h1
 ·intro hk
  rcases ho.2 with ⟨hv, _⟩ | ⟨g, cap, cur, hv, _, h2, _⟩
  ·rw [hv] at hk; cases hk
  ·rw [hv] at hk
   injection hk with hk
   subst hk
   rw [h1] at h2
   injection h2 with h2
   injection h2 with _ h2 _
   exact c h2

set_option maxHeartbeats 1000000 in
set_option maxRecDepth 100000 in
theorem pen_copyCheck_used (b : Nat) (w : World) (h0 : w.cell? ⟨b, 0, none⟩ = some (.pointer (some ⟨b, 0, none⟩))) :
  Calls Tryz.prog 100 #[.pointer (some ⟨b, 0, none⟩)] w fun e w' => e = .returned (.tuple #[]) ∧ w' = w := by
 obtain ⟨j, hj, _⟩ := Option.map_eq_some_iff.1 (show (Tryz.prog.info? 63).map (·.size) = some 2 by kernel_rfl)
 go_enter Tryz.func100, Tryz.ntmps100
 go_wp2
 rw [Lib.run_neq_ptr_same w _ Tryz.underlying61 hj]
 go_wp2
 go_end0
 exact ⟨rfl, rfl⟩

set_option maxHeartbeats 1000000 in
set_option maxRecDepth 100000 in
theorem pen_copyCheck_fresh (b : Nat) (w : World) (h0 : w.cell? ⟨b, 0, none⟩ = some (.pointer none)) (hsh : w.shape? b = some (65, 2)) (hfz : w.frozen? ⟨b, 0, none⟩ = false) :
  Calls Tryz.prog 100 #[.pointer (some ⟨b, 0, none⟩)] w fun e w' => e = .returned (.tuple #[]) ∧ w' = w.setCell ⟨b, 0, none⟩ (.pointer (some ⟨b, 0, none⟩)) := by
 obtain ⟨j, hj, hjs⟩ := Option.map_eq_some_iff.1 (show (Tryz.prog.info? 63).map (·.size) = some 2 by kernel_rfl)
 go_enter Tryz.func100, Tryz.ntmps100
 go_wp2
 rw [Lib.run_to_unsafe w ⟨b, 0, none⟩ Tryz.underlying61 Tryz.underlying220 hj (by rw [hjs]; decide) hsh (Nat.zero_lt_succ 1)]
 simp only [Result.andThen]
 rw [Oper.upon_value]
 go_wp2
 rw [run_callFunc_extern Tryz.func145 (by kernel_rfl) (by kernel_rfl) (by kernel_rfl) (e := Extern.AbiNoEscape.same) (by kernel_rfl)]
 rw [Lib.run_noEscape]
 simp only [Result.andThen]
 rw [Oper.upon_value]
 go_wp2
 rw [Lib.run_from_unsafe w ⟨b, 0, none⟩ Tryz.underlying220 Tryz.underlying61 hj hsh (by kernel_rfl)]
 simp only [Result.andThen]
 rw [Oper.upon_value]
 go_wp2
 go_end0
 exact ⟨rfl, rfl⟩

theorem pen_copyCheck (B b : Nat) (t : ByteArray) (w : World) (h : Pen B b t w) :
  Calls Tryz.prog 100 #[.pointer (some ⟨b, 0, none⟩)] w fun e w' => e = .returned (.tuple #[]) ∧ (PenU B b t w' ∧ Below B w w' ∧ Kept b w w') := by
 rcases h with h | h
 ·refine (pen_copyCheck_fresh b w h.cell0 h.shape h.frozen0).mono ?_
  rintro e w' ⟨rfl, rfl⟩
  exact ⟨rfl, h.used _, (Below.refl B w).setCell (p := ⟨b, 0, none⟩) h.1 _, (Kept.refl b w).set 0 _⟩
 ·refine (pen_copyCheck_used b w h.cell0).mono ?_
  rintro e w' ⟨rfl, rfl⟩
  exact ⟨rfl, h, Below.refl B _, Kept.refl b _⟩

set_option maxHeartbeats 2000000 in
set_option maxRecDepth 100000 in
theorem pen_WriteByte (B b : Nat) (t : ByteArray) (c : UInt8) (w : World) (h : Pen B b t w) (hlen : t.size + 1 ≤ 140737488355328) (hBw : B ≤ w.heap.size) :
  Calls Tryz.prog 61 #[.pointer (some ⟨b, 0, none⟩), .int .u8 c.toNat] w fun e w' => e = .returned .nilIface ∧ (Pen B b (t ++ ⟨#[c]⟩) w' ∧ Below B w w' ∧ Kept b w w') := by
 rw [← Lib.strCells_length t] at hlen
 obtain ⟨i0, hi, hz0, hz1, hz2⟩ := info_parts (show (Tryz.prog.info? 5).map (fun i => (i.zero, i.size, i.bytes)) = some (some (.int .u8 0), 1, 1) by kernel_rfl)
 go_enter Tryz.func61, Tryz.ntmps61
 go_wp2_with (go_at_call 100; refine (pen_copyCheck B b t _ h).mono ?_)
 rintro e w1 ⟨rfl, h1, hb1, hk1⟩
 obtain ⟨hB, v, hbk, hown, hne⟩ := h1
 have c0 : w1.cell? ⟨b, 0, none⟩ = some (.pointer (some ⟨b, 0, none⟩)) := by rw [Lib.cell_of_heap hbk]; rfl
 have c1 : w1.cell? ⟨b, 1, none⟩ = some v := by rw [Lib.cell_of_heap hbk]; rfl
 go_wp2_with (at_builtin; refine wpList_append_own _ rfl _ _ 48 rfl B 5 i0 (.int .u8 0) 1 1 Tryz.underlying48 hi hz0 hz1 hz2 rfl (by decide) _ _ _ rfl (hown.alloc _) ⟨w1.heap.size, 0, none⟩ 1 1 [.int .u8 c.toNat] rfl rfl ?c1 ?c2 ?c3 ?c4 ?c5 ?_)
 case c1 =>
  intro j u hj
  match j, hj with
  | 0, hj => simp at hj; subst hj; simp [Addr.add]
 case c2 => intro u hu; simp at hu; subst hu; rfl
 case c3 => unfold maxLen; omega
 case c4 => omega
 case c5 => have := hb1.size; simp; omega
 intro v' w2 hown' hgrow _
 have hlt : b < w1.heap.size := by
  rcases Nat.lt_or_ge b w1.heap.size with h' | h'
  ·exact h'
  ·simp [Array.getElem?_eq_none h'] at hbk
 have hb2 : w2.heap[b]? = some (.cells #[.pointer (some ⟨b, 0, none⟩), v] 65 (0, 0)) := by
  rw [hgrow.block b (by simp; omega) (fun e => hne e.symm), Lib.alloc_old w1 _ b hlt]
  exact hbk
 have d0 : w2.cell? ⟨b, 0, none⟩ = some (.pointer (some ⟨b, 0, none⟩)) := by rw [Lib.cell_of_heap hb2]; rfl
 have d1 : w2.cell? ⟨b, 1, none⟩ = some v := by rw [Lib.cell_of_heap hb2]; rfl
 have f1 : w2.frozen? ⟨b, 1, none⟩ = false := Lib.frozen_of_heap hb2 1
 obtain ⟨g, cap, rfl⟩ : ∃ g cap, v' = .slice (some ⟨g, 0, none⟩) ((Lib.strCells t).length + 1) cap := by
  rcases hown'.2 with ⟨_, h0⟩ | ⟨g, cap, cur, hv, _⟩
  ·omega
  ·exact ⟨g, cap, hv⟩
 go_wp2
 go_ret
 refine ⟨rfl, ?_, ?_, ?_⟩
 ·refine .inr ?_
  rw [strCells_append]
  exact Lib.BuilderAt.put (T := 65) (e := 5) hB hb2 (bs' := Lib.strCells t ++ [.int .u8 c.toNat]) (by simpa using hown') (by decide)
 ·exact ((hb1.alloc (by have := hb1.size; omega) _).grown hgrow (by have := hb1.size; simp; omega) (fun k hk => (hown.lt k hk).1)).setCell (p := ⟨b, 1, none⟩) hB _
 ·exact ((hk1.alloc _).grown (hown.alloc _) hgrow).set 1 _

set_option maxHeartbeats 2000000 in
set_option maxRecDepth 100000 in
theorem pen_WriteString (B b : Nat) (t s : ByteArray) (w : World) (h : Pen B b t w) (hlen : t.size + s.size ≤ 140737488355328) (hBw : B ≤ w.heap.size) :
  Calls Tryz.prog 60 #[.pointer (some ⟨b, 0, none⟩), .string s] w fun e w' => e = .returned (.tuple #[.int .i64 s.size, .nilIface]) ∧ (Pen B b (t ++ s) w' ∧ Below B w w' ∧ Kept b w w') := by
 rw [← Lib.strCells_length t] at hlen
 obtain ⟨i0, hi, hz0, hz1, hz2⟩ := info_parts (show (Tryz.prog.info? 5).map (fun i => (i.zero, i.size, i.bytes)) = some (some (.int .u8 0), 1, 1) by kernel_rfl)
 go_enter Tryz.func60, Tryz.ntmps60
 go_wp2_with (go_at_call 100; refine (pen_copyCheck B b t _ h).mono ?_)
 rintro e w1 ⟨rfl, h1, hb1, hk1⟩
 obtain ⟨hB, v, hbk, hown, hne⟩ := h1
 have c0 : w1.cell? ⟨b, 0, none⟩ = some (.pointer (some ⟨b, 0, none⟩)) := by rw [Lib.cell_of_heap hbk]; rfl
 have c1 : w1.cell? ⟨b, 1, none⟩ = some v := by rw [Lib.cell_of_heap hbk]; rfl
 go_wp2_with (at_builtin; refine Lib.wpList_append_own_string _ rfl _ _ 48 9 rfl B 5 i0 Tryz.underlying48 Tryz.underlying9 hi hz0 hz1 hz2 _ _ _ rfl hown s rfl ?c3 ?c4 ?c5 ?_)
 case c3 => unfold maxLen; omega
 case c4 => omega
 case c5 => have := hb1.size; omega
 intro v' w2 hown' hgrow _
 have hlt : b < w1.heap.size := by
  rcases Nat.lt_or_ge b w1.heap.size with h' | h'
  ·exact h'
  ·simp [Array.getElem?_eq_none h'] at hbk
 have hb2 : w2.heap[b]? = some (.cells #[.pointer (some ⟨b, 0, none⟩), v] 65 (0, 0)) := by
  rw [hgrow.block b hlt (fun e => hne e.symm)]
  exact hbk
 have d0 : w2.cell? ⟨b, 0, none⟩ = some (.pointer (some ⟨b, 0, none⟩)) := by rw [Lib.cell_of_heap hb2]; rfl
 have d1 : w2.cell? ⟨b, 1, none⟩ = some v := by rw [Lib.cell_of_heap hb2]; rfl
 have f1 : w2.frozen? ⟨b, 1, none⟩ = false := Lib.frozen_of_heap hb2 1
 obtain ⟨ao, n', cap, rfl⟩ : ∃ ao n' cap, v' = .slice ao n' cap := by
  rcases hown'.2 with ⟨hv, _⟩ | ⟨g, cap, cur, hv, _⟩
  ·exact ⟨_, _, _, hv⟩
  ·exact ⟨_, _, _, hv⟩
 go_wp2
 go_ret2
 refine ⟨rfl, ?_, ?_, ?_⟩
 ·refine .inr ?_
  rw [strCells_append]
  exact Lib.BuilderAt.put (T := 65) (e := 5) hB hb2 (bs' := Lib.strCells t ++ Lib.strCells s) (by simpa [Lib.strCells_length] using hown') (by decide)
 ·exact (hb1.grown hgrow (by have := hb1.size; omega) (fun k hk => (hown.lt k hk).1)).setCell (p := ⟨b, 1, none⟩) hB _
 ·exact (hk1.grown hown hgrow).set 1 _

set_option maxHeartbeats 1000000 in
set_option maxRecDepth 100000 in
theorem pen_String (B b : Nat) (t : ByteArray) (w : World) (h : Pen B b t w) (h0 : 0 < t.size) :
  Calls Tryz.prog 30 #[.pointer (some ⟨b, 0, none⟩)] w fun e w' => e = .returned (.string t) ∧ Below B w w' := by
 obtain ⟨p, hB, v, hbk, hown, hne⟩ : ∃ p, Lib.BuilderAt 65 5 B b p (Lib.strCells t) w := by
  rcases h with h | h
  ·exact ⟨_, h⟩
  ·exact ⟨_, h⟩
 rw [Lib.strCells_eq] at hown
 obtain ⟨l, hl⟩ : ∃ l, t.data.toList = l := ⟨_, rfl⟩
 obtain rfl : t = ⟨l.toArray⟩ := by rw [← hl, Array.toArray_toList]
 have hz : l.length ≠ 0 := by
  have hq : (⟨l.toArray⟩ : ByteArray).size = l.length := rfl
  omega
 have h1 : l ≠ [] := fun e => hz (by rw [e]; rfl)
 rw [hl, Lib.byteCells_length] at hown
 obtain ⟨g, cap, cur, rfl, hbg, hg, hnc, hcm, hcs, htake⟩ : ∃ g cap cur, v = .slice (some ⟨g, 0, none⟩) l.length cap ∧ B ≤ g ∧ w.heap[g]? = some (.cells cur 5 (0, 0)) ∧ l.length ≤ cap ∧ cap ≤ maxLen ∧ cur.size = cap * 1 ∧ cur.toList.take (l.length * 1) = Lib.byteCells l := by
  rcases hown.2 with ⟨_, hz'⟩ | ⟨g, cap, cur, hv, r⟩
  ·exact absurd hz' hz
  ·exact ⟨g, cap, cur, hv, r⟩
 have c1 : w.drew.cell? ⟨b, 1, none⟩ = some (.slice (some ⟨g, 0, none⟩) l.length cap) := by
  have : w.drew.heap[b]? = some (.cells #[p, .slice (some ⟨g, 0, none⟩) l.length cap] 65 (0, 0)) := hbk
  rw [Lib.cell_of_heap this]; rfl
 have hSD : (Builtin.unsafeSliceData_ #[48] 146 #[.slice (some ⟨g, 0, none⟩) l.length cap]).run Tryz.prog w.drew = .ok (.pointer (some ⟨g, 0, none⟩)) w.drew :=
  Lib.run_unsafeSliceData_row _ _ _ _ _ _ (by omega)
 have hUS : (Builtin.unsafeString_ #[146, 3] 9 #[.pointer (some ⟨g, 0, none⟩), .int .i64 l.length]).run Tryz.prog w.drew = .ok (.string ⟨l.toArray⟩) (w.drew.freeze ⟨g, 0, none⟩ l.length) := by
  refine Lib.run_unsafeString_row w.drew 146 3 9 5 Tryz.underlying146 (by kernel_rfl) g cur.size (by have hg' : w.drew.heap[g]? = some (.cells cur 5 (0, 0)) := hg; simp [World.shape?, hg']) l h1 (by omega) (by unfold maxLen at hcm; omega) ?_
  intro j x hx
  have := hown.cells (g := g) rfl j (.int .u8 x.toNat) (by simp [Lib.byteCells, hx])
  exact this
 have mixed : Tryz.prog.follows .mixedOrders = true := by kernel_rfl
 clear hl
 go_enter Tryz.func30, Tryz.ntmps30
 go_wp2
 go_region_o
 all_goals (go_wp2; go_ret; exact ⟨rfl, Lib.below_freeze (Below.drew (Below.refl B w)) (p := ⟨g, 0, none⟩) hbg _⟩)
end Go.Proofs.YtmcjccigglekpaaGreatDoor.Given
