/- What Count and the document's Count come to; what the constant check comes to; the laws of fields. -/
import Derived.Test.YthmedgennlcigaaDoorBits3
import Derived.Test.YthmedgennlcigaaDoorPx4
namespace Go.Proofs.YthmedgennlcigaaDoor.Plain
open Go Go.RowKit Go.Proofs.YthmedgennlcigaaDoorW.PrintWords Go.Proofs.YthmedgennlcigaaDoorW.PrintLast Go.Proofs.YthmedgennlcigaaDoorW.PrintMore Go.Proofs.YthmedgennlcigaaDoor.P Go.Proofs.YthmedgennlcigaaDoor.Given

theorem and127 (z : Nat) (h : z < 4611686018427387904) : bits .and .i64 (z : Int) 127 = ((z % 128 : Nat) : Int) := by
  have := bits_mask .i64 62 (by decide) (fun n a b => by rw [show IntKind.i64.wrap n = (n + 9223372036854775808) % 18446744073709551616 - 9223372036854775808 from IntKind.wrap_i64 n]; omega) 7 (by decide) (z : Int) (by omega) (by omega)
  rw [show ((2 : Int) ^ 7 - 1) = 127 from rfl] at this
  rw [this]
  omega
theorem castdiv (a b : Nat) : (a : Int) / (b : Int) = ((a / b : Nat) : Int) := rfl

theorem Count_eq (x : Nat) (hx : x < 18446744073709551616) : bits_Count.f (x : Int) = some ((pc 64 x : Nat) : Int) := by
  unfold bits_Count.f bits_OnesCount64.f
  have m0 : (6148914691236517205 : Int) = ((6148914691236517205 : Nat) : Int) := rfl
  have m1 : (3689348814741910323 : Int) = ((3689348814741910323 : Nat) : Int) := rfl
  have m2 : (1085102592571150095 : Int) = ((1085102592571150095 : Nat) : Int) := rfl
  have l1 : dm 4 p4 32 x < 18446744073709551616 := dm_lt (B := 4) (f := p4) (fun d hd => Nat.lt_trans (p4_lt d hd) (by decide)) (by decide) 32 x
  have l2 : dm 16 p16 16 x < 18446744073709551616 := dm_lt (B := 16) (f := p16) (fun d hd => Nat.lt_trans (p16_lt d hd) (by decide)) (by decide) 16 x
  have h1 : IntKind.u64.wrap ((bits .and .u64 ((x : Int) / 2) 6148914691236517205) + (bits .and .u64 (x : Int) 6148914691236517205)) = ((dm 4 p4 32 x : Nat) : Int) := by
    rw [m0, show ((x : Int) / 2) = ((x / 2 : Nat) : Int) from rfl, and64 _ _ (by omega) (by decide), and64 _ _ hx (by decide), ← Int.natCast_add, stage1, back64 _ l1]
  rw [h1]
  have h2 : IntKind.u64.wrap ((bits .and .u64 (((dm 4 p4 32 x : Nat) : Int) / 4) 3689348814741910323) + (bits .and .u64 ((dm 4 p4 32 x : Nat) : Int) 3689348814741910323)) = ((dm 16 p16 16 x : Nat) : Int) := by
    rw [m1, show (((dm 4 p4 32 x : Nat) : Int) / 4) = ((dm 4 p4 32 x / 4 : Nat) : Int) from rfl, and64 _ _ (by omega) (by decide), and64 _ _ l1 (by decide), ← Int.natCast_add, stage2, back64 _ l2]
  rw [h2]
  have hs : dm 16 p16 16 x / 16 + dm 16 p16 16 x < 18446744073709551616 := by
    have : dm 16 p16 16 x < 6148914691236517205 := by
      have hz : ∀ k z, dm 16 p16 k z ≤ mk 16 4 k := by
        intro k
        induction k with
        | zero => intro z; simp [dm, mk]
        | succ k ih =>
          intro z
          have a1 := p16_lt (z % 16) (Nat.mod_lt _ (by decide))
          have a2 := ih (z / 16)
          show p16 (z % 16) + 16 * dm 16 p16 k (z / 16) ≤ 4 + 16 * mk 16 4 k
          omega
      exact Nat.lt_of_le_of_lt (hz 16 x) (by decide)
    omega
  have h3 : bits .and .u64 (IntKind.u64.wrap ((((dm 16 p16 16 x : Nat) : Int) / 16) + ((dm 16 p16 16 x : Nat) : Int))) 1085102592571150095 = ((dm 256 p256 8 x : Nat) : Int) := by
    rw [m2, show (((dm 16 p16 16 x : Nat) : Int) / 16) = ((dm 16 p16 16 x / 16 : Nat) : Int) from rfl, ← Int.natCast_add, back64 _ hs, and64 _ _ hs (by decide), stage3]
  rw [h3]
  obtain ⟨q1, q2, q3, q4⟩ := fold_sum x _ _ rfl rfl
  have h4 : IntKind.u64.wrap (((dm 256 p256 8 x : Nat) : Int) + ((dm 256 p256 8 x : Nat) : Int) / 256) = ((dm 256 p256 8 x + dm 256 p256 8 x / 256 : Nat) : Int) := by
    rw [show (((dm 256 p256 8 x : Nat) : Int) / 256) = ((dm 256 p256 8 x / 256 : Nat) : Int) from rfl, ← Int.natCast_add, back64 _ (Nat.lt_trans q2 (by decide))]
  rw [h4]
  generalize dm 256 p256 8 x + dm 256 p256 8 x / 256 = u at q1 q2 q3 q4 ⊢
  have h5 : IntKind.u64.wrap ((u : Int) + (u : Int) / 65536) = ((u + u / 65536 : Nat) : Int) := by
    rw [show ((u : Int) / 65536) = ((u / 65536 : Nat) : Int) from rfl, ← Int.natCast_add, back64 _ (Nat.lt_trans q3 (by decide))]
  rw [h5]
  generalize u + u / 65536 = v at q1 q3 q4 ⊢
  have h6 : IntKind.u64.wrap ((v : Int) + (v : Int) / 4294967296) = ((v + v / 4294967296 : Nat) : Int) := by
    rw [show ((v : Int) / 4294967296) = ((v / 4294967296 : Nat) : Int) from rfl, ← Int.natCast_add, back64 _ (Nat.lt_trans q4 (by decide))]
  rw [h6, w64 (by omega) (by omega), and127 _ q4, q1]
  rfl

theorem live_ok {k : Nat} (hk : 20 ≤ k) : garrisonlaw01_live.f k = some true :=
  at_rounds (g := fun k => garrisonlaw01_live.f k) (fun k => garrisonlaw01_live.mono k) hk (by decide +kernel)

theorem num_eq (a : Int) : garrisonlaw01_num.f a = some a := rfl
end Go.Proofs.YthmedgennlcigaaDoor.Plain
