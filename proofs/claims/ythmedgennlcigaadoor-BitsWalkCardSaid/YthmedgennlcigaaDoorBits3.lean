/- How many bits are set: the library's sum in parallel is the sum of the bits. -/
import Derived.Test.YthmedgennlcigaaDoorBits2
namespace Go.Proofs.YthmedgennlcigaaDoor.Plain
open Go Go.RowKit Go.Proofs.YthmedgennlcigaaDoorW.PrintWords Go.Proofs.YthmedgennlcigaaDoorW.PrintLast Go.Proofs.YthmedgennlcigaaDoorW.PrintMore Go.Proofs.YthmedgennlcigaaDoor.P Go.Proofs.YthmedgennlcigaaDoor.Given

/-- The sum of the lowest k bits. -/
def pc : Nat → Nat → Nat
  | 0, _ => 0
  | k + 1, x => x % 2 + pc k (x / 2)
theorem pc_le : ∀ k x, pc k x ≤ k
  | 0, _ => Nat.le_refl _
  | k + 1, x => by
    have := pc_le k (x / 2)
    unfold pc
    omega
theorem pc_add : ∀ (j k x : Nat), pc (j + k) x = pc j (x % 2 ^ j) + pc k (x / 2 ^ j)
  | 0, k, x => by simp [pc]
  | j + 1, k, x => by
    rw [show j + 1 + k = (j + k) + 1 from by omega]
    show x % 2 + pc (j + k) (x / 2) = (x % 2 ^ (j + 1)) % 2 + pc j (x % 2 ^ (j + 1) / 2) + pc k (x / 2 ^ (j + 1))
    rw [pc_add j k (x / 2)]
    have h1 : x % 2 ^ (j + 1) % 2 = x % 2 := Nat.mod_mod_of_dvd _ ⟨2 ^ j, by rw [Nat.pow_succ, Nat.mul_comm]⟩
    have h2 : x % 2 ^ (j + 1) / 2 = x / 2 % 2 ^ j := by rw [Nat.pow_succ, Nat.mul_comm, Nat.mod_mul_right_div_self]
    have h3 : x / 2 / 2 ^ j = x / 2 ^ (j + 1) := by rw [Nat.div_div_eq_div_mul, Nat.pow_succ, Nat.mul_comm]
    rw [h1, h2, h3]
    omega
theorem pc_mod : ∀ (j x : Nat), pc j (x % 2 ^ j) = pc j x := fun j x => by
  have := pc_add j 0 x
  simp [pc] at this
  exact this.symm
theorem pc_snoc (k x : Nat) : pc (k + 1) x = pc k x + x / 2 ^ k % 2 := by
  rw [pc_add k 1 x, pc_mod]
  rfl

/-- Digit by digit in base B. -/
def dm (B : Nat) (f : Nat → Nat) : Nat → Nat → Nat
  | 0, _ => 0
  | k + 1, x => f (x % B) + B * dm B f k (x / B)
theorem dm_lt {B : Nat} {f : Nat → Nat} (hf : ∀ d, d < B → f d < B) (hB : 0 < B) : ∀ k x, dm B f k x < B ^ k
  | 0, _ => by simp [dm]
  | k + 1, x => by
    have h1 := dm_lt hf hB k (x / B)
    have h2 := hf (x % B) (Nat.mod_lt _ hB)
    show f (x % B) + B * dm B f k (x / B) < B ^ (k + 1)
    have h3 : B * (dm B f k (x / B) + 1) ≤ B * B ^ k := Nat.mul_le_mul_left _ h1
    rw [Nat.pow_succ, Nat.mul_comm (B ^ k) B]
    rw [Nat.mul_add, Nat.mul_one] at h3
    omega
theorem dm_congr {B : Nat} {f g : Nat → Nat} (hB : 0 < B) (h : ∀ d, d < B → f d = g d) : ∀ k x, dm B f k x = dm B g k x
  | 0, _ => rfl
  | k + 1, x => by
    show f (x % B) + B * dm B f k (x / B) = g (x % B) + B * dm B g k (x / B)
    rw [h _ (Nat.mod_lt _ hB), dm_congr hB h k]
theorem dm_add {B : Nat} (f g : Nat → Nat) : ∀ k x, dm B f k x + dm B g k x = dm B (fun d => f d + g d) k x
  | 0, _ => rfl
  | k + 1, x => by
    show f (x % B) + B * dm B f k (x / B) + (g (x % B) + B * dm B g k (x / B)) = (f (x % B) + g (x % B)) + B * dm B (fun d => f d + g d) k (x / B)
    rw [← dm_add f g k (x / B), Nat.mul_add]
    omega
theorem dm_comp {B : Nat} {f g : Nat → Nat} (hB : 0 < B) (hf : ∀ d, d < B → f d < B) : ∀ k x, dm B g k (dm B f k x) = dm B (fun d => g (f d)) k x
  | 0, _ => rfl
  | k + 1, x => by
    have h1 : (f (x % B) + B * dm B f k (x / B)) % B = f (x % B) := by rw [Nat.add_mul_mod_self_left, Nat.mod_eq_of_lt (hf _ (Nat.mod_lt _ hB))]
    have h2 : (f (x % B) + B * dm B f k (x / B)) / B = dm B f k (x / B) := by rw [Nat.add_mul_div_left _ _ hB, Nat.div_eq_of_lt (hf _ (Nat.mod_lt _ hB)), Nat.zero_add]
    show g ((f (x % B) + B * dm B f k (x / B)) % B) + B * dm B g k ((f (x % B) + B * dm B f k (x / B)) / B) = _
    rw [h1, h2, dm_comp hB hf k]
    rfl
/-- Two digits as one of base B * B. -/
theorem dm_two {B : Nat} (f : Nat → Nat) : ∀ k x, dm B f (2 * k) x = dm (B * B) (fun d => f (d % B) + B * f (d / B % B)) k x
  | 0, _ => rfl
  | k + 1, x => by
    rw [show 2 * (k + 1) = (2 * k + 1) + 1 from by omega]
    show f (x % B) + B * (f (x / B % B) + B * dm B f (2 * k) (x / B / B)) = (f (x % (B * B) % B) + B * f (x % (B * B) / B % B)) + B * B * dm (B * B) _ k (x / (B * B))
    rw [dm_two f k, Nat.div_div_eq_div_mul, Nat.mod_mul_right_mod, Nat.mod_mul_right_div_self, Nat.mod_mod, Nat.mul_add, Nat.mul_assoc]
    omega
/-- A mask whose digits are c. -/
def mk (B c : Nat) : Nat → Nat
  | 0 => 0
  | k + 1 => c + B * mk B c k
theorem and_mk {b c : Nat} (hc : c < 2 ^ b) : ∀ k x, x &&& mk (2 ^ b) c k = dm (2 ^ b) (fun d => d &&& c) k x
  | 0, x => by simp [mk, dm]
  | k + 1, x => by
    have hp : 0 < 2 ^ b := Nat.two_pow_pos b
    have h1 : (x &&& mk (2 ^ b) c (k + 1)) % 2 ^ b = (x % 2 ^ b) &&& c := by
      rw [Nat.and_mod_two_pow]
      congr 1
      show (c + 2 ^ b * mk (2 ^ b) c k) % 2 ^ b = c
      rw [Nat.add_mul_mod_self_left, Nat.mod_eq_of_lt hc]
    have h2 : (x &&& mk (2 ^ b) c (k + 1)) / 2 ^ b = (x / 2 ^ b) &&& mk (2 ^ b) c k := by
      rw [Nat.and_div_two_pow]
      congr 1
      show (c + 2 ^ b * mk (2 ^ b) c k) / 2 ^ b = mk (2 ^ b) c k
      rw [Nat.add_mul_div_left _ _ hp, Nat.div_eq_of_lt hc, Nat.zero_add]
    show _ = ((x % 2 ^ b) &&& c) + 2 ^ b * dm (2 ^ b) (fun d => d &&& c) k (x / 2 ^ b)
    rw [← and_mk hc k (x / 2 ^ b), ← h1, ← h2]
    exact (Nat.mod_add_div _ _).symm

/-! the three masks -/
theorem m0_eq : mk (2 ^ 2) 1 32 = 6148914691236517205 := by decide
theorem m1_eq : mk (2 ^ 4) 3 16 = 3689348814741910323 := by decide
theorem m2_eq : mk (2 ^ 8) 15 8 = 1085102592571150095 := by decide
theorem and_1 : ∀ d, d < 4 → d &&& 1 = d % 2 := by decide
theorem and_3 : ∀ d, d < 16 → d &&& 3 = d % 4 := by decide
theorem and_15 : ∀ d, d < 256 → d &&& 15 = d % 16 := fun d _ => Nat.and_two_pow_sub_one_eq_mod d 4

theorem half_dm : ∀ k x, dm 4 (fun d => d % 2) k (x / 2) = dm 4 (fun d => d / 2) k x
  | 0, _ => rfl
  | k + 1, x => by
    show x / 2 % 4 % 2 + 4 * dm 4 (fun d => d % 2) k (x / 2 / 4) = x % 4 / 2 + 4 * dm 4 (fun d => d / 2) k (x / 4)
    rw [show x / 2 / 4 = x / 4 / 2 from by omega, half_dm k (x / 4)]
    omega
theorem quarter_dm : ∀ k x, dm 16 (fun d => d % 4) k (x / 4) = dm 16 (fun d => d / 4) k x
  | 0, _ => rfl
  | k + 1, x => by
    show x / 4 % 16 % 4 + 16 * dm 16 (fun d => d % 4) k (x / 4 / 16) = x % 16 / 4 + 16 * dm 16 (fun d => d / 4) k (x / 16)
    rw [show x / 4 / 16 = x / 16 / 4 from by omega, quarter_dm k (x / 16)]
    omega

def p4 (d : Nat) : Nat := d / 2 + d % 2
def p16 (d : Nat) : Nat := p4 (d % 4) + p4 (d / 4 % 4)
def p256 (d : Nat) : Nat := p16 (d % 16) + p16 (d / 16 % 16)
theorem p4_lt : ∀ d, d < 4 → p4 d < 3 := by decide
theorem p16_lt : ∀ d, d < 16 → p16 d < 5 := by decide
theorem p256_pc : ∀ d, d < 256 → p256 d = pc 8 d := by decide +kernel

theorem stage1 (x : Nat) : (x / 2 &&& 6148914691236517205) + (x &&& 6148914691236517205) = dm 4 p4 32 x := by
  rw [← m0_eq, and_mk (by decide), and_mk (by decide), show (2 : Nat) ^ 2 = 4 from rfl, dm_congr (by decide) and_1 32 (x / 2), dm_congr (by decide) and_1 32 x, half_dm, dm_add]
  rfl
theorem stage2 (x : Nat) : (dm 4 p4 32 x / 4 &&& 3689348814741910323) + (dm 4 p4 32 x &&& 3689348814741910323) = dm 16 p16 16 x := by
  rw [← m1_eq, and_mk (by decide), and_mk (by decide), show (2 : Nat) ^ 4 = 16 from rfl, dm_congr (by decide) and_3 16 (dm 4 p4 32 x / 4), dm_congr (by decide) and_3 16 (dm 4 p4 32 x), quarter_dm, dm_add]
  rw [show (32 : Nat) = 2 * 16 from rfl, dm_two p4 16 x, show (4 : Nat) * 4 = 16 from rfl, dm_comp (by decide) (by decide)]
  apply dm_congr (by decide)
  decide
theorem stage3_loop : ∀ k x, ((dm 16 p16 (2 * k) x / 16 + dm 16 p16 (2 * k) x) &&& mk (2 ^ 8) 15 k) = dm 256 p256 k x := by
  intro k
  induction k with
  | zero => intro x; simp [mk, dm]
  | succ k ih =>
    intro x
    have hr := ih (x / 16 / 16)
    have hA := p16_lt (x % 16) (Nat.mod_lt _ (by decide))
    have hB := p16_lt (x / 16 % 16) (Nat.mod_lt _ (by decide))
    have hS : dm 16 p16 (2 * k) (x / 16 / 16) % 16 ≤ 4 := by
      cases k with
      | zero => simp [dm]
      | succ k =>
        rw [show 2 * (k + 1) = (2 * k + 1) + 1 from by omega]
        show (p16 (x / 16 / 16 % 16) + 16 * dm 16 p16 (2 * k + 1) (x / 16 / 16 / 16)) % 16 ≤ 4
        have := p16_lt (x / 16 / 16 % 16) (Nat.mod_lt _ (by decide))
        omega
    have e : dm 16 p16 (2 * (k + 1)) x = p16 (x % 16) + 16 * (p16 (x / 16 % 16) + 16 * dm 16 p16 (2 * k) (x / 16 / 16)) := by
      rw [show 2 * (k + 1) = (2 * k + 1) + 1 from by omega]
      rfl
    rw [e]
    generalize dm 16 p16 (2 * k) (x / 16 / 16) = r at hr hS ⊢
    generalize hy : (p16 (x % 16) + 16 * (p16 (x / 16 % 16) + 16 * r)) / 16 + (p16 (x % 16) + 16 * (p16 (x / 16 % 16) + 16 * r)) = y
    have hy1 : y % 256 % 16 = p16 (x % 16) + p16 (x / 16 % 16) := by omega
    have hy2 : y / 256 = r / 16 + r := by omega
    have h1 : (y &&& mk (2 ^ 8) 15 (k + 1)) % 2 ^ 8 = (y % 2 ^ 8) &&& 15 := by
      rw [Nat.and_mod_two_pow]
      congr 1
      show (15 + 2 ^ 8 * mk (2 ^ 8) 15 k) % 2 ^ 8 = 15
      omega
    have h2 : (y &&& mk (2 ^ 8) 15 (k + 1)) / 2 ^ 8 = (y / 2 ^ 8) &&& mk (2 ^ 8) 15 k := by
      rw [Nat.and_div_two_pow]
      congr 1
      show (15 + 2 ^ 8 * mk (2 ^ 8) 15 k) / 2 ^ 8 = mk (2 ^ 8) 15 k
      omega
    rw [show y % 2 ^ 8 = y % 256 from rfl, and_15 _ (Nat.mod_lt _ (by decide)), hy1] at h1
    rw [show y / 2 ^ 8 = y / 256 from rfl, hy2, hr] at h2
    show _ = p256 (x % 256) + 256 * dm 256 p256 k (x / 256)
    have e3 : p256 (x % 256) = p16 (x % 16) + p16 (x / 16 % 16) := by
      unfold p256
      rw [show x % 256 % 16 = x % 16 from by omega, show x % 256 / 16 % 16 = x / 16 % 16 from by omega]
    rw [e3, show x / 256 = x / 16 / 16 from by omega, ← h2]
    omega
theorem stage3 (x : Nat) : ((dm 16 p16 16 x / 16 + dm 16 p16 16 x) &&& 1085102592571150095) = dm 256 p256 8 x := by
  rw [← m2_eq]
  exact stage3_loop 8 x
theorem pc64 (x : Nat) : pc 64 x = p256 (x % 256) + p256 (x / 256 % 256) + p256 (x / 256 / 256 % 256) + p256 (x / 256 / 256 / 256 % 256) + p256 (x / 256 / 256 / 256 / 256 % 256) + p256 (x / 256 / 256 / 256 / 256 / 256 % 256) + p256 (x / 256 / 256 / 256 / 256 / 256 / 256 % 256) + p256 (x / 256 / 256 / 256 / 256 / 256 / 256 / 256 % 256) := by
  have h : ∀ k y, pc (8 + k) y = p256 (y % 256) + pc k (y / 256) := fun k y => by
    rw [pc_add 8 k y, show (2 : Nat) ^ 8 = 256 from rfl, p256_pc _ (Nat.mod_lt _ (by decide))]
  rw [show 64 = 8 + (8 + (8 + (8 + (8 + (8 + (8 + (8 + 0))))))) from rfl, h, h, h, h, h, h, h, h]
  simp only [pc, Nat.add_zero]
  omega
theorem p256_le (d : Nat) (h : d < 256) : p256 d ≤ 8 := by rw [p256_pc d h]; exact pc_le 8 d
theorem dg {v a q : Nat} (e : v = a + 256 * q) (h : a ≤ 64) : v / 256 = q := by omega
theorem dgm {v a q : Nat} (e : v = a + 256 * q) (h : a ≤ 64) : v % 256 = a := by omega
theorem add_step {v v' c c' q q' : Nat} (e : v = c + 256 * q) (e' : v' = c' + 256 * q') : v + v' = (c + c') + 256 * (q + q') := by omega
theorem bd {v a q : Nat} (A : Nat) (e : v = a + 256 * q) (h : a ≤ 16) (hq : q ≤ A) : v ≤ 16 + 256 * A := by omega
theorem le2b {a b : Nat} (ha : a ≤ 8) (hb : b ≤ 8) : a + b ≤ 16 := by omega
theorem le2 {a b : Nat} (ha : a ≤ 8) (hb : b ≤ 8) : a + b ≤ 64 := by omega
theorem le4 {a b c d : Nat} (ha : a ≤ 8) (hb : b ≤ 8) (hc : c ≤ 8) (hd : d ≤ 8) : a + b + (c + d) ≤ 64 := by omega
theorem last_mod {v v4 a b : Nat} (h : v % 256 = a) (h4 : v4 % 256 = b) (hs : a + b ≤ 64) : (v + v4) % 128 = a + b := by omega
theorem fold_plain (c0 c1 c2 c3 c4 c5 c6 c7 : Nat) (h0 : c0 ≤ 8) (h1 : c1 ≤ 8) (h2 : c2 ≤ 8) (h3 : c3 ≤ 8) (h4 : c4 ≤ 8) (h5 : c5 ≤ 8) (h6 : c6 ≤ 8) (h7 : c7 ≤ 8)
    (y y1 y2 y3 y4 y5 y6 y7 : Nat) (e0 : y = c0 + 256 * y1) (e1 : y1 = c1 + 256 * y2) (e2 : y2 = c2 + 256 * y3) (e3 : y3 = c3 + 256 * y4) (e4 : y4 = c4 + 256 * y5) (e5 : y5 = c5 + 256 * y6) (e6 : y6 = c6 + 256 * y7) (e7 : y7 = c7 + 256 * 0) :
    ∀ u v : Nat, u = y + y / 256 → v = u + u / 65536 → (v + v / 4294967296) % 128 = (c0 + c1 + (c2 + c3)) + (c4 + c5 + (c6 + c7)) ∧ u < 4611686018427387904 ∧ v < 4611686018427387904 ∧ v + v / 4294967296 < 4611686018427387904 := by
  intro u v hu hv
  rw [dg e0 (Nat.le_trans h0 (by decide))] at hu
  have e8 : (0 : Nat) = 0 + 256 * 0 := rfl
  have f0 := hu.trans (add_step e0 e1)
  have f1 := add_step e1 e2
  have f2 := add_step e2 e3
  have f3 := add_step e3 e4
  have f4 := add_step e4 e5
  have f5 := add_step e5 e6
  have f6 := add_step e6 e7
  have f7 := add_step e7 e8
  have g : u / 65536 = y2 + y3 := by
    rw [show (65536 : Nat) = 256 * 256 from rfl, ← Nat.div_div_eq_div_mul, dg f0 (le2 h0 h1), dg f1 (le2 h1 h2)]
  rw [g] at hv
  have k0 := hv.trans (add_step f0 f2)
  have k1 := add_step f1 f3
  have k2 := add_step f2 f4
  have k3 := add_step f3 f5
  have k4 := add_step f4 f6
  have q : v / 4294967296 = y4 + y5 + (y6 + y7) := by
    rw [show (4294967296 : Nat) = 256 * 256 * 256 * 256 from rfl, ← Nat.div_div_eq_div_mul, ← Nat.div_div_eq_div_mul, ← Nat.div_div_eq_div_mul, dg k0 (le4 h0 h1 h2 h3), dg k1 (le4 h1 h2 h3 h4), dg k2 (le4 h2 h3 h4 h5), dg k3 (le4 h3 h4 h5 h6)]
  have hs : c0 + c1 + (c2 + c3) + (c4 + c5 + (c6 + c7)) ≤ 64 := by clear e0 e1 e2 e3 e4 e5 e6 e7 e8 f0 f1 f2 f3 f4 f5 f6 f7 k0 k1 k2 k3 k4 hu hv g q; omega
  have b7 := bd 0 f7 (le2b h7 (by decide)) (by decide)
  have b6 := bd _ f6 (le2b h6 h7) b7
  have b5 := bd _ f5 (le2b h5 h6) b6
  have b4 := bd _ f4 (le2b h4 h5) b5
  have b3 := bd _ f3 (le2b h3 h4) b4
  have b2 := bd _ f2 (le2b h2 h3) b3
  have b1 := bd _ f1 (le2b h1 h2) b2
  have b0 := bd _ f0 (le2b h0 h1) b1
  refine ⟨?_, ?_, ?_, ?_⟩
  · rw [q]
    exact last_mod (dgm k0 (le4 h0 h1 h2 h3)) (dgm k4 (le4 h4 h5 h6 h7)) hs
  · exact Nat.lt_of_le_of_lt b0 (by decide)
  · rw [hv]
    exact Nat.lt_of_le_of_lt (Nat.add_le_add b0 b2) (by decide)
  · rw [q, hv]
    exact Nat.lt_of_le_of_lt (Nat.add_le_add (Nat.add_le_add b0 b2) (Nat.add_le_add b4 b6)) (by decide)
theorem dm256_step (k x : Nat) : dm 256 p256 (k + 1) x = p256 (x % 256) + 256 * dm 256 p256 k (x / 256) := rfl
theorem fold_sum (x : Nat) (u v : Nat) (hu : u = dm 256 p256 8 x + dm 256 p256 8 x / 256) (hv : v = u + u / 65536) : (v + v / 4294967296) % 128 = pc 64 x ∧ u < 4611686018427387904 ∧ v < 4611686018427387904 ∧ v + v / 4294967296 < 4611686018427387904 := by
  have hb : ∀ z, p256 (z % 256) ≤ 8 := fun z => p256_le _ (Nat.mod_lt _ (by decide))
  have h := fold_plain _ _ _ _ _ _ _ _ (hb _) (hb _) (hb _) (hb _) (hb _) (hb _) (hb _) (hb _) _ _ _ _ _ _ _ _ (dm256_step 7 x) (dm256_step 6 _) (dm256_step 5 _) (dm256_step 4 _) (dm256_step 3 _) (dm256_step 2 _) (dm256_step 1 _) (dm256_step 0 _) u v hu hv
  refine ⟨?_, h.2⟩
  rw [h.1, pc64]
  simp only [Nat.add_assoc]
end Go.Proofs.YthmedgennlcigaaDoor.Plain
