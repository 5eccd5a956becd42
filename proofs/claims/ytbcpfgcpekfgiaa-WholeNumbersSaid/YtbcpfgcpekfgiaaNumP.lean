/- Sixteen bytes as a number: sums and products byte by byte. Plain numbers. -/
import Derived.Test.YtbcpfgcpekfgiaaBase
namespace Go.Proofs.Ytbcpfgcpekfgiaa

/-- The number of the k last ones of sixteen bytes. -/
def lowN (b : Nat → Int) : Nat → Int
  | 0 => 0
  | k + 1 => lowN b k + b (15 - k) * 256 ^ k
/-- The carry behind k places of a sum; the sum's byte at a place. -/
def cyN (x y : Nat → Int) : Nat → Int
  | 0 => 0
  | k + 1 => (cyN x y k + (x (15 - k) + y (15 - k))) / 256
def zN (x y : Nat → Int) (j : Nat) : Int := (cyN x y (15 - j) + (x j + y j)) % 256
/-- The carry behind k places of a product with one byte (of the last eight); its byte. -/
def tmN (x : Nat → Int) (n : Int) : Nat → Int
  | 0 => 0
  | k + 1 => if k < 8 then (tmN x n k + x (15 - k) * n) / 256 else tmN x n k
def dN (x : Nat → Int) (n : Int) (j : Nat) : Int := (tmN x n (15 - j) + x j * n) % 256

theorem p256 (k : Nat) : (0 : Int) < 256 ^ k := Int.pow_pos (by decide)
theorem cyN_bound {x y : Nat → Int} (hx : ∀ i, 0 ≤ x i ∧ x i < 256) (hy : ∀ i, 0 ≤ y i ∧ y i < 256) : ∀ k, 0 ≤ cyN x y k ∧ cyN x y k ≤ 1
  | 0 => ⟨Int.le_refl _, by show (0 : Int) ≤ 1; decide⟩
  | k + 1 => by
    have := cyN_bound hx hy k
    have h1 := hx (15 - k)
    have h2 := hy (15 - k)
    unfold cyN
    omega
theorem tm_le {a b n : Int} (ha : 0 ≤ a ∧ a < 256) (hb : 0 ≤ b ∧ b < 256) (hn : 0 ≤ n ∧ n < 256) : 0 ≤ (a + b * n) / 256 ∧ (a + b * n) / 256 < 256 ∧ 0 ≤ a + b * n ∧ a + b * n ≤ 65536 := by
  have h1 : 0 ≤ b * n := Int.mul_nonneg hb.1 hn.1
  have h2 : b * n ≤ 255 * 255 := Int.mul_le_mul (by omega) (by omega) hn.1 (by omega)
  omega
theorem tmN_bound {x : Nat → Int} {n : Int} (hx : ∀ i, 0 ≤ x i ∧ x i < 256) (hn : 0 ≤ n ∧ n < 256) : ∀ k, 0 ≤ tmN x n k ∧ tmN x n k < 256
  | 0 => ⟨Int.le_refl _, by show (0 : Int) < 256; decide⟩
  | k + 1 => by
    have := tmN_bound hx hn k
    have h1 := hx (15 - k)
    unfold tmN
    split
    · have := tm_le this h1 hn
      omega
    · exact this
theorem sum_law (x y : Nat → Int) : ∀ k, k ≤ 16 → lowN x k + lowN y k = cyN x y k * 256 ^ k + lowN (zN x y) k
  | 0, _ => by simp [lowN, cyN]
  | k + 1, hk => by
    have ih := sum_law x y k (by omega)
    unfold lowN cyN zN
    have e : 15 - (15 - k) = k := by omega
    rw [e, Int.pow_succ]
    generalize (256 : Int) ^ k = p at *
    generalize cyN x y k = c at *
    generalize x (15 - k) = a at *
    generalize y (15 - k) = b at *
    have hd : c + (a + b) = (c + (a + b)) / 256 * 256 + (c + (a + b)) % 256 := by omega
    generalize (c + (a + b)) / 256 = q at *
    generalize (c + (a + b)) % 256 = r at *
    have h2 : c * p + (a * p + b * p) = q * (p * 256) + r * p := by
      rw [← Int.add_mul, ← Int.add_mul, hd, Int.add_mul, Int.mul_assoc, Int.mul_comm 256 p]
    have h3 : lowN (fun j => (cyN x y (15 - j) + (x j + y j)) % 256) k = lowN (zN x y) k := rfl
    rw [h3]
    omega
theorem mul_law (x : Nat → Int) (n : Int) : ∀ k, k ≤ 8 → lowN x k * n = tmN x n k * 256 ^ k + lowN (dN x n) k
  | 0, _ => by simp [lowN, tmN]
  | k + 1, hk => by
    have ih := mul_law x n k (by omega)
    unfold lowN tmN dN
    have e : 15 - (15 - k) = k := by omega
    rw [e, Int.pow_succ, if_pos (by omega), Int.add_mul]
    generalize (256 : Int) ^ k = p at *
    generalize tmN x n k = c at *
    generalize x (15 - k) = a at *
    have e2 : a * p * n = a * n * p := by rw [Int.mul_assoc, Int.mul_comm p n, ← Int.mul_assoc]
    rw [e2]
    generalize a * n = b at *
    have hd : c + b = (c + b) / 256 * 256 + (c + b) % 256 := by omega
    generalize (c + b) / 256 = q at *
    generalize (c + b) % 256 = r at *
    have h2 : c * p + b * p = q * (p * 256) + r * p := by
      rw [← Int.add_mul, hd, Int.add_mul, Int.mul_assoc, Int.mul_comm 256 p]
    have h3 : lowN (fun j => (tmN x n (15 - j) + x j * n) % 256) k = lowN (dN x n) k := rfl
    rw [h3]
    omega
theorem lowN_bound {b : Nat → Int} (h : ∀ i, 0 ≤ b i ∧ b i < 256) : ∀ k, 0 ≤ lowN b k ∧ lowN b k < 256 ^ k
  | 0 => ⟨Int.le_refl _, by show (0 : Int) < 1; decide⟩
  | k + 1 => by
    have ih := lowN_bound h k
    have h1 := h (15 - k)
    have hp := p256 k
    unfold lowN
    rw [Int.pow_succ]
    generalize (256 : Int) ^ k = p at *
    have h2 : 0 ≤ b (15 - k) * p := Int.mul_nonneg h1.1 (by omega)
    have h3 : b (15 - k) * p ≤ 255 * p := Int.mul_le_mul_of_nonneg_right (by omega) (by omega)
    omega
theorem digit {b : Nat → Int} (h : ∀ i, 0 ≤ b i ∧ b i < 256) (j : Nat) : ∀ m, j < m → lowN b m / 256 ^ j % 256 = b (15 - j)
  | 0, hj => absurd hj (Nat.not_lt_zero j)
  | m + 1, hj => by
    unfold lowN
    by_cases hjm : j = m
    · subst hjm
      have hb := lowN_bound h j
      have h1 := h (15 - j)
      rw [Int.add_mul_ediv_right _ _ (by have := p256 j; omega), Int.ediv_eq_zero_of_lt hb.1 hb.2]
      omega
    · have ih := digit h j m (by omega)
      obtain ⟨d, rfl⟩ : ∃ d, m = j + (d + 1) := ⟨m - j - 1, by omega⟩
      have e : b (15 - (j + (d + 1))) * 256 ^ (j + (d + 1)) = b (15 - (j + (d + 1))) * 256 ^ d * 256 * 256 ^ j := by
        rw [Int.pow_add, Int.pow_succ, Int.mul_comm ((256 : Int) ^ j)]
        simp only [Int.mul_assoc]
      rw [e, Int.add_mul_ediv_right _ _ (by have := p256 j; omega), Int.add_mul_emod_self_right]
      exact ih

theorem sum_hi {x y : Nat → Int} (j : Nat) (hj : j < 16) :
    (lowN x 16 + lowN y 16) % 340282366920938463463374607431768211456 / 256 ^ j % 256 = zN x y (15 - j) := by
  have hz : ∀ i, 0 ≤ zN x y i ∧ zN x y i < 256 := fun i => by unfold zN; omega
  have hs := sum_law x y 16 (Nat.le_refl _)
  have hb := lowN_bound hz 16
  have e : (256 : Int) ^ 16 = 340282366920938463463374607431768211456 := by decide
  rw [e] at hs hb
  have : (lowN x 16 + lowN y 16) % 340282366920938463463374607431768211456 = lowN (zN x y) 16 := by omega
  rw [this]
  exact digit hz j 16 hj
theorem sum_ov {x y : Nat → Int} (hx : ∀ i, 0 ≤ x i ∧ x i < 256) (hy : ∀ i, 0 ≤ y i ∧ y i < 256) : ov (lowN x 16 + lowN y 16) = decide (cyN x y 16 > 0) := by
  have hz : ∀ i, 0 ≤ zN x y i ∧ zN x y i < 256 := fun i => by unfold zN; omega
  have hs := sum_law x y 16 (Nat.le_refl _)
  have hb := lowN_bound hz 16
  have hc := cyN_bound hx hy 16
  have e : (256 : Int) ^ 16 = 340282366920938463463374607431768211456 := by decide
  rw [e] at hs hb
  unfold ov
  rw [Bool.eq_iff_iff]; simp only [decide_eq_true_eq]; omega
theorem mul_digit {x : Nat → Int} {n : Int} (hx : ∀ i, 0 ≤ x i ∧ x i < 256) (hn : 0 ≤ n ∧ n < 256) :
    hi (lowN x 8 * n) = tmN x n 8 ∧ ∀ j, j < 8 → lo (lowN x 8 * n) / 2 ^ (8 * j) % 256 = dN x n (15 - j) := by
  have hd : ∀ i, 0 ≤ dN x n i ∧ dN x n i < 256 := fun i => by unfold dN; omega
  have hs := mul_law x n 8 (Nat.le_refl _)
  have hb := lowN_bound hd 8
  have ht := tmN_bound hx hn 8
  have e : (256 : Int) ^ 8 = 18446744073709551616 := by decide
  rw [e] at hs hb
  refine ⟨by unfold hi; omega, fun j hj => ?_⟩
  have : lo (lowN x 8 * n) = lowN (dN x n) 8 := by unfold lo; omega
  rw [this, Int.pow_mul]
  exact digit hd j 8 hj
/-- A half's byte, of a number's. -/
theorem lo_byte (N : Int) (j : Nat) (hj : j < 8) : lo N / 256 ^ j % 256 = N % 340282366920938463463374607431768211456 / 256 ^ j % 256 := by
  have : j = 0 ∨ j = 1 ∨ j = 2 ∨ j = 3 ∨ j = 4 ∨ j = 5 ∨ j = 6 ∨ j = 7 := by omega
  unfold lo
  rcases this with rfl | rfl | rfl | rfl | rfl | rfl | rfl | rfl <;> simp only [Int.reducePow] <;> omega
theorem hi_byte (N : Int) (j : Nat) (hj : j < 8) : hi N / 256 ^ j % 256 = N % 340282366920938463463374607431768211456 / 256 ^ (j + 8) % 256 := by
  have : j = 0 ∨ j = 1 ∨ j = 2 ∨ j = 3 ∨ j = 4 ∨ j = 5 ∨ j = 6 ∨ j = 7 := by omega
  unfold hi
  rcases this with rfl | rfl | rfl | rfl | rfl | rfl | rfl | rfl <;> simp only [Int.reducePow, Nat.reduceAdd] <;> omega
end Go.Proofs.Ytbcpfgcpekfgiaa
