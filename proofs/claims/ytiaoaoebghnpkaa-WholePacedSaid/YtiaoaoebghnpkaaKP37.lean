/- Part of the proof. -/
import Derived.Test.YtiaoaoebghnpkaaKP36
/- How much waits behind packets is the most that comes beyond a rate from one packet to the last one: plain numbers. -/
namespace Go.Proofs.Ytiaoaoebghnpkaa
open Go.RowKit

/-- The sizes of the first k packets. -/
def psum (xs : List (Int × Int)) : Nat → Int
  | 0 => 0
  | k + 1 => psum xs k + (xs.getD k (0, 0)).2
/-- How much more comes from packet i to packet j than a rate lets go (less than 0, if less). -/
def overA (rate : Int) (xs : List (Int × Int)) (i j : Nat) : Int := (psum xs (j + 1) - psum xs i) * 1000000000 - rate * (mst (tims xs) (j + 1) - mst (tims xs) (i + 1))
theorem dtt_pos (xs : List (Int × Int)) (k : Nat) (hk : 0 < k) : dtt (tims xs) k = mst (tims xs) (k + 1) - mst (tims xs) k ∧ 0 ≤ dtt (tims xs) k := by
  show dtV (mst (tims xs) k) (decide (0 < k)) ((tims xs).getD k 0) = nowV (mst (tims xs) k) (decide (0 < k)) ((tims xs).getD k 0) - mst (tims xs) k ∧ 0 ≤ dtV (mst (tims xs) k) (decide (0 < k)) ((tims xs).getD k 0)
  unfold dtV nowV
  rw [decide_eq_true hk]
  simp only [true_and]
  split <;> split <;> omega
theorem dtt_zero (xs : List (Int × Int)) : dtt (tims xs) 0 = 0 := by
  show dtV (mst (tims xs) 0) (decide (0 < 0)) ((tims xs).getD 0 0) = 0
  unfold dtV
  simp
theorem overA_up (rate : Int) (xs : List (Int × Int)) (i j : Nat) : overA rate xs i (j + 1) = overA rate xs i j - rate * dtt (tims xs) (j + 1) + (xs.getD (j + 1) (0, 0)).2 * 1000000000 := by
  unfold overA
  rw [(dtt_pos xs (j + 1) (by omega)).1]
  simp only [psum, Int.mul_sub, Int.sub_mul, Int.add_mul]
  omega
theorem overA_self (rate : Int) (xs : List (Int × Int)) (j : Nat) : overA rate xs j j = (xs.getD j (0, 0)).2 * 1000000000 := by
  unfold overA
  simp only [psum, Int.sub_self, Int.mul_zero, Int.sub_mul, Int.add_mul]
  omega
theorem lessV_eq (a b : Int) : lessV a b = max (a - b) 0 := by
  unfold lessV
  rw [Int.max_def]
  split <;> split <;> omega
theorem wq_most (rate : Int) (xs : List (Int × Int)) : ∀ j, (∀ i, i ≤ j → overA rate xs i j ≤ wq rate xs (j + 1)) ∧ ∃ i, i ≤ j ∧ wq rate xs (j + 1) = overA rate xs i j
  | 0 => by
    have e : wq rate xs 1 = overA rate xs 0 0 := by
      rw [overA_self]
      show lessV (wq rate xs 0) (rate * dtt (tims xs) 0) + _ = _
      rw [dtt_zero, Int.mul_zero, lessV_eq]
      show max ((0 : Int) - 0) 0 + _ = _
      simp
    exact ⟨fun i hi => by obtain rfl : i = 0 := by omega
                          exact Int.le_of_eq e.symm, 0, Nat.le_refl _, e⟩
  | j + 1 => by
    obtain ⟨h1, i, hi, h2⟩ := wq_most rate xs j
    have e : wq rate xs (j + 2) = max (wq rate xs (j + 1) - rate * dtt (tims xs) (j + 1)) 0 + (xs.getD (j + 1) (0, 0)).2 * 1000000000 := by
      show lessV (wq rate xs (j + 1)) (rate * dtt (tims xs) (j + 1)) + _ = _
      rw [lessV_eq]
    rw [Int.max_def] at e
    refine ⟨fun m hm => ?_, ?_⟩
    · rcases Nat.lt_or_ge j m with h | h
      · obtain rfl : m = j + 1 := by omega
        rw [overA_self, e]
        split <;> omega
      · have := h1 m h
        rw [overA_up, e]
        split <;> omega
    · by_cases hc : wq rate xs (j + 1) - rate * dtt (tims xs) (j + 1) ≤ 0
      · exact ⟨j + 1, Nat.le_refl _, by rw [e, if_pos hc, overA_self]; omega⟩
      · exact ⟨i, by omega, by rw [e, if_neg hc, overA_up, h2]⟩
end Go.Proofs.Ytiaoaoebghnpkaa
