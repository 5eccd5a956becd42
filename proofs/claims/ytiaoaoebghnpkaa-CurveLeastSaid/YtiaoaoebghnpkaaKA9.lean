/- Part of the proof. -/
import Derived.Test.YtiaoaoebghnpkaaKA3
/- Plain numbers: a number and its bits; rows of 128 bits. No program is named here. -/
namespace Go.Proofs.Ytiaoaoebghnpkaa
open Go.RowKit

/-- Bit number i. -/
def bit (n : Int) (i : Nat) : Int := n / 2 ^ i % 2
/-- The number that the first k bits make. -/
def num (f : Nat → Int) : Nat → Int
  | 0 => 0
  | k + 1 => num f k + f k * 2 ^ k
def IsBits (f : Nat → Int) : Prop := ∀ i, f i = 0 ∨ f i = 1
/-- A row of 128 bits, as the document holds it. -/
def A128 (f : Nat → Int) : Array Value := Array.ofFn fun i : Fin 128 => .int .i64 (f i.val)
def upd (f : Nat → Int) (i : Nat) (v : Int) : Nat → Int := fun j => if j = i then v else f j

theorem pow_pos2 (k : Nat) : (0 : Int) < 2 ^ k := Int.pow_pos (by omega)

theorem isBits_bit (n : Int) : IsBits (bit n) := fun i => by unfold bit; omega
theorem isBits_upd {f : Nat → Int} (h : IsBits f) (i : Nat) {v : Int} (hv : v = 0 ∨ v = 1) : IsBits (upd f i v) := fun j => by
  unfold upd
  by_cases e : j = i
  · rw [if_pos e]; exact hv
  · rw [if_neg e]; exact h j

theorem emod_double (n p : Int) (hp : 0 < p) : n % (p * 2) = n % p + n / p % 2 * p := by
  have h1 : p * (n / p) + n % p = n := Int.mul_ediv_add_emod n p
  have h2 := Int.emod_nonneg n (show p ≠ 0 by omega)
  have h3 := Int.emod_lt_of_pos n hp
  generalize n / p = q at *
  generalize n % p = r at *
  have h4 : q = 2 * (q / 2) + q % 2 := by omega
  have h5 : q % 2 = 0 ∨ q % 2 = 1 := by omega
  have e : n = (q % 2 * p + r) + p * 2 * (q / 2) := by
    rw [← h1]
    have : p * q = p * (2 * (q / 2) + q % 2) := by rw [← h4]
    rw [this, Int.mul_add, ← Int.mul_assoc, Int.mul_comm (q % 2) p]
    omega
  rw [e, Int.add_mul_emod_self_left]
  rcases h5 with h5 | h5 <;> rw [h5] <;> rw [Int.emod_eq_of_lt (by omega) (by omega)] <;> omega

theorem num_bit (n : Int) (k : Nat) : num (bit n) k = n % 2 ^ k := by
  induction k with
  | zero => simp [num]
  | succ k ih => rw [num, ih, Int.pow_succ, emod_double n _ (pow_pos2 k)]; rfl

theorem num_bound {f : Nat → Int} (h : IsBits f) (k : Nat) : 0 ≤ num f k ∧ num f k < 2 ^ k := by
  induction k with
  | zero => simp [num]
  | succ k ih =>
    rw [num, Int.pow_succ]
    have hp := pow_pos2 k
    rcases h k with e | e <;> rw [e] <;> omega

theorem num_congr {f g : Nat → Int} (k : Nat) (h : ∀ i, i < k → f i = g i) : num f k = num g k := by
  induction k with
  | zero => rfl
  | succ k ih => rw [num, num, ih (fun i hi => h i (by omega)), h k (by omega)]

theorem num_add (f : Nat → Int) (a b : Nat) : num f (a + b) = num f a + num (fun i => f (a + i)) b * 2 ^ a := by
  induction b with
  | zero => simp [num]
  | succ b ih =>
    rw [← Nat.add_assoc, num, ih, num, Int.add_mul, Int.mul_assoc, ← Int.pow_add, Nat.add_comm b a, Int.add_assoc]

theorem A128_size (f : Nat → Int) : (A128 f).size = 128 := by simp [A128]
theorem A128_get (f : Nat → Int) (i : Nat) (hi : i < 128) : (A128 f)[i]? = some (.int .i64 (f i)) := by simp [A128, hi]
theorem A128_one (f : Nat → Int) : (A128 f).all (·.oneCell') = true := by
  rw [Array.all_eq_true]
  intro i hi
  simp [A128, Value.oneCell']
theorem A128_congr {f g : Nat → Int} (h : ∀ i, i < 128 → f i = g i) : A128 f = A128 g := by
  apply Array.ext_getElem?
  intro i
  by_cases hi : i < 128
  · rw [A128_get f i hi, A128_get g i hi, h i hi]
  · rw [Array.getElem?_eq_none (by rw [A128_size]; omega), Array.getElem?_eq_none (by rw [A128_size]; omega)]
theorem A128_zero : A128 (fun _ => 0) = Array.replicate 128 (.int .i64 0) := by
  apply Array.ext_getElem?
  intro i
  by_cases hi : i < 128
  · rw [A128_get _ i hi]; simp [hi]
  · rw [Array.getElem?_eq_none (by rw [A128_size]; omega), Array.getElem?_eq_none (by simp; omega)]
theorem A128_put (f : Nat → Int) (i : Nat) (v : Int) (hi : i < 128) : (A128 f).setIfInBounds i (.int .i64 v) = A128 (upd f i v) := by
  apply Array.ext_getElem?
  intro j
  rw [Array.getElem?_setIfInBounds, A128_size]
  by_cases hj : j < 128
  · by_cases e : i = j
    · subst e; rw [if_pos rfl, if_pos hi, A128_get _ _ hj]; unfold upd; rw [if_pos rfl]
    · rw [if_neg e, A128_get _ _ hj, A128_get _ _ hj]; unfold upd; rw [if_neg (fun h => e h.symm)]
  · rw [if_neg (by omega), Array.getElem?_eq_none (by rw [A128_size]; omega), Array.getElem?_eq_none (by rw [A128_size]; omega)]

/-- The first k bits of each half. -/
def bitsTo (k : Nat) (h l : Int) : Nat → Int := fun i => if i < 64 then (if i < k then bit l i else 0) else (if i - 64 < k then bit h (i - 64) else 0)
theorem bitsTo_zero (h l : Int) : A128 (bitsTo 0 h l) = Array.replicate 128 (.int .i64 0) := by
  rw [← A128_zero]
  exact A128_congr fun i _ => by simp [bitsTo]
theorem bits_step (k : Nat) (h l : Int) (hk : k < 64) :
    ((A128 (bitsTo k h l)).setIfInBounds k (.int .i64 (l / 2 ^ k % 2))).setIfInBounds (64 + k) (.int .i64 (h / 2 ^ k % 2)) = A128 (bitsTo (k + 1) h l) := by
  rw [A128_put _ _ _ (by omega), A128_put _ _ _ (by omega)]
  refine A128_congr fun i _ => ?_
  unfold upd bitsTo
  by_cases e1 : i = 64 + k
  · subst e1
    rw [if_pos rfl, if_neg (by omega), if_pos (by omega), show 64 + k - 64 = k by omega]
    rfl
  · rw [if_neg e1]
    by_cases e2 : i = k
    · subst e2
      rw [if_pos rfl, if_pos (by omega), if_pos (by omega)]
      rfl
    · rw [if_neg e2]
      by_cases e3 : i < 64
      · rw [if_pos e3, if_pos e3]
        by_cases e4 : i < k
        · rw [if_pos e4, if_pos (by omega)]
        · rw [if_neg e4, if_neg (by omega)]
      · rw [if_neg e3, if_neg e3]
        by_cases e4 : i - 64 < k
        · rw [if_pos e4, if_pos (by omega)]
        · rw [if_neg e4, if_neg (by omega)]
theorem bits_all (h l : Int) (hl : U l) : A128 (bitsTo 64 h l) = A128 (bit (wd h l)) := by
  refine A128_congr fun i hi => ?_
  unfold bitsTo bit wd
  by_cases e : i < 64
  · rw [if_pos e, if_pos e]
    have h1 : h * 18446744073709551616 = h * 2 ^ (64 - i) * 2 ^ i := by
      rw [Int.mul_assoc, ← Int.pow_add, show 64 - i + i = 64 by omega]; rfl
    have h2 : h * 2 ^ (64 - i) = h * 2 ^ (63 - i) * 2 := by rw [Int.mul_assoc, ← Int.pow_succ, show (63 - i).succ = 64 - i by omega]
    rw [h1, Int.add_comm, Int.add_mul_ediv_right _ _ (by have := pow_pos2 i; omega), h2]
    omega
  · rw [if_neg e, if_pos (by omega)]
    have h1 : (2 : Int) ^ i = 18446744073709551616 * 2 ^ (i - 64) := by
      have : (2 : Int) ^ i = 2 ^ (64 + (i - 64)) := by rw [show 64 + (i - 64) = i by omega]
      rw [this, Int.pow_add]; rfl
    rw [h1, ← Int.ediv_ediv_of_nonneg (by omega)]
    unfold U at hl
    rw [show (h * 18446744073709551616 + l) / 18446744073709551616 = h by omega]

theorem whole_step {f : Nat → Int} (hf : IsBits f) (k : Nat) {A : Int} (hA : 0 ≤ A) (h : num f 64 = num f (k + 1) + 2 ^ (k + 1) * A) :
    IntKind.u64.wrap (IntKind.u64.wrap (A * 2) + IntKind.u64.wrap (f k)) = 2 * A + f k ∧ num f 64 = num f k + 2 ^ k * (2 * A + f k) ∧ U (2 * A + f k) := by
  have e : num f 64 = num f k + 2 ^ k * (2 * A + f k) := by
    rw [h, num, Int.pow_succ, Int.mul_add, Int.mul_assoc, Int.mul_comm (f k)]; omega
  have b := num_bound hf 64
  have b' := num_bound hf k
  have hp := pow_pos2 k
  have hfk : 0 ≤ f k ∧ f k ≤ 1 := by rcases hf k with h | h <;> omega
  have h1 : 2 * A + f k ≤ 2 ^ k * (2 * A + f k) := by
    have := Int.mul_le_mul_of_nonneg_right (show (1 : Int) ≤ 2 ^ k by omega) (show 0 ≤ 2 * A + f k by omega)
    omega
  have e64 : (2 : Int) ^ 64 = 18446744073709551616 := by decide
  rw [e64] at b
  refine ⟨?_, e, ?_⟩
  · simp only [IntKind.wrap_u64]; omega
  · unfold U; omega

theorem whole_end {f : Nat → Int} {A : Int} (h : num f 64 = num f ((-1 : Int) + 1).toNat + 2 ^ ((-1 : Int) + 1).toNat * A) : num f 64 = A := by
  rw [show ((-1 : Int) + 1).toNat = 0 by decide, Int.pow_zero, Int.one_mul, show num f 0 = 0 from rfl, Int.zero_add] at h
  exact h

/-- Both halves of a row of bits, as numbers. -/
theorem num_halves {f : Nat → Int} (hf : IsBits f) : hi (num f 128) = num (fun i => f (64 + i)) 64 ∧ lo (num f 128) = num f 64 := by
  have e := num_add f 64 64
  have b := num_bound hf 64
  have b' := num_bound (f := fun i => f (64 + i)) (fun i => hf _) 64
  have e64 : (2 : Int) ^ 64 = 18446744073709551616 := by decide
  rw [e64] at b b' e
  simp only [Nat.reduceAdd] at e
  rw [e]
  unfold hi lo
  omega

/-- One place of a sum. -/
theorem add_step {f x y : Nat → Int} {c : Int} (k : Nat) (hf : f k = x k) (h : num f k + c * 2 ^ k = num x k + num y k) :
    num (upd f k ((f k + y k + c) % 2)) (k + 1) + (f k + y k + c) / 2 * 2 ^ (k + 1) = num x (k + 1) + num y (k + 1) := by
  have e : num (upd f k ((f k + y k + c) % 2)) k = num f k := num_congr k fun i hi => by unfold upd; rw [if_neg (by omega)]
  have e2 : upd f k ((f k + y k + c) % 2) k = (f k + y k + c) % 2 := by unfold upd; rw [if_pos rfl]
  rw [num, num, num, e, e2, Int.pow_succ, hf]
  have h3 : (x k + y k + c) % 2 * 2 ^ k + (x k + y k + c) / 2 * (2 ^ k * 2) = (x k + y k + c) * 2 ^ k := by
    have : x k + y k + c = (x k + y k + c) / 2 * 2 + (x k + y k + c) % 2 := by omega
    generalize (x k + y k + c) / 2 = q at *
    generalize (x k + y k + c) % 2 = r at *
    rw [this, Int.add_mul, Int.mul_assoc, Int.mul_comm 2]
    omega
  rw [Int.add_mul, Int.add_mul] at h3
  omega

/-- One place of a difference; b: 1, if one is borrowed. -/
theorem sub_step {f x y : Nat → Int} {b v b' : Int} (k : Nat) (h : num f k - b * 2 ^ k = num x k - num y k) (hv : v - b' * 2 = x k - y k - b) :
    num (upd f k v) (k + 1) - b' * 2 ^ (k + 1) = num x (k + 1) - num y (k + 1) := by
  have e : num (upd f k v) k = num f k := num_congr k fun i hi => by unfold upd; rw [if_neg (by omega)]
  have e2 : upd f k v k = v := by unfold upd; rw [if_pos rfl]
  rw [num, num, num, e, e2, Int.pow_succ]
  have h3 : v * 2 ^ k - b' * (2 ^ k * 2) = (x k - y k - b) * 2 ^ k := by
    rw [← hv, Int.sub_mul, Int.mul_assoc, Int.mul_comm 2]
  rw [Int.sub_mul, Int.sub_mul] at h3
  omega

theorem pow128 : (2 : Int) ^ 128 = 340282366920938463463374607431768211456 := by decide
theorem num128 {n : Int} (h : V n) : num (bit n) 128 = n := by
  rw [num_bit, pow128]; unfold V at h; omega

theorem add_end {f : Nat → Int} (hf : IsBits f) {X Y c : Int} (hX : V X) (hY : V Y) (hc : c = 0 ∨ c = 1) (h : num f 128 + c * 2 ^ 128 = num (bit X) 128 + num (bit Y) 128) :
    hi (num f 128) = hi (X + Y) ∧ lo (num f 128) = lo (X + Y) ∧ (c == 1) = ov (X + Y) := by
  have b := num_bound hf 128
  rw [num128 hX, num128 hY] at h
  rw [pow128] at h b
  unfold V at hX hY
  refine ⟨?_, ?_, ?_⟩
  · unfold hi; rcases hc with rfl | rfl <;> omega
  · unfold lo; rcases hc with rfl | rfl <;> omega
  · unfold ov; rw [Bool.eq_iff_iff]; simp only [beq_iff_eq, decide_eq_true_eq]; rcases hc with rfl | rfl <;> omega

theorem sub_end {f : Nat → Int} (hf : IsBits f) {X Y c : Int} (hX : V X) (hY : V Y) (hc : c = 0 ∨ c = 1) (h : num f 128 - c * 2 ^ 128 = num (bit X) 128 - num (bit Y) 128) :
    hi (num f 128) = hi (X - Y) ∧ lo (num f 128) = lo (X - Y) ∧ (c == 1) = decide (X < Y) := by
  have b := num_bound hf 128
  rw [num128 hX, num128 hY] at h
  rw [pow128] at h b
  unfold V at hX hY
  refine ⟨?_, ?_, ?_⟩
  · unfold hi; rcases hc with rfl | rfl <;> omega
  · unfold lo; rcases hc with rfl | rfl <;> omega
  · rw [Bool.eq_iff_iff]; simp only [beq_iff_eq, decide_eq_true_eq]; rcases hc with rfl | rfl <;> omega

/-- The highest place in which two rows are unlike decides. -/
theorem less_step {x y : Nat → Int} (hx : IsBits x) (hy : IsBits y) (k : Nat) {D : Int} (h : D = num x (k + 1) - num y (k + 1)) (hne : x k ≠ y k) : decide (x k < y k) = decide (D < 0) := by
  have b1 := num_bound hx k
  have b2 := num_bound hy k
  rw [h, num, num, Bool.eq_iff_iff]
  simp only [decide_eq_true_eq]
  rcases hx k with e1 | e1 <;> rcases hy k with e2 | e2 <;> rw [e1, e2] <;> omega
theorem less_same {x y : Nat → Int} (k : Nat) {D : Int} (h : D = num x (k + 1) - num y (k + 1)) (he : x k = y k) : D = num x k - num y k := by
  rw [h, num, num, he]; omega

theorem pow64_le {k : Nat} (hk : k ≤ 64) : (2 : Int) ^ k ≤ 18446744073709551616 := by
  have e64 : (2 : Int) ^ 64 = 18446744073709551616 := by decide
  have : (2 : Int) ^ 64 = 2 ^ k * 2 ^ (64 - k) := by rw [← Int.pow_add, show k + (64 - k) = 64 by omega]
  have h1 := pow_pos2 (64 - k)
  have h2 := pow_pos2 k
  have h3 := Int.mul_le_mul_of_nonneg_left (show (1 : Int) ≤ 2 ^ (64 - k) by omega) (show (0 : Int) ≤ 2 ^ k by omega)
  omega
theorem U_num (b : Int) {k : Nat} (hk : k ≤ 64) : U (num (bit b) k) := by
  have h := num_bound (isBits_bit b) k
  have := pow64_le hk
  unfold U; omega
theorem V_shift {a : Int} (ha : U a) {k : Nat} (hk : k ≤ 64) : V (a * 2 ^ k) := by
  have h1 := pow64_le hk
  have h2 := pow_pos2 k
  unfold U at ha
  refine ⟨Int.mul_nonneg ha.1 (by omega), ?_⟩
  have := Int.mul_le_mul (show a ≤ 18446744073709551615 by omega) h1 (by omega) (by omega : (0 : Int) ≤ 18446744073709551615)
  omega
theorem mul_step {a b : Int} (k : Nat) {v : Int} (hv : bit b k = v) : a * num (bit b) (k + 1) = a * num (bit b) k + v * (a * 2 ^ k) := by
  rw [num, hv, Int.mul_add, Int.mul_left_comm]
theorem shift_step (a : Int) (k : Nat) : a * 2 ^ k + a * 2 ^ k = a * 2 ^ (k + 1) := by
  rw [Int.pow_succ, ← Int.mul_assoc]; omega

/-- What is left when the bits from m on have been divided; the quotient's bits from m on. -/
def rm (X n : Int) (m : Nat) : Int := X / 2 ^ m % n
def qv (X n : Int) (m : Nat) : Nat → Int := fun i => if i < m then 0 else bit (X / n) i
theorem rm_bound (X : Int) {n : Int} (hn : 0 < n) (m : Nat) : 0 ≤ rm X n m ∧ rm X n m < n := ⟨Int.emod_nonneg _ (by omega), Int.emod_lt_of_pos _ hn⟩
theorem div_step (X : Int) {n : Int} (hn : 0 < n) (k : Nat) :
    (n ≤ rm X n (k + 1) + rm X n (k + 1) + bit X k → rm X n k = rm X n (k + 1) + rm X n (k + 1) + bit X k - n ∧ bit (X / n) k = 1) ∧
    (rm X n (k + 1) + rm X n (k + 1) + bit X k < n → rm X n k = rm X n (k + 1) + rm X n (k + 1) + bit X k ∧ bit (X / n) k = 0) := by
  have hp := pow_pos2 k
  have e1 : X / 2 ^ (k + 1) = X / 2 ^ k / 2 := by rw [Int.pow_succ, Int.ediv_ediv_of_nonneg (by omega)]
  have e2 : X / n / 2 ^ k = X / 2 ^ k / n := by rw [Int.ediv_ediv_of_nonneg (by omega), Int.mul_comm, ← Int.ediv_ediv_of_nonneg (by omega)]
  unfold bit rm
  rw [e1, e2]
  generalize X / 2 ^ k = T
  have h1 : n * (T / 2 / n) + T / 2 % n = T / 2 := Int.mul_ediv_add_emod _ _
  have h2 := Int.emod_nonneg (T / 2) (show n ≠ 0 by omega)
  have h3 := Int.emod_lt_of_pos (T / 2) hn
  generalize T / 2 / n = Q at *
  generalize T / 2 % n = R at *
  have h4 : T = R + R + T % 2 + n * (2 * Q) := by
    rw [Int.mul_left_comm]; omega
  constructor
  · intro h
    have h5 : T = (R + R + T % 2 - n) + n * (2 * Q + 1) := by rw [Int.mul_add]; omega
    have a1 : T % n = R + R + T % 2 - n := by
      have : T % n = ((R + R + T % 2 - n) + n * (2 * Q + 1)) % n := by rw [← h5]
      rw [this, Int.add_mul_emod_self_left, Int.emod_eq_of_lt (by omega) (by omega)]
    have a2 : T / n = 2 * Q + 1 := by
      have : T / n = ((R + R + T % 2 - n) + n * (2 * Q + 1)) / n := by rw [← h5]
      rw [this, Int.add_mul_ediv_left _ _ (by omega), Int.ediv_eq_zero_of_lt (by omega) (by omega)]; omega
    rw [a1, a2]
    omega
  · intro h
    have a1 : T % n = R + R + T % 2 := by
      have : T % n = ((R + R + T % 2) + n * (2 * Q)) % n := by rw [← h4]
      rw [this, Int.add_mul_emod_self_left, Int.emod_eq_of_lt (by omega) (by omega)]
    have a2 : T / n = 2 * Q := by
      have : T / n = ((R + R + T % 2) + n * (2 * Q)) / n := by rw [← h4]
      rw [this, Int.add_mul_ediv_left _ _ (by omega), Int.ediv_eq_zero_of_lt (by omega) (by omega)]; omega
    rw [a1, a2]
    omega
theorem qv_one {X n : Int} {k : Nat} (h : bit (X / n) k = 1) : A128 (upd (qv X n (k + 1)) k 1) = A128 (qv X n k) := A128_congr fun i _ => by
  unfold upd qv
  by_cases e : i = k
  · subst e; rw [if_pos rfl, if_neg (by omega), h]
  · rw [if_neg e]
    by_cases e2 : i < k
    · rw [if_pos e2, if_pos (by omega)]
    · rw [if_neg e2, if_neg (by omega)]
theorem qv_zero {X n : Int} {k : Nat} (h : bit (X / n) k = 0) : A128 (qv X n (k + 1)) = A128 (qv X n k) := A128_congr fun i _ => by
  unfold qv
  by_cases e : i = k
  · subst e; rw [if_pos (by omega), if_neg (by omega), h]
  · by_cases e2 : i < k
    · rw [if_pos e2, if_pos (by omega)]
    · rw [if_neg e2, if_neg (by omega)]
theorem qv_start (X n : Int) : A128 (qv X n 128) = A128 (fun _ => 0) := A128_congr fun i hi => by unfold qv; rw [if_pos hi]
theorem rm_start {X n : Int} (hX : V X) : rm X n 128 = 0 := by
  unfold rm; rw [pow128]; unfold V at hX; rw [Int.ediv_eq_zero_of_lt hX.1 hX.2, Int.zero_emod]
theorem rm_zero (X n : Int) : rm X n 0 = X % n := by unfold rm; rw [Int.pow_zero, Int.ediv_one]
theorem V_div {X n : Int} (hX : V X) (hn : 0 < n) : V (X / n) := by
  unfold V at *
  have := Int.ediv_nonneg hX.1 (show 0 ≤ n by omega)
  have := Int.ediv_le_self n hX.1
  omega
theorem isBits_qv (X n : Int) (m : Nat) : IsBits (qv X n m) := fun i => by
  unfold qv
  by_cases e : i < m
  · rw [if_pos e]; exact .inl rfl
  · rw [if_neg e]; exact isBits_bit _ i
theorem num_qv {X n : Int} (hX : V X) (hn : 0 < n) : num (qv X n 0) 128 = X / n :=
  (num_congr 128 fun i _ => by unfold qv; rw [if_neg (by omega)]).trans (num128 (V_div hX hn))

theorem tdiv_two {x : Int} (h : U x) : IntKind.u64.wrap (x.tdiv 2) = x / 2 := by
  unfold U at h
  rw [Int.tdiv_eq_ediv_of_nonneg h.1, IntKind.wrap_u64]; omega
theorem U_half {x : Int} (h : U x) : U (x / 2) := by unfold U at *; omega

end Go.Proofs.Ytiaoaoebghnpkaa
