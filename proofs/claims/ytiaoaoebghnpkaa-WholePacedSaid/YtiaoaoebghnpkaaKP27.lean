/- Part of the proof. -/
import Derived.Test.YtiaoaoebghnpkaaKP26
/- wide.Div: what the code's long division comes to. -/
namespace Go.Proofs.Ytiaoaoebghnpkaa.P.Cv
open Go.RowKit Go.Proofs.YtiaoaoebghnpkaaW.PrintWords Go.Proofs.YtiaoaoebghnpkaaW.PrintLast Go.Proofs.YtiaoaoebghnpkaaW.PrintMore

theorem and_one {x : Int} (h : U x) : Go.bits .and .u64 x 1 = x % 2 := by
  obtain ⟨m, rfl⟩ := Int.eq_ofNat_of_zero_le h.1
  have h2 : m < 2 ^ 64 := by have := h.2; omega
  have e2 := (bits_nat .u64 64 (by decide) (fun n h0 h1 => by rw [IntKind.wrap_u64]; omega) m 1 h2 (by decide))
  have e3 : Go.bits .and .u64 (m : Int) ((1 : Nat) : Int) = ((m &&& 1 : Nat) : Int) := e2.1
  rw [show (1 : Int) = ((1 : Nat) : Int) from rfl, e3, show (1 : Nat) = 2 ^ 1 - 1 from rfl, Nat.and_two_pow_sub_one_eq_mod]
  omega
theorem or_bit {n b : Int} (hb : b = 0 ∨ b = 1) : Go.bits .or .u64 (IntKind.u64.wrap (n * 2)) b = n % 9223372036854775808 * 2 + b := by
  obtain ⟨m, hm⟩ := Int.eq_ofNat_of_zero_le (show 0 ≤ n % 9223372036854775808 by omega)
  obtain ⟨d, rfl⟩ := Int.eq_ofNat_of_zero_le (show 0 ≤ b by omega)
  rw [hm]
  have e : IntKind.u64.wrap (n * 2) = ((m * 2 : Nat) : Int) := by
    rw [IntKind.wrap_u64]
    omega
  rw [e]
  have h2 : m * 2 < 2 ^ 64 := by omega
  have h3 : d < 2 ^ 64 := by omega
  have e2 := (bits_nat .u64 64 (by decide) (fun n h0 h1 => by rw [IntKind.wrap_u64]; omega) (m * 2) d h2 h3)
  have e3 : Go.bits .or .u64 ((m * 2 : Nat) : Int) (d : Int) = ((m * 2 ||| d : Nat) : Int) := e2.2
  rw [e3]
  have h4 := Nat.two_pow_add_eq_or_of_lt (i := 1) (b := d) (by omega) m
  rw [Nat.mul_comm m 2, show (2 : Nat) = 2 ^ 1 from rfl, ← h4]
  omega
theorem twice_eq {r b : Int} (hr : U r) (hb : b = 0 ∨ b = 1) : wide_twice.f 0 r b = some (r / 9223372036854775808, r % 9223372036854775808 * 2 + b) := by
  unfold wide_twice.f
  have e : r / 9223372036854775808 = 0 ∨ r / 9223372036854775808 = 1 := by unfold U at hr; omega
  rw [or_bit e, or_bit hb]
  simp
theorem two_pow_up (m : Nat) (h : m + 1 ≤ 64) : (2 : Int) ^ (64 - m) = 2 * 2 ^ (64 - (m + 1)) := by
  rw [show 64 - m = (64 - (m + 1)) + 1 by omega, Int.pow_succ]
  omega
theorem half_again (X : Int) (m : Nat) : X / 2 ^ (m + 1) = X / 2 ^ m / 2 := by
  rw [Int.pow_succ, Int.ediv_ediv_of_nonneg (Int.le_of_lt (Int.pow_pos (by omega)))]
theorem low_bit {a b : Int} (m : Nat) (h : m + 1 ≤ 64) : (wd a b) / 2 ^ m % 2 = b / 2 ^ m % 2 := by
  have e : wd a b = b + a * 2 ^ (64 - m) * 2 ^ m := by
    rw [Int.mul_assoc, ← Int.pow_add, show 64 - m + m = 64 by omega]
    unfold wd
    omega
  rw [e, Int.add_mul_ediv_right _ _ (by have : (0 : Int) < 2 ^ m := Int.pow_pos (by omega); omega), two_pow_up m h, ← Int.mul_assoc, Int.mul_comm a 2, Int.mul_assoc]
  omega
theorem pow63 {k : Nat} (h : k ≤ 63) : (2 : Int) ^ k ≤ 9223372036854775808 := by
  have h1 : 2 ^ k ≤ 2 ^ 63 := Nat.pow_le_pow_right (by omega) h
  have e : ((2 : Int) ^ k) = ((2 ^ k : Nat) : Int) := by rw [Int.natCast_pow]; rfl
  rw [e]
  omega
theorem arr1 (n x q r t : Int) : 2 * (n * (x + q) + r) + t = n * (2 * x + 2 * q) + (2 * r + t) := by
  rw [Int.mul_add n, Int.mul_add n, Int.mul_left_comm n 2 x, Int.mul_left_comm n 2 q]
  omega
theorem arr3 (n x q : Int) : 2 * (n * (x + q)) = n * (2 * x + 2 * q) := by
  rw [Int.mul_add n, Int.mul_add n, Int.mul_left_comm n 2 x, Int.mul_left_comm n 2 q]
  omega
theorem arr2 (n x q r t : Int) : 2 * (n * (x + q) + r) + t = n * (2 * x + (2 * q + 1)) + (2 * r + t - n) := by
  rw [← Int.add_assoc, Int.mul_add n _ 1, ← arr3 n x q, Int.mul_one]
  omega
theorem div_l0 {a b n : Int} (ha : U a) (hb : U b) (hn : U n) (h0 : 0 < n) :
    ∀ m : Nat, m ≤ 64 → ∀ q r : Int, 0 ≤ q → q < 2 ^ (64 - m) → 0 ≤ r → r < n → wd a b / 2 ^ m = n * (a / n * 2 ^ (64 - m) + q) + r →
      Ev (fun k => wide_Div.l0 k n ((m : Int) - 1) a b (a / n) q 0 r) (hi (wd a b / n), lo (wd a b / n), wd a b % n)
  | 0, _, q, r, hq, hq2, hr, hr2, e => by
    have hA : U (a / n) := ⟨Int.ediv_nonneg ha.1 hn.1, Int.lt_of_le_of_lt (Int.ediv_le_self _ ha.1) ha.2⟩
    have hQ : U q := ⟨hq, by simpa using hq2⟩
    rw [Int.pow_zero, Int.ediv_one] at e
    have e1 : wd a b / n = wd (a / n) q ∧ wd a b % n = r := by
      refine (Int.ediv_emod_unique h0).2 ⟨?_, hr, hr2⟩
      rw [e, Int.add_comm]
      rfl
    rw [e1.1, e1.2, hi_wd hA hQ, lo_wd hQ]
    refine Ev.step (f := fun _ => some (a / n, q, r)) (fun k => ?_) (Ev.now _)
    simp only [wide_Div.l0]
    rw [if_neg (by omega)]
  | m + 1, hm, q, r, hq, hq2, hr, hr2, e => by
    obtain ⟨p, hp⟩ : ∃ p : Int, p = 2 ^ (64 - (m + 1)) := ⟨_, rfl⟩
    have hpp := two_pow_up m hm
    have hple : p ≤ 9223372036854775808 := by
      rw [hp]
      exact pow63 (show 64 - (m + 1) ≤ 63 by omega)
    rw [← hp] at hpp hq2 e
    have hh := half_again (wd a b) m
    have hl := low_bit (a := a) (b := b) m hm
    obtain ⟨t, ht⟩ : ∃ t, t = b / 2 ^ m % 2 := ⟨_, rfl⟩
    have ht2 : t = 0 ∨ t = 1 := by omega
    have hX : wd a b / 2 ^ m = 2 * (n * (a / n * p + q) + r) + t := by omega
    have ur : U r := by unfold U at *; omega
    have w1 : IntKind.u64.wrap (((m + 1 : Nat) : Int) - 1) = (m : Int) := by rw [wrap_in (by unfold U; omega)]; omega
    have w2 : wrap64 (((m + 1 : Nat) : Int) - 1 - 1) = (m : Int) - 1 := by unfold wrap64; omega
    have hs : shr .u64 b (m : Int) = b / 2 ^ m := by
      unfold shr
      rw [Int.toNat_natCast, show min m IntKind.u64.bits = m from Nat.min_eq_left (by show m ≤ 64; omega)]
    have ub : U (b / 2 ^ m) := ⟨Int.ediv_nonneg hb.1 (Int.le_of_lt (Int.pow_pos (by omega))), Int.lt_of_le_of_lt (Int.ediv_le_self _ hb.1) hb.2⟩
    have ew : wd (r / 9223372036854775808) (r % 9223372036854775808 * 2 + t) = 2 * r + t := by unfold wd; omega
    have uz : U (r % 9223372036854775808 * 2 + t) := by unfold U; omega
    by_cases hc : 2 * r + t < n
    · have hrec := div_l0 ha hb hn h0 m (by omega) (2 * q) (2 * r + t) (by omega) (by omega) (by omega) hc (by rw [hX, hpp, Int.mul_left_comm (a / n) 2 p]; exact arr1 _ _ _ _ _)
      refine Ev.step (f := fun k => wide_Div.l0 k n ((m : Int) - 1) a b (a / n) (2 * q) 0 (2 * r + t)) (fun k => ?_) hrec
      have e1 : r / 9223372036854775808 = 0 := by unfold U at hn; omega
      have e2 : r % 9223372036854775808 * 2 + t = 2 * r + t := by unfold U at hn; omega
      have e3 : IntKind.u64.wrap (q * 2) = 2 * q := by rw [wrap_in (by unfold U; omega)]; omega
      simp only [wide_Div.l0]
      rw [if_pos (by omega), w1, if_pos (by omega), hs, and_one ub, ← ht, twice_eq ur ht2]
      simp only [Option.bind_some]
      unfold wide_Of.f wide_Less.f
      rw [if_pos hn]
      simp only [Option.bind_some]
      rw [if_pos ⟨uz, hn⟩]
      simp only [Option.bind_some]
      rw [ew, if_pos (decide_eq_true (by unfold wd; omega)), w2, e3, e1, e2]
    · have hrec := div_l0 ha hb hn h0 m (by omega) (2 * q + 1) (2 * r + t - n) (by omega) (by omega) (by omega) (by omega) (by rw [hX, hpp, Int.mul_left_comm (a / n) 2 p]; exact arr2 _ _ _ _ _)
      refine Ev.step (f := fun k => wide_Div.l0 k n ((m : Int) - 1) a b (a / n) (2 * q + 1) 0 (2 * r + t - n)) (fun k => ?_) hrec
      have e4 : q % 9223372036854775808 * 2 + 1 = 2 * q + 1 := by omega
      have e5 : hi (2 * r + t - wd 0 n) = 0 := by unfold hi wd; unfold U at hn; omega
      have e6 : lo (2 * r + t - wd 0 n) = 2 * r + t - n := by unfold lo wd; unfold U at hn; omega
      simp only [wide_Div.l0]
      rw [if_pos (by omega), w1, if_pos (by omega), hs, and_one ub, ← ht, twice_eq ur ht2]
      simp only [Option.bind_some]
      unfold wide_Of.f wide_Less.f wide_Sub.f
      rw [if_pos hn]
      simp only [Option.bind_some]
      rw [if_pos ⟨uz, hn⟩]
      simp only [Option.bind_some]
      rw [ew, if_neg (by simp; unfold wd; omega)]
      rw [if_pos ⟨uz, hn⟩]
      simp only [Option.bind_some]
      rw [w2, or_bit (.inr rfl), e4, e5, e6]
theorem div_ev {a b n : Int} (ha : U a) (hb : U b) (hn : U n) (h0 : 0 < n) : Ev (fun k => wide_Div.f k a b n) (hi (wd a b / n), lo (wd a b / n), wd a b % n) := by
  have hA : U (a / n) := ⟨Int.ediv_nonneg ha.1 hn.1, Int.lt_of_le_of_lt (Int.ediv_le_self _ ha.1) ha.2⟩
  have hR : 0 ≤ a % n ∧ a % n < n := ⟨Int.emod_nonneg _ (by omega), Int.emod_lt_of_pos _ h0⟩
  refine Ev.congr (fun k => ?_) (div_l0 ha hb hn h0 64 (Nat.le_refl _) 0 (a % n) (Int.le_refl _) (by decide) hR.1 hR.2 ?_)
  · unfold wide_Div.f
    rw [if_neg (by omega), Int.tdiv_eq_ediv_of_nonneg ha.1, Int.tmod_eq_emod_of_nonneg ha.1, wrap_in hA]
    rfl
  · have e : wd a b / 2 ^ 64 = a := by unfold wd; unfold U at hb; omega
    rw [e]
    have := Int.mul_ediv_add_emod a n
    simp only [Nat.sub_self, Int.pow_zero, Int.mul_one, Int.add_zero]
    omega
end Go.Proofs.Ytiaoaoebghnpkaa.P.Cv
