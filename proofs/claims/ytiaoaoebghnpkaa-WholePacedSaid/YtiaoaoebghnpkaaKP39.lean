/- Part of the proof. -/
import Derived.Test.YtiaoaoebghnpkaaKP37
import Derived.Test.YtiaoaoebghnpkaaKP38
import Derived.Test.YtiaoaoebghnpkaaKP17
import Derived.Test.YtiaoaoebghnpkaaKP10
import Derived.Test.YtiaoaoebghnpkaaKP11
/- What the document's answers on curves come to, and the code's: plain numbers and lists. -/
namespace Go.Proofs.Ytiaoaoebghnpkaa.P.Cv
open Go.RowKit Go.Proofs.YtiaoaoebghnpkaaW.PrintWords Go.Proofs.YtiaoaoebghnpkaaW.PrintLast Go.Proofs.YtiaoaoebghnpkaaW.PrintMore

theorem w64_in {x : Int} (h : -9223372036854775808 ≤ x ∧ x < 9223372036854775808) : wrap64 x = x := by unfold wrap64; omega
theorem w64_up {j : Nat} (h : j < 1000000000) : wrap64 ((j : Int) + 1) = ((j + 1 : Nat) : Int) := by unfold wrap64; omega
def pairS (l : List S68) : List (Int × Int) := l.map fun x => (x.f0, x.f1)
theorem pairS_length (l : List S68) : (pairS l).length = l.length := List.length_map _
theorem pairS_get (l : List S68) (j : Nat) : (pairS l).getD j (0, 0) = ((l.getD j z68).f0, (l.getD j z68).f1) := by
  unfold pairS
  rw [List.getD_eq_getElem?_getD, List.getElem?_map, List.getD_eq_getElem?_getD]
  cases l[j]? <;> rfl
theorem tims_getD (l : List S68) (j : Nat) : (tims (pairS l)).getD j 0 = (l.getD j z68).f0 := by rw [tims_get, pairS_get]
theorem tims_length (l : List S68) : (tims (pairS l)).length = l.length := by unfold tims; rw [List.length_map, pairS_length]
theorem tims_U {l : List S68} (h : ∀ x ∈ l, U x.f0) : ∀ x ∈ tims (pairS l), U x := fun x hx => by
  unfold tims pairS at hx
  rw [List.map_map] at hx
  obtain ⟨y, hy, rfl⟩ := List.mem_map.1 hx
  exact h y hy
/-- Every packet may be. -/
def okS (l : List S68) : Prop := ∀ j, j < l.length → 0 ≤ (l.getD j z68).f1 ∧ (l.getD j z68).f1 ≤ 65575
theorem psum_succ (l : List S68) (k : Nat) : psum (pairS l) (k + 1) = psum (pairS l) k + (l.getD k z68).f1 := by
  show psum (pairS l) k + ((pairS l).getD k (0, 0)).2 = _
  rw [pairS_get]
theorem psum_in {l : List S68} (h : okS l) : ∀ k, k ≤ l.length → 0 ≤ psum (pairS l) k ∧ psum (pairS l) k ≤ 65575 * k
  | 0, _ => ⟨Int.le_refl _, Int.le_refl _⟩
  | k + 1, hk => by
    have h1 := psum_in h k (by omega)
    have h2 := h k (by omega)
    rw [psum_succ]
    omega
theorem psum_mono {l : List S68} (h : okS l) : ∀ d k, k + d ≤ l.length → psum (pairS l) k ≤ psum (pairS l) (k + d)
  | 0, _, _ => Int.le_refl _
  | d + 1, k, hk => by
    have h1 := psum_mono h d k (by omega)
    have h2 := h (k + d) (by omega)
    have h3 := psum_succ l (k + d)
    show _ ≤ psum (pairS l) (k + d + 1)
    omega
theorem chkL_ok {l : List S68} (h : okS l) : ∀ d i, i + d = l.length → chkL l d i = (0, 0)
  | 0, _, _ => rfl
  | d + 1, i, hi => by
    have := h i (by omega)
    unfold chkL
    rw [if_neg (by omega)]
    exact chkL_ok h d (i + 1) (by omega)
theorem chk_ok {l : List S68} (h : okS l) : chkC l = (0, 0) := chkL_ok h _ 0 (by omega)
theorem chk_cases (l : List S68) : okS l ∨ ∃ j : Nat, j < l.length ∧ chkC l = (1, (j : Int)) := by
  rcases chkL_eq (l := l) l.length 0 (by omega) with ⟨_, h⟩ | ⟨j, _, h2, e⟩
  · exact .inl fun j hj => h j (Nat.zero_le _) hj
  · exact .inr ⟨j, h2, e⟩

theorem nanoU : U 1000000000 := by unfold U; omega
theorem U_small {x : Int} (h : 0 ≤ x ∧ x ≤ 70000000000) : U x := by unfold U; omega
theorem wU {x : Int} (h : U x) : IntKind.u64.wrap x = x := wrap_in h

/-- How much more than a rate lets go comes from one packet to another one; 0, if no more. -/
def overV (rate : Int) (l : List S68) (i j : Nat) : Int := lessV ((psum (pairS l) (j + 1) - psum (pairS l) i) * 1000000000) (rate * (mst (tims (pairS l)) (j + 1) - mst (tims (pairS l)) (i + 1)))
theorem gap_U {l : List S68} (hU : ∀ x ∈ l, U x.f0) {i j : Nat} (hij : i ≤ j) : U (mst (tims (pairS l)) (j + 1) - mst (tims (pairS l)) (i + 1)) := by
  have h1 := mst_mono (tims (pairS l)) (tims_U hU) (j - i) (i + 1)
  have h2 := U_mst (tims_U hU) (j + 1)
  have h3 := U_mst (tims_U hU) (i + 1)
  rw [show i + 1 + (j - i) = j + 1 by omega] at h1
  unfold U at *
  omega
theorem over_V {l : List S68} {rate : Int} (h : okS l) (hl : l.length ≤ 1000000) (hr : U rate) (hU : ∀ x ∈ l, U x.f0) {i j : Nat} (hij : i ≤ j) (hj : j < l.length) : V (overV rate l i j) := by
  have h1 := psum_in h (j + 1) (by omega)
  have h2 := psum_in h i (by omega)
  have h3 := psum_mono h (j + 1 - i) i (by omega)
  rw [show i + (j + 1 - i) = j + 1 by omega] at h3
  exact V_less (V_mul (U_small (by omega)) nanoU) (V_mul hr (gap_U hU hij))

/-- The first packet from which on more than a burst comes up to the j-th one. -/
def fiI (most rate : Int) (l : List S68) (j : Nat) : Nat → Nat → Option Nat
  | 0, _ => none
  | d + 1, i => if most < overV rate l i j then some i else fiI most rate l j d (i + 1)
theorem fiI_spec {most rate : Int} {l : List S68} {j : Nat} : ∀ d i, (fiI most rate l j d i = none ∧ ∀ k, i ≤ k → k < i + d → ¬ most < overV rate l k j) ∨
    ∃ k, fiI most rate l j d i = some k ∧ i ≤ k ∧ k < i + d ∧ most < overV rate l k j ∧ ∀ m, i ≤ m → m < k → ¬ most < overV rate l m j
  | 0, i => .inl ⟨rfl, fun k h1 h2 => absurd h2 (by omega)⟩
  | d + 1, i => by
    unfold fiI
    by_cases h : most < overV rate l i j
    · rw [if_pos h]
      exact .inr ⟨i, rfl, Nat.le_refl _, by omega, h, fun m h1 h2 => absurd h2 (by omega)⟩
    · rw [if_neg h]
      rcases fiI_spec (most := most) (rate := rate) (l := l) (j := j) d (i + 1) with ⟨e, hall⟩ | ⟨k, e, h1, h2, h3, h4⟩
      · refine .inl ⟨e, fun k h1 h2 => ?_⟩
        rcases Nat.eq_or_lt_of_le h1 with h' | h'
        · exact h' ▸ h
        · exact hall k h' (by omega)
      · refine .inr ⟨k, e, by omega, by omega, h3, fun m h5 h6 => ?_⟩
        rcases Nat.eq_or_lt_of_le h5 with h' | h'
        · exact h' ▸ h
        · exact h4 m h' h6
def pickI (o : Option Nat) (j : Nat) (r : Int × Int × Int × Int) : Int × Int × Int × Int := match o with
  | some i => ((i : Int), (j : Int), 17, (j : Int))
  | none => r
/-- The first packets between which more comes. -/
def fiJ (most rate : Int) (l : List S68) : Nat → Nat → Int × Int × Int × Int
  | 0, _ => (0, 0, 0, 0)
  | d + 1, j => pickI (fiI most rate l j (j + 1) 0) j (fiJ most rate l d (j + 1))
/-- What Breaks tells. -/
def brkV (rate burst : Int) (l : List S68) : Int × Int × Int × Int := if (chkC l).1 = 0 then fiJ (burst * 1000000000) rate l l.length 0 else (0, 0, (chkC l).1, (chkC l).2)
end Go.Proofs.Ytiaoaoebghnpkaa.P.Cv
