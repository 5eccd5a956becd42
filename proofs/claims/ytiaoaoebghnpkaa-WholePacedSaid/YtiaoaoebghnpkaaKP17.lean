/- Part of the proof. -/
import Derived.Test.YtiaoaoebghnpkaaKP10
import Derived.Test.YtiaoaoebghnpkaaKP11
import Derived.Test.YtiaoaoebghnpkaaKP14
/- What the document's Run of times comes to. -/
namespace Go.Proofs.Ytiaoaoebghnpkaa.P.Cv
open Go.RowKit Go.Proofs.YtiaoaoebghnpkaaW.PrintWords Go.Proofs.YtiaoaoebghnpkaaW.PrintLast Go.Proofs.YtiaoaoebghnpkaaW.PrintMore

theorem wrap_up {i n : Nat} (h : i < n) (hn : n ≤ 17592186044416) : wrap64 ((i : Int) + 1) = ((i + 1 : Nat) : Int) := by
  unfold wrap64; omega
theorem rd_nat (l : List Int) (i : Nat) : rd l (i : Int) = l.getD i 0 := by unfold rd; rw [Int.toNat_natCast]

theorem mst_le (l : List Int) (h : ∀ x ∈ l, U x) (j : Nat) : mst l j ≤ mst l (j + 1) := by
  have e : mst l (j + 1) = nowV (mst l j) (decide (0 < j)) (l.getD j 0) := rfl
  rw [e]
  unfold nowV
  split
  case isTrue h1 => exact Int.le_refl _
  case isFalse h1 =>
    rcases Nat.eq_zero_or_pos j with rfl | hj
    · exact (U_getD h 0).1
    · have : ¬ (l.getD j 0 ≤ mst l j) := fun hh => h1 ⟨by simpa using hj, hh⟩
      omega
theorem runL_get (l : List Int) (j : Nat) (h : j < l.length) : (runL l).getD j 0 = mst l (j + 1) := by
  unfold runL
  rw [List.getD_eq_getElem?_getD, List.getElem?_map, List.getElem?_range h]
  rfl

theorem mst_mono (l : List Int) (h : ∀ x ∈ l, U x) : ∀ d j, mst l j ≤ mst l (j + d)
  | 0, _ => Int.le_refl _
  | d + 1, j => Int.le_trans (mst_mono l h d j) (mst_le l h (j + d))
theorem mst_take (l : List Int) (m : Nat) : ∀ k, k ≤ m → mst (l.take m) k = mst l k
  | 0, _ => rfl
  | k + 1, hk => by
    show nowV (mst (l.take m) k) (decide (0 < k)) ((l.take m).getD k 0) = nowV (mst l k) (decide (0 < k)) (l.getD k 0)
    rw [mst_take l m k (by omega), List.getD_eq_getElem?_getD, List.getElem?_take, if_pos (by omega), ← List.getD_eq_getElem?_getD]
end Go.Proofs.Ytiaoaoebghnpkaa.P.Cv
