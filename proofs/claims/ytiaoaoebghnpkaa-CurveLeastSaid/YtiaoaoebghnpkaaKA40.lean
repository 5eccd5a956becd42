/- Part of the proof. -/
import Derived.Test.YtiaoaoebghnpkaaKA27
import Derived.Test.YtiaoaoebghnpkaaKA21
/- What the document's Run of times comes to. -/
namespace Go.Proofs.Ytiaoaoebghnpkaa.P.Cv
open Go.RowKit Go.Proofs.YtiaoaoebghnpkaaW.PrintWords Go.Proofs.YtiaoaoebghnpkaaW.PrintLast Go.Proofs.YtiaoaoebghnpkaaW.PrintMore

theorem wrap_up {i n : Nat} (h : i < n) (hn : n ≤ 17592186044416) : wrap64 ((i : Int) + 1) = ((i + 1 : Nat) : Int) := by
  unfold wrap64; omega
theorem rd_nat (l : List Int) (i : Nat) : rd l (i : Int) = l.getD i 0 := by unfold rd; rw [Int.toNat_natCast]

theorem mst_le (l : List Int) (h : ∀ x ∈ l, U x) (j : Nat) : mst l j ≤ mst l (j + 1) := by
  have e : mst l (j + 1) = nowV (mst l j) (decide (0 < j)) (l.getD j 0) := rfl
  rw [e]
  unfold nowV
  split
  case isTrue h1 => exact Int.le_refl _
  case isFalse h1 =>
    rcases Nat.eq_zero_or_pos j with rfl | hj
    · exact (U_getD h 0).1
    · have : ¬ (l.getD j 0 ≤ mst l j) := fun hh => h1 ⟨by simpa using hj, hh⟩
      omega
theorem get_le (l : List Int) (j : Nat) : l.getD j 0 ≤ mst l (j + 1) := by
  have e : mst l (j + 1) = nowV (mst l j) (decide (0 < j)) (l.getD j 0) := rfl
  rw [e]
  unfold nowV
  split
  case isTrue h1 => exact h1.2
  case isFalse h1 => exact Int.le_refl _
theorem mx_mst (l : List Int) (h : ∀ x ∈ l, U x) (j : Nat) : mx (mst l j) (l.getD j 0) = mst l (j + 1) := by
  have h1 := mst_le l h j
  have h2 := get_le l j
  have e : mst l (j + 1) = nowV (mst l j) (decide (0 < j)) (l.getD j 0) := rfl
  have h3 : mst l (j + 1) = mst l j ∨ mst l (j + 1) = l.getD j 0 := by
    rw [e]; unfold nowV; split
    · exact .inl rfl
    · exact .inr rfl
  unfold mx
  split <;> omega
/-- The first j of what Run tells. -/
def runT (l : List Int) (j : Nat) : List Int := (List.range j).map fun k => mst l (k + 1)
theorem runT_succ (l : List Int) (j : Nat) : runT l (j + 1) = runT l j ++ [mst l (j + 1)] := by simp [runT, List.range_succ]
theorem runT_length (l : List Int) (j : Nat) : (runT l j).length = j := by simp [runT]
theorem runL_get (l : List Int) (j : Nat) (h : j < l.length) : (runL l).getD j 0 = mst l (j + 1) := by
  unfold runL
  rw [List.getD_eq_getElem?_getD, List.getElem?_map, List.getElem?_range h]
  rfl

theorem inner_ev (l : List Int) (h : ∀ x ∈ l, U x) (hl : l.length ≤ 17592186044416) (x3 : List Int) (i : Nat) (hi : i < l.length) (h3 : x3.length = i) (R : List Int)
    (hk : Ev (fun k => weighbridgeref25_Run.l0 k l (x3 ++ [mst l (i + 1)]) ((i + 1 : Nat) : Int)) R) : ∀ (d j : Nat), j + d = i + 1 →
    Ev (fun k => weighbridgeref25_Run.l1 k l x3 (i : Int) (mst l j) (j : Int)) R
  | 0, j, e => by
    refine Ev.step (f := fun k => weighbridgeref25_Run.l0 k l (x3 ++ [mst l (i + 1)]) ((i + 1 : Nat) : Int)) (fun k => ?_) hk
    simp only [weighbridgeref25_Run.l1]
    rw [if_neg (show ¬ ((j : Int) ≤ (i : Int)) by omega), if_pos (show x3.length < 17592186044416 by omega), wrap_up hi hl, show j = i + 1 from by omega]
  | d + 1, j, e => by
    refine Ev.step (f := fun k => weighbridgeref25_Run.l1 k l x3 (i : Int) (mst l (j + 1)) ((j + 1 : Nat) : Int)) (fun k => ?_) (inner_ev l h hl x3 i hi h3 R hk d (j + 1) (by omega))
    simp only [weighbridgeref25_Run.l1]
    rw [if_pos (show (j : Int) ≤ (i : Int) by omega), if_pos (show (0 : Int) ≤ (j : Int) by omega), if_pos (show (j : Int) < (l.length : Int) by omega), rd_nat, mx_mst l h, wrap_up (show j < l.length by omega) hl]

theorem run25_l0 (l : List Int) (h : ∀ x ∈ l, U x) (hl : l.length ≤ 17592186044416) : ∀ (d j : Nat), j + d = l.length → Ev (fun k => weighbridgeref25_Run.l0 k l (runT l j) (j : Int)) (runL l)
  | 0, j, e => by
    refine Ev.step (f := fun _ => some (runL l)) (fun k => ?_) (Ev.now _)
    simp only [weighbridgeref25_Run.l0]
    rw [if_neg (show ¬ ((j : Int) < (l.length : Int)) by omega), show j = l.length from by omega]
    rfl
  | d + 1, j, e => by
    have hrec := run25_l0 l h hl d (j + 1) (by omega)
    rw [show (fun k => weighbridgeref25_Run.l0 k l (runT l (j + 1)) ((j + 1 : Nat) : Int)) = (fun k => weighbridgeref25_Run.l0 k l (runT l j ++ [mst l (j + 1)]) ((j + 1 : Nat) : Int)) from by rw [runT_succ]] at hrec
    refine Ev.step (f := fun k => weighbridgeref25_Run.l1 k l (runT l j) (j : Int) (mst l 0) ((0 : Nat) : Int)) (fun k => ?_) (inner_ev l h hl (runT l j) j (by omega) (runT_length l j) _ hrec (j + 1) 0 (by omega))
    simp only [weighbridgeref25_Run.l0]
    rw [if_pos (show (j : Int) < (l.length : Int) by omega)]
    rfl
theorem run25_ev (l : List Int) (h : ∀ x ∈ l, U x) (hl : l.length ≤ 17592186044416) : Ev (fun k => weighbridgeref25_Run.f k l) (runL l) := run25_l0 l h hl l.length 0 (by omega)
theorem mst_mono (l : List Int) (h : ∀ x ∈ l, U x) : ∀ d j, mst l j ≤ mst l (j + d)
  | 0, _ => Int.le_refl _
  | d + 1, j => Int.le_trans (mst_mono l h d j) (mst_le l h (j + d))
theorem mst_take (l : List Int) (m : Nat) : ∀ k, k ≤ m → mst (l.take m) k = mst l k
  | 0, _ => rfl
  | k + 1, hk => by
    show nowV (mst (l.take m) k) (decide (0 < k)) ((l.take m).getD k 0) = nowV (mst l k) (decide (0 < k)) (l.getD k 0)
    rw [mst_take l m k (by omega), List.getD_eq_getElem?_getD, List.getElem?_take, if_pos (by omega), ← List.getD_eq_getElem?_getD]
end Go.Proofs.Ytiaoaoebghnpkaa.P.Cv
