/- Part of the proof. -/
import Derived.Test.YtiaoaoebghnpkaaMW3
/- Times: the greatest one up to each of many, and how long it is behind the one ahead. Plain numbers and lists. -/
namespace Go.Proofs.Ytiaoaoebghnpkaa
open Go.RowKit

/-- The time behind another one, and how long that is. -/
def nowV (l : Int) (seen : Bool) (t : Int) : Int := if seen = true ∧ t ≤ l then l else t
def dtV (l : Int) (seen : Bool) (t : Int) : Int := if seen = true ∧ l < t then t - l else 0
theorem U_now {l t : Int} {seen : Bool} (hl : U l) (ht : U t) : U (nowV l seen t) := by unfold nowV; split <;> assumption
theorem U_dt {l t : Int} {seen : Bool} (hl : U l) (ht : U t) : U (dtV l seen t) := by unfold dtV; split <;> (unfold U at *; omega)

/-- The greatest time of the first k ones (0: of none). -/
def mst (l : List Int) : Nat → Int
  | 0 => 0
  | k + 1 => nowV (mst l k) (decide (0 < k)) (l.getD k 0)
def dtt (l : List Int) (k : Nat) : Int := dtV (mst l k) (decide (0 < k)) (l.getD k 0)
theorem U_getD {l : List Int} (h : ∀ x ∈ l, U x) (k : Nat) : U (l.getD k 0) := by
  rw [List.getD_eq_getElem?_getD]
  rcases Nat.lt_or_ge k l.length with hk | hk
  · rw [List.getElem?_eq_getElem hk]
    exact h _ (List.getElem_mem hk)
  · rw [List.getElem?_eq_none hk]
    exact U_zero
theorem U_mst {l : List Int} (h : ∀ x ∈ l, U x) : ∀ k, U (mst l k)
  | 0 => U_zero
  | k + 1 => U_now (U_mst h k) (U_getD h k)
theorem U_dtt {l : List Int} (h : ∀ x ∈ l, U x) (k : Nat) : U (dtt l k) := U_dt (U_mst h k) (U_getD h k)
/-- What comes, place by place: the place; the time, the greatest one up to it, how long that is behind the one ahead. -/
def mom (l : List Int) (k : Nat) : Nat × Int × Int × Int := (k, l.getD k 0, mst l (k + 1), dtt l k)
def moms (l : List Int) (k : Nat) : List (Nat × Int × Int × Int) := (List.range k).map (mom l)
theorem moms_succ (l : List Int) (k : Nat) : moms l (k + 1) = moms l k ++ [mom l k] := by simp [moms, List.range_succ]
theorem moms_length (l : List Int) (k : Nat) : (moms l k).length = k := by simp [moms]
theorem moms_zero (l : List Int) : moms l 0 = [] := rfl
/-- What Run tells. -/
def runL (l : List Int) : List Int := (List.range l.length).map fun k => mst l (k + 1)
theorem runL_length (l : List Int) : (runL l).length = l.length := by simp [runL]
/-- What Back tells of the first k ones. -/
def backL (l : List Int) (k : Nat) : List Int := ((List.range k).filter fun i => decide (l.getD i 0 < mst l (i + 1))).map Int.ofNat
theorem backL_succ (l : List Int) (k : Nat) : backL l (k + 1) = if l.getD k 0 < mst l (k + 1) then backL l k ++ [(k : Int)] else backL l k := by
  unfold backL
  rw [List.range_succ, List.filter_append, List.map_append]
  by_cases h : l.getD k 0 < mst l (k + 1)
  · rw [if_pos h]
    have : decide (l.getD k 0 < mst l (k + 1)) = true := by simpa using h
    rw [List.filter_cons, if_pos this]
    rfl
  · rw [if_neg h]
    have : ¬ decide (l.getD k 0 < mst l (k + 1)) = true := by simpa using h
    rw [List.filter_cons, if_neg this]
    simp
theorem backL_length (l : List Int) (k : Nat) : (backL l k).length ≤ k := by
  unfold backL
  rw [List.length_map]
  exact Nat.le_trans (List.length_filter_le _ _) (by simp)
/-- What Longest tells of the first k ones. -/
def longL (l : List Int) : Nat → Int × Int
  | 0 => (0, -1)
  | k + 1 => if 0 < k ∧ ((longL l k).2 < 0 ∨ (longL l k).1 < dtt l k) then (dtt l k, (k : Int)) else longL l k
theorem longL_U {l : List Int} (h : ∀ x ∈ l, U x) : ∀ k, U (longL l k).1 ∧ -1 ≤ (longL l k).2 ∧ (longL l k).2 ≤ k
  | 0 => ⟨U_zero, Int.le_refl _, by show (-1 : Int) ≤ 0; decide⟩
  | k + 1 => by
    obtain ⟨h1, h2, h3⟩ := longL_U h k
    unfold longL
    split
    · exact ⟨U_dtt h k, by show -1 ≤ (k : Int); omega, by show (k : Int) ≤ ((k + 1 : Nat) : Int); omega⟩
    · exact ⟨h1, h2, by omega⟩
end Go.Proofs.Ytiaoaoebghnpkaa
