/- Part of the proof. -/
import Derived.Test.YtiaoaoebghnpkaaKB3
/- Times: the greatest one up to each of many, and how long it is behind the one ahead. Plain numbers and lists. -/
namespace Go.Proofs.Ytiaoaoebghnpkaa
open Go.RowKit

/-- The time behind another one, and how long that is. -/
def nowV (l : Int) (seen : Bool) (t : Int) : Int := if seen = true ∧ t ≤ l then l else t
def dtV (l : Int) (seen : Bool) (t : Int) : Int := if seen = true ∧ l < t then t - l else 0
theorem U_now {l t : Int} {seen : Bool} (hl : U l) (ht : U t) : U (nowV l seen t) := by unfold nowV; split <;> assumption
theorem U_dt {l t : Int} {seen : Bool} (hl : U l) (ht : U t) : U (dtV l seen t) := by unfold dtV; split <;> (unfold U at *; omega)

/-- The greatest time of the first k ones (0: of none). -/
def mst (l : List Int) : Nat → Int
  | 0 => 0
  | k + 1 => nowV (mst l k) (decide (0 < k)) (l.getD k 0)
def dtt (l : List Int) (k : Nat) : Int := dtV (mst l k) (decide (0 < k)) (l.getD k 0)
theorem U_getD {l : List Int} (h : ∀ x ∈ l, U x) (k : Nat) : U (l.getD k 0) := by
  rw [List.getD_eq_getElem?_getD]
  rcases Nat.lt_or_ge k l.length with hk | hk
  · rw [List.getElem?_eq_getElem hk]
    exact h _ (List.getElem_mem hk)
  · rw [List.getElem?_eq_none hk]
    exact U_zero
theorem U_mst {l : List Int} (h : ∀ x ∈ l, U x) : ∀ k, U (mst l k)
  | 0 => U_zero
  | k + 1 => U_now (U_mst h k) (U_getD h k)
theorem U_dtt {l : List Int} (h : ∀ x ∈ l, U x) (k : Nat) : U (dtt l k) := U_dt (U_mst h k) (U_getD h k)
/-- What comes, place by place: the place; the time, the greatest one up to it, how long that is behind the one ahead. -/
def mom (l : List Int) (k : Nat) : Nat × Int × Int × Int := (k, l.getD k 0, mst l (k + 1), dtt l k)
def moms (l : List Int) (k : Nat) : List (Nat × Int × Int × Int) := (List.range k).map (mom l)
theorem moms_succ (l : List Int) (k : Nat) : moms l (k + 1) = moms l k ++ [mom l k] := by simp [moms, List.range_succ]
theorem moms_length (l : List Int) (k : Nat) : (moms l k).length = k := by simp [moms]
/-- What Run tells. -/
def runL (l : List Int) : List Int := (List.range l.length).map fun k => mst l (k + 1)
theorem runL_length (l : List Int) : (runL l).length = l.length := by simp [runL]
end Go.Proofs.Ytiaoaoebghnpkaa
