/- Part of the proof. -/
import Derived.Test.YtiaoaoebghnpkaaMT3
/- Times: the greatest one up to each of many, and how long it is behind the one ahead. Plain numbers and lists. -/
namespace Go.Proofs.Ytiaoaoebghnpkaa
open Go.RowKit

/-- The time behind another one, and how long that is. -/
def nowV (l : Int) (seen : Bool) (t : Int) : Int := if seen = true ∧ t ≤ l then l else t
def dtV (l : Int) (seen : Bool) (t : Int) : Int := if seen = true ∧ l < t then t - l else 0
theorem U_now {l t : Int} {seen : Bool} (hl : U l) (ht : U t) : U (nowV l seen t) := by unfold nowV; split <;> assumption
theorem U_dt {l t : Int} {seen : Bool} (hl : U l) (ht : U t) : U (dtV l seen t) := by unfold dtV; split <;> (unfold U at *; omega)

end Go.Proofs.Ytiaoaoebghnpkaa
