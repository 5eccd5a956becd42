/- Part of the proof. -/
import Derived.Test.YtiaoaoebghnpkaaKP39
import Derived.Test.YtiaoaoebghnpkaaKP10
import Derived.Test.YtiaoaoebghnpkaaKP11
/- What the document's Breaks and Least come to. -/
namespace Go.Proofs.Ytiaoaoebghnpkaa.P.Cv
open Go.RowKit Go.Proofs.YtiaoaoebghnpkaaW.PrintWords Go.Proofs.YtiaoaoebghnpkaaW.PrintLast Go.Proofs.YtiaoaoebghnpkaaW.PrintMore

theorem obind {α β : Type} {x : Option α} {a : α} {f : α → Option β} {r : Option β} (h : x = some a) (k : f a = r) : x.bind f = r := by rw [h]; exact k
def ceilN (m : Int) : Int := if m % 1000000000 > 0 then m / 1000000000 + 1 else m / 1000000000
theorem ceil_end {m : Int} (hm : 0 ≤ m ∧ m ≤ 65575000000000000000000) : weighbridgeref02_Div.f (hi m) (lo m) 1000000000 = some (hi (m / 1000000000), lo (m / 1000000000), m % 1000000000) ∧ V (m / 1000000000) ∧ lo (m / 1000000000) = m / 1000000000 ∧ lo (m / 1000000000 + 1) = m / 1000000000 + 1 := by
  have vm : V m := by unfold V; omega
  refine ⟨?_, by unfold V; omega, by unfold lo; omega, by unfold lo; omega⟩
  unfold weighbridgeref02_Div.f
  rw [if_pos ⟨U_hi _, U_lo _, nanoU⟩, wd_hi_lo vm, if_neg (by omega)]
end Go.Proofs.Ytiaoaoebghnpkaa.P.Cv
