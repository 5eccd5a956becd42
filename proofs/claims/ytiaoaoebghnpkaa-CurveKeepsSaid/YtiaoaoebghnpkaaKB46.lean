/- Part of the proof. -/
import Derived.Test.YtiaoaoebghnpkaaKB43
import Derived.Test.YtiaoaoebghnpkaaKB44
import Derived.Test.YtiaoaoebghnpkaaKB45
/- What a meter's step leaves, of one rate or of two: words, and a colour; behind an aware meter none better than the one ahead; and packets one behind the other. -/
namespace Go.Proofs.Ytiaoaoebghnpkaa.P
open Go.RowKit Go.Proofs.YtiaoaoebghnpkaaW.PrintWords Go.Proofs.YtiaoaoebghnpkaaW.PrintLast

def chkM (k r p b x : Int) : Int := if k = 2 then chkD k r p b x else chkS k r p b x
def stepM (k : Int) (a : Bool) (r p b x s0 s1 s2 : Int) (s3 : Bool) (t size pre : Int) : Int × Int × Int × Bool × Int :=
  if chkM k r p b x ≠ 0 ∨ size < 0 then (s0, s1, s2, s3, 2) else if k = 2 then stepD a r p b x s0 s1 s2 s3 t size pre else stepS a r b x s0 s1 s2 s3 t size pre
theorem chkM_one {k r p b x : Int} (h : k ≠ 2) : chkM k r p b x = chkS k r p b x := by unfold chkM; rw [if_neg h]
theorem mnew_eq (k : Int) (a : Bool) (r p b x : Int) (hb : U b) (hx : U x) : meter_New.f k a r p b x = some (newS (chkM k r p b x) b x) := by
  unfold meter_New.f chkM
  split
  · exact dnew_eq _ _ _ _ _ _ hb hx
  · exact snew_eq 4 _ _ _ _ _ _ hb hx
theorem mstep_eq (k : Int) (a : Bool) (r p b x s0 s1 s2 : Int) (s3 : Bool) (t size pre : Int) (hr : U r) (hp : U p) (hb : U b) (hx : U x) (h0 : U s0) (h1 : U s1) (h2 : U s2) (ht : U t) (hs : I64 size) :
    meter_Step.f k a r p b x s0 s1 s2 s3 t size pre = some (stepM k a r p b x s0 s1 s2 s3 t size pre) := by
  unfold meter_Step.f stepM chkM
  by_cases hk : k = 2
  · rw [if_pos hk, if_pos hk, if_pos hk]
    exact dstep_eq _ _ _ _ _ _ _ _ _ _ _ _ _ hr hp hb hx h0 h1 h2 ht hs
  · rw [if_neg hk, if_neg hk, if_neg hk]
    exact sstep_eq 4 _ _ _ _ _ _ _ _ _ _ _ _ _ hr hb hx h0 h1 h2 ht hs
/-- A packet that may be: a word, and an int. -/
def okS (p : Int × Int) : Prop := U p.1 ∧ I64 p.2
theorem getD_set_ne (l : List Int) (k j : Nat) (c : Int) (h : k ≠ j) : (l.set k c).getD j 0 = l.getD j 0 := by
  rw [List.getD_eq_getElem?_getD, List.getElem?_set_ne h, ← List.getD_eq_getElem?_getD]

theorem take_zero {l : Int} (h : U l) : canV l 0 = true ∧ takeV l 0 = l := by
  have : canV l 0 = true := by
    unfold canV needV okV
    unfold U at h
    simp; omega
  refine ⟨this, ?_⟩
  unfold takeV
  rw [if_pos this]
  have : needV 0 = 0 := by decide
  omega
end Go.Proofs.Ytiaoaoebghnpkaa.P
