/- Part of the proof. -/
import Derived.Laws.CopyRow
import Derived.Laws.IdiomCopy
import Derived.Test.YtiaoaoebghnpkaaKP30
import Derived.Test.YtiaoaoebghnpkaaKP16
import Derived.Test.YtiaoaoebghnpkaaKP10
import Derived.Test.YtiaoaoebghnpkaaKP31
import Derived.Test.YtiaoaoebghnpkaaKP32
/- What a meter's step leaves, of one rate or of two: words, and a colour; behind an aware meter none better than the one ahead; and packets one behind the other. -/
namespace Go.Proofs.Ytiaoaoebghnpkaa.P
open Go.RowKit Go.Proofs.YtiaoaoebghnpkaaW.PrintWords Go.Proofs.YtiaoaoebghnpkaaW.PrintLast

def chkM (k r p b x : Int) : Int := if k = 2 then chkD k r p b x else chkS k r p b x
def stepM (k : Int) (a : Bool) (r p b x s0 s1 s2 : Int) (s3 : Bool) (t size pre : Int) : Int × Int × Int × Bool × Int :=
  if chkM k r p b x ≠ 0 ∨ size < 0 then (s0, s1, s2, s3, 2) else if k = 2 then stepD a r p b x s0 s1 s2 s3 t size pre else stepS a r b x s0 s1 s2 s3 t size pre
theorem chkM_two {k r p b x : Int} (h : k = 2) : chkM k r p b x = chkD k r p b x := by unfold chkM; rw [if_pos h]
theorem chkM_one {k r p b x : Int} (h : k ≠ 2) : chkM k r p b x = chkS k r p b x := by unfold chkM; rw [if_neg h]
theorem mcheck_eq (k : Int) (a : Bool) (r p b x : Int) (hb : U b) (hx : U x) : meter_Check.f k a r p b x = some (chkM k r p b x) := by
  unfold meter_Check.f chkM
  split
  · exact dcheck_eq 4 _ _ _ _ _ _ hb hx
  · exact scheck_eq 4 _ _ _ _ _ _ hb hx
theorem mnew_eq (k : Int) (a : Bool) (r p b x : Int) (hb : U b) (hx : U x) : meter_New.f k a r p b x = some (newS (chkM k r p b x) b x) := by
  unfold meter_New.f chkM
  split
  · exact dnew_eq _ _ _ _ _ _ hb hx
  · exact snew_eq 4 _ _ _ _ _ _ hb hx
theorem mstep_eq (k : Int) (a : Bool) (r p b x s0 s1 s2 : Int) (s3 : Bool) (t size pre : Int) (hr : U r) (hp : U p) (hb : U b) (hx : U x) (h0 : U s0) (h1 : U s1) (h2 : U s2) (ht : U t) (hs : I64 size) :
    meter_Step.f k a r p b x s0 s1 s2 s3 t size pre = some (stepM k a r p b x s0 s1 s2 s3 t size pre) := by
  unfold meter_Step.f stepM chkM
  by_cases hk : k = 2
  · rw [if_pos hk, if_pos hk, if_pos hk]
    exact dstep_eq _ _ _ _ _ _ _ _ _ _ _ _ _ hr hp hb hx h0 h1 h2 ht hs
  · rw [if_neg hk, if_neg hk, if_neg hk]
    exact sstep_eq 4 _ _ _ _ _ _ _ _ _ _ _ _ _ hr hb hx h0 h1 h2 ht hs
theorem take_U {l s : Int} (hl : U l) : U (takeV l s) := by
  unfold takeV
  rcases Bool.eq_false_or_eq_true (canV l s) with e | e
  · rw [if_pos e]
    unfold canV at e
    have := U_need s
    simp only [Bool.and_eq_true, decide_eq_true_eq] at e
    unfold U at *; omega
  · rw [if_neg (by simp [e])]; exact hl
theorem stepM_U {k : Int} {a : Bool} {r p b x s0 s1 s2 : Int} {s3 : Bool} {t size pre : Int} (hr : U r) (hp : U p) (hb : U b) (hx : U x) (h0 : U s0) (h1 : U s1) (h2 : U s2) (ht : U t) :
    U (stepM k a r p b x s0 s1 s2 s3 t size pre).1 ∧ U (stepM k a r p b x s0 s1 s2 s3 t size pre).2.1 ∧ U (stepM k a r p b x s0 s1 s2 s3 t size pre).2.2.1 := by
  by_cases hk : k = 2
  · have h := stepD_U (k := k) (a := a) (r := r) (p := p) (b := b) (x := x) (s0 := s0) (s1 := s1) (s2 := s2) (s3 := s3) (t := t) (size := size) (pre := pre) hr hp hb hx h0 h1 h2 ht
    unfold stepM
    rw [chkM_two hk, if_pos hk]
    exact h
  · unfold stepM
    rw [chkM_one hk, if_neg hk]
    by_cases hc : chkS k r p b x ≠ 0 ∨ size < 0
    · simp only [if_pos hc]; exact ⟨h0, h1, h2⟩
    · simp only [if_neg hc]
      obtain ⟨_, _, _, kb, kx⟩ := chkS_ok (show chkS k r p b x = 0 by omega)
      obtain ⟨_, ub, _⟩ := nano_in hb kb
      obtain ⟨_, ux, _⟩ := nano_in hx kx
      have hV := V_mul hr (U_dt (seen := s3) h2 ht)
      obtain ⟨_, _, vs, u1⟩ := put_bounds h0 ub hV
      obtain ⟨u2, _, _⟩ := two_bounds h1 ux vs.1
      unfold stepS paintS
      simp only []
      refine ⟨?_, ?_, U_now h2 ht⟩
      · split
        · exact take_U u1
        · split <;> exact u1
      · split
        · exact u2
        · split
          · exact take_U u2
          · exact u2
/-- A packet that may be: a word, and an int. -/
def okS (p : Int × Int) : Prop := U p.1 ∧ I64 p.2
theorem getD_set_ne (l : List Int) (k j : Nat) (c : Int) (h : k ≠ j) : (l.set k c).getD j 0 = l.getD j 0 := by
  rw [List.getD_eq_getElem?_getD, List.getElem?_set_ne h, ← List.getD_eq_getElem?_getD]

theorem take_zero {l : Int} (h : U l) : canV l 0 = true ∧ takeV l 0 = l := by
  have : canV l 0 = true := by
    unfold canV needV okV
    unfold U at h
    simp; omega
  refine ⟨this, ?_⟩
  unfold takeV
  rw [if_pos this]
  have : needV 0 = 0 := by decide
  omega
end Go.Proofs.Ytiaoaoebghnpkaa.P
