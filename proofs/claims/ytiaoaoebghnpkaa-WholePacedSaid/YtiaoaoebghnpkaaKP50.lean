/- Part of the proof. -/
import Derived.Test.YtiaoaoebghnpkaaKP49
/- What the law OutlookTrue asks, of plain numbers: at the time that is told a packet has the colour, ahead of it not; packets at their pace have it all. -/
namespace Go.Proofs.Ytiaoaoebghnpkaa.P
open Go.RowKit

theorem outWhen_ok {k r p b x s0 s1 s2 : Int} {s3 : Bool} {size want : Int} (hc : chkM k r p b x = 0) (hs : 0 ≤ size) (w0 : 0 ≤ want) (w2 : want ≤ 2) :
    outWhen k r p b x s0 s1 s2 s3 size want = whenV s2 s3 (askV k s0 s1 (b * 1000000000) (x * 1000000000) r p size want) := by
  unfold outWhen
  rw [if_neg (by omega)]
/-- A time is told: it is not ahead of the last one, and from it on, and no earlier, the packet has the colour. -/
theorem told_true {k : Int} {a : Bool} {r p b x s0 s1 s2 : Int} {s3 : Bool} {size want T : Int} (hc : chkM k r p b x = 0) (hr : U r) (hp : U p) (h2 : U s2) (hs : 0 ≤ size) (w0 : 0 ≤ want) (w2 : want ≤ 2)
    (h : outWhen k r p b x s0 s1 s2 s3 size want = (T, true)) :
    U T ∧ (s3 = true → s2 ≤ T) ∧ (s3 = false → T = 0) ∧ (stepM k a r p b x s0 s1 s2 s3 T size 0).2.2.2.2 ≤ want ∧ (0 < T → s2 < T → want < (stepM k a r p b x s0 s1 s2 s3 (T - 1) size 0).2.2.2.2) := by
  rw [outWhen_ok hc hs w0 w2] at h
  obtain ⟨g1, g2, g3⟩ := when_some h2 (ask_waits (k := k) (s0 := s0) (s1 := s1) (R1 := b * 1000000000) (R2 := x * 1000000000) (size := size) hr.1 hp.1 w0 w2) h
  have hz : s3 = false → T = 0 := fun e => by
    subst e
    unfold whenV at h
    rw [if_neg (by simp)] at h
    split at h
    · simp at h
    · simpa using h.symm
  refine ⟨g2, fun e => (by rw [if_pos e] at g1; exact g1), hz, ?_, fun hT hl => ?_⟩
  · rw [stepM_colE hc hs]
    exact (g3 T g2 g1).2 (Int.le_refl _)
  · rw [stepM_colE hc hs]
    cases s3 with
    | true =>
      rw [if_pos rfl] at g3
      have := g3 (T - 1) (by unfold U at *; omega) (by omega)
      omega
    | false => have := hz rfl; omega
end Go.Proofs.Ytiaoaoebghnpkaa.P
