/- Part of the proof. -/
import Derived.Test.YtiaoaoebghnpkaaKP41
import Derived.Test.YtiaoaoebghnpkaaKP33
/- A meter that holds what a curve leaves: a packet that keeps to it is green. -/
namespace Go.Proofs.Ytiaoaoebghnpkaa.P.Cv
open Go.RowKit Go.Proofs.YtiaoaoebghnpkaaW.PrintWords Go.Proofs.YtiaoaoebghnpkaaW.PrintLast Go.Proofs.YtiaoaoebghnpkaaW.PrintMore
theorem fjW_none {most rate : Int} {l : List S68} : ∀ d i, i + d = l.length → (∀ j, i ≤ j → j < l.length → ¬ most < wq rate (pairS l) (j + 1)) → fjW most rate l d i = (0, 0, 0, 0)
  | 0, _, _, _ => rfl
  | d + 1, i, hi, h => by
    unfold fjW
    rw [if_neg (h i (Nat.le_refl _) (by omega))]
    exact fjW_none d (i + 1) (by omega) fun j h1 h2 => h j (by omega) h2
theorem wq_next' (rate : Int) (l : List S68) (k : Nat) : wq rate (pairS l) (k + 1) = lessV (wq rate (pairS l) k) (rate * dtt (tims (pairS l)) k) + (l.getD k z68).f1 * 1000000000 := by
  show _ + ((pairS l).getD k (0, 0)).2 * 1000000000 = _
  rw [pairS_get]
/-- A packet that what is left lets go is green. -/
theorem green_step {r b s0 s2 t size pre : Int} {s3 : Bool} (hc : chkM 1 r 0 b 0 = 0) (hr : U r) (h2 : U s2) (ht : U t) (hs : 0 ≤ size) (hl : s0 ≤ b * 1000000000) (hk : b ≤ 4294967296)
    (hg : size * 1000000000 ≤ b * 1000000000 - lessV (b * 1000000000 - s0) (r * dtV s2 s3 t)) :
    stepM 1 false r 0 b 0 s0 0 s2 s3 t size pre = (b * 1000000000 - lessV (b * 1000000000 - s0) (r * dtV s2 s3 t) - size * 1000000000, 0, nowV s2 s3 t, true, 0) := by
  have hd := V_mul hr (U_dt (seen := s3) h2 ht)
  have hg0 : 0 ≤ r * dtV s2 s3 t := hd.1
  have e1 : growV s0 (b * 1000000000) (r * dtV s2 s3 t) = b * 1000000000 - lessV (b * 1000000000 - s0) (r * dtV s2 s3 t) := by
    unfold growV putV lessV
    rw [Int.min_def s0, if_pos hl, Int.min_def]
    split <;> split <;> omega
  have e2 : twoV 0 (0 * 1000000000) (spillV s0 (b * 1000000000) (r * dtV s2 s3 t)) = 0 := by
    have : 0 ≤ spillV s0 (b * 1000000000) (r * dtV s2 s3 t) := by
      unfold spillV putV
      rw [Int.min_def s0, if_pos hl, Int.min_def]
      split <;> omega
    unfold twoV
    rw [Int.zero_mul, Int.min_def 0 0, if_pos (Int.le_refl _), Int.sub_zero, Int.min_def]
    split <;> omega
  have hl0 : 0 ≤ lessV (b * 1000000000 - s0) (r * dtV s2 s3 t) := by unfold lessV; split <;> omega
  have hok : okV size = true := by
    unfold okV
    rw [decide_eq_true hs, decide_eq_true (show size * 1000000000 < 18446744073709551616 by omega)]
    rfl
  have hn : needV size = size * 1000000000 := by unfold needV; rw [if_pos hok]
  have hcan : canV (b * 1000000000 - lessV (b * 1000000000 - s0) (r * dtV s2 s3 t)) size = true := by
    unfold canV
    rw [hok, hn, decide_eq_true hg]
    rfl
  unfold stepM
  rw [if_neg (by rw [hc]; omega), if_neg (by decide)]
  unfold stepS
  simp only []
  rw [e1, e2, paint_green (show colV false pre = 0 from rfl) hcan]
  unfold takeV
  rw [if_pos hcan, hn]
end Go.Proofs.Ytiaoaoebghnpkaa.P.Cv
