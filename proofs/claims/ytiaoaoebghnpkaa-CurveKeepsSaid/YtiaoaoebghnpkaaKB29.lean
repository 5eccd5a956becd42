/- Part of the proof. -/
import Derived.Test.YtiaoaoebghnpkaaKB23
import Derived.Test.YtiaoaoebghnpkaaKB10
import Derived.Test.YtiaoaoebghnpkaaKB16
/- curve.check and curve.Total, and the document's: the first packet that may not be, and how much comes in all. -/
namespace Go.Proofs.Ytiaoaoebghnpkaa.P
open Go.RowKit Go.Proofs.YtiaoaoebghnpkaaW.PrintWords Go.Proofs.YtiaoaoebghnpkaaW.PrintLast Go.Proofs.YtiaoaoebghnpkaaW.PrintMore

theorem rdT_nat (l : List S68) (j : Nat) : rd_T68 l (j : Int) = l.getD j z68 := by unfold rd_T68; rw [Int.toNat_natCast]
theorem up_nat {j n : Nat} (h : j < n) (hl : n ≤ 17592186044416) : wrap64 ((j : Int) + 1) = ((j + 1 : Nat) : Int) := by unfold wrap64; omega
/-- The first packet that may not be, from the i-th one on. -/
def chkL (l : List S68) : Nat → Nat → Int × Int
  | 0, _ => (0, 0)
  | d + 1, i => if (l.getD i z68).f1 < 0 ∨ (l.getD i z68).f1 > 65575 then (1, (i : Int)) else chkL l d (i + 1)
def chkC (l : List S68) : Int × Int := chkL l l.length 0
theorem chkL_eq {l : List S68} : ∀ (d i : Nat), i + d = l.length → chkL l d i = (0, 0) ∧ (∀ j, i ≤ j → j < l.length → 0 ≤ (l.getD j z68).f1 ∧ (l.getD j z68).f1 ≤ 65575) ∨ ∃ j, i ≤ j ∧ j < l.length ∧ chkL l d i = (1, (j : Int))
  | 0, i, hi => .inl ⟨rfl, fun j h1 h2 => absurd h2 (by omega)⟩
  | d + 1, i, hi => by
    unfold chkL
    by_cases h : (l.getD i z68).f1 < 0 ∨ (l.getD i z68).f1 > 65575
    · rw [if_pos h]
      exact .inr ⟨i, Nat.le_refl _, by omega, rfl⟩
    · rw [if_neg h]
      rcases chkL_eq (l := l) d (i + 1) (by omega) with ⟨e, hall⟩ | ⟨j, h1, h2, e⟩
      · refine .inl ⟨e, fun j hj hl => ?_⟩
        rcases Nat.eq_or_lt_of_le hj with h' | h'
        · subst h'
          omega
        · exact hall j h' hl
      · exact .inr ⟨j, by omega, h2, e⟩
theorem check_l0 {l : List S68} (hl : l.length ≤ 17592186044416) : ∀ d i, i + d = l.length → Ev (fun n => curve_check.l0 n l (l.length : Int) (i : Int)) (chkL l d i)
  | 0, i, hi => by
    refine Ev.step (f := fun _ => some (0, 0)) (fun n => ?_) (Ev.now _)
    simp only [curve_check.l0]
    rw [if_neg (by omega)]
  | d + 1, i, hi => by
    unfold chkL
    by_cases h1 : (l.getD i z68).f1 < 0
    · rw [if_pos (.inl h1)]
      refine Ev.step (f := fun _ => some (1, (i : Int))) (fun n => ?_) (Ev.now _)
      simp only [curve_check.l0]
      rw [if_pos (by omega), if_pos (by omega), if_pos (by omega), rdT_nat, if_pos h1]
    · by_cases h2 : (l.getD i z68).f1 > 65575
      · rw [if_pos (.inr h2)]
        refine Ev.step (f := fun _ => some (1, (i : Int))) (fun n => ?_) (Ev.now _)
        simp only [curve_check.l0]
        rw [if_pos (by omega), if_pos (by omega), if_pos (by omega), rdT_nat, if_neg h1, if_pos h2]
      · rw [if_neg (by omega)]
        refine Ev.step (f := fun n => curve_check.l0 n l (l.length : Int) ((i + 1 : Nat) : Int)) (fun n => ?_) (check_l0 hl d (i + 1) (by omega))
        simp only [curve_check.l0]
        rw [if_pos (by omega), if_pos (by omega), if_pos (by omega), rdT_nat, if_neg h1, if_neg h2, up_nat (show i < l.length by omega) hl]
theorem check_ev {l : List S68} (hl : l.length ≤ 17592186044416) : Ev (fun n => curve_check.f n l) (chkC l) :=
  Ev.congr (fun _ => rfl) (check_l0 hl l.length 0 (by omega))
end Go.Proofs.Ytiaoaoebghnpkaa.P
