/- The answer is as the document says. -/
import Derived.Test.YtgidglbkmklajaaPureR
import Derived.Test.YtgidglbkmklajaaPF4
namespace Go.Proofs.Ytgidglbkmklajaa.Pure
open Go.RowKit Go.Proofs.Ytgidglbkmklajaa.P Go.Proofs.YtgidglbkmklajaaW.PrintWords Go.Proofs.YtgidglbkmklajaaW.PrintLast

theorem RatchetRuns : weighbridgelaw25_RatchetRuns.Pure := by
  intro l hmax h8 hwf
  have h := U_wfL hwf
  have hl : l.length ≤ 17592186044416 := by omega
  refine Ev.rounds (r := true) (g := fun k => weighbridgelaw25_RatchetRuns.f k l) ?_
  unfold weighbridgelaw25_RatchetRuns.f
  by_cases hc : (l.length : Int) > 300
  · refine Ev.congr (fun k => if_pos hc) ?_
    exact Ev.bind live25_ev (Ev.now _)
  · refine Ev.congr (fun k => if_neg hc) ?_
    rw [long_f l h h8]
    refine Ev.congr (fun k => Option.bind_some _ _) ?_
    refine Ev.bind (long25_ev l h hl) ?_
    refine Ev.bind live25_ev ?_
    refine Ev.congr (fun k => if_pos rfl) ?_
    rw [run_f l h h8]
    refine Ev.congr (fun k => Option.bind_some _ _) ?_
    refine Ev.bind (run25_ev l h hl) ?_
    refine Ev.bind (same25_ev (runL l) (by rw [runL_length]; omega)) ?_
    refine Ev.congr (fun k => if_pos rfl) ?_
    rw [back_f l h h8]
    refine Ev.congr (fun k => Option.bind_some _ _) ?_
    refine Ev.bind (back25_ev l h hl) ?_
    refine Ev.bind (same08_ev (backL l l.length) (by have := backL_length l l.length; omega)) ?_
    refine Ev.congr (fun k => if_pos rfl) ?_
    refine Ev.congr (fun k => if_pos rfl) ?_
    rw [show ((longL l l.length).2 == (longL l l.length).2) = true from beq_self_eq_true _]
    exact Ev.now _
end Go.Proofs.Ytgidglbkmklajaa.Pure
