/- The answer is as the document says. -/
import Derived.Test.YtgidglbkmklajaaPureR
import Derived.Test.YtgidglbkmklajaaPF3
namespace Go.Proofs.Ytgidglbkmklajaa.Pure
open Go.RowKit Go.Proofs.Ytgidglbkmklajaa.P Go.Proofs.YtgidglbkmklajaaW.PrintWords Go.Proofs.YtgidglbkmklajaaW.PrintLast

theorem RatchetSteps : weighbridgelaw25_RatchetSteps.Pure := by
  intro a0 a1 a2 _ _
  refine ⟨10, ?_⟩
  unfold weighbridgelaw25_RatchetSteps.f
  rw [show weighbridgeref25_Step.f a0 a1 a2 = ratchet_Step.f a0 a1 a2 from rfl, rstep_eq, live25_k 0]
  simp
end Go.Proofs.Ytgidglbkmklajaa.Pure
