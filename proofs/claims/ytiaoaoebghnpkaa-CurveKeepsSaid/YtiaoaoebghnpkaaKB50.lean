/- Part of the proof. -/
import Derived.Lib.Hide
import Derived.Deep.DeepCutAuto
import Derived.Test.YtiaoaoebghnpkaaKB10
import Derived.Test.YtiaoaoebghnpkaaKB15
import Derived.Test.YtiaoaoebghnpkaaKB29
import Derived.Test.YtiaoaoebghnpkaaKB35
import Derived.Test.YtiaoaoebghnpkaaKB25
import Derived.Test.YtiaoaoebghnpkaaKB48
/- The curve laws' examples come as they must. -/
namespace Go.Proofs.Ytiaoaoebghnpkaa.P.Cv
open Go.RowKit Go.Proofs.YtiaoaoebghnpkaaW.PrintWords Go.Proofs.YtiaoaoebghnpkaaW.PrintLast Go.Proofs.YtiaoaoebghnpkaaW.PrintMore
theorem live29_k (k : Nat) : weighbridgelaw29_live.f (k + 20) = some true := by kernel_rfl
theorem live29_ev : Ev (fun k => weighbridgelaw29_live.f k) true := ⟨20, fun k hk => by
  obtain ⟨m, rfl⟩ : ∃ m, k = m + 20 := ⟨k - 20, by omega⟩
  exact live29_k m⟩
end Go.Proofs.Ytiaoaoebghnpkaa.P.Cv
