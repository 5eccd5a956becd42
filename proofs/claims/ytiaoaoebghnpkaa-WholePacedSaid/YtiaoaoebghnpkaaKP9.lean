/- Part of the proof. -/
import Derived.Test.YtiaoaoebghnpkaaKP8
/- What single.rims answers: what the two bursts fill. -/
namespace Go.Proofs.Ytiaoaoebghnpkaa
open Go.RowKit
set_option linter.unusedVariables false
set_option maxRecDepth 100000 in
set_option maxHeartbeats 1000000 in
theorem rims_any (k : Int) (a : Bool) (r p b x : Int) (w : World) (hb : U b) (hx : U x) : Calls Try.prog 131 #[.agg #[.int .i64 k, .bool a, .int .u64 r, .int .u64 p, .int .u64 b, .int .u64 x]] w fun e w' => e = .returned (.agg #[.int .u64 (fullV b), .int .u64 (fullV x)]) ∧ Below w.heap.size w w' := by
  have i0 : ∀ w, (Instr.index 39 (.agg #[.int .u64 b, .int .u64 x]) (.int .i64 0)).run Try.prog w = .ok (.int .u64 b) w := fun _ => by kernel_rfl
  have i1 : ∀ w, (Instr.index 39 (.agg #[.int .u64 b, .int .u64 x]) (.int .i64 1)).run Try.prog w = .ok (.int .u64 x) w := fun _ => by kernel_rfl
  go_enter Try.func131, Try.ntmps131
  go_wp2_with fail
  refine wp_loop_rounds 3 ?_; rw [rounds_succ]
  go_wp2_with fail
  refine (bfull_any _ _ hb).mono ?_
  rintro e W1 ⟨rfl, rfl⟩
  go_wp2_with fail
  rw [rounds_succ]
  go_wp2_with fail
  refine (bfull_any _ _ hx).mono ?_
  rintro e W1 ⟨rfl, rfl⟩
  go_wp2_with fail
  rw [rounds_succ]
  go_wp2
  go_returns
  exact ⟨rfl, by go_grown⟩
end Go.Proofs.Ytiaoaoebghnpkaa
namespace Go.Proofs.Ytiaoaoebghnpkaa.P
open Go.RowKit
set_option linter.unusedVariables false
def single_rims.f (x0 : Int) (x1 : Bool) (x2 : Int) (x3 : Int) (x4 : Int) (x5 : Int) : Option (Int × Int) := if U x4 ∧ U x5 then some (fullV x4, fullV x5) else none
theorem single_rims.calls (x0 : Int) (x1 : Bool) (x2 : Int) (x3 : Int) (x4 : Int) (x5 : Int) (r0 : Int) (r1 : Int) (w : World) (h : single_rims.f x0 x1 x2 x3 x4 x5 = some (r0, r1)) :
    Calls Try.prog 131 #[.agg #[.int .i64 x0, .bool x1, .int .u64 x2, .int .u64 x3, .int .u64 x4, .int .u64 x5]] w fun e w' => e = .returned (.agg #[.int .u64 r0, .int .u64 r1]) ∧ Below w.heap.size w w' := by
  unfold single_rims.f at h
  split at h
  case isTrue hc =>
    simp only [Option.some.injEq, Prod.mk.injEq] at h
    obtain ⟨rfl, rfl⟩ := h
    exact rims_any x0 x1 x2 x3 x4 x5 w hc.1 hc.2
  case isFalse => exact absurd h (by simp)
end Go.Proofs.Ytiaoaoebghnpkaa.P
