/- Part of the proof. -/
import Derived.Test.YtiaoaoebghnpkaaKA15
/- Functions that are given to the print by contracts proved before: wide numbers, buckets, and the document's for them. -/
namespace Go.Proofs.Ytiaoaoebghnpkaa
open Go.RowKit
set_option linter.unusedVariables false
instance decU (x : Int) : Decidable (U x) := inferInstanceAs (Decidable (0 ≤ x ∧ x < 18446744073709551616))
instance decI64 (x : Int) : Decidable (I64 x) := inferInstanceAs (Decidable (-9223372036854775808 ≤ x ∧ x < 9223372036854775808))
end Go.Proofs.Ytiaoaoebghnpkaa
namespace Go.Proofs.Ytiaoaoebghnpkaa.P
open Go.RowKit
set_option linter.unusedVariables false
def wide_Of.f (x0 : Int) : Option (Int × Int) := if U x0 then some (0, x0) else none
theorem wide_Of.calls (x0 : Int) (r0 : Int) (r1 : Int) (w : World) (h : wide_Of.f x0 = some (r0, r1)) :
    Calls Try.prog 45 #[.int .u64 x0] w fun e w' => e = .returned (.agg #[.int .u64 r0, .int .u64 r1]) ∧ Below w.heap.size w w' := by
  unfold wide_Of.f at h
  split at h
  case isTrue hc =>
    simp only [Option.some.injEq, Prod.mk.injEq] at h
    obtain ⟨rfl, rfl⟩ := h
    exact of_any x0 w
  case isFalse => exact absurd h (by simp)
def wide_Less.f (x0 : Int) (x1 : Int) (x2 : Int) (x3 : Int) : Option (Bool) := if U x1 ∧ U x3 then some (decide (wd x0 x1 < wd x2 x3)) else none
theorem wide_Less.calls (x0 : Int) (x1 : Int) (x2 : Int) (x3 : Int) (r0 : Bool) (w : World) (h : wide_Less.f x0 x1 x2 x3 = some r0) :
    Calls Try.prog 25 #[.agg #[.int .u64 x0, .int .u64 x1], .agg #[.int .u64 x2, .int .u64 x3]] w fun e w' => e = .returned (.bool r0) ∧ Below w.heap.size w w' := by
  unfold wide_Less.f at h
  split at h
  case isTrue hc =>
    simp only [Option.some.injEq] at h
    obtain rfl := h
    exact less_any x0 x1 x2 x3 w hc.1 hc.2
  case isFalse => exact absurd h (by simp)
def wide_Add.f (x0 : Int) (x1 : Int) (x2 : Int) (x3 : Int) : Option (Int × Int × Bool) := if U x0 ∧ U x1 ∧ U x2 ∧ U x3 then some (hi (wd x0 x1 + wd x2 x3), lo (wd x0 x1 + wd x2 x3), ov (wd x0 x1 + wd x2 x3)) else none
theorem wide_Add.calls (x0 : Int) (x1 : Int) (x2 : Int) (x3 : Int) (r0 : Int) (r1 : Int) (r2 : Bool) (w : World) (h : wide_Add.f x0 x1 x2 x3 = some (r0, r1, r2)) :
    Calls Try.prog 23 #[.agg #[.int .u64 x0, .int .u64 x1], .agg #[.int .u64 x2, .int .u64 x3]] w fun e w' => e = .returned (.tuple #[.agg #[.int .u64 r0, .int .u64 r1], .bool r2]) ∧ Below w.heap.size w w' := by
  unfold wide_Add.f at h
  split at h
  case isTrue hc =>
    simp only [Option.some.injEq, Prod.mk.injEq] at h
    obtain ⟨rfl, rfl, rfl⟩ := h
    exact add_any x0 x1 x2 x3 w hc.1 hc.2.1 hc.2.2.1 hc.2.2.2
  case isFalse => exact absurd h (by simp)
def wide_Sub.f (x0 : Int) (x1 : Int) (x2 : Int) (x3 : Int) : Option (Int × Int × Bool) := if U x1 ∧ U x3 then some (hi (wd x0 x1 - wd x2 x3), lo (wd x0 x1 - wd x2 x3), decide (wd x0 x1 < wd x2 x3)) else none
theorem wide_Sub.calls (x0 : Int) (x1 : Int) (x2 : Int) (x3 : Int) (r0 : Int) (r1 : Int) (r2 : Bool) (w : World) (h : wide_Sub.f x0 x1 x2 x3 = some (r0, r1, r2)) :
    Calls Try.prog 73 #[.agg #[.int .u64 x0, .int .u64 x1], .agg #[.int .u64 x2, .int .u64 x3]] w fun e w' => e = .returned (.tuple #[.agg #[.int .u64 r0, .int .u64 r1], .bool r2]) ∧ Below w.heap.size w w' := by
  unfold wide_Sub.f at h
  split at h
  case isTrue hc =>
    simp only [Option.some.injEq, Prod.mk.injEq] at h
    obtain ⟨rfl, rfl, rfl⟩ := h
    exact sub_any x0 x1 x2 x3 w hc.1 hc.2
  case isFalse => exact absurd h (by simp)
def wide_Mul.f (x0 : Int) (x1 : Int) : Option (Int × Int) := if U x0 ∧ U x1 then some (hi (x0 * x1), lo (x0 * x1)) else none
theorem wide_Mul.calls (x0 : Int) (x1 : Int) (r0 : Int) (r1 : Int) (w : World) (h : wide_Mul.f x0 x1 = some (r0, r1)) :
    Calls Try.prog 24 #[.int .u64 x0, .int .u64 x1] w fun e w' => e = .returned (.agg #[.int .u64 r0, .int .u64 r1]) ∧ Below w.heap.size w w' := by
  unfold wide_Mul.f at h
  split at h
  case isTrue hc =>
    simp only [Option.some.injEq, Prod.mk.injEq] at h
    obtain ⟨rfl, rfl⟩ := h
    exact mul_any x0 x1 w hc.1 hc.2
  case isFalse => exact absurd h (by simp)
def wide_Cap.f (x0 : Int) (x1 : Int) (x2 : Int) : Option (Int) := if U x0 ∧ U x1 ∧ U x2 then some (min (wd x0 x1) x2) else none
theorem wide_Cap.calls (x0 : Int) (x1 : Int) (x2 : Int) (r0 : Int) (w : World) (h : wide_Cap.f x0 x1 x2 = some r0) :
    Calls Try.prog 123 #[.agg #[.int .u64 x0, .int .u64 x1], .int .u64 x2] w fun e w' => e = .returned (.int .u64 r0) ∧ Below w.heap.size w w' := by
  unfold wide_Cap.f at h
  split at h
  case isTrue hc =>
    simp only [Option.some.injEq] at h
    obtain rfl := h
    exact cap_any x0 x1 x2 w hc.1 hc.2.1 hc.2.2
  case isFalse => exact absurd h (by simp)
def weighbridgeref02_Of.f (x0 : Int) : Option (Int × Int) := if U x0 then some (0, x0) else none
theorem weighbridgeref02_Of.calls (x0 : Int) (r0 : Int) (r1 : Int) (w : World) (h : weighbridgeref02_Of.f x0 = some (r0, r1)) :
    Calls Try.prog 48 #[.int .u64 x0] w fun e w' => e = .returned (.agg #[.int .u64 r0, .int .u64 r1]) ∧ Below w.heap.size w w' := by
  unfold weighbridgeref02_Of.f at h
  split at h
  case isTrue hc =>
    simp only [Option.some.injEq, Prod.mk.injEq] at h
    obtain ⟨rfl, rfl⟩ := h
    exact rof_any x0 w
  case isFalse => exact absurd h (by simp)
def weighbridgeref02_Less.f (x0 : Int) (x1 : Int) (x2 : Int) (x3 : Int) : Option (Bool) := if U x0 ∧ U x1 ∧ U x2 ∧ U x3 then some (decide (wd x0 x1 < wd x2 x3)) else none
theorem weighbridgeref02_Less.calls (x0 : Int) (x1 : Int) (x2 : Int) (x3 : Int) (r0 : Bool) (w : World) (h : weighbridgeref02_Less.f x0 x1 x2 x3 = some r0) :
    Calls Try.prog 41 #[.agg #[.int .u64 x0, .int .u64 x1], .agg #[.int .u64 x2, .int .u64 x3]] w fun e w' => e = .returned (.bool r0) ∧ Below w.heap.size w w' := by
  unfold weighbridgeref02_Less.f at h
  split at h
  case isTrue hc =>
    simp only [Option.some.injEq] at h
    obtain rfl := h
    exact rless_any x0 x1 x2 x3 w hc.1 hc.2.1 hc.2.2.1 hc.2.2.2
  case isFalse => exact absurd h (by simp)
def weighbridgeref02_Add.f (x0 : Int) (x1 : Int) (x2 : Int) (x3 : Int) : Option (Int × Int × Bool) := if U x0 ∧ U x1 ∧ U x2 ∧ U x3 then some (hi (wd x0 x1 + wd x2 x3), lo (wd x0 x1 + wd x2 x3), ov (wd x0 x1 + wd x2 x3)) else none
theorem weighbridgeref02_Add.calls (x0 : Int) (x1 : Int) (x2 : Int) (x3 : Int) (r0 : Int) (r1 : Int) (r2 : Bool) (w : World) (h : weighbridgeref02_Add.f x0 x1 x2 x3 = some (r0, r1, r2)) :
    Calls Try.prog 47 #[.agg #[.int .u64 x0, .int .u64 x1], .agg #[.int .u64 x2, .int .u64 x3]] w fun e w' => e = .returned (.tuple #[.agg #[.int .u64 r0, .int .u64 r1], .bool r2]) ∧ Below w.heap.size w w' := by
  unfold weighbridgeref02_Add.f at h
  split at h
  case isTrue hc =>
    simp only [Option.some.injEq, Prod.mk.injEq] at h
    obtain ⟨rfl, rfl, rfl⟩ := h
    exact radd_any x0 x1 x2 x3 w hc.1 hc.2.1 hc.2.2.1 hc.2.2.2
  case isFalse => exact absurd h (by simp)
def weighbridgeref02_Sub.f (x0 : Int) (x1 : Int) (x2 : Int) (x3 : Int) : Option (Int × Int × Bool) := if U x0 ∧ U x1 ∧ U x2 ∧ U x3 then some (hi (wd x0 x1 - wd x2 x3), lo (wd x0 x1 - wd x2 x3), decide (wd x0 x1 < wd x2 x3)) else none
theorem weighbridgeref02_Sub.calls (x0 : Int) (x1 : Int) (x2 : Int) (x3 : Int) (r0 : Int) (r1 : Int) (r2 : Bool) (w : World) (h : weighbridgeref02_Sub.f x0 x1 x2 x3 = some (r0, r1, r2)) :
    Calls Try.prog 71 #[.agg #[.int .u64 x0, .int .u64 x1], .agg #[.int .u64 x2, .int .u64 x3]] w fun e w' => e = .returned (.tuple #[.agg #[.int .u64 r0, .int .u64 r1], .bool r2]) ∧ Below w.heap.size w w' := by
  unfold weighbridgeref02_Sub.f at h
  split at h
  case isTrue hc =>
    simp only [Option.some.injEq, Prod.mk.injEq] at h
    obtain ⟨rfl, rfl, rfl⟩ := h
    exact rsub_any x0 x1 x2 x3 w hc.1 hc.2.1 hc.2.2.1 hc.2.2.2
  case isFalse => exact absurd h (by simp)
def weighbridgeref02_Mul.f (x0 : Int) (x1 : Int) : Option (Int × Int) := if U x0 ∧ U x1 then some (hi (x0 * x1), lo (x0 * x1)) else none
theorem weighbridgeref02_Mul.calls (x0 : Int) (x1 : Int) (r0 : Int) (r1 : Int) (w : World) (h : weighbridgeref02_Mul.f x0 x1 = some (r0, r1)) :
    Calls Try.prog 42 #[.int .u64 x0, .int .u64 x1] w fun e w' => e = .returned (.agg #[.int .u64 r0, .int .u64 r1]) ∧ Below w.heap.size w w' := by
  unfold weighbridgeref02_Mul.f at h
  split at h
  case isTrue hc =>
    simp only [Option.some.injEq, Prod.mk.injEq] at h
    obtain ⟨rfl, rfl⟩ := h
    exact rmul_any x0 x1 w hc.1 hc.2
  case isFalse => exact absurd h (by simp)
def weighbridgeref02_Cap.f (x0 : Int) (x1 : Int) (x2 : Int) : Option (Int) := if U x0 ∧ U x1 ∧ U x2 then some (min (wd x0 x1) x2) else none
theorem weighbridgeref02_Cap.calls (x0 : Int) (x1 : Int) (x2 : Int) (r0 : Int) (w : World) (h : weighbridgeref02_Cap.f x0 x1 x2 = some r0) :
    Calls Try.prog 96 #[.agg #[.int .u64 x0, .int .u64 x1], .int .u64 x2] w fun e w' => e = .returned (.int .u64 r0) ∧ Below w.heap.size w w' := by
  unfold weighbridgeref02_Cap.f at h
  split at h
  case isTrue hc =>
    simp only [Option.some.injEq] at h
    obtain rfl := h
    exact rcap_any x0 x1 x2 w hc.1 hc.2.1 hc.2.2
  case isFalse => exact absurd h (by simp)
def weighbridgeref02_Div.f (x0 : Int) (x1 : Int) (x2 : Int) : Option (Int × Int × Int) := if U x0 ∧ U x1 ∧ U x2 then some (hi (wd x0 x1 / x2), lo (wd x0 x1 / x2), (if x2 = 0 then 0 else wd x0 x1 % x2)) else none
theorem weighbridgeref02_Div.calls (x0 : Int) (x1 : Int) (x2 : Int) (r0 : Int) (r1 : Int) (r2 : Int) (w : World) (h : weighbridgeref02_Div.f x0 x1 x2 = some (r0, r1, r2)) :
    Calls Try.prog 46 #[.agg #[.int .u64 x0, .int .u64 x1], .int .u64 x2] w fun e w' => e = .returned (.tuple #[.agg #[.int .u64 r0, .int .u64 r1], .int .u64 r2]) ∧ Below w.heap.size w w' := by
  unfold weighbridgeref02_Div.f at h
  split at h
  case isTrue hc =>
    simp only [Option.some.injEq, Prod.mk.injEq] at h
    obtain ⟨rfl, rfl, rfl⟩ := h
    exact rdiv_any x0 x1 x2 w hc.1 hc.2.1 hc.2.2
  case isFalse => exact absurd h (by simp)
def bucket_Full.f (x0 : Int) : Option (Int × Int) := if U x0 then some (fullV x0, fullE x0) else none
theorem bucket_Full.calls (x0 : Int) (r0 : Int) (r1 : Int) (w : World) (h : bucket_Full.f x0 = some (r0, r1)) :
    Calls Try.prog 80 #[.int .u64 x0] w fun e w' => e = .returned (.tuple #[.int .u64 r0, .int .i64 r1]) ∧ Below w.heap.size w w' := by
  unfold bucket_Full.f at h
  split at h
  case isTrue hc =>
    simp only [Option.some.injEq, Prod.mk.injEq] at h
    obtain ⟨rfl, rfl⟩ := h
    exact (bfull_any x0 w hc).mono fun e w' h => ⟨h.1, h.2 ▸ Below.refl _ _⟩
  case isFalse => exact absurd h (by simp)
def weighbridgeref24_Full.f (x0 : Int) : Option (Int × Int) := if U x0 then some (fullV x0, fullE x0) else none
def bucket_Need.f (x0 : Int) : Option (Int × Bool) := if I64 x0 then some (needV x0, okV x0) else none
theorem bucket_Need.calls (x0 : Int) (r0 : Int) (r1 : Bool) (w : World) (h : bucket_Need.f x0 = some (r0, r1)) :
    Calls Try.prog 54 #[.int .i64 x0] w fun e w' => e = .returned (.tuple #[.int .u64 r0, .bool r1]) ∧ Below w.heap.size w w' := by
  unfold bucket_Need.f at h
  split at h
  case isTrue hc =>
    simp only [Option.some.injEq, Prod.mk.injEq] at h
    obtain ⟨rfl, rfl⟩ := h
    exact bneed_any x0 w hc
  case isFalse => exact absurd h (by simp)
def weighbridgeref24_Need.f (x0 : Int) : Option (Int × Bool) := if I64 x0 then some (needV x0, okV x0) else none
theorem weighbridgeref24_Need.calls (x0 : Int) (r0 : Int) (r1 : Bool) (w : World) (h : weighbridgeref24_Need.f x0 = some (r0, r1)) :
    Calls Try.prog 95 #[.int .i64 x0] w fun e w' => e = .returned (.tuple #[.int .u64 r0, .bool r1]) ∧ Below w.heap.size w w' := by
  unfold weighbridgeref24_Need.f at h
  split at h
  case isTrue hc =>
    simp only [Option.some.injEq, Prod.mk.injEq] at h
    obtain ⟨rfl, rfl⟩ := h
    exact rneed_any x0 w hc
  case isFalse => exact absurd h (by simp)
def bucket_Take.f (x0 : Int) (x1 : Int) : Option (Int × Bool) := if U x0 ∧ I64 x1 then some (takeV x0 x1, canV x0 x1) else none
theorem bucket_Take.calls (x0 : Int) (x1 : Int) (r0 : Int) (r1 : Bool) (w : World) (h : bucket_Take.f x0 x1 = some (r0, r1)) :
    Calls Try.prog 124 #[.int .u64 x0, .int .i64 x1] w fun e w' => e = .returned (.tuple #[.int .u64 r0, .bool r1]) ∧ Below w.heap.size w w' := by
  unfold bucket_Take.f at h
  split at h
  case isTrue hc =>
    simp only [Option.some.injEq, Prod.mk.injEq] at h
    obtain ⟨rfl, rfl⟩ := h
    exact btake_any x0 x1 w hc.1 hc.2
  case isFalse => exact absurd h (by simp)
def weighbridgeref24_Take.f (x0 : Int) (x1 : Int) : Option (Int × Bool) := if U x0 ∧ I64 x1 then some (takeV x0 x1, canV x0 x1) else none
theorem weighbridgeref24_Take.calls (x0 : Int) (x1 : Int) (r0 : Int) (r1 : Bool) (w : World) (h : weighbridgeref24_Take.f x0 x1 = some (r0, r1)) :
    Calls Try.prog 91 #[.int .u64 x0, .int .i64 x1] w fun e w' => e = .returned (.tuple #[.int .u64 r0, .bool r1]) ∧ Below w.heap.size w w' := by
  unfold weighbridgeref24_Take.f at h
  split at h
  case isTrue hc =>
    simp only [Option.some.injEq, Prod.mk.injEq] at h
    obtain ⟨rfl, rfl⟩ := h
    exact rtake_any x0 x1 w hc.1 hc.2
  case isFalse => exact absurd h (by simp)
def bucket_Grow.f (x0 : Int) (x1 : Int) (x2 : Int) (x3 : Int) : Option (Int × Int × Int) := if U x0 ∧ U x1 ∧ U x2 ∧ U x3 then some (growV x0 x1 (x2 * x3), hi (spillV x0 x1 (x2 * x3)), lo (spillV x0 x1 (x2 * x3))) else none
theorem bucket_Grow.calls (x0 : Int) (x1 : Int) (x2 : Int) (x3 : Int) (r0 : Int) (r1 : Int) (r2 : Int) (w : World) (h : bucket_Grow.f x0 x1 x2 x3 = some (r0, r1, r2)) :
    Calls Try.prog 121 #[.int .u64 x0, .int .u64 x1, .int .u64 x2, .int .u64 x3] w fun e w' => e = .returned (.tuple #[.int .u64 r0, .agg #[.int .u64 r1, .int .u64 r2]]) ∧ Below w.heap.size w w' := by
  unfold bucket_Grow.f at h
  split at h
  case isTrue hc =>
    simp only [Option.some.injEq, Prod.mk.injEq] at h
    obtain ⟨rfl, rfl, rfl⟩ := h
    exact bgrow_any x0 x1 x2 x3 w hc.1 hc.2.1 hc.2.2.1 hc.2.2.2
  case isFalse => exact absurd h (by simp)
def weighbridgeref24_Grow.f (x0 : Int) (x1 : Int) (x2 : Int) (x3 : Int) : Option (Int × Int × Int) := if U x0 ∧ U x1 ∧ U x2 ∧ U x3 then some (growV x0 x1 (x2 * x3), hi (spillV x0 x1 (x2 * x3)), lo (spillV x0 x1 (x2 * x3))) else none
theorem weighbridgeref24_Grow.calls (x0 : Int) (x1 : Int) (x2 : Int) (x3 : Int) (r0 : Int) (r1 : Int) (r2 : Int) (w : World) (h : weighbridgeref24_Grow.f x0 x1 x2 x3 = some (r0, r1, r2)) :
    Calls Try.prog 94 #[.int .u64 x0, .int .u64 x1, .int .u64 x2, .int .u64 x3] w fun e w' => e = .returned (.tuple #[.int .u64 r0, .agg #[.int .u64 r1, .int .u64 r2]]) ∧ Below w.heap.size w w' := by
  unfold weighbridgeref24_Grow.f at h
  split at h
  case isTrue hc =>
    simp only [Option.some.injEq, Prod.mk.injEq] at h
    obtain ⟨rfl, rfl, rfl⟩ := h
    exact rgrow_any x0 x1 x2 x3 w hc.1 hc.2.1 hc.2.2.1 hc.2.2.2
  case isFalse => exact absurd h (by simp)
end Go.Proofs.Ytiaoaoebghnpkaa.P
