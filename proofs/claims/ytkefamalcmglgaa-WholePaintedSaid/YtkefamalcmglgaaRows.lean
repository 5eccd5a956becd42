/-
  No cell of these rows narrows 'for every input' (looked for: loops, veiled, ifaces, maps, wideKeys, modest, calm, conditions, laid).
  DERIVED. THE GIVEN ROWS OF THIS SEAT. 9 by the template 'for every input the law returns true; each argument reads behind the call as it read before'; 0 by the template 'total and deterministic' (their statements: YtkefamalcmglgaaTotals.lean).
  GIVEN WITH THE SEED: the statements are not yours to turn. If you find one false, say at which input.
  Laid BY PROGRAM, IN A SANDBOX (cutbox-rows.mjs): the forced cells as the released guide's own fill.sh prints them over the translation eaf790cc2755ab65… (all of the seat's roots in one cut). By AI agents, Wed Nov 11 2026. No macro, syntax, notation, axiom, sorry.
-/
import Derived.Test.YtkefamalcmglgaaChecked
import GoSem.Claim
import GoSem.ClaimJoined
import GoSem.ClaimMapViews
import Derived.JoinedTies
import Derived.KernelRfl
namespace Go.Proofs.Ytkefamalcmglgaa
/- THE CELL 'sum', in the pinned program and in every row, IS THE sha256 OF THE DUMP (.gsa) THAT YtkefamalcmglgaaProg.lean LOADS. Nothing in Lean hashes anything: it is a label: what it is worth is what the hold of that sum in a sandbox is worth. -/
noncomputable def Try.pinned : Pinned := { name := "ytkefamalcmglgaa", sum := "eaf790cc2755ab6577c9fa3bb87006f101fe7b93cf49389130c599a052102291", checked := Try.checked }
namespace Rows
def none {H : Type} : Left H := { results := [], args := [] }

/-- 'weighbridgelaw27.DoubleSteps': WHATEVER THE INPUT: true; the input reads as it did. -/
def doubleStepsSpec : ChangeSpec := { name := "doubleSteps", fn := fun _ => fun
  | [d1, d2, d3] => { results := [.lit (.bool true)], args := [d1, d2, d3] }
  | _ => none }
def doubleStepsRow : OpenClaim := { program := "ytkefamalcmglgaa", sum := "eaf790cc2755ab6577c9fa3bb87006f101fe7b93cf49389130c599a052102291", func := "weighbridge/weighbridgelaw27.DoubleSteps", spec := "doubleSteps", unfollowed := true, recurses := true, apart := false }
def DoubleStepsSaid : Prop := doubleStepsRow.holds Try.pinned (OpenSpec.ofChange doubleStepsSpec)

/-- ITS FALSE NEIGHBOUR: 'it returns false'. Refute it at one input. -/
def doubleStepsWrong : ChangeSpec := { name := "doubleSteps", fn := fun _ => fun
  | [d1, d2, d3] => { results := [.lit (.bool false)], args := [d1, d2, d3] }
  | _ => none }
def DoubleStepsWrongFalsely : Prop := doubleStepsRow.holds Try.pinned (OpenSpec.ofChange doubleStepsWrong)

/-- 'weighbridgelaw27.DoubleRuns': WHATEVER THE INPUT: true; the input reads as it did. -/
def doubleRunsSpec : ChangeSpec := { name := "doubleRuns", fn := fun _ => fun
  | [d1, d2] => { results := [.lit (.bool true)], args := [d1, d2] }
  | _ => none }
def doubleRunsRow : OpenClaim := { program := "ytkefamalcmglgaa", sum := "eaf790cc2755ab6577c9fa3bb87006f101fe7b93cf49389130c599a052102291", func := "weighbridge/weighbridgelaw27.DoubleRuns", spec := "doubleRuns", unfollowed := true, recurses := true, apart := false }
def DoubleRunsSaid : Prop := doubleRunsRow.holds Try.pinned (OpenSpec.ofChange doubleRunsSpec)

/-- ITS FALSE NEIGHBOUR: 'it returns false'. Refute it at one input. -/
def doubleRunsWrong : ChangeSpec := { name := "doubleRuns", fn := fun _ => fun
  | [d1, d2] => { results := [.lit (.bool false)], args := [d1, d2] }
  | _ => none }
def DoubleRunsWrongFalsely : Prop := doubleRunsRow.holds Try.pinned (OpenSpec.ofChange doubleRunsWrong)

/-- 'weighbridgelaw27.DoubleTakes': WHATEVER THE INPUT: true; the input reads as it did. -/
def doubleTakesSpec : ChangeSpec := { name := "doubleTakes", fn := fun _ => fun
  | [d1, d2] => { results := [.lit (.bool true)], args := [d1, d2] }
  | _ => none }
def doubleTakesRow : OpenClaim := { program := "ytkefamalcmglgaa", sum := "eaf790cc2755ab6577c9fa3bb87006f101fe7b93cf49389130c599a052102291", func := "weighbridge/weighbridgelaw27.DoubleTakes", spec := "doubleTakes", unfollowed := true, recurses := true, apart := false }
def DoubleTakesSaid : Prop := doubleTakesRow.holds Try.pinned (OpenSpec.ofChange doubleTakesSpec)

/-- ITS FALSE NEIGHBOUR: 'it returns false'. Refute it at one input. -/
def doubleTakesWrong : ChangeSpec := { name := "doubleTakes", fn := fun _ => fun
  | [d1, d2] => { results := [.lit (.bool false)], args := [d1, d2] }
  | _ => none }
def DoubleTakesWrongFalsely : Prop := doubleTakesRow.holds Try.pinned (OpenSpec.ofChange doubleTakesWrong)

/-- 'weighbridgelaw26.SingleSteps': WHATEVER THE INPUT: true; the input reads as it did. -/
def singleStepsSpec : ChangeSpec := { name := "singleSteps", fn := fun _ => fun
  | [d1, d2, d3] => { results := [.lit (.bool true)], args := [d1, d2, d3] }
  | _ => none }
def singleStepsRow : OpenClaim := { program := "ytkefamalcmglgaa", sum := "eaf790cc2755ab6577c9fa3bb87006f101fe7b93cf49389130c599a052102291", func := "weighbridge/weighbridgelaw26.SingleSteps", spec := "singleSteps", apart := false }
def SingleStepsSaid : Prop := singleStepsRow.holds Try.pinned (OpenSpec.ofChange singleStepsSpec)

/-- ITS FALSE NEIGHBOUR: 'it returns false'. Refute it at one input. -/
def singleStepsWrong : ChangeSpec := { name := "singleSteps", fn := fun _ => fun
  | [d1, d2, d3] => { results := [.lit (.bool false)], args := [d1, d2, d3] }
  | _ => none }
def SingleStepsWrongFalsely : Prop := singleStepsRow.holds Try.pinned (OpenSpec.ofChange singleStepsWrong)

/-- 'weighbridgelaw26.SingleRuns': WHATEVER THE INPUT: true; the input reads as it did. -/
def singleRunsSpec : ChangeSpec := { name := "singleRuns", fn := fun _ => fun
  | [d1, d2] => { results := [.lit (.bool true)], args := [d1, d2] }
  | _ => none }
def singleRunsRow : OpenClaim := { program := "ytkefamalcmglgaa", sum := "eaf790cc2755ab6577c9fa3bb87006f101fe7b93cf49389130c599a052102291", func := "weighbridge/weighbridgelaw26.SingleRuns", spec := "singleRuns", apart := false }
def SingleRunsSaid : Prop := singleRunsRow.holds Try.pinned (OpenSpec.ofChange singleRunsSpec)

/-- ITS FALSE NEIGHBOUR: 'it returns false'. Refute it at one input. -/
def singleRunsWrong : ChangeSpec := { name := "singleRuns", fn := fun _ => fun
  | [d1, d2] => { results := [.lit (.bool false)], args := [d1, d2] }
  | _ => none }
def SingleRunsWrongFalsely : Prop := singleRunsRow.holds Try.pinned (OpenSpec.ofChange singleRunsWrong)

/-- 'weighbridgelaw26.SingleTakes': WHATEVER THE INPUT: true; the input reads as it did. -/
def singleTakesSpec : ChangeSpec := { name := "singleTakes", fn := fun _ => fun
  | [d1, d2] => { results := [.lit (.bool true)], args := [d1, d2] }
  | _ => none }
def singleTakesRow : OpenClaim := { program := "ytkefamalcmglgaa", sum := "eaf790cc2755ab6577c9fa3bb87006f101fe7b93cf49389130c599a052102291", func := "weighbridge/weighbridgelaw26.SingleTakes", spec := "singleTakes", apart := false }
def SingleTakesSaid : Prop := singleTakesRow.holds Try.pinned (OpenSpec.ofChange singleTakesSpec)

/-- ITS FALSE NEIGHBOUR: 'it returns false'. Refute it at one input. -/
def singleTakesWrong : ChangeSpec := { name := "singleTakes", fn := fun _ => fun
  | [d1, d2] => { results := [.lit (.bool false)], args := [d1, d2] }
  | _ => none }
def SingleTakesWrongFalsely : Prop := singleTakesRow.holds Try.pinned (OpenSpec.ofChange singleTakesWrong)

/-- 'weighbridgetop.WholeClock': WHATEVER THE INPUT: true; the input reads as it did. -/
def wholeClockSpec : ChangeSpec := { name := "wholeClock", fn := fun _ => fun
  | [d1, d2, d3] => { results := [.lit (.bool true)], args := [d1, d2, d3] }
  | _ => none }
def wholeClockRow : OpenClaim := { program := "ytkefamalcmglgaa", sum := "eaf790cc2755ab6577c9fa3bb87006f101fe7b93cf49389130c599a052102291", func := "weighbridge/weighbridgetop.WholeClock", spec := "wholeClock", unfollowed := true, recurses := true, apart := false }
def WholeClockSaid : Prop := wholeClockRow.holds Try.pinned (OpenSpec.ofChange wholeClockSpec)

/-- ITS FALSE NEIGHBOUR: 'it returns false'. Refute it at one input. -/
def wholeClockWrong : ChangeSpec := { name := "wholeClock", fn := fun _ => fun
  | [d1, d2, d3] => { results := [.lit (.bool false)], args := [d1, d2, d3] }
  | _ => none }
def WholeClockWrongFalsely : Prop := wholeClockRow.holds Try.pinned (OpenSpec.ofChange wholeClockWrong)

/-- 'weighbridgetop.WholeEqual': WHATEVER THE INPUT: true; the input reads as it did. -/
def wholeEqualSpec : ChangeSpec := { name := "wholeEqual", fn := fun _ => fun
  | [d1, d2, d3] => { results := [.lit (.bool true)], args := [d1, d2, d3] }
  | _ => none }
def wholeEqualRow : OpenClaim := { program := "ytkefamalcmglgaa", sum := "eaf790cc2755ab6577c9fa3bb87006f101fe7b93cf49389130c599a052102291", func := "weighbridge/weighbridgetop.WholeEqual", spec := "wholeEqual", unfollowed := true, recurses := true, apart := false }
def WholeEqualSaid : Prop := wholeEqualRow.holds Try.pinned (OpenSpec.ofChange wholeEqualSpec)

/-- ITS FALSE NEIGHBOUR: 'it returns false'. Refute it at one input. -/
def wholeEqualWrong : ChangeSpec := { name := "wholeEqual", fn := fun _ => fun
  | [d1, d2, d3] => { results := [.lit (.bool false)], args := [d1, d2, d3] }
  | _ => none }
def WholeEqualWrongFalsely : Prop := wholeEqualRow.holds Try.pinned (OpenSpec.ofChange wholeEqualWrong)

/-- 'weighbridgetop.WholePainted': WHATEVER THE INPUT: true; the input reads as it did. -/
def wholePaintedSpec : ChangeSpec := { name := "wholePainted", fn := fun _ => fun
  | [d1, d2, d3] => { results := [.lit (.bool true)], args := [d1, d2, d3] }
  | _ => none }
def wholePaintedRow : OpenClaim := { program := "ytkefamalcmglgaa", sum := "eaf790cc2755ab6577c9fa3bb87006f101fe7b93cf49389130c599a052102291", func := "weighbridge/weighbridgetop.WholePainted", spec := "wholePainted", unfollowed := true, recurses := true, apart := false }
def WholePaintedSaid : Prop := wholePaintedRow.holds Try.pinned (OpenSpec.ofChange wholePaintedSpec)

/-- ITS FALSE NEIGHBOUR: 'it returns false'. Refute it at one input. -/
def wholePaintedWrong : ChangeSpec := { name := "wholePainted", fn := fun _ => fun
  | [d1, d2, d3] => { results := [.lit (.bool false)], args := [d1, d2, d3] }
  | _ => none }
def WholePaintedWrongFalsely : Prop := wholePaintedRow.holds Try.pinned (OpenSpec.ofChange wholePaintedWrong)

/- THE SECOND FORM. 'bulk': how many values and letters a reading holds, each counted each time it is reached (what is shared counts as often as it is met; a slice's spare places count too). A statement '..UptoSaid' is the law's where the arguments, and the package variables that the reading takes, are together of bulk at most 1048576: NARROWER than '..Said'. Prove '..Said' where nothing that the law and all that it calls make is longer than what came in: it says more and counts as full. Else prove '..UptoSaid'. A law counts once. -/
mutual
def uptoBulk {H : Type} : DataW H → Nat
  | .lit (.string bytes) => bytes.length + 1
  | .lit _ => 1
  | .nil => 1
  | .ptr d => uptoBulk d + 1
  | .slice elems spare => uptoBulkAll elems + uptoBulkAll spare + 1
  | .agg parts => uptoBulkAll parts + 1
  | .iface _ d => uptoBulk d + 1
  | .map entries => uptoBulkEntries entries + 1
  | .held _ => 1
def uptoBulkAll {H : Type} : List (DataW H) → Nat
  | [] => 0
  | d :: r => uptoBulk d + uptoBulkAll r
def uptoBulkEntries {H : Type} : List (Lit × DataW H) → Nat
  | [] => 0
  | x :: r => uptoBulkEntry x + uptoBulkEntries r
def uptoBulkEntry {H : Type} : Lit × DataW H → Nat
  | (.string bytes, d) => bytes.length + uptoBulk d + 1
  | (_, d) => uptoBulk d + 1
 end
def uptoSmall : (H : Type) → List (DataW H) → Bool := fun _ ds => decide (uptoBulkAll ds ≤ 1048576)
def OpenSpec.upto (s : _root_.Go.ChangeSpec) : _root_.Go.OpenSpec := { _root_.Go.OpenSpec.ofChange s with cond := some uptoSmall }

/-- 'weighbridgelaw27.DoubleSteps', WHERE WHAT IT READS IS OF BULK AT MOST 1048576: true; the input reads as it did. -/
def doubleStepsUptoRow : OpenClaim := { program := "ytkefamalcmglgaa", sum := "eaf790cc2755ab6577c9fa3bb87006f101fe7b93cf49389130c599a052102291", func := "weighbridge/weighbridgelaw27.DoubleSteps", spec := "doubleSteps", unfollowed := true, recurses := true, apart := false, narrowed := true }
def DoubleStepsUptoSaid : Prop := doubleStepsUptoRow.holds Try.pinned (OpenSpec.upto doubleStepsSpec)

/-- 'weighbridgelaw27.DoubleRuns', WHERE WHAT IT READS IS OF BULK AT MOST 1048576: true; the input reads as it did. -/
def doubleRunsUptoRow : OpenClaim := { program := "ytkefamalcmglgaa", sum := "eaf790cc2755ab6577c9fa3bb87006f101fe7b93cf49389130c599a052102291", func := "weighbridge/weighbridgelaw27.DoubleRuns", spec := "doubleRuns", unfollowed := true, recurses := true, apart := false, narrowed := true }
def DoubleRunsUptoSaid : Prop := doubleRunsUptoRow.holds Try.pinned (OpenSpec.upto doubleRunsSpec)

/-- 'weighbridgelaw27.DoubleTakes', WHERE WHAT IT READS IS OF BULK AT MOST 1048576: true; the input reads as it did. -/
def doubleTakesUptoRow : OpenClaim := { program := "ytkefamalcmglgaa", sum := "eaf790cc2755ab6577c9fa3bb87006f101fe7b93cf49389130c599a052102291", func := "weighbridge/weighbridgelaw27.DoubleTakes", spec := "doubleTakes", unfollowed := true, recurses := true, apart := false, narrowed := true }
def DoubleTakesUptoSaid : Prop := doubleTakesUptoRow.holds Try.pinned (OpenSpec.upto doubleTakesSpec)

/-- 'weighbridgelaw26.SingleSteps', WHERE WHAT IT READS IS OF BULK AT MOST 1048576: true; the input reads as it did. -/
def singleStepsUptoRow : OpenClaim := { program := "ytkefamalcmglgaa", sum := "eaf790cc2755ab6577c9fa3bb87006f101fe7b93cf49389130c599a052102291", func := "weighbridge/weighbridgelaw26.SingleSteps", spec := "singleSteps", apart := false, narrowed := true }
def SingleStepsUptoSaid : Prop := singleStepsUptoRow.holds Try.pinned (OpenSpec.upto singleStepsSpec)

/-- 'weighbridgelaw26.SingleRuns', WHERE WHAT IT READS IS OF BULK AT MOST 1048576: true; the input reads as it did. -/
def singleRunsUptoRow : OpenClaim := { program := "ytkefamalcmglgaa", sum := "eaf790cc2755ab6577c9fa3bb87006f101fe7b93cf49389130c599a052102291", func := "weighbridge/weighbridgelaw26.SingleRuns", spec := "singleRuns", apart := false, narrowed := true }
def SingleRunsUptoSaid : Prop := singleRunsUptoRow.holds Try.pinned (OpenSpec.upto singleRunsSpec)

/-- 'weighbridgelaw26.SingleTakes', WHERE WHAT IT READS IS OF BULK AT MOST 1048576: true; the input reads as it did. -/
def singleTakesUptoRow : OpenClaim := { program := "ytkefamalcmglgaa", sum := "eaf790cc2755ab6577c9fa3bb87006f101fe7b93cf49389130c599a052102291", func := "weighbridge/weighbridgelaw26.SingleTakes", spec := "singleTakes", apart := false, narrowed := true }
def SingleTakesUptoSaid : Prop := singleTakesUptoRow.holds Try.pinned (OpenSpec.upto singleTakesSpec)

/-- 'weighbridgetop.WholeClock', WHERE WHAT IT READS IS OF BULK AT MOST 1048576: true; the input reads as it did. -/
def wholeClockUptoRow : OpenClaim := { program := "ytkefamalcmglgaa", sum := "eaf790cc2755ab6577c9fa3bb87006f101fe7b93cf49389130c599a052102291", func := "weighbridge/weighbridgetop.WholeClock", spec := "wholeClock", unfollowed := true, recurses := true, apart := false, narrowed := true }
def WholeClockUptoSaid : Prop := wholeClockUptoRow.holds Try.pinned (OpenSpec.upto wholeClockSpec)

/-- 'weighbridgetop.WholeEqual', WHERE WHAT IT READS IS OF BULK AT MOST 1048576: true; the input reads as it did. -/
def wholeEqualUptoRow : OpenClaim := { program := "ytkefamalcmglgaa", sum := "eaf790cc2755ab6577c9fa3bb87006f101fe7b93cf49389130c599a052102291", func := "weighbridge/weighbridgetop.WholeEqual", spec := "wholeEqual", unfollowed := true, recurses := true, apart := false, narrowed := true }
def WholeEqualUptoSaid : Prop := wholeEqualUptoRow.holds Try.pinned (OpenSpec.upto wholeEqualSpec)

/-- 'weighbridgetop.WholePainted', WHERE WHAT IT READS IS OF BULK AT MOST 1048576: true; the input reads as it did. -/
def wholePaintedUptoRow : OpenClaim := { program := "ytkefamalcmglgaa", sum := "eaf790cc2755ab6577c9fa3bb87006f101fe7b93cf49389130c599a052102291", func := "weighbridge/weighbridgetop.WholePainted", spec := "wholePainted", unfollowed := true, recurses := true, apart := false, narrowed := true }
def WholePaintedUptoSaid : Prop := wholePaintedUptoRow.holds Try.pinned (OpenSpec.upto wholePaintedSpec)

end Rows
end Go.Proofs.Ytkefamalcmglgaa
