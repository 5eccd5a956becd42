/-
  No cell of these rows narrows 'for every input' (looked for: loops, veiled, ifaces, maps, wideKeys, modest, calm, conditions, laid).
  DERIVED. THE GIVEN ROWS OF THIS SEAT. 8 by the template 'for every input the law returns true; each argument reads behind the call as it read before'; 0 by the template 'total and deterministic' (their statements: YtgidglbkmklajaaTotals.lean).
  GIVEN WITH THE SEED: the statements are not yours to turn. If you find one false, say at which input.
  Laid BY PROGRAM, IN A SANDBOX (cutbox-rows.mjs): the forced cells as the released guide's own fill.sh prints them over the translation 5b89a8190b3dd31b… (all of the seat's roots in one cut). By AI agents, Wed Nov 11 2026. No macro, syntax, notation, axiom, sorry.
-/
import Derived.Test.YtgidglbkmklajaaChecked
import GoSem.Claim
import GoSem.ClaimJoined
import GoSem.ClaimMapViews
import Derived.JoinedTies
import Derived.KernelRfl
namespace Go.Proofs.Ytgidglbkmklajaa
/- THE CELL 'sum', in the pinned program and in every row, IS THE sha256 OF THE DUMP (.gsa) THAT YtgidglbkmklajaaProg.lean LOADS. Nothing in Lean hashes anything: it is a label: what it is worth is what the hold of that sum in a sandbox is worth. -/
noncomputable def Try.pinned : Pinned := { name := "ytgidglbkmklajaa", sum := "5b89a8190b3dd31bb695a49519a336f8df01bcc822538ed194342e5ecc2128ac", checked := Try.checked }
namespace Rows
def none {H : Type} : Left H := { results := [], args := [] }

/-- 'weighbridgelaw25.RatchetSteps': WHATEVER THE INPUT: true; the input reads as it did. -/
def ratchetStepsSpec : ChangeSpec := { name := "ratchetSteps", fn := fun _ => fun
  | [d1, d2, d3] => { results := [.lit (.bool true)], args := [d1, d2, d3] }
  | _ => none }
def ratchetStepsRow : OpenClaim := { program := "ytgidglbkmklajaa", sum := "5b89a8190b3dd31bb695a49519a336f8df01bcc822538ed194342e5ecc2128ac", func := "weighbridge/weighbridgelaw25.RatchetSteps", spec := "ratchetSteps", unfollowed := true, recurses := true, apart := false }
def RatchetStepsSaid : Prop := ratchetStepsRow.holds Try.pinned (OpenSpec.ofChange ratchetStepsSpec)

/-- ITS FALSE NEIGHBOUR: 'it returns false'. Refute it at one input. -/
def ratchetStepsWrong : ChangeSpec := { name := "ratchetSteps", fn := fun _ => fun
  | [d1, d2, d3] => { results := [.lit (.bool false)], args := [d1, d2, d3] }
  | _ => none }
def RatchetStepsWrongFalsely : Prop := ratchetStepsRow.holds Try.pinned (OpenSpec.ofChange ratchetStepsWrong)

/-- 'weighbridgelaw25.RatchetRuns': WHATEVER THE INPUT: true; the input reads as it did. -/
def ratchetRunsSpec : ChangeSpec := { name := "ratchetRuns", fn := fun _ => fun
  | [d] => { results := [.lit (.bool true)], args := [d] }
  | _ => none }
def ratchetRunsRow : OpenClaim := { program := "ytgidglbkmklajaa", sum := "5b89a8190b3dd31bb695a49519a336f8df01bcc822538ed194342e5ecc2128ac", func := "weighbridge/weighbridgelaw25.RatchetRuns", spec := "ratchetRuns", unfollowed := true, recurses := true, apart := false }
def RatchetRunsSaid : Prop := ratchetRunsRow.holds Try.pinned (OpenSpec.ofChange ratchetRunsSpec)

/-- ITS FALSE NEIGHBOUR: 'it returns false'. Refute it at one input. -/
def ratchetRunsWrong : ChangeSpec := { name := "ratchetRuns", fn := fun _ => fun
  | [d] => { results := [.lit (.bool false)], args := [d] }
  | _ => none }
def RatchetRunsWrongFalsely : Prop := ratchetRunsRow.holds Try.pinned (OpenSpec.ofChange ratchetRunsWrong)

/-- 'weighbridgelaw25.RatchetAgrees': WHATEVER THE INPUT: true; the input reads as it did. -/
def ratchetAgreesSpec : ChangeSpec := { name := "ratchetAgrees", fn := fun _ => fun
  | [d] => { results := [.lit (.bool true)], args := [d] }
  | _ => none }
def ratchetAgreesRow : OpenClaim := { program := "ytgidglbkmklajaa", sum := "5b89a8190b3dd31bb695a49519a336f8df01bcc822538ed194342e5ecc2128ac", func := "weighbridge/weighbridgelaw25.RatchetAgrees", spec := "ratchetAgrees", unfollowed := true, recurses := true, apart := false }
def RatchetAgreesSaid : Prop := ratchetAgreesRow.holds Try.pinned (OpenSpec.ofChange ratchetAgreesSpec)

/-- ITS FALSE NEIGHBOUR: 'it returns false'. Refute it at one input. -/
def ratchetAgreesWrong : ChangeSpec := { name := "ratchetAgrees", fn := fun _ => fun
  | [d] => { results := [.lit (.bool false)], args := [d] }
  | _ => none }
def RatchetAgreesWrongFalsely : Prop := ratchetAgreesRow.holds Try.pinned (OpenSpec.ofChange ratchetAgreesWrong)

/-- 'weighbridgelaw24.BucketGrows': WHATEVER THE INPUT: true; the input reads as it did. -/
def bucketGrowsSpec : ChangeSpec := { name := "bucketGrows", fn := fun _ => fun
  | [d1, d2, d3] => { results := [.lit (.bool true)], args := [d1, d2, d3] }
  | _ => none }
def bucketGrowsRow : OpenClaim := { program := "ytgidglbkmklajaa", sum := "5b89a8190b3dd31bb695a49519a336f8df01bcc822538ed194342e5ecc2128ac", func := "weighbridge/weighbridgelaw24.BucketGrows", spec := "bucketGrows", apart := false }
def BucketGrowsSaid : Prop := bucketGrowsRow.holds Try.pinned (OpenSpec.ofChange bucketGrowsSpec)

/-- ITS FALSE NEIGHBOUR: 'it returns false'. Refute it at one input. -/
def bucketGrowsWrong : ChangeSpec := { name := "bucketGrows", fn := fun _ => fun
  | [d1, d2, d3] => { results := [.lit (.bool false)], args := [d1, d2, d3] }
  | _ => none }
def BucketGrowsWrongFalsely : Prop := bucketGrowsRow.holds Try.pinned (OpenSpec.ofChange bucketGrowsWrong)

/-- 'weighbridgelaw24.BucketTakes': WHATEVER THE INPUT: true; the input reads as it did. -/
def bucketTakesSpec : ChangeSpec := { name := "bucketTakes", fn := fun _ => fun
  | [d1, d2, d3] => { results := [.lit (.bool true)], args := [d1, d2, d3] }
  | _ => none }
def bucketTakesRow : OpenClaim := { program := "ytgidglbkmklajaa", sum := "5b89a8190b3dd31bb695a49519a336f8df01bcc822538ed194342e5ecc2128ac", func := "weighbridge/weighbridgelaw24.BucketTakes", spec := "bucketTakes", apart := false }
def BucketTakesSaid : Prop := bucketTakesRow.holds Try.pinned (OpenSpec.ofChange bucketTakesSpec)

/-- ITS FALSE NEIGHBOUR: 'it returns false'. Refute it at one input. -/
def bucketTakesWrong : ChangeSpec := { name := "bucketTakes", fn := fun _ => fun
  | [d1, d2, d3] => { results := [.lit (.bool false)], args := [d1, d2, d3] }
  | _ => none }
def BucketTakesWrongFalsely : Prop := bucketTakesRow.holds Try.pinned (OpenSpec.ofChange bucketTakesWrong)

/-- 'weighbridgelaw24.BucketSplits': WHATEVER THE INPUT: true; the input reads as it did. -/
def bucketSplitsSpec : ChangeSpec := { name := "bucketSplits", fn := fun _ => fun
  | [d1, d2, d3] => { results := [.lit (.bool true)], args := [d1, d2, d3] }
  | _ => none }
def bucketSplitsRow : OpenClaim := { program := "ytgidglbkmklajaa", sum := "5b89a8190b3dd31bb695a49519a336f8df01bcc822538ed194342e5ecc2128ac", func := "weighbridge/weighbridgelaw24.BucketSplits", spec := "bucketSplits", apart := false }
def BucketSplitsSaid : Prop := bucketSplitsRow.holds Try.pinned (OpenSpec.ofChange bucketSplitsSpec)

/-- ITS FALSE NEIGHBOUR: 'it returns false'. Refute it at one input. -/
def bucketSplitsWrong : ChangeSpec := { name := "bucketSplits", fn := fun _ => fun
  | [d1, d2, d3] => { results := [.lit (.bool false)], args := [d1, d2, d3] }
  | _ => none }
def BucketSplitsWrongFalsely : Prop := bucketSplitsRow.holds Try.pinned (OpenSpec.ofChange bucketSplitsWrong)

/-- 'weighbridgelaw24.BucketWaits': WHATEVER THE INPUT: true; the input reads as it did. -/
def bucketWaitsSpec : ChangeSpec := { name := "bucketWaits", fn := fun _ => fun
  | [d1, d2, d3] => { results := [.lit (.bool true)], args := [d1, d2, d3] }
  | _ => none }
def bucketWaitsRow : OpenClaim := { program := "ytgidglbkmklajaa", sum := "5b89a8190b3dd31bb695a49519a336f8df01bcc822538ed194342e5ecc2128ac", func := "weighbridge/weighbridgelaw24.BucketWaits", spec := "bucketWaits", apart := false }
def BucketWaitsSaid : Prop := bucketWaitsRow.holds Try.pinned (OpenSpec.ofChange bucketWaitsSpec)

/-- ITS FALSE NEIGHBOUR: 'it returns false'. Refute it at one input. -/
def bucketWaitsWrong : ChangeSpec := { name := "bucketWaits", fn := fun _ => fun
  | [d1, d2, d3] => { results := [.lit (.bool false)], args := [d1, d2, d3] }
  | _ => none }
def BucketWaitsWrongFalsely : Prop := bucketWaitsRow.holds Try.pinned (OpenSpec.ofChange bucketWaitsWrong)

/-- 'weighbridgetop.WholeDrops': WHATEVER THE INPUT: true; the input reads as it did. -/
def wholeDropsSpec : ChangeSpec := { name := "wholeDrops", fn := fun _ => fun
  | [d1, d2, d3] => { results := [.lit (.bool true)], args := [d1, d2, d3] }
  | _ => none }
def wholeDropsRow : OpenClaim := { program := "ytgidglbkmklajaa", sum := "5b89a8190b3dd31bb695a49519a336f8df01bcc822538ed194342e5ecc2128ac", func := "weighbridge/weighbridgetop.WholeDrops", spec := "wholeDrops", apart := false }
def WholeDropsSaid : Prop := wholeDropsRow.holds Try.pinned (OpenSpec.ofChange wholeDropsSpec)

/-- ITS FALSE NEIGHBOUR: 'it returns false'. Refute it at one input. -/
def wholeDropsWrong : ChangeSpec := { name := "wholeDrops", fn := fun _ => fun
  | [d1, d2, d3] => { results := [.lit (.bool false)], args := [d1, d2, d3] }
  | _ => none }
def WholeDropsWrongFalsely : Prop := wholeDropsRow.holds Try.pinned (OpenSpec.ofChange wholeDropsWrong)

/- THE SECOND FORM. 'bulk': how many values and letters a reading holds, each counted each time it is reached (what is shared counts as often as it is met; a slice's spare places count too). A statement '..UptoSaid' is the law's where the arguments, and the package variables that the reading takes, are together of bulk at most 1048576: NARROWER than '..Said'. Prove '..Said' where nothing that the law and all that it calls make is longer than what came in: it says more and counts as full. Else prove '..UptoSaid'. A law counts once. -/
mutual
def uptoBulk {H : Type} : DataW H → Nat
  | .lit (.string bytes) => bytes.length + 1
  | .lit _ => 1
  | .nil => 1
  | .ptr d => uptoBulk d + 1
  | .slice elems spare => uptoBulkAll elems + uptoBulkAll spare + 1
  | .agg parts => uptoBulkAll parts + 1
  | .iface _ d => uptoBulk d + 1
  | .map entries => uptoBulkEntries entries + 1
  | .held _ => 1
def uptoBulkAll {H : Type} : List (DataW H) → Nat
  | [] => 0
  | d :: r => uptoBulk d + uptoBulkAll r
def uptoBulkEntries {H : Type} : List (Lit × DataW H) → Nat
  | [] => 0
  | x :: r => uptoBulkEntry x + uptoBulkEntries r
def uptoBulkEntry {H : Type} : Lit × DataW H → Nat
  | (.string bytes, d) => bytes.length + uptoBulk d + 1
  | (_, d) => uptoBulk d + 1
 end
def uptoSmall : (H : Type) → List (DataW H) → Bool := fun _ ds => decide (uptoBulkAll ds ≤ 1048576)
def OpenSpec.upto (s : _root_.Go.ChangeSpec) : _root_.Go.OpenSpec := { _root_.Go.OpenSpec.ofChange s with cond := some uptoSmall }

/-- 'weighbridgelaw25.RatchetSteps', WHERE WHAT IT READS IS OF BULK AT MOST 1048576: true; the input reads as it did. -/
def ratchetStepsUptoRow : OpenClaim := { program := "ytgidglbkmklajaa", sum := "5b89a8190b3dd31bb695a49519a336f8df01bcc822538ed194342e5ecc2128ac", func := "weighbridge/weighbridgelaw25.RatchetSteps", spec := "ratchetSteps", unfollowed := true, recurses := true, apart := false, narrowed := true }
def RatchetStepsUptoSaid : Prop := ratchetStepsUptoRow.holds Try.pinned (OpenSpec.upto ratchetStepsSpec)

/-- 'weighbridgelaw25.RatchetRuns', WHERE WHAT IT READS IS OF BULK AT MOST 1048576: true; the input reads as it did. -/
def ratchetRunsUptoRow : OpenClaim := { program := "ytgidglbkmklajaa", sum := "5b89a8190b3dd31bb695a49519a336f8df01bcc822538ed194342e5ecc2128ac", func := "weighbridge/weighbridgelaw25.RatchetRuns", spec := "ratchetRuns", unfollowed := true, recurses := true, apart := false, narrowed := true }
def RatchetRunsUptoSaid : Prop := ratchetRunsUptoRow.holds Try.pinned (OpenSpec.upto ratchetRunsSpec)

/-- 'weighbridgelaw25.RatchetAgrees', WHERE WHAT IT READS IS OF BULK AT MOST 1048576: true; the input reads as it did. -/
def ratchetAgreesUptoRow : OpenClaim := { program := "ytgidglbkmklajaa", sum := "5b89a8190b3dd31bb695a49519a336f8df01bcc822538ed194342e5ecc2128ac", func := "weighbridge/weighbridgelaw25.RatchetAgrees", spec := "ratchetAgrees", unfollowed := true, recurses := true, apart := false, narrowed := true }
def RatchetAgreesUptoSaid : Prop := ratchetAgreesUptoRow.holds Try.pinned (OpenSpec.upto ratchetAgreesSpec)

/-- 'weighbridgelaw24.BucketGrows', WHERE WHAT IT READS IS OF BULK AT MOST 1048576: true; the input reads as it did. -/
def bucketGrowsUptoRow : OpenClaim := { program := "ytgidglbkmklajaa", sum := "5b89a8190b3dd31bb695a49519a336f8df01bcc822538ed194342e5ecc2128ac", func := "weighbridge/weighbridgelaw24.BucketGrows", spec := "bucketGrows", apart := false, narrowed := true }
def BucketGrowsUptoSaid : Prop := bucketGrowsUptoRow.holds Try.pinned (OpenSpec.upto bucketGrowsSpec)

/-- 'weighbridgelaw24.BucketTakes', WHERE WHAT IT READS IS OF BULK AT MOST 1048576: true; the input reads as it did. -/
def bucketTakesUptoRow : OpenClaim := { program := "ytgidglbkmklajaa", sum := "5b89a8190b3dd31bb695a49519a336f8df01bcc822538ed194342e5ecc2128ac", func := "weighbridge/weighbridgelaw24.BucketTakes", spec := "bucketTakes", apart := false, narrowed := true }
def BucketTakesUptoSaid : Prop := bucketTakesUptoRow.holds Try.pinned (OpenSpec.upto bucketTakesSpec)

/-- 'weighbridgelaw24.BucketSplits', WHERE WHAT IT READS IS OF BULK AT MOST 1048576: true; the input reads as it did. -/
def bucketSplitsUptoRow : OpenClaim := { program := "ytgidglbkmklajaa", sum := "5b89a8190b3dd31bb695a49519a336f8df01bcc822538ed194342e5ecc2128ac", func := "weighbridge/weighbridgelaw24.BucketSplits", spec := "bucketSplits", apart := false, narrowed := true }
def BucketSplitsUptoSaid : Prop := bucketSplitsUptoRow.holds Try.pinned (OpenSpec.upto bucketSplitsSpec)

/-- 'weighbridgelaw24.BucketWaits', WHERE WHAT IT READS IS OF BULK AT MOST 1048576: true; the input reads as it did. -/
def bucketWaitsUptoRow : OpenClaim := { program := "ytgidglbkmklajaa", sum := "5b89a8190b3dd31bb695a49519a336f8df01bcc822538ed194342e5ecc2128ac", func := "weighbridge/weighbridgelaw24.BucketWaits", spec := "bucketWaits", apart := false, narrowed := true }
def BucketWaitsUptoSaid : Prop := bucketWaitsUptoRow.holds Try.pinned (OpenSpec.upto bucketWaitsSpec)

/-- 'weighbridgetop.WholeDrops', WHERE WHAT IT READS IS OF BULK AT MOST 1048576: true; the input reads as it did. -/
def wholeDropsUptoRow : OpenClaim := { program := "ytgidglbkmklajaa", sum := "5b89a8190b3dd31bb695a49519a336f8df01bcc822538ed194342e5ecc2128ac", func := "weighbridge/weighbridgetop.WholeDrops", spec := "wholeDrops", apart := false, narrowed := true }
def WholeDropsUptoSaid : Prop := wholeDropsUptoRow.holds Try.pinned (OpenSpec.upto wholeDropsSpec)

end Rows
end Go.Proofs.Ytgidglbkmklajaa
