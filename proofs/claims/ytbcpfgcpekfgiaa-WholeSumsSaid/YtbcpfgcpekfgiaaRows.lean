/-
  No cell of these rows narrows 'for every input' (looked for: loops, veiled, ifaces, maps, wideKeys, modest, calm, conditions, laid).
  DERIVED. THE GIVEN ROWS OF THIS SEAT. 6 by the template 'for every input the law returns true; each argument reads behind the call as it read before'; 0 by the template 'total and deterministic' (their statements: YtbcpfgcpekfgiaaTotals.lean).
  GIVEN WITH THE SEED: the statements are not yours to turn. If you find one false, say at which input.
  Laid BY PROGRAM, IN A SANDBOX (cutbox-rows.mjs): the forced cells as the released guide's own fill.sh prints them over the translation 72ef1814f6d89dbe… (all of the seat's roots in one cut). By AI agents, Wed Nov 11 2026. No macro, syntax, notation, axiom, sorry.
-/
import Derived.Test.YtbcpfgcpekfgiaaChecked
import GoSem.Claim
import GoSem.ClaimJoined
import GoSem.ClaimMapViews
import Derived.JoinedTies
import Derived.KernelRfl
namespace Go.Proofs.Ytbcpfgcpekfgiaa
/- THE CELL 'sum', in the pinned program and in every row, IS THE sha256 OF THE DUMP (.gsa) THAT YtbcpfgcpekfgiaaProg.lean LOADS. Nothing in Lean hashes anything: it is a label: what it is worth is what the hold of that sum in a sandbox is worth. -/
noncomputable def Try.pinned : Pinned := { name := "ytbcpfgcpekfgiaa", sum := "72ef1814f6d89dbe70d907a026177228c124306b881cb58a28af08af57ab3013", checked := Try.checked }
namespace Rows
def none {H : Type} : Left H := { results := [], args := [] }

/-- 'weighbridgelaw33.TallyCounts': WHATEVER THE INPUT: true; the input reads as it did. -/
def tallyCountsSpec : ChangeSpec := { name := "tallyCounts", fn := fun _ => fun
  | [d1, d2, d3] => { results := [.lit (.bool true)], args := [d1, d2, d3] }
  | _ => none }
def tallyCountsRow : OpenClaim := { program := "ytbcpfgcpekfgiaa", sum := "72ef1814f6d89dbe70d907a026177228c124306b881cb58a28af08af57ab3013", func := "weighbridge/weighbridgelaw33.TallyCounts", spec := "tallyCounts", inPlace := ["sync/atomic.AddUint64", "sync/atomic.LoadUint64", "sync/atomic.StoreUint64"], apart := false }
def TallyCountsSaid : Prop := tallyCountsRow.holds Try.pinned (OpenSpec.ofChange tallyCountsSpec)

/-- ITS FALSE NEIGHBOUR: 'it returns false'. Refute it at one input. -/
def tallyCountsWrong : ChangeSpec := { name := "tallyCounts", fn := fun _ => fun
  | [d1, d2, d3] => { results := [.lit (.bool false)], args := [d1, d2, d3] }
  | _ => none }
def TallyCountsWrongFalsely : Prop := tallyCountsRow.holds Try.pinned (OpenSpec.ofChange tallyCountsWrong)

/-- 'weighbridgelaw33.TallyDiffs': WHATEVER THE INPUT: true; the input reads as it did. -/
def tallyDiffsSpec : ChangeSpec := { name := "tallyDiffs", fn := fun _ => fun
  | [d1, d2] => { results := [.lit (.bool true)], args := [d1, d2] }
  | _ => none }
def tallyDiffsRow : OpenClaim := { program := "ytbcpfgcpekfgiaa", sum := "72ef1814f6d89dbe70d907a026177228c124306b881cb58a28af08af57ab3013", func := "weighbridge/weighbridgelaw33.TallyDiffs", spec := "tallyDiffs", inPlace := ["sync/atomic.AddUint64", "sync/atomic.LoadUint64", "sync/atomic.StoreUint64"], apart := false }
def TallyDiffsSaid : Prop := tallyDiffsRow.holds Try.pinned (OpenSpec.ofChange tallyDiffsSpec)

/-- ITS FALSE NEIGHBOUR: 'it returns false'. Refute it at one input. -/
def tallyDiffsWrong : ChangeSpec := { name := "tallyDiffs", fn := fun _ => fun
  | [d1, d2] => { results := [.lit (.bool false)], args := [d1, d2] }
  | _ => none }
def TallyDiffsWrongFalsely : Prop := tallyDiffsRow.holds Try.pinned (OpenSpec.ofChange tallyDiffsWrong)

/-- 'weighbridgelaw33.TallyBalances': WHATEVER THE INPUT: true; the input reads as it did. -/
def tallyBalancesSpec : ChangeSpec := { name := "tallyBalances", fn := fun _ => fun
  | [d1, d2] => { results := [.lit (.bool true)], args := [d1, d2] }
  | _ => none }
def tallyBalancesRow : OpenClaim := { program := "ytbcpfgcpekfgiaa", sum := "72ef1814f6d89dbe70d907a026177228c124306b881cb58a28af08af57ab3013", func := "weighbridge/weighbridgelaw33.TallyBalances", spec := "tallyBalances", inPlace := ["sync/atomic.AddUint64", "sync/atomic.LoadUint64", "sync/atomic.StoreUint64"], apart := false }
def TallyBalancesSaid : Prop := tallyBalancesRow.holds Try.pinned (OpenSpec.ofChange tallyBalancesSpec)

/-- ITS FALSE NEIGHBOUR: 'it returns false'. Refute it at one input. -/
def tallyBalancesWrong : ChangeSpec := { name := "tallyBalances", fn := fun _ => fun
  | [d1, d2] => { results := [.lit (.bool false)], args := [d1, d2] }
  | _ => none }
def TallyBalancesWrongFalsely : Prop := tallyBalancesRow.holds Try.pinned (OpenSpec.ofChange tallyBalancesWrong)

/-- 'weighbridgetop.WholeNumbers': WHATEVER THE INPUT: true; the input reads as it did. -/
def wholeNumbersSpec : ChangeSpec := { name := "wholeNumbers", fn := fun _ => fun
  | [d1, d2, d3] => { results := [.lit (.bool true)], args := [d1, d2, d3] }
  | _ => none }
def wholeNumbersRow : OpenClaim := { program := "ytbcpfgcpekfgiaa", sum := "72ef1814f6d89dbe70d907a026177228c124306b881cb58a28af08af57ab3013", func := "weighbridge/weighbridgetop.WholeNumbers", spec := "wholeNumbers", unfollowed := true, recurses := true, apart := false }
def WholeNumbersSaid : Prop := wholeNumbersRow.holds Try.pinned (OpenSpec.ofChange wholeNumbersSpec)

/-- ITS FALSE NEIGHBOUR: 'it returns false'. Refute it at one input. -/
def wholeNumbersWrong : ChangeSpec := { name := "wholeNumbers", fn := fun _ => fun
  | [d1, d2, d3] => { results := [.lit (.bool false)], args := [d1, d2, d3] }
  | _ => none }
def WholeNumbersWrongFalsely : Prop := wholeNumbersRow.holds Try.pinned (OpenSpec.ofChange wholeNumbersWrong)

/-- 'weighbridgetop.WholeSums': WHATEVER THE INPUT: true; the input reads as it did. -/
def wholeSumsSpec : ChangeSpec := { name := "wholeSums", fn := fun _ => fun
  | [d1, d2, d3] => { results := [.lit (.bool true)], args := [d1, d2, d3] }
  | _ => none }
def wholeSumsRow : OpenClaim := { program := "ytbcpfgcpekfgiaa", sum := "72ef1814f6d89dbe70d907a026177228c124306b881cb58a28af08af57ab3013", func := "weighbridge/weighbridgetop.WholeSums", spec := "wholeSums", unfollowed := true, recurses := true, apart := false }
def WholeSumsSaid : Prop := wholeSumsRow.holds Try.pinned (OpenSpec.ofChange wholeSumsSpec)

/-- ITS FALSE NEIGHBOUR: 'it returns false'. Refute it at one input. -/
def wholeSumsWrong : ChangeSpec := { name := "wholeSums", fn := fun _ => fun
  | [d1, d2, d3] => { results := [.lit (.bool false)], args := [d1, d2, d3] }
  | _ => none }
def WholeSumsWrongFalsely : Prop := wholeSumsRow.holds Try.pinned (OpenSpec.ofChange wholeSumsWrong)

/-- 'weighbridgetop.WholeWorst': WHATEVER THE INPUT: true; the input reads as it did. -/
def wholeWorstSpec : ChangeSpec := { name := "wholeWorst", fn := fun _ => fun
  | [d] => { results := [.lit (.bool true)], args := [d] }
  | _ => none }
def wholeWorstRow : OpenClaim := { program := "ytbcpfgcpekfgiaa", sum := "72ef1814f6d89dbe70d907a026177228c124306b881cb58a28af08af57ab3013", func := "weighbridge/weighbridgetop.WholeWorst", spec := "wholeWorst", unfollowed := true, recurses := true, apart := false }
def WholeWorstSaid : Prop := wholeWorstRow.holds Try.pinned (OpenSpec.ofChange wholeWorstSpec)

/-- ITS FALSE NEIGHBOUR: 'it returns false'. Refute it at one input. -/
def wholeWorstWrong : ChangeSpec := { name := "wholeWorst", fn := fun _ => fun
  | [d] => { results := [.lit (.bool false)], args := [d] }
  | _ => none }
def WholeWorstWrongFalsely : Prop := wholeWorstRow.holds Try.pinned (OpenSpec.ofChange wholeWorstWrong)

/- THE SECOND FORM. 'bulk': how many values and letters a reading holds, each counted each time it is reached (what is shared counts as often as it is met; a slice's spare places count too). A statement '..UptoSaid' is the law's where the arguments, and the package variables that the reading takes, are together of bulk at most 1048576: NARROWER than '..Said'. Prove '..Said' where nothing that the law and all that it calls make is longer than what came in: it says more and counts as full. Else prove '..UptoSaid'. A law counts once. -/
mutual
def uptoBulk {H : Type} : DataW H → Nat
  | .lit (.string bytes) => bytes.length + 1
  | .lit _ => 1
  | .nil => 1
  | .ptr d => uptoBulk d + 1
  | .slice elems spare => uptoBulkAll elems + uptoBulkAll spare + 1
  | .agg parts => uptoBulkAll parts + 1
  | .iface _ d => uptoBulk d + 1
  | .map entries => uptoBulkEntries entries + 1
  | .held _ => 1
def uptoBulkAll {H : Type} : List (DataW H) → Nat
  | [] => 0
  | d :: r => uptoBulk d + uptoBulkAll r
def uptoBulkEntries {H : Type} : List (Lit × DataW H) → Nat
  | [] => 0
  | x :: r => uptoBulkEntry x + uptoBulkEntries r
def uptoBulkEntry {H : Type} : Lit × DataW H → Nat
  | (.string bytes, d) => bytes.length + uptoBulk d + 1
  | (_, d) => uptoBulk d + 1
 end
def uptoSmall : (H : Type) → List (DataW H) → Bool := fun _ ds => decide (uptoBulkAll ds ≤ 1048576)
def OpenSpec.upto (s : _root_.Go.ChangeSpec) : _root_.Go.OpenSpec := { _root_.Go.OpenSpec.ofChange s with cond := some uptoSmall }

/-- 'weighbridgelaw33.TallyCounts', WHERE WHAT IT READS IS OF BULK AT MOST 1048576: true; the input reads as it did. -/
def tallyCountsUptoRow : OpenClaim := { program := "ytbcpfgcpekfgiaa", sum := "72ef1814f6d89dbe70d907a026177228c124306b881cb58a28af08af57ab3013", func := "weighbridge/weighbridgelaw33.TallyCounts", spec := "tallyCounts", inPlace := ["sync/atomic.AddUint64", "sync/atomic.LoadUint64", "sync/atomic.StoreUint64"], apart := false, narrowed := true }
def TallyCountsUptoSaid : Prop := tallyCountsUptoRow.holds Try.pinned (OpenSpec.upto tallyCountsSpec)

/-- 'weighbridgelaw33.TallyDiffs', WHERE WHAT IT READS IS OF BULK AT MOST 1048576: true; the input reads as it did. -/
def tallyDiffsUptoRow : OpenClaim := { program := "ytbcpfgcpekfgiaa", sum := "72ef1814f6d89dbe70d907a026177228c124306b881cb58a28af08af57ab3013", func := "weighbridge/weighbridgelaw33.TallyDiffs", spec := "tallyDiffs", inPlace := ["sync/atomic.AddUint64", "sync/atomic.LoadUint64", "sync/atomic.StoreUint64"], apart := false, narrowed := true }
def TallyDiffsUptoSaid : Prop := tallyDiffsUptoRow.holds Try.pinned (OpenSpec.upto tallyDiffsSpec)

/-- 'weighbridgelaw33.TallyBalances', WHERE WHAT IT READS IS OF BULK AT MOST 1048576: true; the input reads as it did. -/
def tallyBalancesUptoRow : OpenClaim := { program := "ytbcpfgcpekfgiaa", sum := "72ef1814f6d89dbe70d907a026177228c124306b881cb58a28af08af57ab3013", func := "weighbridge/weighbridgelaw33.TallyBalances", spec := "tallyBalances", inPlace := ["sync/atomic.AddUint64", "sync/atomic.LoadUint64", "sync/atomic.StoreUint64"], apart := false, narrowed := true }
def TallyBalancesUptoSaid : Prop := tallyBalancesUptoRow.holds Try.pinned (OpenSpec.upto tallyBalancesSpec)

/-- 'weighbridgetop.WholeNumbers', WHERE WHAT IT READS IS OF BULK AT MOST 1048576: true; the input reads as it did. -/
def wholeNumbersUptoRow : OpenClaim := { program := "ytbcpfgcpekfgiaa", sum := "72ef1814f6d89dbe70d907a026177228c124306b881cb58a28af08af57ab3013", func := "weighbridge/weighbridgetop.WholeNumbers", spec := "wholeNumbers", unfollowed := true, recurses := true, apart := false, narrowed := true }
def WholeNumbersUptoSaid : Prop := wholeNumbersUptoRow.holds Try.pinned (OpenSpec.upto wholeNumbersSpec)

/-- 'weighbridgetop.WholeSums', WHERE WHAT IT READS IS OF BULK AT MOST 1048576: true; the input reads as it did. -/
def wholeSumsUptoRow : OpenClaim := { program := "ytbcpfgcpekfgiaa", sum := "72ef1814f6d89dbe70d907a026177228c124306b881cb58a28af08af57ab3013", func := "weighbridge/weighbridgetop.WholeSums", spec := "wholeSums", unfollowed := true, recurses := true, apart := false, narrowed := true }
def WholeSumsUptoSaid : Prop := wholeSumsUptoRow.holds Try.pinned (OpenSpec.upto wholeSumsSpec)

/-- 'weighbridgetop.WholeWorst', WHERE WHAT IT READS IS OF BULK AT MOST 1048576: true; the input reads as it did. -/
def wholeWorstUptoRow : OpenClaim := { program := "ytbcpfgcpekfgiaa", sum := "72ef1814f6d89dbe70d907a026177228c124306b881cb58a28af08af57ab3013", func := "weighbridge/weighbridgetop.WholeWorst", spec := "wholeWorst", unfollowed := true, recurses := true, apart := false, narrowed := true }
def WholeWorstUptoSaid : Prop := wholeWorstUptoRow.holds Try.pinned (OpenSpec.upto wholeWorstSpec)

end Rows
end Go.Proofs.Ytbcpfgcpekfgiaa
