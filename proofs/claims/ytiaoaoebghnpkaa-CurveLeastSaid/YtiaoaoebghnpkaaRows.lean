/-
  No cell of these rows narrows 'for every input' (looked for: loops, veiled, ifaces, maps, wideKeys, modest, calm, conditions, laid).
  DERIVED. THE GIVEN ROWS OF THIS SEAT. 8 by the template 'for every input the law returns true; each argument reads behind the call as it read before'; 0 by the template 'total and deterministic' (their statements: YtiaoaoebghnpkaaTotals.lean).
  GIVEN WITH THE SEED: the statements are not yours to turn. If you find one false, say at which input.
  Laid BY PROGRAM, IN A SANDBOX (cutbox-rows.mjs): the forced cells as the released guide's own fill.sh prints them over the translation a8b812af91560e43… (all of the seat's roots in one cut). By AI agents, Wed Nov 11 2026. No macro, syntax, notation, axiom, sorry.
-/
import Derived.Test.YtiaoaoebghnpkaaChecked
import GoSem.Claim
import GoSem.ClaimJoined
import GoSem.ClaimMapViews
import Derived.JoinedTies
import Derived.KernelRfl
namespace Go.Proofs.Ytiaoaoebghnpkaa
/- THE CELL 'sum', in the pinned program and in every row, IS THE sha256 OF THE DUMP (.gsa) THAT YtiaoaoebghnpkaaProg.lean LOADS. Nothing in Lean hashes anything: it is a label: what it is worth is what the hold of that sum in a sandbox is worth. -/
noncomputable def Try.pinned : Pinned := { name := "ytiaoaoebghnpkaa", sum := "a8b812af91560e43c525cf0a763faf2ccd3deeb7d32e1332b3db57ea381c79aa", checked := Try.checked }
namespace Rows
def none {H : Type} : Left H := { results := [], args := [] }

/-- 'weighbridgelaw29.CurveBreaks': WHATEVER THE INPUT: true; the input reads as it did. -/
def curveBreaksSpec : ChangeSpec := { name := "curveBreaks", fn := fun _ => fun
  | [d1, d2, d3] => { results := [.lit (.bool true)], args := [d1, d2, d3] }
  | _ => none }
def curveBreaksRow : OpenClaim := { program := "ytiaoaoebghnpkaa", sum := "a8b812af91560e43c525cf0a763faf2ccd3deeb7d32e1332b3db57ea381c79aa", func := "weighbridge/weighbridgelaw29.CurveBreaks", spec := "curveBreaks", unfollowed := true, recurses := true, apart := false }
def CurveBreaksSaid : Prop := curveBreaksRow.holds Try.pinned (OpenSpec.ofChange curveBreaksSpec)

/-- ITS FALSE NEIGHBOUR: 'it returns false'. Refute it at one input. -/
def curveBreaksWrong : ChangeSpec := { name := "curveBreaks", fn := fun _ => fun
  | [d1, d2, d3] => { results := [.lit (.bool false)], args := [d1, d2, d3] }
  | _ => none }
def CurveBreaksWrongFalsely : Prop := curveBreaksRow.holds Try.pinned (OpenSpec.ofChange curveBreaksWrong)

/-- 'weighbridgelaw29.CurveLeast': WHATEVER THE INPUT: true; the input reads as it did. -/
def curveLeastSpec : ChangeSpec := { name := "curveLeast", fn := fun _ => fun
  | [d1, d2, d3] => { results := [.lit (.bool true)], args := [d1, d2, d3] }
  | _ => none }
def curveLeastRow : OpenClaim := { program := "ytiaoaoebghnpkaa", sum := "a8b812af91560e43c525cf0a763faf2ccd3deeb7d32e1332b3db57ea381c79aa", func := "weighbridge/weighbridgelaw29.CurveLeast", spec := "curveLeast", unfollowed := true, recurses := true, apart := false }
def CurveLeastSaid : Prop := curveLeastRow.holds Try.pinned (OpenSpec.ofChange curveLeastSpec)

/-- ITS FALSE NEIGHBOUR: 'it returns false'. Refute it at one input. -/
def curveLeastWrong : ChangeSpec := { name := "curveLeast", fn := fun _ => fun
  | [d1, d2, d3] => { results := [.lit (.bool false)], args := [d1, d2, d3] }
  | _ => none }
def CurveLeastWrongFalsely : Prop := curveLeastRow.holds Try.pinned (OpenSpec.ofChange curveLeastWrong)

/-- 'weighbridgelaw29.CurvePeaks': WHATEVER THE INPUT: true; the input reads as it did. -/
def curvePeaksSpec : ChangeSpec := { name := "curvePeaks", fn := fun _ => fun
  | [d1, d2, d3] => { results := [.lit (.bool true)], args := [d1, d2, d3] }
  | _ => none }
def curvePeaksRow : OpenClaim := { program := "ytiaoaoebghnpkaa", sum := "a8b812af91560e43c525cf0a763faf2ccd3deeb7d32e1332b3db57ea381c79aa", func := "weighbridge/weighbridgelaw29.CurvePeaks", spec := "curvePeaks", unfollowed := true, recurses := true, apart := false }
def CurvePeaksSaid : Prop := curvePeaksRow.holds Try.pinned (OpenSpec.ofChange curvePeaksSpec)

/-- ITS FALSE NEIGHBOUR: 'it returns false'. Refute it at one input. -/
def curvePeaksWrong : ChangeSpec := { name := "curvePeaks", fn := fun _ => fun
  | [d1, d2, d3] => { results := [.lit (.bool false)], args := [d1, d2, d3] }
  | _ => none }
def CurvePeaksWrongFalsely : Prop := curvePeaksRow.holds Try.pinned (OpenSpec.ofChange curvePeaksWrong)

/-- 'weighbridgelaw30.OutlookWhen': WHATEVER THE INPUT: true; the input reads as it did. -/
def outlookWhenSpec : ChangeSpec := { name := "outlookWhen", fn := fun _ => fun
  | [d1, d2, d3] => { results := [.lit (.bool true)], args := [d1, d2, d3] }
  | _ => none }
def outlookWhenRow : OpenClaim := { program := "ytiaoaoebghnpkaa", sum := "a8b812af91560e43c525cf0a763faf2ccd3deeb7d32e1332b3db57ea381c79aa", func := "weighbridge/weighbridgelaw30.OutlookWhen", spec := "outlookWhen", unfollowed := true, recurses := true, apart := false }
def OutlookWhenSaid : Prop := outlookWhenRow.holds Try.pinned (OpenSpec.ofChange outlookWhenSpec)

/-- ITS FALSE NEIGHBOUR: 'it returns false'. Refute it at one input. -/
def outlookWhenWrong : ChangeSpec := { name := "outlookWhen", fn := fun _ => fun
  | [d1, d2, d3] => { results := [.lit (.bool false)], args := [d1, d2, d3] }
  | _ => none }
def OutlookWhenWrongFalsely : Prop := outlookWhenRow.holds Try.pinned (OpenSpec.ofChange outlookWhenWrong)

/-- 'weighbridgelaw30.OutlookPaces': WHATEVER THE INPUT: true; the input reads as it did. -/
def outlookPacesSpec : ChangeSpec := { name := "outlookPaces", fn := fun _ => fun
  | [d1, d2, d3] => { results := [.lit (.bool true)], args := [d1, d2, d3] }
  | _ => none }
def outlookPacesRow : OpenClaim := { program := "ytiaoaoebghnpkaa", sum := "a8b812af91560e43c525cf0a763faf2ccd3deeb7d32e1332b3db57ea381c79aa", func := "weighbridge/weighbridgelaw30.OutlookPaces", spec := "outlookPaces", unfollowed := true, recurses := true, apart := false }
def OutlookPacesSaid : Prop := outlookPacesRow.holds Try.pinned (OpenSpec.ofChange outlookPacesSpec)

/-- ITS FALSE NEIGHBOUR: 'it returns false'. Refute it at one input. -/
def outlookPacesWrong : ChangeSpec := { name := "outlookPaces", fn := fun _ => fun
  | [d1, d2, d3] => { results := [.lit (.bool false)], args := [d1, d2, d3] }
  | _ => none }
def OutlookPacesWrongFalsely : Prop := outlookPacesRow.holds Try.pinned (OpenSpec.ofChange outlookPacesWrong)

/-- 'weighbridgelaw30.OutlookTrue': WHATEVER THE INPUT: true; the input reads as it did. -/
def outlookTrueSpec : ChangeSpec := { name := "outlookTrue", fn := fun _ => fun
  | [d1, d2, d3] => { results := [.lit (.bool true)], args := [d1, d2, d3] }
  | _ => none }
def outlookTrueRow : OpenClaim := { program := "ytiaoaoebghnpkaa", sum := "a8b812af91560e43c525cf0a763faf2ccd3deeb7d32e1332b3db57ea381c79aa", func := "weighbridge/weighbridgelaw30.OutlookTrue", spec := "outlookTrue", unfollowed := true, recurses := true, apart := false }
def OutlookTrueSaid : Prop := outlookTrueRow.holds Try.pinned (OpenSpec.ofChange outlookTrueSpec)

/-- ITS FALSE NEIGHBOUR: 'it returns false'. Refute it at one input. -/
def outlookTrueWrong : ChangeSpec := { name := "outlookTrue", fn := fun _ => fun
  | [d1, d2, d3] => { results := [.lit (.bool false)], args := [d1, d2, d3] }
  | _ => none }
def OutlookTrueWrongFalsely : Prop := outlookTrueRow.holds Try.pinned (OpenSpec.ofChange outlookTrueWrong)

/-- 'weighbridgelaw29.CurveKeeps': WHATEVER THE INPUT: true; the input reads as it did. -/
def curveKeepsSpec : ChangeSpec := { name := "curveKeeps", fn := fun _ => fun
  | [d1, d2] => { results := [.lit (.bool true)], args := [d1, d2] }
  | _ => none }
def curveKeepsRow : OpenClaim := { program := "ytiaoaoebghnpkaa", sum := "a8b812af91560e43c525cf0a763faf2ccd3deeb7d32e1332b3db57ea381c79aa", func := "weighbridge/weighbridgelaw29.CurveKeeps", spec := "curveKeeps", unfollowed := true, recurses := true, apart := false }
def CurveKeepsSaid : Prop := curveKeepsRow.holds Try.pinned (OpenSpec.ofChange curveKeepsSpec)

/-- ITS FALSE NEIGHBOUR: 'it returns false'. Refute it at one input. -/
def curveKeepsWrong : ChangeSpec := { name := "curveKeeps", fn := fun _ => fun
  | [d1, d2] => { results := [.lit (.bool false)], args := [d1, d2] }
  | _ => none }
def CurveKeepsWrongFalsely : Prop := curveKeepsRow.holds Try.pinned (OpenSpec.ofChange curveKeepsWrong)

/-- 'weighbridgetop.WholePaced': WHATEVER THE INPUT: true; the input reads as it did. -/
def wholePacedSpec : ChangeSpec := { name := "wholePaced", fn := fun _ => fun
  | [d1, d2] => { results := [.lit (.bool true)], args := [d1, d2] }
  | _ => none }
def wholePacedRow : OpenClaim := { program := "ytiaoaoebghnpkaa", sum := "a8b812af91560e43c525cf0a763faf2ccd3deeb7d32e1332b3db57ea381c79aa", func := "weighbridge/weighbridgetop.WholePaced", spec := "wholePaced", unfollowed := true, recurses := true, apart := false }
def WholePacedSaid : Prop := wholePacedRow.holds Try.pinned (OpenSpec.ofChange wholePacedSpec)

/-- ITS FALSE NEIGHBOUR: 'it returns false'. Refute it at one input. -/
def wholePacedWrong : ChangeSpec := { name := "wholePaced", fn := fun _ => fun
  | [d1, d2] => { results := [.lit (.bool false)], args := [d1, d2] }
  | _ => none }
def WholePacedWrongFalsely : Prop := wholePacedRow.holds Try.pinned (OpenSpec.ofChange wholePacedWrong)

/- THE SECOND FORM. 'bulk': how many values and letters a reading holds, each counted each time it is reached (what is shared counts as often as it is met; a slice's spare places count too). A statement '..UptoSaid' is the law's where the arguments, and the package variables that the reading takes, are together of bulk at most 1048576: NARROWER than '..Said'. Prove '..Said' where nothing that the law and all that it calls make is longer than what came in: it says more and counts as full. Else prove '..UptoSaid'. A law counts once. -/
mutual
def uptoBulk {H : Type} : DataW H → Nat
  | .lit (.string bytes) => bytes.length + 1
  | .lit _ => 1
  | .nil => 1
  | .ptr d => uptoBulk d + 1
  | .slice elems spare => uptoBulkAll elems + uptoBulkAll spare + 1
  | .agg parts => uptoBulkAll parts + 1
  | .iface _ d => uptoBulk d + 1
  | .map entries => uptoBulkEntries entries + 1
  | .held _ => 1
def uptoBulkAll {H : Type} : List (DataW H) → Nat
  | [] => 0
  | d :: r => uptoBulk d + uptoBulkAll r
def uptoBulkEntries {H : Type} : List (Lit × DataW H) → Nat
  | [] => 0
  | x :: r => uptoBulkEntry x + uptoBulkEntries r
def uptoBulkEntry {H : Type} : Lit × DataW H → Nat
  | (.string bytes, d) => bytes.length + uptoBulk d + 1
  | (_, d) => uptoBulk d + 1
 end
def uptoSmall : (H : Type) → List (DataW H) → Bool := fun _ ds => decide (uptoBulkAll ds ≤ 1048576)
def OpenSpec.upto (s : _root_.Go.ChangeSpec) : _root_.Go.OpenSpec := { _root_.Go.OpenSpec.ofChange s with cond := some uptoSmall }

/-- 'weighbridgelaw29.CurveBreaks', WHERE WHAT IT READS IS OF BULK AT MOST 1048576: true; the input reads as it did. -/
def curveBreaksUptoRow : OpenClaim := { program := "ytiaoaoebghnpkaa", sum := "a8b812af91560e43c525cf0a763faf2ccd3deeb7d32e1332b3db57ea381c79aa", func := "weighbridge/weighbridgelaw29.CurveBreaks", spec := "curveBreaks", unfollowed := true, recurses := true, apart := false, narrowed := true }
def CurveBreaksUptoSaid : Prop := curveBreaksUptoRow.holds Try.pinned (OpenSpec.upto curveBreaksSpec)

/-- 'weighbridgelaw29.CurveLeast', WHERE WHAT IT READS IS OF BULK AT MOST 1048576: true; the input reads as it did. -/
def curveLeastUptoRow : OpenClaim := { program := "ytiaoaoebghnpkaa", sum := "a8b812af91560e43c525cf0a763faf2ccd3deeb7d32e1332b3db57ea381c79aa", func := "weighbridge/weighbridgelaw29.CurveLeast", spec := "curveLeast", unfollowed := true, recurses := true, apart := false, narrowed := true }
def CurveLeastUptoSaid : Prop := curveLeastUptoRow.holds Try.pinned (OpenSpec.upto curveLeastSpec)

/-- 'weighbridgelaw29.CurvePeaks', WHERE WHAT IT READS IS OF BULK AT MOST 1048576: true; the input reads as it did. -/
def curvePeaksUptoRow : OpenClaim := { program := "ytiaoaoebghnpkaa", sum := "a8b812af91560e43c525cf0a763faf2ccd3deeb7d32e1332b3db57ea381c79aa", func := "weighbridge/weighbridgelaw29.CurvePeaks", spec := "curvePeaks", unfollowed := true, recurses := true, apart := false, narrowed := true }
def CurvePeaksUptoSaid : Prop := curvePeaksUptoRow.holds Try.pinned (OpenSpec.upto curvePeaksSpec)

/-- 'weighbridgelaw30.OutlookWhen', WHERE WHAT IT READS IS OF BULK AT MOST 1048576: true; the input reads as it did. -/
def outlookWhenUptoRow : OpenClaim := { program := "ytiaoaoebghnpkaa", sum := "a8b812af91560e43c525cf0a763faf2ccd3deeb7d32e1332b3db57ea381c79aa", func := "weighbridge/weighbridgelaw30.OutlookWhen", spec := "outlookWhen", unfollowed := true, recurses := true, apart := false, narrowed := true }
def OutlookWhenUptoSaid : Prop := outlookWhenUptoRow.holds Try.pinned (OpenSpec.upto outlookWhenSpec)

/-- 'weighbridgelaw30.OutlookPaces', WHERE WHAT IT READS IS OF BULK AT MOST 1048576: true; the input reads as it did. -/
def outlookPacesUptoRow : OpenClaim := { program := "ytiaoaoebghnpkaa", sum := "a8b812af91560e43c525cf0a763faf2ccd3deeb7d32e1332b3db57ea381c79aa", func := "weighbridge/weighbridgelaw30.OutlookPaces", spec := "outlookPaces", unfollowed := true, recurses := true, apart := false, narrowed := true }
def OutlookPacesUptoSaid : Prop := outlookPacesUptoRow.holds Try.pinned (OpenSpec.upto outlookPacesSpec)

/-- 'weighbridgelaw30.OutlookTrue', WHERE WHAT IT READS IS OF BULK AT MOST 1048576: true; the input reads as it did. -/
def outlookTrueUptoRow : OpenClaim := { program := "ytiaoaoebghnpkaa", sum := "a8b812af91560e43c525cf0a763faf2ccd3deeb7d32e1332b3db57ea381c79aa", func := "weighbridge/weighbridgelaw30.OutlookTrue", spec := "outlookTrue", unfollowed := true, recurses := true, apart := false, narrowed := true }
def OutlookTrueUptoSaid : Prop := outlookTrueUptoRow.holds Try.pinned (OpenSpec.upto outlookTrueSpec)

/-- 'weighbridgelaw29.CurveKeeps', WHERE WHAT IT READS IS OF BULK AT MOST 1048576: true; the input reads as it did. -/
def curveKeepsUptoRow : OpenClaim := { program := "ytiaoaoebghnpkaa", sum := "a8b812af91560e43c525cf0a763faf2ccd3deeb7d32e1332b3db57ea381c79aa", func := "weighbridge/weighbridgelaw29.CurveKeeps", spec := "curveKeeps", unfollowed := true, recurses := true, apart := false, narrowed := true }
def CurveKeepsUptoSaid : Prop := curveKeepsUptoRow.holds Try.pinned (OpenSpec.upto curveKeepsSpec)

/-- 'weighbridgetop.WholePaced', WHERE WHAT IT READS IS OF BULK AT MOST 1048576: true; the input reads as it did. -/
def wholePacedUptoRow : OpenClaim := { program := "ytiaoaoebghnpkaa", sum := "a8b812af91560e43c525cf0a763faf2ccd3deeb7d32e1332b3db57ea381c79aa", func := "weighbridge/weighbridgetop.WholePaced", spec := "wholePaced", unfollowed := true, recurses := true, apart := false, narrowed := true }
def WholePacedUptoSaid : Prop := wholePacedUptoRow.holds Try.pinned (OpenSpec.upto wholePacedSpec)

end Rows
end Go.Proofs.Ytiaoaoebghnpkaa
