/- Printed out of the translation: what functions compute, and the proofs that the code computes just this. -/
import Derived.Test.YtgidglbkmklajaaProg
import Derived.Below
import Derived.Deep.Draws
import Derived.Deep.AppendLies
import Derived.Maps.AppendAt
import Derived.OwnWalk
import Derived.Laws.BytesArg
import Derived.Laws.MakeOwn
import Derived.Laws.OwnMore
import Derived.Deep.OwnRows
import Derived.Tactics
import Derived.Lib.ConvBytes
import Derived.Laws.Slices
import Derived.WalkKit
import Derived.KernelRfl
import Derived.RowKit3
import Derived.Deep.LoopGhost
import Derived.Deep.QuietTactic
import Derived.BigQuiet
import Derived.WideLaws
import Derived.Deep.DeepCutAuto
import Derived.Deep.CutBlock
import Derived.Deep.RegionHeld3
import Derived.Laws.Rows
import Derived.Lib.AppendStr
import Derived.ArgAppend
import Derived.Laws.IdiomCopy
import Derived.OrdersHeld
import Derived.Laws.BitsLemmas
import Derived.RowKit
import Derived.Test.YtgidglbkmklajaaWWords
import Derived.Test.YtgidglbkmklajaaWLast
import Derived.Test.YtgidglbkmklajaaWTab
import Derived.Test.YtgidglbkmklajaaWEqStruct
import Derived.Test.YtgidglbkmklajaaWGuard
import Derived.Test.YtgidglbkmklajaaWMore
import Derived.Test.YtgidglbkmklajaaWRepsOne
namespace Go.Proofs.Ytgidglbkmklajaa.P
open Go.RowKit Go.Proofs.YtgidglbkmklajaaW.PrintWords Go.Proofs.YtgidglbkmklajaaW.PrintLast Go.Proofs.YtgidglbkmklajaaW.PrintMore
attribute [local go_sem] max2_int min2_int max_two min_two max_three min_three max_four min_four   -- for this text's walks alone
set_option linter.unusedVariables false
set_option linter.unusedSimpArgs false



def errW : Option Int → Value
  | none => .nilIface
  | some c => .iface 0 (.int .i64 c)
theorem errW_none : errW none = .nilIface := rfl
theorem errW_some (c : Int) : errW (some c) = .iface 0 (.int .i64 c) := rfl

theorem info3 : (Try.prog.info? 3).map (fun i => (i.zero, i.size, i.bytes)) = some (some (.int .i64 0), 1, 8) := by kernel_rfl
theorem info22 : (Try.prog.info? 22).map (fun i => (i.zero, i.size, i.bytes)) = some (some (.int .u64 0), 1, 8) := by kernel_rfl
-- the values' own types

abbrev zq0 := @blk_drewN
abbrev zq1 := @blk_alloc
abbrev zq2 := @blk_drew
abbrev zq3 := @Aside0.mk
abbrev zq4 := @blk_frozen
abbrev zq5 := @blk_cell
abbrev zq6 := @below_set
abbrev zq7 := @pw_below_drewN
abbrev zq8 := @below_drew1
abbrev zq9 := @below_alloc
abbrev zq10 := @blk_below
abbrev zq11 := @blk_far
end Go.Proofs.Ytgidglbkmklajaa.P
