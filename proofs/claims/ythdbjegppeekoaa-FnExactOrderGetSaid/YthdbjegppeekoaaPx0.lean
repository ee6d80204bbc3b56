-- Written by wip/px.py of this session, over the kit's print.py. Not trusted: Lean checks it.
import Derived.Test.YthdbjegppeekoaaProg
import Derived.Below
import Derived.Deep.Draws
import Derived.Deep.AppendLies
import Derived.Maps.AppendAt
import Derived.OwnWalk
import Derived.Laws.BytesArg
import Derived.Laws.MakeOwn
import Derived.Laws.OwnMore
import Derived.Deep.OwnRows
import Derived.Tactics
import Derived.Lib.ConvBytes
import Derived.Laws.Slices
import Derived.WalkKit
import Derived.KernelRfl
import Derived.RowKit3
import Derived.Deep.LoopGhost
import Derived.Deep.QuietTactic
import Derived.BigQuiet
import Derived.WideLaws
import Derived.Deep.DeepCutAuto
import Derived.Deep.CutBlock
import Derived.Deep.RegionHeld3
import Derived.Laws.Rows
import Derived.Lib.AppendStr
import Derived.ArgAppend
import Derived.Laws.IdiomCopy
import Derived.OrdersHeld
import Derived.Laws.BitsLemmas
import Derived.RowKit
import Derived.WalkLawsBesides
import Derived.Test.YthdbjegppeekoaaXWr
import Derived.Lib.SliceRun
import Derived.Deep.RegionLaw
import Derived.Test.YthdbjegppeekoaaXDel
import Derived.Deep.RegionHeld3
import Derived.Test.YthdbjegppeekoaaWWords
import Derived.Test.YthdbjegppeekoaaWLast
import Derived.Test.YthdbjegppeekoaaWTab
import Derived.Test.YthdbjegppeekoaaWFour
import Derived.Test.YthdbjegppeekoaaWQPut
import Derived.Test.YthdbjegppeekoaaWApart
import Derived.Test.YthdbjegppeekoaaWArr
import Derived.Test.YthdbjegppeekoaaWZeros
import Derived.Test.YthdbjegppeekoaaWFoot
import Derived.Test.YthdbjegppeekoaaWKept
import Derived.Test.YthdbjegppeekoaaWShare
import Derived.Test.YthdbjegppeekoaaWN
import Derived.Test.YthdbjegppeekoaaWFootNe
import Derived.Test.YthdbjegppeekoaaWAt
import Derived.Test.YthdbjegppeekoaaWEqStruct
import Derived.Test.YthdbjegppeekoaaWRepsOne
import Derived.Test.YthdbjegppeekoaaWInv
import Derived.Test.YthdbjegppeekoaaWInvWords
import Derived.Test.YthdbjegppeekoaaWGuard
import Derived.Test.YthdbjegppeekoaaWNEv
import Derived.Test.YthdbjegppeekoaaWMore
namespace Go.Proofs.Ythdbjegppeekoaa.P
open Go.RowKit Go.Proofs.YthdbjegppeekoaaW.PrintWords Go.Proofs.YthdbjegppeekoaaW.PrintLast Go.Proofs.YthdbjegppeekoaaW.PrintMore
attribute [local go_sem] max2_int min2_int max_two min_two max_three min_three max_four min_four   -- for this text's walks alone
set_option linter.unusedVariables false
set_option linter.unusedSimpArgs false



def errW : Option Int → Value
  | none => .nilIface
  | some c => .iface 0 (.int .i64 c)
theorem errW_none : errW none = .nilIface := rfl
theorem errW_some (c : Int) : errW (some c) = .iface 0 (.int .i64 c) := rfl

theorem info5 : (Try.prog.info? 5).map (fun i => (i.zero, i.size, i.bytes)) = some (some (.int .u8 0), 1, 1) := by kernel_rfl
theorem info9 : (Try.prog.info? 9).map (fun i => (i.zero, i.size, i.bytes)) = some (some (.string ⟨#[]⟩), 1, 16) := by kernel_rfl
-- the values' own types

end Go.Proofs.Ythdbjegppeekoaa.P
