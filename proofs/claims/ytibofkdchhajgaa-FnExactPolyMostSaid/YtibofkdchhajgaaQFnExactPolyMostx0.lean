-- Written by a program of this session (wip/myprint.py, over the kit's print) for the law FnExactPolyMost.
import Derived.Test.YtibofkdchhajgaaProg
import Derived.Below
import Derived.Deep.Draws
import Derived.Deep.AppendLies
import Derived.Maps.AppendAt
import Derived.OwnWalk
import Derived.Laws.BytesArg
import Derived.Laws.MakeOwn
import Derived.Laws.OwnMore
import Derived.Deep.OwnRows
import Derived.Tactics
import Derived.Lib.ConvBytes
import Derived.Laws.Slices
import Derived.WalkKit
import Derived.KernelRfl
import Derived.RowKit3
import Derived.Deep.LoopGhost
import Derived.Deep.QuietTactic
import Derived.BigQuiet
import Derived.WideLaws
import Derived.Deep.DeepCutAuto
import Derived.Deep.CutBlock
import Derived.Deep.RegionHeld3
import Derived.Laws.Rows
import Derived.Lib.AppendStr
import Derived.ArgAppend
import Derived.Laws.IdiomCopy
import Derived.OrdersHeld
import Derived.Laws.BitsLemmas
import Derived.RowKit
import Derived.Test.YtibofkdchhajgaaWWords
import Derived.Test.YtibofkdchhajgaaWLast
import Derived.Test.YtibofkdchhajgaaWTab
import Derived.Test.YtibofkdchhajgaaWFour
import Derived.Test.YtibofkdchhajgaaWQPut
import Derived.Test.YtibofkdchhajgaaWApart
import Derived.Test.YtibofkdchhajgaaWArr
import Derived.Test.YtibofkdchhajgaaWZeros
import Derived.Test.YtibofkdchhajgaaWFoot
import Derived.Test.YtibofkdchhajgaaWKept
import Derived.Test.YtibofkdchhajgaaWShare
import Derived.Test.YtibofkdchhajgaaWN
import Derived.Test.YtibofkdchhajgaaWFootNe
import Derived.Test.YtibofkdchhajgaaWAt
import Derived.Test.YtibofkdchhajgaaWEqStruct
import Derived.Test.YtibofkdchhajgaaWRepsOne
import Derived.Test.YtibofkdchhajgaaWInv
import Derived.Test.YtibofkdchhajgaaWInvWords
import Derived.Test.YtibofkdchhajgaaWGuard
import Derived.Test.YtibofkdchhajgaaWNEv
import Derived.Test.YtibofkdchhajgaaWMore
namespace Go.Proofs.Ytibofkdchhajgaa.QFnExactPolyMost
open Go.RowKit Go.Proofs.YtibofkdchhajgaaW.PrintWords Go.Proofs.YtibofkdchhajgaaW.PrintLast Go.Proofs.YtibofkdchhajgaaW.PrintMore
attribute [local go_sem] max2_int min2_int max_two min_two max_three min_three max_four min_four   -- for this text's walks alone
set_option linter.unusedVariables false
set_option linter.unusedSimpArgs false



def errW : Option Int → Value
  | none => .nilIface
  | some c => .iface 0 (.int .i64 c)
theorem errW_none : errW none = .nilIface := rfl
theorem errW_some (c : Int) : errW (some c) = .iface 0 (.int .i64 c) := rfl

theorem info3 : (Try.prog.info? 3).map (fun i => (i.zero, i.size, i.bytes)) = some (some (.int .i64 0), 1, 8) := by kernel_rfl
-- the values' own types

end Go.Proofs.Ytibofkdchhajgaa.QFnExactPolyMost
