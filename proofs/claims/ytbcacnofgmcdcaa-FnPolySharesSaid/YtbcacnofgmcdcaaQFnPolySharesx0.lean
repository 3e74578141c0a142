-- Written by a program of this session (wip/myprint.py, over the kit's print) for the law FnPolyShares.
import Derived.Test.YtbcacnofgmcdcaaProg
import Derived.Below
import Derived.Deep.Draws
import Derived.Deep.AppendLies
import Derived.Maps.AppendAt
import Derived.OwnWalk
import Derived.Laws.BytesArg
import Derived.Laws.MakeOwn
import Derived.Laws.OwnMore
import Derived.Deep.OwnRows
import Derived.Tactics
import Derived.Lib.ConvBytes
import Derived.Laws.Slices
import Derived.WalkKit
import Derived.KernelRfl
import Derived.RowKit3
import Derived.Deep.LoopGhost
import Derived.Deep.QuietTactic
import Derived.BigQuiet
import Derived.WideLaws
import Derived.Deep.DeepCutAuto
import Derived.Deep.CutBlock
import Derived.Deep.RegionHeld3
import Derived.Laws.Rows
import Derived.Lib.AppendStr
import Derived.ArgAppend
import Derived.Laws.IdiomCopy
import Derived.OrdersHeld
import Derived.Laws.BitsLemmas
import Derived.RowKit
import Derived.StillTailTactics
import Derived.Shelf.Slices.Clone
import Derived.Ground.Names2Prog
import Derived.Laws.EntriesVeiled
import Derived.Test.YtbcacnofgmcdcaaWWords
import Derived.Test.YtbcacnofgmcdcaaWLast
import Derived.Test.YtbcacnofgmcdcaaWTab
import Derived.Test.YtbcacnofgmcdcaaWFour
import Derived.Test.YtbcacnofgmcdcaaWQPut
import Derived.Test.YtbcacnofgmcdcaaWApart
import Derived.Test.YtbcacnofgmcdcaaWArr
import Derived.Test.YtbcacnofgmcdcaaWZeros
import Derived.Test.YtbcacnofgmcdcaaWFoot
import Derived.Test.YtbcacnofgmcdcaaWKept
import Derived.Test.YtbcacnofgmcdcaaWShare
import Derived.Test.YtbcacnofgmcdcaaWN
import Derived.Test.YtbcacnofgmcdcaaWFootNe
import Derived.Test.YtbcacnofgmcdcaaWAt
import Derived.Test.YtbcacnofgmcdcaaWEqStruct
import Derived.Test.YtbcacnofgmcdcaaWRepsOne
import Derived.Test.YtbcacnofgmcdcaaWInv
import Derived.Test.YtbcacnofgmcdcaaWInvWords
import Derived.Test.YtbcacnofgmcdcaaWGuard
import Derived.Test.YtbcacnofgmcdcaaWNEv
import Derived.Test.YtbcacnofgmcdcaaWMore
namespace Go.Proofs.Ytbcacnofgmcdcaa.QFnPolyShares
open Go.RowKit Go.Proofs.YtbcacnofgmcdcaaW.PrintWords Go.Proofs.YtbcacnofgmcdcaaW.PrintLast Go.Proofs.YtbcacnofgmcdcaaW.PrintMore
attribute [local go_sem] max2_int min2_int max_two min_two max_three min_three max_four min_four   -- for this text's walks alone
set_option linter.unusedVariables false
set_option linter.unusedSimpArgs false



def errW : Option Int → Value
  | none => .nilIface
  | some c => .iface 0 (.int .i64 c)
theorem errW_none : errW none = .nilIface := rfl
theorem errW_some (c : Int) : errW (some c) = .iface 0 (.int .i64 c) := rfl

theorem info5 : (Try.prog.info? 5).map (fun i => (i.zero, i.size, i.bytes)) = some (some (.int .u8 0), 1, 1) := by kernel_rfl
-- the values' own types

end Go.Proofs.Ytbcacnofgmcdcaa.QFnPolyShares
