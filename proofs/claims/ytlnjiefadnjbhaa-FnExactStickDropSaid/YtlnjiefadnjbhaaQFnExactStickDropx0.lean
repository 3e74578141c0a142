-- Written by a program of this session (wip/myprint.py, over the kit's print) for the law FnExactStickDrop.
import Derived.Test.YtlnjiefadnjbhaaProg
import Derived.Below
import Derived.Deep.Draws
import Derived.Deep.AppendLies
import Derived.Maps.AppendAt
import Derived.OwnWalk
import Derived.Laws.BytesArg
import Derived.Laws.MakeOwn
import Derived.Laws.OwnMore
import Derived.Deep.OwnRows
import Derived.Tactics
import Derived.Lib.ConvBytes
import Derived.Laws.Slices
import Derived.WalkKit
import Derived.KernelRfl
import Derived.RowKit3
import Derived.Deep.LoopGhost
import Derived.Deep.QuietTactic
import Derived.BigQuiet
import Derived.WideLaws
import Derived.Deep.DeepCutAuto
import Derived.Deep.CutBlock
import Derived.Deep.RegionHeld3
import Derived.Laws.Rows
import Derived.Lib.AppendStr
import Derived.ArgAppend
import Derived.Laws.IdiomCopy
import Derived.OrdersHeld
import Derived.Laws.BitsLemmas
import Derived.RowKit
import Derived.StillTailTactics
import Derived.Shelf.Slices.Delete
import Derived.Shelf.Slices.Clone
import Derived.Ground.Names2Prog
import Derived.Sort.OwnSortedInts
import Derived.Test.YtlnjiefadnjbhaaWWords
import Derived.Test.YtlnjiefadnjbhaaWLast
import Derived.Test.YtlnjiefadnjbhaaWTab
import Derived.Test.YtlnjiefadnjbhaaWFour
import Derived.Test.YtlnjiefadnjbhaaWQPut
import Derived.Test.YtlnjiefadnjbhaaWApart
import Derived.Test.YtlnjiefadnjbhaaWArr
import Derived.Test.YtlnjiefadnjbhaaWZeros
import Derived.Test.YtlnjiefadnjbhaaWFoot
import Derived.Test.YtlnjiefadnjbhaaWKept
import Derived.Test.YtlnjiefadnjbhaaWShare
import Derived.Test.YtlnjiefadnjbhaaWN
import Derived.Test.YtlnjiefadnjbhaaWFootNe
import Derived.Test.YtlnjiefadnjbhaaWAt
import Derived.Test.YtlnjiefadnjbhaaWEqStruct
import Derived.Test.YtlnjiefadnjbhaaWRepsOne
import Derived.Test.YtlnjiefadnjbhaaWInv
import Derived.Test.YtlnjiefadnjbhaaWInvWords
import Derived.Test.YtlnjiefadnjbhaaWGuard
import Derived.Test.YtlnjiefadnjbhaaWNEv
import Derived.Test.YtlnjiefadnjbhaaWMore
namespace Go.Proofs.Ytlnjiefadnjbhaa.QFnExactStickDrop
open Go.RowKit Go.Proofs.YtlnjiefadnjbhaaW.PrintWords Go.Proofs.YtlnjiefadnjbhaaW.PrintLast Go.Proofs.YtlnjiefadnjbhaaW.PrintMore
attribute [local go_sem] max2_int min2_int max_two min_two max_three min_three max_four min_four   -- for this text's walks alone
set_option linter.unusedVariables false
set_option linter.unusedSimpArgs false



def errW : Option Int → Value
  | none => .nilIface
  | some c => .iface 0 (.int .i64 c)
theorem errW_none : errW none = .nilIface := rfl
theorem errW_some (c : Int) : errW (some c) = .iface 0 (.int .i64 c) := rfl

theorem info3 : (Try.prog.info? 3).map (fun i => (i.zero, i.size, i.bytes)) = some (some (.int .i64 0), 1, 8) := by kernel_rfl
-- the values' own types

end Go.Proofs.Ytlnjiefadnjbhaa.QFnExactStickDrop
