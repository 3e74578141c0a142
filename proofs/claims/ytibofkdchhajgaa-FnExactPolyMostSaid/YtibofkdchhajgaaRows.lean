/-
  No cell of these rows narrows 'for every input' (looked for: loops, veiled, ifaces, maps, wideKeys, modest, calm, conditions, laid).
  DERIVED. THE GIVEN ROWS OF THIS SEAT. 12 by the template 'for every input the law returns true; each argument reads behind the call as it read before'; 0 by the template 'total and deterministic' (their statements: YtibofkdchhajgaaTotals.lean).
  GIVEN WITH THE SEED: the statements are not yours to turn. If you find one false, say at which input.
  Laid BY PROGRAM, IN A SANDBOX (cutbox-rows.mjs): the forced cells as the released guide's own fill.sh prints them over the translation 3da4c64fadc17385… (all of the seat's roots in one cut). By AI agents, Wed Nov 11 2026. No macro, syntax, notation, axiom, sorry.
-/
import Derived.Test.YtibofkdchhajgaaChecked
import GoSem.Claim
import GoSem.ClaimJoined
import GoSem.ClaimMapViews
import Derived.JoinedTies
import Derived.KernelRfl
namespace Go.Proofs.Ytibofkdchhajgaa
/- THE CELL 'sum', in the pinned program and in every row, IS THE sha256 OF THE DUMP (.gsa) THAT YtibofkdchhajgaaProg.lean LOADS. Nothing in Lean hashes anything: it is a label: what it is worth is what the hold of that sum in a sandbox is worth. -/
noncomputable def Try.pinned : Pinned := { name := "ytibofkdchhajgaa", sum := "3da4c64fadc173859701e333c077fad23b2ef7d3550c42c6ab88c9e1cfb93606", checked := Try.checked }
namespace Rows
def none {H : Type} : Left H := { results := [], args := [] }

/-- 'laws.FnTriCount': WHATEVER THE INPUT: true; the input reads as it did. -/
def fnTriCountSpec : ChangeSpec := { name := "fnTriCount", fn := fun _ => fun
  | [d] => { results := [.lit (.bool true)], args := [d] }
  | _ => none }
def fnTriCountRow : OpenClaim := { program := "ytibofkdchhajgaa", sum := "3da4c64fadc173859701e333c077fad23b2ef7d3550c42c6ab88c9e1cfb93606", func := "loop.example/closingsticks/laws.FnTriCount", spec := "fnTriCount", apart := false }
def FnTriCountSaid : Prop := fnTriCountRow.holds Try.pinned (OpenSpec.ofChange fnTriCountSpec)

/-- ITS FALSE NEIGHBOUR: 'it returns false'. Refute it at one input. -/
def fnTriCountWrong : ChangeSpec := { name := "fnTriCount", fn := fun _ => fun
  | [d] => { results := [.lit (.bool false)], args := [d] }
  | _ => none }
def FnTriCountWrongFalsely : Prop := fnTriCountRow.holds Try.pinned (OpenSpec.ofChange fnTriCountWrong)

/-- 'laws.FnExactTriArea': WHATEVER THE INPUT: true; the input reads as it did. -/
def fnExactTriAreaSpec : ChangeSpec := { name := "fnExactTriArea", fn := fun _ => fun
  | [d] => { results := [.lit (.bool true)], args := [d] }
  | _ => none }
def fnExactTriAreaRow : OpenClaim := { program := "ytibofkdchhajgaa", sum := "3da4c64fadc173859701e333c077fad23b2ef7d3550c42c6ab88c9e1cfb93606", func := "loop.example/closingsticks/laws.FnExactTriArea", spec := "fnExactTriArea", apart := false }
def FnExactTriAreaSaid : Prop := fnExactTriAreaRow.holds Try.pinned (OpenSpec.ofChange fnExactTriAreaSpec)

/-- ITS FALSE NEIGHBOUR: 'it returns false'. Refute it at one input. -/
def fnExactTriAreaWrong : ChangeSpec := { name := "fnExactTriArea", fn := fun _ => fun
  | [d] => { results := [.lit (.bool false)], args := [d] }
  | _ => none }
def FnExactTriAreaWrongFalsely : Prop := fnExactTriAreaRow.holds Try.pinned (OpenSpec.ofChange fnExactTriAreaWrong)

/-- 'laws.FnExactStickSum': WHATEVER THE INPUT: true; the input reads as it did. -/
def fnExactStickSumSpec : ChangeSpec := { name := "fnExactStickSum", fn := fun _ => fun
  | [d] => { results := [.lit (.bool true)], args := [d] }
  | _ => none }
def fnExactStickSumRow : OpenClaim := { program := "ytibofkdchhajgaa", sum := "3da4c64fadc173859701e333c077fad23b2ef7d3550c42c6ab88c9e1cfb93606", func := "loop.example/closingsticks/laws.FnExactStickSum", spec := "fnExactStickSum", apart := false }
def FnExactStickSumSaid : Prop := fnExactStickSumRow.holds Try.pinned (OpenSpec.ofChange fnExactStickSumSpec)

/-- ITS FALSE NEIGHBOUR: 'it returns false'. Refute it at one input. -/
def fnExactStickSumWrong : ChangeSpec := { name := "fnExactStickSum", fn := fun _ => fun
  | [d] => { results := [.lit (.bool false)], args := [d] }
  | _ => none }
def FnExactStickSumWrongFalsely : Prop := fnExactStickSumRow.holds Try.pinned (OpenSpec.ofChange fnExactStickSumWrong)

/-- 'laws.FnExactPolyCloses': WHATEVER THE INPUT: true; the input reads as it did. -/
def fnExactPolyClosesSpec : ChangeSpec := { name := "fnExactPolyCloses", fn := fun _ => fun
  | [d] => { results := [.lit (.bool true)], args := [d] }
  | _ => none }
def fnExactPolyClosesRow : OpenClaim := { program := "ytibofkdchhajgaa", sum := "3da4c64fadc173859701e333c077fad23b2ef7d3550c42c6ab88c9e1cfb93606", func := "loop.example/closingsticks/laws.FnExactPolyCloses", spec := "fnExactPolyCloses", apart := false }
def FnExactPolyClosesSaid : Prop := fnExactPolyClosesRow.holds Try.pinned (OpenSpec.ofChange fnExactPolyClosesSpec)

/-- ITS FALSE NEIGHBOUR: 'it returns false'. Refute it at one input. -/
def fnExactPolyClosesWrong : ChangeSpec := { name := "fnExactPolyCloses", fn := fun _ => fun
  | [d] => { results := [.lit (.bool false)], args := [d] }
  | _ => none }
def FnExactPolyClosesWrongFalsely : Prop := fnExactPolyClosesRow.holds Try.pinned (OpenSpec.ofChange fnExactPolyClosesWrong)

/-- 'laws.FnExactPolyGap': WHATEVER THE INPUT: true; the input reads as it did. -/
def fnExactPolyGapSpec : ChangeSpec := { name := "fnExactPolyGap", fn := fun _ => fun
  | [d] => { results := [.lit (.bool true)], args := [d] }
  | _ => none }
def fnExactPolyGapRow : OpenClaim := { program := "ytibofkdchhajgaa", sum := "3da4c64fadc173859701e333c077fad23b2ef7d3550c42c6ab88c9e1cfb93606", func := "loop.example/closingsticks/laws.FnExactPolyGap", spec := "fnExactPolyGap", apart := false }
def FnExactPolyGapSaid : Prop := fnExactPolyGapRow.holds Try.pinned (OpenSpec.ofChange fnExactPolyGapSpec)

/-- ITS FALSE NEIGHBOUR: 'it returns false'. Refute it at one input. -/
def fnExactPolyGapWrong : ChangeSpec := { name := "fnExactPolyGap", fn := fun _ => fun
  | [d] => { results := [.lit (.bool false)], args := [d] }
  | _ => none }
def FnExactPolyGapWrongFalsely : Prop := fnExactPolyGapRow.holds Try.pinned (OpenSpec.ofChange fnExactPolyGapWrong)

/-- 'laws.FnExactPolyFix': WHATEVER THE INPUT: true; the input reads as it did. -/
def fnExactPolyFixSpec : ChangeSpec := { name := "fnExactPolyFix", fn := fun _ => fun
  | [d] => { results := [.lit (.bool true)], args := [d] }
  | _ => none }
def fnExactPolyFixRow : OpenClaim := { program := "ytibofkdchhajgaa", sum := "3da4c64fadc173859701e333c077fad23b2ef7d3550c42c6ab88c9e1cfb93606", func := "loop.example/closingsticks/laws.FnExactPolyFix", spec := "fnExactPolyFix", apart := false }
def FnExactPolyFixSaid : Prop := fnExactPolyFixRow.holds Try.pinned (OpenSpec.ofChange fnExactPolyFixSpec)

/-- ITS FALSE NEIGHBOUR: 'it returns false'. Refute it at one input. -/
def fnExactPolyFixWrong : ChangeSpec := { name := "fnExactPolyFix", fn := fun _ => fun
  | [d] => { results := [.lit (.bool false)], args := [d] }
  | _ => none }
def FnExactPolyFixWrongFalsely : Prop := fnExactPolyFixRow.holds Try.pinned (OpenSpec.ofChange fnExactPolyFixWrong)

/-- 'laws.FnExactTriKind': WHATEVER THE INPUT: true; the input reads as it did. -/
def fnExactTriKindSpec : ChangeSpec := { name := "fnExactTriKind", fn := fun _ => fun
  | [d] => { results := [.lit (.bool true)], args := [d] }
  | _ => none }
def fnExactTriKindRow : OpenClaim := { program := "ytibofkdchhajgaa", sum := "3da4c64fadc173859701e333c077fad23b2ef7d3550c42c6ab88c9e1cfb93606", func := "loop.example/closingsticks/laws.FnExactTriKind", spec := "fnExactTriKind", apart := false }
def FnExactTriKindSaid : Prop := fnExactTriKindRow.holds Try.pinned (OpenSpec.ofChange fnExactTriKindSpec)

/-- ITS FALSE NEIGHBOUR: 'it returns false'. Refute it at one input. -/
def fnExactTriKindWrong : ChangeSpec := { name := "fnExactTriKind", fn := fun _ => fun
  | [d] => { results := [.lit (.bool false)], args := [d] }
  | _ => none }
def FnExactTriKindWrongFalsely : Prop := fnExactTriKindRow.holds Try.pinned (OpenSpec.ofChange fnExactTriKindWrong)

/-- 'laws.FnExactTriAll': WHATEVER THE INPUT: true; the input reads as it did. -/
def fnExactTriAllSpec : ChangeSpec := { name := "fnExactTriAll", fn := fun _ => fun
  | [d] => { results := [.lit (.bool true)], args := [d] }
  | _ => none }
def fnExactTriAllRow : OpenClaim := { program := "ytibofkdchhajgaa", sum := "3da4c64fadc173859701e333c077fad23b2ef7d3550c42c6ab88c9e1cfb93606", func := "loop.example/closingsticks/laws.FnExactTriAll", spec := "fnExactTriAll", apart := false }
def FnExactTriAllSaid : Prop := fnExactTriAllRow.holds Try.pinned (OpenSpec.ofChange fnExactTriAllSpec)

/-- ITS FALSE NEIGHBOUR: 'it returns false'. Refute it at one input. -/
def fnExactTriAllWrong : ChangeSpec := { name := "fnExactTriAll", fn := fun _ => fun
  | [d] => { results := [.lit (.bool false)], args := [d] }
  | _ => none }
def FnExactTriAllWrongFalsely : Prop := fnExactTriAllRow.holds Try.pinned (OpenSpec.ofChange fnExactTriAllWrong)

/-- 'laws.FnExactTriGrow': WHATEVER THE INPUT: true; the input reads as it did. -/
def fnExactTriGrowSpec : ChangeSpec := { name := "fnExactTriGrow", fn := fun _ => fun
  | [d] => { results := [.lit (.bool true)], args := [d] }
  | _ => none }
def fnExactTriGrowRow : OpenClaim := { program := "ytibofkdchhajgaa", sum := "3da4c64fadc173859701e333c077fad23b2ef7d3550c42c6ab88c9e1cfb93606", func := "loop.example/closingsticks/laws.FnExactTriGrow", spec := "fnExactTriGrow", apart := false }
def FnExactTriGrowSaid : Prop := fnExactTriGrowRow.holds Try.pinned (OpenSpec.ofChange fnExactTriGrowSpec)

/-- ITS FALSE NEIGHBOUR: 'it returns false'. Refute it at one input. -/
def fnExactTriGrowWrong : ChangeSpec := { name := "fnExactTriGrow", fn := fun _ => fun
  | [d] => { results := [.lit (.bool false)], args := [d] }
  | _ => none }
def FnExactTriGrowWrongFalsely : Prop := fnExactTriGrowRow.holds Try.pinned (OpenSpec.ofChange fnExactTriGrowWrong)

/-- 'laws.FnExactPolyMost': WHATEVER THE INPUT: true; the input reads as it did. -/
def fnExactPolyMostSpec : ChangeSpec := { name := "fnExactPolyMost", fn := fun _ => fun
  | [d] => { results := [.lit (.bool true)], args := [d] }
  | _ => none }
def fnExactPolyMostRow : OpenClaim := { program := "ytibofkdchhajgaa", sum := "3da4c64fadc173859701e333c077fad23b2ef7d3550c42c6ab88c9e1cfb93606", func := "loop.example/closingsticks/laws.FnExactPolyMost", spec := "fnExactPolyMost", apart := false }
def FnExactPolyMostSaid : Prop := fnExactPolyMostRow.holds Try.pinned (OpenSpec.ofChange fnExactPolyMostSpec)

/-- ITS FALSE NEIGHBOUR: 'it returns false'. Refute it at one input. -/
def fnExactPolyMostWrong : ChangeSpec := { name := "fnExactPolyMost", fn := fun _ => fun
  | [d] => { results := [.lit (.bool false)], args := [d] }
  | _ => none }
def FnExactPolyMostWrongFalsely : Prop := fnExactPolyMostRow.holds Try.pinned (OpenSpec.ofChange fnExactPolyMostWrong)

/-- 'laws.FnTriAll': WHATEVER THE INPUT: true; the input reads as it did. -/
def fnTriAllSpec : ChangeSpec := { name := "fnTriAll", fn := fun _ => fun
  | [d] => { results := [.lit (.bool true)], args := [d] }
  | _ => none }
def fnTriAllRow : OpenClaim := { program := "ytibofkdchhajgaa", sum := "3da4c64fadc173859701e333c077fad23b2ef7d3550c42c6ab88c9e1cfb93606", func := "loop.example/closingsticks/laws.FnTriAll", spec := "fnTriAll", apart := false }
def FnTriAllSaid : Prop := fnTriAllRow.holds Try.pinned (OpenSpec.ofChange fnTriAllSpec)

/-- ITS FALSE NEIGHBOUR: 'it returns false'. Refute it at one input. -/
def fnTriAllWrong : ChangeSpec := { name := "fnTriAll", fn := fun _ => fun
  | [d] => { results := [.lit (.bool false)], args := [d] }
  | _ => none }
def FnTriAllWrongFalsely : Prop := fnTriAllRow.holds Try.pinned (OpenSpec.ofChange fnTriAllWrong)

/-- 'laws.FnTriArea': WHATEVER THE INPUT: true; the input reads as it did. -/
def fnTriAreaSpec : ChangeSpec := { name := "fnTriArea", fn := fun _ => fun
  | [d] => { results := [.lit (.bool true)], args := [d] }
  | _ => none }
def fnTriAreaRow : OpenClaim := { program := "ytibofkdchhajgaa", sum := "3da4c64fadc173859701e333c077fad23b2ef7d3550c42c6ab88c9e1cfb93606", func := "loop.example/closingsticks/laws.FnTriArea", spec := "fnTriArea", apart := false }
def FnTriAreaSaid : Prop := fnTriAreaRow.holds Try.pinned (OpenSpec.ofChange fnTriAreaSpec)

/-- ITS FALSE NEIGHBOUR: 'it returns false'. Refute it at one input. -/
def fnTriAreaWrong : ChangeSpec := { name := "fnTriArea", fn := fun _ => fun
  | [d] => { results := [.lit (.bool false)], args := [d] }
  | _ => none }
def FnTriAreaWrongFalsely : Prop := fnTriAreaRow.holds Try.pinned (OpenSpec.ofChange fnTriAreaWrong)

/- THE SECOND FORM. 'bulk': how many values and letters a reading holds, each counted each time it is reached (what is shared counts as often as it is met; a slice's spare places count too). A statement '..UptoSaid' is the law's where the arguments, and the package variables that the reading takes, are together of bulk at most 1048576: NARROWER than '..Said'. Prove '..Said' where nothing that the law and all that it calls make is longer than what came in: it says more and counts as full. Else prove '..UptoSaid'. A law counts once. -/
mutual
def uptoBulk {H : Type} : DataW H → Nat
  | .lit (.string bytes) => bytes.length + 1
  | .lit _ => 1
  | .nil => 1
  | .ptr d => uptoBulk d + 1
  | .slice elems spare => uptoBulkAll elems + uptoBulkAll spare + 1
  | .agg parts => uptoBulkAll parts + 1
  | .iface _ d => uptoBulk d + 1
  | .map entries => uptoBulkEntries entries + 1
  | .held _ => 1
def uptoBulkAll {H : Type} : List (DataW H) → Nat
  | [] => 0
  | d :: r => uptoBulk d + uptoBulkAll r
def uptoBulkEntries {H : Type} : List (Lit × DataW H) → Nat
  | [] => 0
  | x :: r => uptoBulkEntry x + uptoBulkEntries r
def uptoBulkEntry {H : Type} : Lit × DataW H → Nat
  | (.string bytes, d) => bytes.length + uptoBulk d + 1
  | (_, d) => uptoBulk d + 1
 end
def uptoSmall : (H : Type) → List (DataW H) → Bool := fun _ ds => decide (uptoBulkAll ds ≤ 1048576)
def OpenSpec.upto (s : _root_.Go.ChangeSpec) : _root_.Go.OpenSpec := { _root_.Go.OpenSpec.ofChange s with cond := some uptoSmall }

/-- 'laws.FnTriCount', WHERE WHAT IT READS IS OF BULK AT MOST 1048576: true; the input reads as it did. -/
def fnTriCountUptoRow : OpenClaim := { program := "ytibofkdchhajgaa", sum := "3da4c64fadc173859701e333c077fad23b2ef7d3550c42c6ab88c9e1cfb93606", func := "loop.example/closingsticks/laws.FnTriCount", spec := "fnTriCount", apart := false, narrowed := true }
def FnTriCountUptoSaid : Prop := fnTriCountUptoRow.holds Try.pinned (OpenSpec.upto fnTriCountSpec)

/-- 'laws.FnExactTriArea', WHERE WHAT IT READS IS OF BULK AT MOST 1048576: true; the input reads as it did. -/
def fnExactTriAreaUptoRow : OpenClaim := { program := "ytibofkdchhajgaa", sum := "3da4c64fadc173859701e333c077fad23b2ef7d3550c42c6ab88c9e1cfb93606", func := "loop.example/closingsticks/laws.FnExactTriArea", spec := "fnExactTriArea", apart := false, narrowed := true }
def FnExactTriAreaUptoSaid : Prop := fnExactTriAreaUptoRow.holds Try.pinned (OpenSpec.upto fnExactTriAreaSpec)

/-- 'laws.FnExactStickSum', WHERE WHAT IT READS IS OF BULK AT MOST 1048576: true; the input reads as it did. -/
def fnExactStickSumUptoRow : OpenClaim := { program := "ytibofkdchhajgaa", sum := "3da4c64fadc173859701e333c077fad23b2ef7d3550c42c6ab88c9e1cfb93606", func := "loop.example/closingsticks/laws.FnExactStickSum", spec := "fnExactStickSum", apart := false, narrowed := true }
def FnExactStickSumUptoSaid : Prop := fnExactStickSumUptoRow.holds Try.pinned (OpenSpec.upto fnExactStickSumSpec)

/-- 'laws.FnExactPolyCloses', WHERE WHAT IT READS IS OF BULK AT MOST 1048576: true; the input reads as it did. -/
def fnExactPolyClosesUptoRow : OpenClaim := { program := "ytibofkdchhajgaa", sum := "3da4c64fadc173859701e333c077fad23b2ef7d3550c42c6ab88c9e1cfb93606", func := "loop.example/closingsticks/laws.FnExactPolyCloses", spec := "fnExactPolyCloses", apart := false, narrowed := true }
def FnExactPolyClosesUptoSaid : Prop := fnExactPolyClosesUptoRow.holds Try.pinned (OpenSpec.upto fnExactPolyClosesSpec)

/-- 'laws.FnExactPolyGap', WHERE WHAT IT READS IS OF BULK AT MOST 1048576: true; the input reads as it did. -/
def fnExactPolyGapUptoRow : OpenClaim := { program := "ytibofkdchhajgaa", sum := "3da4c64fadc173859701e333c077fad23b2ef7d3550c42c6ab88c9e1cfb93606", func := "loop.example/closingsticks/laws.FnExactPolyGap", spec := "fnExactPolyGap", apart := false, narrowed := true }
def FnExactPolyGapUptoSaid : Prop := fnExactPolyGapUptoRow.holds Try.pinned (OpenSpec.upto fnExactPolyGapSpec)

/-- 'laws.FnExactPolyFix', WHERE WHAT IT READS IS OF BULK AT MOST 1048576: true; the input reads as it did. -/
def fnExactPolyFixUptoRow : OpenClaim := { program := "ytibofkdchhajgaa", sum := "3da4c64fadc173859701e333c077fad23b2ef7d3550c42c6ab88c9e1cfb93606", func := "loop.example/closingsticks/laws.FnExactPolyFix", spec := "fnExactPolyFix", apart := false, narrowed := true }
def FnExactPolyFixUptoSaid : Prop := fnExactPolyFixUptoRow.holds Try.pinned (OpenSpec.upto fnExactPolyFixSpec)

/-- 'laws.FnExactTriKind', WHERE WHAT IT READS IS OF BULK AT MOST 1048576: true; the input reads as it did. -/
def fnExactTriKindUptoRow : OpenClaim := { program := "ytibofkdchhajgaa", sum := "3da4c64fadc173859701e333c077fad23b2ef7d3550c42c6ab88c9e1cfb93606", func := "loop.example/closingsticks/laws.FnExactTriKind", spec := "fnExactTriKind", apart := false, narrowed := true }
def FnExactTriKindUptoSaid : Prop := fnExactTriKindUptoRow.holds Try.pinned (OpenSpec.upto fnExactTriKindSpec)

/-- 'laws.FnExactTriAll', WHERE WHAT IT READS IS OF BULK AT MOST 1048576: true; the input reads as it did. -/
def fnExactTriAllUptoRow : OpenClaim := { program := "ytibofkdchhajgaa", sum := "3da4c64fadc173859701e333c077fad23b2ef7d3550c42c6ab88c9e1cfb93606", func := "loop.example/closingsticks/laws.FnExactTriAll", spec := "fnExactTriAll", apart := false, narrowed := true }
def FnExactTriAllUptoSaid : Prop := fnExactTriAllUptoRow.holds Try.pinned (OpenSpec.upto fnExactTriAllSpec)

/-- 'laws.FnExactTriGrow', WHERE WHAT IT READS IS OF BULK AT MOST 1048576: true; the input reads as it did. -/
def fnExactTriGrowUptoRow : OpenClaim := { program := "ytibofkdchhajgaa", sum := "3da4c64fadc173859701e333c077fad23b2ef7d3550c42c6ab88c9e1cfb93606", func := "loop.example/closingsticks/laws.FnExactTriGrow", spec := "fnExactTriGrow", apart := false, narrowed := true }
def FnExactTriGrowUptoSaid : Prop := fnExactTriGrowUptoRow.holds Try.pinned (OpenSpec.upto fnExactTriGrowSpec)

/-- 'laws.FnExactPolyMost', WHERE WHAT IT READS IS OF BULK AT MOST 1048576: true; the input reads as it did. -/
def fnExactPolyMostUptoRow : OpenClaim := { program := "ytibofkdchhajgaa", sum := "3da4c64fadc173859701e333c077fad23b2ef7d3550c42c6ab88c9e1cfb93606", func := "loop.example/closingsticks/laws.FnExactPolyMost", spec := "fnExactPolyMost", apart := false, narrowed := true }
def FnExactPolyMostUptoSaid : Prop := fnExactPolyMostUptoRow.holds Try.pinned (OpenSpec.upto fnExactPolyMostSpec)

/-- 'laws.FnTriAll', WHERE WHAT IT READS IS OF BULK AT MOST 1048576: true; the input reads as it did. -/
def fnTriAllUptoRow : OpenClaim := { program := "ytibofkdchhajgaa", sum := "3da4c64fadc173859701e333c077fad23b2ef7d3550c42c6ab88c9e1cfb93606", func := "loop.example/closingsticks/laws.FnTriAll", spec := "fnTriAll", apart := false, narrowed := true }
def FnTriAllUptoSaid : Prop := fnTriAllUptoRow.holds Try.pinned (OpenSpec.upto fnTriAllSpec)

/-- 'laws.FnTriArea', WHERE WHAT IT READS IS OF BULK AT MOST 1048576: true; the input reads as it did. -/
def fnTriAreaUptoRow : OpenClaim := { program := "ytibofkdchhajgaa", sum := "3da4c64fadc173859701e333c077fad23b2ef7d3550c42c6ab88c9e1cfb93606", func := "loop.example/closingsticks/laws.FnTriArea", spec := "fnTriArea", apart := false, narrowed := true }
def FnTriAreaUptoSaid : Prop := fnTriAreaUptoRow.holds Try.pinned (OpenSpec.upto fnTriAreaSpec)

end Rows
end Go.Proofs.Ytibofkdchhajgaa
