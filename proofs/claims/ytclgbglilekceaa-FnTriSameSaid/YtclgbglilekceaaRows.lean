/-
  No cell of these rows narrows 'for every input' (looked for: loops, veiled, ifaces, maps, wideKeys, modest, calm, conditions, laid).
  DERIVED. THE GIVEN ROWS OF THIS SEAT. 8 by the template 'for every input the law returns true; each argument reads behind the call as it read before'; 0 by the template 'total and deterministic' (their statements: YtclgbglilekceaaTotals.lean).
  GIVEN WITH THE SEED: the statements are not yours to turn. If you find one false, say at which input.
  Laid BY PROGRAM, IN A SANDBOX (cutbox-rows.mjs): the forced cells as the released guide's own fill.sh prints them over the translation 21f49f685e80ba37… (all of the seat's roots in one cut). By AI agents, Wed Nov 11 2026. No macro, syntax, notation, axiom, sorry.
-/
import Derived.Test.YtclgbglilekceaaChecked
import GoSem.Claim
import GoSem.ClaimJoined
import GoSem.ClaimMapViews
import Derived.JoinedTies
import Derived.KernelRfl
namespace Go.Proofs.Ytclgbglilekceaa
/- THE CELL 'sum', in the pinned program and in every row, IS THE sha256 OF THE DUMP (.gsa) THAT YtclgbglilekceaaProg.lean LOADS. Nothing in Lean hashes anything: it is a label: what it is worth is what the hold of that sum in a sandbox is worth. -/
noncomputable def Try.pinned : Pinned := { name := "ytclgbglilekceaa", sum := "21f49f685e80ba374d88d346b1147f8c30c8f31e02777f58a26a06d8765e8ebc", checked := Try.checked }
namespace Rows
def none {H : Type} : Left H := { results := [], args := [] }

/-- 'laws.FnExactTriHalf': WHATEVER THE INPUT: true; the input reads as it did. -/
def fnExactTriHalfSpec : ChangeSpec := { name := "fnExactTriHalf", fn := fun _ => fun
  | [d] => { results := [.lit (.bool true)], args := [d] }
  | _ => none }
def fnExactTriHalfRow : OpenClaim := { program := "ytclgbglilekceaa", sum := "21f49f685e80ba374d88d346b1147f8c30c8f31e02777f58a26a06d8765e8ebc", func := "loop.example/closingsticks/laws.FnExactTriHalf", spec := "fnExactTriHalf", apart := false }
def FnExactTriHalfSaid : Prop := fnExactTriHalfRow.holds Try.pinned (OpenSpec.ofChange fnExactTriHalfSpec)

/-- ITS FALSE NEIGHBOUR: 'it returns false'. Refute it at one input. -/
def fnExactTriHalfWrong : ChangeSpec := { name := "fnExactTriHalf", fn := fun _ => fun
  | [d] => { results := [.lit (.bool false)], args := [d] }
  | _ => none }
def FnExactTriHalfWrongFalsely : Prop := fnExactTriHalfRow.holds Try.pinned (OpenSpec.ofChange fnExactTriHalfWrong)

/-- 'laws.FnTriKind': WHATEVER THE INPUT: true; the input reads as it did. -/
def fnTriKindSpec : ChangeSpec := { name := "fnTriKind", fn := fun _ => fun
  | [d] => { results := [.lit (.bool true)], args := [d] }
  | _ => none }
def fnTriKindRow : OpenClaim := { program := "ytclgbglilekceaa", sum := "21f49f685e80ba374d88d346b1147f8c30c8f31e02777f58a26a06d8765e8ebc", func := "loop.example/closingsticks/laws.FnTriKind", spec := "fnTriKind", apart := false }
def FnTriKindSaid : Prop := fnTriKindRow.holds Try.pinned (OpenSpec.ofChange fnTriKindSpec)

/-- ITS FALSE NEIGHBOUR: 'it returns false'. Refute it at one input. -/
def fnTriKindWrong : ChangeSpec := { name := "fnTriKind", fn := fun _ => fun
  | [d] => { results := [.lit (.bool false)], args := [d] }
  | _ => none }
def FnTriKindWrongFalsely : Prop := fnTriKindRow.holds Try.pinned (OpenSpec.ofChange fnTriKindWrong)

/-- 'laws.FnTriSame': WHATEVER THE INPUT: true; the input reads as it did. -/
def fnTriSameSpec : ChangeSpec := { name := "fnTriSame", fn := fun _ => fun
  | [d] => { results := [.lit (.bool true)], args := [d] }
  | _ => none }
def fnTriSameRow : OpenClaim := { program := "ytclgbglilekceaa", sum := "21f49f685e80ba374d88d346b1147f8c30c8f31e02777f58a26a06d8765e8ebc", func := "loop.example/closingsticks/laws.FnTriSame", spec := "fnTriSame", apart := false }
def FnTriSameSaid : Prop := fnTriSameRow.holds Try.pinned (OpenSpec.ofChange fnTriSameSpec)

/-- ITS FALSE NEIGHBOUR: 'it returns false'. Refute it at one input. -/
def fnTriSameWrong : ChangeSpec := { name := "fnTriSame", fn := fun _ => fun
  | [d] => { results := [.lit (.bool false)], args := [d] }
  | _ => none }
def FnTriSameWrongFalsely : Prop := fnTriSameRow.holds Try.pinned (OpenSpec.ofChange fnTriSameWrong)

/-- 'laws.FnSum': WHATEVER THE INPUT: true; the input reads as it did. -/
def fnSumSpec : ChangeSpec := { name := "fnSum", fn := fun _ => fun
  | [d] => { results := [.lit (.bool true)], args := [d] }
  | _ => none }
def fnSumRow : OpenClaim := { program := "ytclgbglilekceaa", sum := "21f49f685e80ba374d88d346b1147f8c30c8f31e02777f58a26a06d8765e8ebc", func := "loop.example/closingsticks/laws.FnSum", spec := "fnSum", apart := false }
def FnSumSaid : Prop := fnSumRow.holds Try.pinned (OpenSpec.ofChange fnSumSpec)

/-- ITS FALSE NEIGHBOUR: 'it returns false'. Refute it at one input. -/
def fnSumWrong : ChangeSpec := { name := "fnSum", fn := fun _ => fun
  | [d] => { results := [.lit (.bool false)], args := [d] }
  | _ => none }
def FnSumWrongFalsely : Prop := fnSumRow.holds Try.pinned (OpenSpec.ofChange fnSumWrong)

/-- 'laws.FnTriHalf': WHATEVER THE INPUT: true; the input reads as it did. -/
def fnTriHalfSpec : ChangeSpec := { name := "fnTriHalf", fn := fun _ => fun
  | [d] => { results := [.lit (.bool true)], args := [d] }
  | _ => none }
def fnTriHalfRow : OpenClaim := { program := "ytclgbglilekceaa", sum := "21f49f685e80ba374d88d346b1147f8c30c8f31e02777f58a26a06d8765e8ebc", func := "loop.example/closingsticks/laws.FnTriHalf", spec := "fnTriHalf", apart := false }
def FnTriHalfSaid : Prop := fnTriHalfRow.holds Try.pinned (OpenSpec.ofChange fnTriHalfSpec)

/-- ITS FALSE NEIGHBOUR: 'it returns false'. Refute it at one input. -/
def fnTriHalfWrong : ChangeSpec := { name := "fnTriHalf", fn := fun _ => fun
  | [d] => { results := [.lit (.bool false)], args := [d] }
  | _ => none }
def FnTriHalfWrongFalsely : Prop := fnTriHalfRow.holds Try.pinned (OpenSpec.ofChange fnTriHalfWrong)

/-- 'laws.FnTriGrow': WHATEVER THE INPUT: true; the input reads as it did. -/
def fnTriGrowSpec : ChangeSpec := { name := "fnTriGrow", fn := fun _ => fun
  | [d] => { results := [.lit (.bool true)], args := [d] }
  | _ => none }
def fnTriGrowRow : OpenClaim := { program := "ytclgbglilekceaa", sum := "21f49f685e80ba374d88d346b1147f8c30c8f31e02777f58a26a06d8765e8ebc", func := "loop.example/closingsticks/laws.FnTriGrow", spec := "fnTriGrow", apart := false }
def FnTriGrowSaid : Prop := fnTriGrowRow.holds Try.pinned (OpenSpec.ofChange fnTriGrowSpec)

/-- ITS FALSE NEIGHBOUR: 'it returns false'. Refute it at one input. -/
def fnTriGrowWrong : ChangeSpec := { name := "fnTriGrow", fn := fun _ => fun
  | [d] => { results := [.lit (.bool false)], args := [d] }
  | _ => none }
def FnTriGrowWrongFalsely : Prop := fnTriGrowRow.holds Try.pinned (OpenSpec.ofChange fnTriGrowWrong)

/-- 'laws.FnTriWhole': WHATEVER THE INPUT: true; the input reads as it did. -/
def fnTriWholeSpec : ChangeSpec := { name := "fnTriWhole", fn := fun _ => fun
  | [d] => { results := [.lit (.bool true)], args := [d] }
  | _ => none }
def fnTriWholeRow : OpenClaim := { program := "ytclgbglilekceaa", sum := "21f49f685e80ba374d88d346b1147f8c30c8f31e02777f58a26a06d8765e8ebc", func := "loop.example/closingsticks/laws.FnTriWhole", spec := "fnTriWhole", apart := false }
def FnTriWholeSaid : Prop := fnTriWholeRow.holds Try.pinned (OpenSpec.ofChange fnTriWholeSpec)

/-- ITS FALSE NEIGHBOUR: 'it returns false'. Refute it at one input. -/
def fnTriWholeWrong : ChangeSpec := { name := "fnTriWhole", fn := fun _ => fun
  | [d] => { results := [.lit (.bool false)], args := [d] }
  | _ => none }
def FnTriWholeWrongFalsely : Prop := fnTriWholeRow.holds Try.pinned (OpenSpec.ofChange fnTriWholeWrong)

/-- 'laws.FnExactTriWhole': WHATEVER THE INPUT: true; the input reads as it did. -/
def fnExactTriWholeSpec : ChangeSpec := { name := "fnExactTriWhole", fn := fun _ => fun
  | [d] => { results := [.lit (.bool true)], args := [d] }
  | _ => none }
def fnExactTriWholeRow : OpenClaim := { program := "ytclgbglilekceaa", sum := "21f49f685e80ba374d88d346b1147f8c30c8f31e02777f58a26a06d8765e8ebc", func := "loop.example/closingsticks/laws.FnExactTriWhole", spec := "fnExactTriWhole", apart := false }
def FnExactTriWholeSaid : Prop := fnExactTriWholeRow.holds Try.pinned (OpenSpec.ofChange fnExactTriWholeSpec)

/-- ITS FALSE NEIGHBOUR: 'it returns false'. Refute it at one input. -/
def fnExactTriWholeWrong : ChangeSpec := { name := "fnExactTriWhole", fn := fun _ => fun
  | [d] => { results := [.lit (.bool false)], args := [d] }
  | _ => none }
def FnExactTriWholeWrongFalsely : Prop := fnExactTriWholeRow.holds Try.pinned (OpenSpec.ofChange fnExactTriWholeWrong)

/- THE SECOND FORM. 'bulk': how many values and letters a reading holds, each counted each time it is reached (what is shared counts as often as it is met; a slice's spare places count too). A statement '..UptoSaid' is the law's where the arguments, and the package variables that the reading takes, are together of bulk at most 1048576: NARROWER than '..Said'. Prove '..Said' where nothing that the law and all that it calls make is longer than what came in: it says more and counts as full. Else prove '..UptoSaid'. A law counts once. -/
mutual
def uptoBulk {H : Type} : DataW H → Nat
  | .lit (.string bytes) => bytes.length + 1
  | .lit _ => 1
  | .nil => 1
  | .ptr d => uptoBulk d + 1
  | .slice elems spare => uptoBulkAll elems + uptoBulkAll spare + 1
  | .agg parts => uptoBulkAll parts + 1
  | .iface _ d => uptoBulk d + 1
  | .map entries => uptoBulkEntries entries + 1
  | .held _ => 1
def uptoBulkAll {H : Type} : List (DataW H) → Nat
  | [] => 0
  | d :: r => uptoBulk d + uptoBulkAll r
def uptoBulkEntries {H : Type} : List (Lit × DataW H) → Nat
  | [] => 0
  | x :: r => uptoBulkEntry x + uptoBulkEntries r
def uptoBulkEntry {H : Type} : Lit × DataW H → Nat
  | (.string bytes, d) => bytes.length + uptoBulk d + 1
  | (_, d) => uptoBulk d + 1
 end
def uptoSmall : (H : Type) → List (DataW H) → Bool := fun _ ds => decide (uptoBulkAll ds ≤ 1048576)
def OpenSpec.upto (s : _root_.Go.ChangeSpec) : _root_.Go.OpenSpec := { _root_.Go.OpenSpec.ofChange s with cond := some uptoSmall }

/-- 'laws.FnExactTriHalf', WHERE WHAT IT READS IS OF BULK AT MOST 1048576: true; the input reads as it did. -/
def fnExactTriHalfUptoRow : OpenClaim := { program := "ytclgbglilekceaa", sum := "21f49f685e80ba374d88d346b1147f8c30c8f31e02777f58a26a06d8765e8ebc", func := "loop.example/closingsticks/laws.FnExactTriHalf", spec := "fnExactTriHalf", apart := false, narrowed := true }
def FnExactTriHalfUptoSaid : Prop := fnExactTriHalfUptoRow.holds Try.pinned (OpenSpec.upto fnExactTriHalfSpec)

/-- 'laws.FnTriKind', WHERE WHAT IT READS IS OF BULK AT MOST 1048576: true; the input reads as it did. -/
def fnTriKindUptoRow : OpenClaim := { program := "ytclgbglilekceaa", sum := "21f49f685e80ba374d88d346b1147f8c30c8f31e02777f58a26a06d8765e8ebc", func := "loop.example/closingsticks/laws.FnTriKind", spec := "fnTriKind", apart := false, narrowed := true }
def FnTriKindUptoSaid : Prop := fnTriKindUptoRow.holds Try.pinned (OpenSpec.upto fnTriKindSpec)

/-- 'laws.FnTriSame', WHERE WHAT IT READS IS OF BULK AT MOST 1048576: true; the input reads as it did. -/
def fnTriSameUptoRow : OpenClaim := { program := "ytclgbglilekceaa", sum := "21f49f685e80ba374d88d346b1147f8c30c8f31e02777f58a26a06d8765e8ebc", func := "loop.example/closingsticks/laws.FnTriSame", spec := "fnTriSame", apart := false, narrowed := true }
def FnTriSameUptoSaid : Prop := fnTriSameUptoRow.holds Try.pinned (OpenSpec.upto fnTriSameSpec)

/-- 'laws.FnSum', WHERE WHAT IT READS IS OF BULK AT MOST 1048576: true; the input reads as it did. -/
def fnSumUptoRow : OpenClaim := { program := "ytclgbglilekceaa", sum := "21f49f685e80ba374d88d346b1147f8c30c8f31e02777f58a26a06d8765e8ebc", func := "loop.example/closingsticks/laws.FnSum", spec := "fnSum", apart := false, narrowed := true }
def FnSumUptoSaid : Prop := fnSumUptoRow.holds Try.pinned (OpenSpec.upto fnSumSpec)

/-- 'laws.FnTriHalf', WHERE WHAT IT READS IS OF BULK AT MOST 1048576: true; the input reads as it did. -/
def fnTriHalfUptoRow : OpenClaim := { program := "ytclgbglilekceaa", sum := "21f49f685e80ba374d88d346b1147f8c30c8f31e02777f58a26a06d8765e8ebc", func := "loop.example/closingsticks/laws.FnTriHalf", spec := "fnTriHalf", apart := false, narrowed := true }
def FnTriHalfUptoSaid : Prop := fnTriHalfUptoRow.holds Try.pinned (OpenSpec.upto fnTriHalfSpec)

/-- 'laws.FnTriGrow', WHERE WHAT IT READS IS OF BULK AT MOST 1048576: true; the input reads as it did. -/
def fnTriGrowUptoRow : OpenClaim := { program := "ytclgbglilekceaa", sum := "21f49f685e80ba374d88d346b1147f8c30c8f31e02777f58a26a06d8765e8ebc", func := "loop.example/closingsticks/laws.FnTriGrow", spec := "fnTriGrow", apart := false, narrowed := true }
def FnTriGrowUptoSaid : Prop := fnTriGrowUptoRow.holds Try.pinned (OpenSpec.upto fnTriGrowSpec)

/-- 'laws.FnTriWhole', WHERE WHAT IT READS IS OF BULK AT MOST 1048576: true; the input reads as it did. -/
def fnTriWholeUptoRow : OpenClaim := { program := "ytclgbglilekceaa", sum := "21f49f685e80ba374d88d346b1147f8c30c8f31e02777f58a26a06d8765e8ebc", func := "loop.example/closingsticks/laws.FnTriWhole", spec := "fnTriWhole", apart := false, narrowed := true }
def FnTriWholeUptoSaid : Prop := fnTriWholeUptoRow.holds Try.pinned (OpenSpec.upto fnTriWholeSpec)

/-- 'laws.FnExactTriWhole', WHERE WHAT IT READS IS OF BULK AT MOST 1048576: true; the input reads as it did. -/
def fnExactTriWholeUptoRow : OpenClaim := { program := "ytclgbglilekceaa", sum := "21f49f685e80ba374d88d346b1147f8c30c8f31e02777f58a26a06d8765e8ebc", func := "loop.example/closingsticks/laws.FnExactTriWhole", spec := "fnExactTriWhole", apart := false, narrowed := true }
def FnExactTriWholeUptoSaid : Prop := fnExactTriWholeUptoRow.holds Try.pinned (OpenSpec.upto fnExactTriWholeSpec)

end Rows
end Go.Proofs.Ytclgbglilekceaa
