/-
  No cell of these rows narrows 'for every input' (looked for: loops, veiled, ifaces, maps, wideKeys, modest, calm, conditions, laid).
  DERIVED. THE GIVEN ROWS OF THIS SEAT. 12 by the template 'for every input the law returns true; each argument reads behind the call as it read before'; 0 by the template 'total and deterministic' (their statements: YtkolcdknnmgaoaaTotals.lean).
  GIVEN WITH THE SEED: the statements are not yours to turn. If you find one false, say at which input.
  Laid BY PROGRAM, IN A SANDBOX (cutbox-rows.mjs): the forced cells as the released guide's own fill.sh prints them over the translation 3b0b28015c475009… (all of the seat's roots in one cut). By AI agents, Wed Nov 11 2026. No macro, syntax, notation, axiom, sorry.
-/
import Derived.Test.YtkolcdknnmgaoaaChecked
import GoSem.Claim
import GoSem.ClaimJoined
import GoSem.ClaimMapViews
import Derived.JoinedTies
import Derived.KernelRfl
namespace Go.Proofs.Ytkolcdknnmgaoaa
/- THE CELL 'sum', in the pinned program and in every row, IS THE sha256 OF THE DUMP (.gsa) THAT YtkolcdknnmgaoaaProg.lean LOADS. Nothing in Lean hashes anything: it is a label: what it is worth is what the hold of that sum in a sandbox is worth. -/
noncomputable def Try.pinned : Pinned := { name := "ytkolcdknnmgaoaa", sum := "3b0b28015c4750095e06f5998a8898ac8741002d698549e0eab0af263a49a11b", checked := Try.checked }
namespace Rows
def none {H : Type} : Left H := { results := [], args := [] }

/-- 'laws.FnExactConstants': WHATEVER THE INPUT: true; the input reads as it did. -/
def fnExactConstantsSpec : ChangeSpec := { name := "fnExactConstants", fn := fun _ => fun
  | [] => { results := [.lit (.bool true)], args := [] }
  | _ => none }
def fnExactConstantsRow : OpenClaim := { program := "ytkolcdknnmgaoaa", sum := "3b0b28015c4750095e06f5998a8898ac8741002d698549e0eab0af263a49a11b", func := "loop.example/closingsticks/laws.FnExactConstants", spec := "fnExactConstants", apart := false }
def FnExactConstantsSaid : Prop := fnExactConstantsRow.holds Try.pinned (OpenSpec.ofChange fnExactConstantsSpec)

/-- ITS FALSE NEIGHBOUR: 'it returns false'. Refute it at one input. -/
def fnExactConstantsWrong : ChangeSpec := { name := "fnExactConstants", fn := fun _ => fun
  | [] => { results := [.lit (.bool false)], args := [] }
  | _ => none }
def FnExactConstantsWrongFalsely : Prop := fnExactConstantsRow.holds Try.pinned (OpenSpec.ofChange fnExactConstantsWrong)

/-- 'laws.FnExactStickThree': WHATEVER THE INPUT: true; the input reads as it did. -/
def fnExactStickThreeSpec : ChangeSpec := { name := "fnExactStickThree", fn := fun _ => fun
  | [d1, d2, d3] => { results := [.lit (.bool true)], args := [d1, d2, d3] }
  | _ => none }
def fnExactStickThreeRow : OpenClaim := { program := "ytkolcdknnmgaoaa", sum := "3b0b28015c4750095e06f5998a8898ac8741002d698549e0eab0af263a49a11b", func := "loop.example/closingsticks/laws.FnExactStickThree", spec := "fnExactStickThree", apart := false }
def FnExactStickThreeSaid : Prop := fnExactStickThreeRow.holds Try.pinned (OpenSpec.ofChange fnExactStickThreeSpec)

/-- ITS FALSE NEIGHBOUR: 'it returns false'. Refute it at one input. -/
def fnExactStickThreeWrong : ChangeSpec := { name := "fnExactStickThree", fn := fun _ => fun
  | [d1, d2, d3] => { results := [.lit (.bool false)], args := [d1, d2, d3] }
  | _ => none }
def FnExactStickThreeWrongFalsely : Prop := fnExactStickThreeRow.holds Try.pinned (OpenSpec.ofChange fnExactStickThreeWrong)

/-- 'laws.FnExactTriRound': WHATEVER THE INPUT: true; the input reads as it did. -/
def fnExactTriRoundSpec : ChangeSpec := { name := "fnExactTriRound", fn := fun _ => fun
  | [d] => { results := [.lit (.bool true)], args := [d] }
  | _ => none }
def fnExactTriRoundRow : OpenClaim := { program := "ytkolcdknnmgaoaa", sum := "3b0b28015c4750095e06f5998a8898ac8741002d698549e0eab0af263a49a11b", func := "loop.example/closingsticks/laws.FnExactTriRound", spec := "fnExactTriRound", apart := false }
def FnExactTriRoundSaid : Prop := fnExactTriRoundRow.holds Try.pinned (OpenSpec.ofChange fnExactTriRoundSpec)

/-- ITS FALSE NEIGHBOUR: 'it returns false'. Refute it at one input. -/
def fnExactTriRoundWrong : ChangeSpec := { name := "fnExactTriRound", fn := fun _ => fun
  | [d] => { results := [.lit (.bool false)], args := [d] }
  | _ => none }
def FnExactTriRoundWrongFalsely : Prop := fnExactTriRoundRow.holds Try.pinned (OpenSpec.ofChange fnExactTriRoundWrong)

/-- 'laws.FnExactTriInside': WHATEVER THE INPUT: true; the input reads as it did. -/
def fnExactTriInsideSpec : ChangeSpec := { name := "fnExactTriInside", fn := fun _ => fun
  | [d] => { results := [.lit (.bool true)], args := [d] }
  | _ => none }
def fnExactTriInsideRow : OpenClaim := { program := "ytkolcdknnmgaoaa", sum := "3b0b28015c4750095e06f5998a8898ac8741002d698549e0eab0af263a49a11b", func := "loop.example/closingsticks/laws.FnExactTriInside", spec := "fnExactTriInside", apart := false }
def FnExactTriInsideSaid : Prop := fnExactTriInsideRow.holds Try.pinned (OpenSpec.ofChange fnExactTriInsideSpec)

/-- ITS FALSE NEIGHBOUR: 'it returns false'. Refute it at one input. -/
def fnExactTriInsideWrong : ChangeSpec := { name := "fnExactTriInside", fn := fun _ => fun
  | [d] => { results := [.lit (.bool false)], args := [d] }
  | _ => none }
def FnExactTriInsideWrongFalsely : Prop := fnExactTriInsideRow.holds Try.pinned (OpenSpec.ofChange fnExactTriInsideWrong)

/-- 'laws.FnExactTriCount': WHATEVER THE INPUT: true; the input reads as it did. -/
def fnExactTriCountSpec : ChangeSpec := { name := "fnExactTriCount", fn := fun _ => fun
  | [d] => { results := [.lit (.bool true)], args := [d] }
  | _ => none }
def fnExactTriCountRow : OpenClaim := { program := "ytkolcdknnmgaoaa", sum := "3b0b28015c4750095e06f5998a8898ac8741002d698549e0eab0af263a49a11b", func := "loop.example/closingsticks/laws.FnExactTriCount", spec := "fnExactTriCount", apart := false }
def FnExactTriCountSaid : Prop := fnExactTriCountRow.holds Try.pinned (OpenSpec.ofChange fnExactTriCountSpec)

/-- ITS FALSE NEIGHBOUR: 'it returns false'. Refute it at one input. -/
def fnExactTriCountWrong : ChangeSpec := { name := "fnExactTriCount", fn := fun _ => fun
  | [d] => { results := [.lit (.bool false)], args := [d] }
  | _ => none }
def FnExactTriCountWrongFalsely : Prop := fnExactTriCountRow.holds Try.pinned (OpenSpec.ofChange fnExactTriCountWrong)

/-- 'laws.FnTriRound': WHATEVER THE INPUT: true; the input reads as it did. -/
def fnTriRoundSpec : ChangeSpec := { name := "fnTriRound", fn := fun _ => fun
  | [d] => { results := [.lit (.bool true)], args := [d] }
  | _ => none }
def fnTriRoundRow : OpenClaim := { program := "ytkolcdknnmgaoaa", sum := "3b0b28015c4750095e06f5998a8898ac8741002d698549e0eab0af263a49a11b", func := "loop.example/closingsticks/laws.FnTriRound", spec := "fnTriRound", apart := false }
def FnTriRoundSaid : Prop := fnTriRoundRow.holds Try.pinned (OpenSpec.ofChange fnTriRoundSpec)

/-- ITS FALSE NEIGHBOUR: 'it returns false'. Refute it at one input. -/
def fnTriRoundWrong : ChangeSpec := { name := "fnTriRound", fn := fun _ => fun
  | [d] => { results := [.lit (.bool false)], args := [d] }
  | _ => none }
def FnTriRoundWrongFalsely : Prop := fnTriRoundRow.holds Try.pinned (OpenSpec.ofChange fnTriRoundWrong)

/-- 'laws.FnThree': WHATEVER THE INPUT: true; the input reads as it did. -/
def fnThreeSpec : ChangeSpec := { name := "fnThree", fn := fun _ => fun
  | [d] => { results := [.lit (.bool true)], args := [d] }
  | _ => none }
def fnThreeRow : OpenClaim := { program := "ytkolcdknnmgaoaa", sum := "3b0b28015c4750095e06f5998a8898ac8741002d698549e0eab0af263a49a11b", func := "loop.example/closingsticks/laws.FnThree", spec := "fnThree", apart := false }
def FnThreeSaid : Prop := fnThreeRow.holds Try.pinned (OpenSpec.ofChange fnThreeSpec)

/-- ITS FALSE NEIGHBOUR: 'it returns false'. Refute it at one input. -/
def fnThreeWrong : ChangeSpec := { name := "fnThree", fn := fun _ => fun
  | [d] => { results := [.lit (.bool false)], args := [d] }
  | _ => none }
def FnThreeWrongFalsely : Prop := fnThreeRow.holds Try.pinned (OpenSpec.ofChange fnThreeWrong)

/-- 'laws.FnExactStickLongFree': WHATEVER THE INPUT: true; the input reads as it did. -/
def fnExactStickLongFreeSpec : ChangeSpec := { name := "fnExactStickLongFree", fn := fun _ => fun
  | [d] => { results := [.lit (.bool true)], args := [d] }
  | _ => none }
def fnExactStickLongFreeRow : OpenClaim := { program := "ytkolcdknnmgaoaa", sum := "3b0b28015c4750095e06f5998a8898ac8741002d698549e0eab0af263a49a11b", func := "loop.example/closingsticks/laws.FnExactStickLongFree", spec := "fnExactStickLongFree", apart := false }
def FnExactStickLongFreeSaid : Prop := fnExactStickLongFreeRow.holds Try.pinned (OpenSpec.ofChange fnExactStickLongFreeSpec)

/-- ITS FALSE NEIGHBOUR: 'it returns false'. Refute it at one input. -/
def fnExactStickLongFreeWrong : ChangeSpec := { name := "fnExactStickLongFree", fn := fun _ => fun
  | [d] => { results := [.lit (.bool false)], args := [d] }
  | _ => none }
def FnExactStickLongFreeWrongFalsely : Prop := fnExactStickLongFreeRow.holds Try.pinned (OpenSpec.ofChange fnExactStickLongFreeWrong)

/-- 'laws.FnTriInside': WHATEVER THE INPUT: true; the input reads as it did. -/
def fnTriInsideSpec : ChangeSpec := { name := "fnTriInside", fn := fun _ => fun
  | [d] => { results := [.lit (.bool true)], args := [d] }
  | _ => none }
def fnTriInsideRow : OpenClaim := { program := "ytkolcdknnmgaoaa", sum := "3b0b28015c4750095e06f5998a8898ac8741002d698549e0eab0af263a49a11b", func := "loop.example/closingsticks/laws.FnTriInside", spec := "fnTriInside", apart := false }
def FnTriInsideSaid : Prop := fnTriInsideRow.holds Try.pinned (OpenSpec.ofChange fnTriInsideSpec)

/-- ITS FALSE NEIGHBOUR: 'it returns false'. Refute it at one input. -/
def fnTriInsideWrong : ChangeSpec := { name := "fnTriInside", fn := fun _ => fun
  | [d] => { results := [.lit (.bool false)], args := [d] }
  | _ => none }
def FnTriInsideWrongFalsely : Prop := fnTriInsideRow.holds Try.pinned (OpenSpec.ofChange fnTriInsideWrong)

/-- 'laws.FnExactStickIn': WHATEVER THE INPUT: true; the input reads as it did. -/
def fnExactStickInSpec : ChangeSpec := { name := "fnExactStickIn", fn := fun _ => fun
  | [d] => { results := [.lit (.bool true)], args := [d] }
  | _ => none }
def fnExactStickInRow : OpenClaim := { program := "ytkolcdknnmgaoaa", sum := "3b0b28015c4750095e06f5998a8898ac8741002d698549e0eab0af263a49a11b", func := "loop.example/closingsticks/laws.FnExactStickIn", spec := "fnExactStickIn", apart := false }
def FnExactStickInSaid : Prop := fnExactStickInRow.holds Try.pinned (OpenSpec.ofChange fnExactStickInSpec)

/-- ITS FALSE NEIGHBOUR: 'it returns false'. Refute it at one input. -/
def fnExactStickInWrong : ChangeSpec := { name := "fnExactStickIn", fn := fun _ => fun
  | [d] => { results := [.lit (.bool false)], args := [d] }
  | _ => none }
def FnExactStickInWrongFalsely : Prop := fnExactStickInRow.holds Try.pinned (OpenSpec.ofChange fnExactStickInWrong)

/-- 'laws.FnExactTriSame': WHATEVER THE INPUT: true; the input reads as it did. -/
def fnExactTriSameSpec : ChangeSpec := { name := "fnExactTriSame", fn := fun _ => fun
  | [d1, d2] => { results := [.lit (.bool true)], args := [d1, d2] }
  | _ => none }
def fnExactTriSameRow : OpenClaim := { program := "ytkolcdknnmgaoaa", sum := "3b0b28015c4750095e06f5998a8898ac8741002d698549e0eab0af263a49a11b", func := "loop.example/closingsticks/laws.FnExactTriSame", spec := "fnExactTriSame", apart := false }
def FnExactTriSameSaid : Prop := fnExactTriSameRow.holds Try.pinned (OpenSpec.ofChange fnExactTriSameSpec)

/-- ITS FALSE NEIGHBOUR: 'it returns false'. Refute it at one input. -/
def fnExactTriSameWrong : ChangeSpec := { name := "fnExactTriSame", fn := fun _ => fun
  | [d1, d2] => { results := [.lit (.bool false)], args := [d1, d2] }
  | _ => none }
def FnExactTriSameWrongFalsely : Prop := fnExactTriSameRow.holds Try.pinned (OpenSpec.ofChange fnExactTriSameWrong)

/-- 'laws.FnTriGrowBack': WHATEVER THE INPUT: true; the input reads as it did. -/
def fnTriGrowBackSpec : ChangeSpec := { name := "fnTriGrowBack", fn := fun _ => fun
  | [d] => { results := [.lit (.bool true)], args := [d] }
  | _ => none }
def fnTriGrowBackRow : OpenClaim := { program := "ytkolcdknnmgaoaa", sum := "3b0b28015c4750095e06f5998a8898ac8741002d698549e0eab0af263a49a11b", func := "loop.example/closingsticks/laws.FnTriGrowBack", spec := "fnTriGrowBack", apart := false }
def FnTriGrowBackSaid : Prop := fnTriGrowBackRow.holds Try.pinned (OpenSpec.ofChange fnTriGrowBackSpec)

/-- ITS FALSE NEIGHBOUR: 'it returns false'. Refute it at one input. -/
def fnTriGrowBackWrong : ChangeSpec := { name := "fnTriGrowBack", fn := fun _ => fun
  | [d] => { results := [.lit (.bool false)], args := [d] }
  | _ => none }
def FnTriGrowBackWrongFalsely : Prop := fnTriGrowBackRow.holds Try.pinned (OpenSpec.ofChange fnTriGrowBackWrong)

/- THE SECOND FORM. 'bulk': how many values and letters a reading holds, each counted each time it is reached (what is shared counts as often as it is met; a slice's spare places count too). A statement '..UptoSaid' is the law's where the arguments, and the package variables that the reading takes, are together of bulk at most 1048576: NARROWER than '..Said'. Prove '..Said' where nothing that the law and all that it calls make is longer than what came in: it says more and counts as full. Else prove '..UptoSaid'. A law counts once. -/
mutual
def uptoBulk {H : Type} : DataW H → Nat
  | .lit (.string bytes) => bytes.length + 1
  | .lit _ => 1
  | .nil => 1
  | .ptr d => uptoBulk d + 1
  | .slice elems spare => uptoBulkAll elems + uptoBulkAll spare + 1
  | .agg parts => uptoBulkAll parts + 1
  | .iface _ d => uptoBulk d + 1
  | .map entries => uptoBulkEntries entries + 1
  | .held _ => 1
def uptoBulkAll {H : Type} : List (DataW H) → Nat
  | [] => 0
  | d :: r => uptoBulk d + uptoBulkAll r
def uptoBulkEntries {H : Type} : List (Lit × DataW H) → Nat
  | [] => 0
  | x :: r => uptoBulkEntry x + uptoBulkEntries r
def uptoBulkEntry {H : Type} : Lit × DataW H → Nat
  | (.string bytes, d) => bytes.length + uptoBulk d + 1
  | (_, d) => uptoBulk d + 1
 end
def uptoSmall : (H : Type) → List (DataW H) → Bool := fun _ ds => decide (uptoBulkAll ds ≤ 1048576)
def OpenSpec.upto (s : _root_.Go.ChangeSpec) : _root_.Go.OpenSpec := { _root_.Go.OpenSpec.ofChange s with cond := some uptoSmall }

/-- 'laws.FnExactConstants', WHERE WHAT IT READS IS OF BULK AT MOST 1048576: true; the input reads as it did. -/
def fnExactConstantsUptoRow : OpenClaim := { program := "ytkolcdknnmgaoaa", sum := "3b0b28015c4750095e06f5998a8898ac8741002d698549e0eab0af263a49a11b", func := "loop.example/closingsticks/laws.FnExactConstants", spec := "fnExactConstants", apart := false, narrowed := true }
def FnExactConstantsUptoSaid : Prop := fnExactConstantsUptoRow.holds Try.pinned (OpenSpec.upto fnExactConstantsSpec)

/-- 'laws.FnExactStickThree', WHERE WHAT IT READS IS OF BULK AT MOST 1048576: true; the input reads as it did. -/
def fnExactStickThreeUptoRow : OpenClaim := { program := "ytkolcdknnmgaoaa", sum := "3b0b28015c4750095e06f5998a8898ac8741002d698549e0eab0af263a49a11b", func := "loop.example/closingsticks/laws.FnExactStickThree", spec := "fnExactStickThree", apart := false, narrowed := true }
def FnExactStickThreeUptoSaid : Prop := fnExactStickThreeUptoRow.holds Try.pinned (OpenSpec.upto fnExactStickThreeSpec)

/-- 'laws.FnExactTriRound', WHERE WHAT IT READS IS OF BULK AT MOST 1048576: true; the input reads as it did. -/
def fnExactTriRoundUptoRow : OpenClaim := { program := "ytkolcdknnmgaoaa", sum := "3b0b28015c4750095e06f5998a8898ac8741002d698549e0eab0af263a49a11b", func := "loop.example/closingsticks/laws.FnExactTriRound", spec := "fnExactTriRound", apart := false, narrowed := true }
def FnExactTriRoundUptoSaid : Prop := fnExactTriRoundUptoRow.holds Try.pinned (OpenSpec.upto fnExactTriRoundSpec)

/-- 'laws.FnExactTriInside', WHERE WHAT IT READS IS OF BULK AT MOST 1048576: true; the input reads as it did. -/
def fnExactTriInsideUptoRow : OpenClaim := { program := "ytkolcdknnmgaoaa", sum := "3b0b28015c4750095e06f5998a8898ac8741002d698549e0eab0af263a49a11b", func := "loop.example/closingsticks/laws.FnExactTriInside", spec := "fnExactTriInside", apart := false, narrowed := true }
def FnExactTriInsideUptoSaid : Prop := fnExactTriInsideUptoRow.holds Try.pinned (OpenSpec.upto fnExactTriInsideSpec)

/-- 'laws.FnExactTriCount', WHERE WHAT IT READS IS OF BULK AT MOST 1048576: true; the input reads as it did. -/
def fnExactTriCountUptoRow : OpenClaim := { program := "ytkolcdknnmgaoaa", sum := "3b0b28015c4750095e06f5998a8898ac8741002d698549e0eab0af263a49a11b", func := "loop.example/closingsticks/laws.FnExactTriCount", spec := "fnExactTriCount", apart := false, narrowed := true }
def FnExactTriCountUptoSaid : Prop := fnExactTriCountUptoRow.holds Try.pinned (OpenSpec.upto fnExactTriCountSpec)

/-- 'laws.FnTriRound', WHERE WHAT IT READS IS OF BULK AT MOST 1048576: true; the input reads as it did. -/
def fnTriRoundUptoRow : OpenClaim := { program := "ytkolcdknnmgaoaa", sum := "3b0b28015c4750095e06f5998a8898ac8741002d698549e0eab0af263a49a11b", func := "loop.example/closingsticks/laws.FnTriRound", spec := "fnTriRound", apart := false, narrowed := true }
def FnTriRoundUptoSaid : Prop := fnTriRoundUptoRow.holds Try.pinned (OpenSpec.upto fnTriRoundSpec)

/-- 'laws.FnThree', WHERE WHAT IT READS IS OF BULK AT MOST 1048576: true; the input reads as it did. -/
def fnThreeUptoRow : OpenClaim := { program := "ytkolcdknnmgaoaa", sum := "3b0b28015c4750095e06f5998a8898ac8741002d698549e0eab0af263a49a11b", func := "loop.example/closingsticks/laws.FnThree", spec := "fnThree", apart := false, narrowed := true }
def FnThreeUptoSaid : Prop := fnThreeUptoRow.holds Try.pinned (OpenSpec.upto fnThreeSpec)

/-- 'laws.FnExactStickLongFree', WHERE WHAT IT READS IS OF BULK AT MOST 1048576: true; the input reads as it did. -/
def fnExactStickLongFreeUptoRow : OpenClaim := { program := "ytkolcdknnmgaoaa", sum := "3b0b28015c4750095e06f5998a8898ac8741002d698549e0eab0af263a49a11b", func := "loop.example/closingsticks/laws.FnExactStickLongFree", spec := "fnExactStickLongFree", apart := false, narrowed := true }
def FnExactStickLongFreeUptoSaid : Prop := fnExactStickLongFreeUptoRow.holds Try.pinned (OpenSpec.upto fnExactStickLongFreeSpec)

/-- 'laws.FnTriInside', WHERE WHAT IT READS IS OF BULK AT MOST 1048576: true; the input reads as it did. -/
def fnTriInsideUptoRow : OpenClaim := { program := "ytkolcdknnmgaoaa", sum := "3b0b28015c4750095e06f5998a8898ac8741002d698549e0eab0af263a49a11b", func := "loop.example/closingsticks/laws.FnTriInside", spec := "fnTriInside", apart := false, narrowed := true }
def FnTriInsideUptoSaid : Prop := fnTriInsideUptoRow.holds Try.pinned (OpenSpec.upto fnTriInsideSpec)

/-- 'laws.FnExactStickIn', WHERE WHAT IT READS IS OF BULK AT MOST 1048576: true; the input reads as it did. -/
def fnExactStickInUptoRow : OpenClaim := { program := "ytkolcdknnmgaoaa", sum := "3b0b28015c4750095e06f5998a8898ac8741002d698549e0eab0af263a49a11b", func := "loop.example/closingsticks/laws.FnExactStickIn", spec := "fnExactStickIn", apart := false, narrowed := true }
def FnExactStickInUptoSaid : Prop := fnExactStickInUptoRow.holds Try.pinned (OpenSpec.upto fnExactStickInSpec)

/-- 'laws.FnExactTriSame', WHERE WHAT IT READS IS OF BULK AT MOST 1048576: true; the input reads as it did. -/
def fnExactTriSameUptoRow : OpenClaim := { program := "ytkolcdknnmgaoaa", sum := "3b0b28015c4750095e06f5998a8898ac8741002d698549e0eab0af263a49a11b", func := "loop.example/closingsticks/laws.FnExactTriSame", spec := "fnExactTriSame", apart := false, narrowed := true }
def FnExactTriSameUptoSaid : Prop := fnExactTriSameUptoRow.holds Try.pinned (OpenSpec.upto fnExactTriSameSpec)

/-- 'laws.FnTriGrowBack', WHERE WHAT IT READS IS OF BULK AT MOST 1048576: true; the input reads as it did. -/
def fnTriGrowBackUptoRow : OpenClaim := { program := "ytkolcdknnmgaoaa", sum := "3b0b28015c4750095e06f5998a8898ac8741002d698549e0eab0af263a49a11b", func := "loop.example/closingsticks/laws.FnTriGrowBack", spec := "fnTriGrowBack", apart := false, narrowed := true }
def FnTriGrowBackUptoSaid : Prop := fnTriGrowBackUptoRow.holds Try.pinned (OpenSpec.upto fnTriGrowBackSpec)

end Rows
end Go.Proofs.Ytkolcdknnmgaoaa
