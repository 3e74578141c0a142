/-
  No cell of these rows narrows 'for every input' (looked for: loops, veiled, ifaces, maps, wideKeys, modest, calm, conditions, laid).
  DERIVED. THE GIVEN ROWS OF THIS SEAT. 4 by the template 'for every input the law returns true; each argument reads behind the call as it read before'; 0 by the template 'total and deterministic' (their statements: YtagdncgnkkibhaaTotals.lean).
  GIVEN WITH THE SEED: the statements are not yours to turn. If you find one false, say at which input.
  Laid BY PROGRAM, IN A SANDBOX (cutbox-rows.mjs): the forced cells as the released guide's own fill.sh prints them over the translation 78637e2bea547343… (all of the seat's roots in one cut). By AI agents, Wed Nov 11 2026. No macro, syntax, notation, axiom, sorry.
-/
import Derived.Test.YtagdncgnkkibhaaChecked
import GoSem.Claim
import GoSem.ClaimJoined
import GoSem.ClaimMapViews
import Derived.JoinedTies
import Derived.KernelRfl
namespace Go.Proofs.Ytagdncgnkkibhaa
/- THE CELL 'sum', in the pinned program and in every row, IS THE sha256 OF THE DUMP (.gsa) THAT YtagdncgnkkibhaaProg.lean LOADS. Nothing in Lean hashes anything: it is a label: what it is worth is what the hold of that sum in a sandbox is worth. -/
noncomputable def Try.pinned : Pinned := { name := "ytagdncgnkkibhaa", sum := "78637e2bea547343c079fcb9f5f21abaf6b8aa29a610446c0de2e95e74fe2cd6", checked := Try.checked }
namespace Rows
def none {H : Type} : Left H := { results := [], args := [] }

/-- 'laws.FnTriAll': WHATEVER THE INPUT: true; the input reads as it did. -/
def fnTriAllSpec : ChangeSpec := { name := "fnTriAll", fn := fun _ => fun
  | [d] => { results := [.lit (.bool true)], args := [d] }
  | _ => none }
def fnTriAllRow : OpenClaim := { program := "ytagdncgnkkibhaa", sum := "78637e2bea547343c079fcb9f5f21abaf6b8aa29a610446c0de2e95e74fe2cd6", func := "loop.example/closingsticks/laws.FnTriAll", spec := "fnTriAll", apart := false }
def FnTriAllSaid : Prop := fnTriAllRow.holds Try.pinned (OpenSpec.ofChange fnTriAllSpec)

/-- ITS FALSE NEIGHBOUR: 'it returns false'. Refute it at one input. -/
def fnTriAllWrong : ChangeSpec := { name := "fnTriAll", fn := fun _ => fun
  | [d] => { results := [.lit (.bool false)], args := [d] }
  | _ => none }
def FnTriAllWrongFalsely : Prop := fnTriAllRow.holds Try.pinned (OpenSpec.ofChange fnTriAllWrong)

/-- 'laws.FnExactTriAll': WHATEVER THE INPUT: true; the input reads as it did. -/
def fnExactTriAllSpec : ChangeSpec := { name := "fnExactTriAll", fn := fun _ => fun
  | [d] => { results := [.lit (.bool true)], args := [d] }
  | _ => none }
def fnExactTriAllRow : OpenClaim := { program := "ytagdncgnkkibhaa", sum := "78637e2bea547343c079fcb9f5f21abaf6b8aa29a610446c0de2e95e74fe2cd6", func := "loop.example/closingsticks/laws.FnExactTriAll", spec := "fnExactTriAll", apart := false }
def FnExactTriAllSaid : Prop := fnExactTriAllRow.holds Try.pinned (OpenSpec.ofChange fnExactTriAllSpec)

/-- ITS FALSE NEIGHBOUR: 'it returns false'. Refute it at one input. -/
def fnExactTriAllWrong : ChangeSpec := { name := "fnExactTriAll", fn := fun _ => fun
  | [d] => { results := [.lit (.bool false)], args := [d] }
  | _ => none }
def FnExactTriAllWrongFalsely : Prop := fnExactTriAllRow.holds Try.pinned (OpenSpec.ofChange fnExactTriAllWrong)

/-- 'laws.FnTriWhole': WHATEVER THE INPUT: true; the input reads as it did. -/
def fnTriWholeSpec : ChangeSpec := { name := "fnTriWhole", fn := fun _ => fun
  | [d] => { results := [.lit (.bool true)], args := [d] }
  | _ => none }
def fnTriWholeRow : OpenClaim := { program := "ytagdncgnkkibhaa", sum := "78637e2bea547343c079fcb9f5f21abaf6b8aa29a610446c0de2e95e74fe2cd6", func := "loop.example/closingsticks/laws.FnTriWhole", spec := "fnTriWhole", apart := false }
def FnTriWholeSaid : Prop := fnTriWholeRow.holds Try.pinned (OpenSpec.ofChange fnTriWholeSpec)

/-- ITS FALSE NEIGHBOUR: 'it returns false'. Refute it at one input. -/
def fnTriWholeWrong : ChangeSpec := { name := "fnTriWhole", fn := fun _ => fun
  | [d] => { results := [.lit (.bool false)], args := [d] }
  | _ => none }
def FnTriWholeWrongFalsely : Prop := fnTriWholeRow.holds Try.pinned (OpenSpec.ofChange fnTriWholeWrong)

/-- 'laws.FnExactTriWhole': WHATEVER THE INPUT: true; the input reads as it did. -/
def fnExactTriWholeSpec : ChangeSpec := { name := "fnExactTriWhole", fn := fun _ => fun
  | [d] => { results := [.lit (.bool true)], args := [d] }
  | _ => none }
def fnExactTriWholeRow : OpenClaim := { program := "ytagdncgnkkibhaa", sum := "78637e2bea547343c079fcb9f5f21abaf6b8aa29a610446c0de2e95e74fe2cd6", func := "loop.example/closingsticks/laws.FnExactTriWhole", spec := "fnExactTriWhole", apart := false }
def FnExactTriWholeSaid : Prop := fnExactTriWholeRow.holds Try.pinned (OpenSpec.ofChange fnExactTriWholeSpec)

/-- ITS FALSE NEIGHBOUR: 'it returns false'. Refute it at one input. -/
def fnExactTriWholeWrong : ChangeSpec := { name := "fnExactTriWhole", fn := fun _ => fun
  | [d] => { results := [.lit (.bool false)], args := [d] }
  | _ => none }
def FnExactTriWholeWrongFalsely : Prop := fnExactTriWholeRow.holds Try.pinned (OpenSpec.ofChange fnExactTriWholeWrong)

/- THE SECOND FORM. 'bulk': how many values and letters a reading holds, each counted each time it is reached (what is shared counts as often as it is met; a slice's spare places count too). A statement '..UptoSaid' is the law's where the arguments, and the package variables that the reading takes, are together of bulk at most 1048576: NARROWER than '..Said'. Prove '..Said' where nothing that the law and all that it calls make is longer than what came in: it says more and counts as full. Else prove '..UptoSaid'. A law counts once. -/
mutual
def uptoBulk {H : Type} : DataW H → Nat
  | .lit (.string bytes) => bytes.length + 1
  | .lit _ => 1
  | .nil => 1
  | .ptr d => uptoBulk d + 1
  | .slice elems spare => uptoBulkAll elems + uptoBulkAll spare + 1
  | .agg parts => uptoBulkAll parts + 1
  | .iface _ d => uptoBulk d + 1
  | .map entries => uptoBulkEntries entries + 1
  | .held _ => 1
def uptoBulkAll {H : Type} : List (DataW H) → Nat
  | [] => 0
  | d :: r => uptoBulk d + uptoBulkAll r
def uptoBulkEntries {H : Type} : List (Lit × DataW H) → Nat
  | [] => 0
  | x :: r => uptoBulkEntry x + uptoBulkEntries r
def uptoBulkEntry {H : Type} : Lit × DataW H → Nat
  | (.string bytes, d) => bytes.length + uptoBulk d + 1
  | (_, d) => uptoBulk d + 1
 end
def uptoSmall : (H : Type) → List (DataW H) → Bool := fun _ ds => decide (uptoBulkAll ds ≤ 1048576)
def OpenSpec.upto (s : _root_.Go.ChangeSpec) : _root_.Go.OpenSpec := { _root_.Go.OpenSpec.ofChange s with cond := some uptoSmall }

/-- 'laws.FnTriAll', WHERE WHAT IT READS IS OF BULK AT MOST 1048576: true; the input reads as it did. -/
def fnTriAllUptoRow : OpenClaim := { program := "ytagdncgnkkibhaa", sum := "78637e2bea547343c079fcb9f5f21abaf6b8aa29a610446c0de2e95e74fe2cd6", func := "loop.example/closingsticks/laws.FnTriAll", spec := "fnTriAll", apart := false, narrowed := true }
def FnTriAllUptoSaid : Prop := fnTriAllUptoRow.holds Try.pinned (OpenSpec.upto fnTriAllSpec)

/-- 'laws.FnExactTriAll', WHERE WHAT IT READS IS OF BULK AT MOST 1048576: true; the input reads as it did. -/
def fnExactTriAllUptoRow : OpenClaim := { program := "ytagdncgnkkibhaa", sum := "78637e2bea547343c079fcb9f5f21abaf6b8aa29a610446c0de2e95e74fe2cd6", func := "loop.example/closingsticks/laws.FnExactTriAll", spec := "fnExactTriAll", apart := false, narrowed := true }
def FnExactTriAllUptoSaid : Prop := fnExactTriAllUptoRow.holds Try.pinned (OpenSpec.upto fnExactTriAllSpec)

/-- 'laws.FnTriWhole', WHERE WHAT IT READS IS OF BULK AT MOST 1048576: true; the input reads as it did. -/
def fnTriWholeUptoRow : OpenClaim := { program := "ytagdncgnkkibhaa", sum := "78637e2bea547343c079fcb9f5f21abaf6b8aa29a610446c0de2e95e74fe2cd6", func := "loop.example/closingsticks/laws.FnTriWhole", spec := "fnTriWhole", apart := false, narrowed := true }
def FnTriWholeUptoSaid : Prop := fnTriWholeUptoRow.holds Try.pinned (OpenSpec.upto fnTriWholeSpec)

/-- 'laws.FnExactTriWhole', WHERE WHAT IT READS IS OF BULK AT MOST 1048576: true; the input reads as it did. -/
def fnExactTriWholeUptoRow : OpenClaim := { program := "ytagdncgnkkibhaa", sum := "78637e2bea547343c079fcb9f5f21abaf6b8aa29a610446c0de2e95e74fe2cd6", func := "loop.example/closingsticks/laws.FnExactTriWhole", spec := "fnExactTriWhole", apart := false, narrowed := true }
def FnExactTriWholeUptoSaid : Prop := fnExactTriWholeUptoRow.holds Try.pinned (OpenSpec.upto fnExactTriWholeSpec)

end Rows
end Go.Proofs.Ytagdncgnkkibhaa
