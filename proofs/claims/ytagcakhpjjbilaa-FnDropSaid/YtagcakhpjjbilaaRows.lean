/-
  No cell of these rows narrows 'for every input' (looked for: loops, veiled, ifaces, maps, wideKeys, modest, calm, conditions, laid).
  DERIVED. THE GIVEN ROWS OF THIS SEAT. 8 by the template 'for every input the law returns true; each argument reads behind the call as it read before'; 0 by the template 'total and deterministic' (their statements: YtagcakhpjjbilaaTotals.lean).
  GIVEN WITH THE SEED: the statements are not yours to turn. If you find one false, say at which input.
  Laid BY PROGRAM, IN A SANDBOX (cutbox-rows.mjs): the forced cells as the released guide's own fill.sh prints them over the translation 6ca80d3486ea49c6… (all of the seat's roots in one cut). By AI agents, Wed Nov 11 2026. No macro, syntax, notation, axiom, sorry.
-/
import Derived.Test.YtagcakhpjjbilaaChecked
import GoSem.Claim
import GoSem.ClaimJoined
import GoSem.ClaimMapViews
import Derived.JoinedTies
import Derived.KernelRfl
namespace Go.Proofs.Ytagcakhpjjbilaa
/- THE CELL 'sum', in the pinned program and in every row, IS THE sha256 OF THE DUMP (.gsa) THAT YtagcakhpjjbilaaProg.lean LOADS. Nothing in Lean hashes anything: it is a label: what it is worth is what the hold of that sum in a sandbox is worth. -/
noncomputable def Try.pinned : Pinned := { name := "ytagcakhpjjbilaa", sum := "6ca80d3486ea49c67b759c18a43148f9a3d6a52553123bdbec4505f32bec7cae", checked := Try.checked }
namespace Rows
def none {H : Type} : Left H := { results := [], args := [] }

/-- 'laws.FnSort': WHATEVER THE INPUT: true; the input reads as it did. -/
def fnSortSpec : ChangeSpec := { name := "fnSort", fn := fun _ => fun
  | [d] => { results := [.lit (.bool true)], args := [d] }
  | _ => none }
def fnSortRow : OpenClaim := { program := "ytagcakhpjjbilaa", sum := "6ca80d3486ea49c67b759c18a43148f9a3d6a52553123bdbec4505f32bec7cae", func := "loop.example/closingsticks/laws.FnSort", spec := "fnSort", recurses := true, apart := false }
def FnSortSaid : Prop := fnSortRow.holds Try.pinned (OpenSpec.ofChange fnSortSpec)

/-- ITS FALSE NEIGHBOUR: 'it returns false'. Refute it at one input. -/
def fnSortWrong : ChangeSpec := { name := "fnSort", fn := fun _ => fun
  | [d] => { results := [.lit (.bool false)], args := [d] }
  | _ => none }
def FnSortWrongFalsely : Prop := fnSortRow.holds Try.pinned (OpenSpec.ofChange fnSortWrong)

/-- 'laws.FnDrop': WHATEVER THE INPUT: true; the input reads as it did. -/
def fnDropSpec : ChangeSpec := { name := "fnDrop", fn := fun _ => fun
  | [d] => { results := [.lit (.bool true)], args := [d] }
  | _ => none }
def fnDropRow : OpenClaim := { program := "ytagcakhpjjbilaa", sum := "6ca80d3486ea49c67b759c18a43148f9a3d6a52553123bdbec4505f32bec7cae", func := "loop.example/closingsticks/laws.FnDrop", spec := "fnDrop", recurses := true, apart := false }
def FnDropSaid : Prop := fnDropRow.holds Try.pinned (OpenSpec.ofChange fnDropSpec)

/-- ITS FALSE NEIGHBOUR: 'it returns false'. Refute it at one input. -/
def fnDropWrong : ChangeSpec := { name := "fnDrop", fn := fun _ => fun
  | [d] => { results := [.lit (.bool false)], args := [d] }
  | _ => none }
def FnDropWrongFalsely : Prop := fnDropRow.holds Try.pinned (OpenSpec.ofChange fnDropWrong)

/-- 'laws.FnPut': WHATEVER THE INPUT: true; the input reads as it did. -/
def fnPutSpec : ChangeSpec := { name := "fnPut", fn := fun _ => fun
  | [d] => { results := [.lit (.bool true)], args := [d] }
  | _ => none }
def fnPutRow : OpenClaim := { program := "ytagcakhpjjbilaa", sum := "6ca80d3486ea49c67b759c18a43148f9a3d6a52553123bdbec4505f32bec7cae", func := "loop.example/closingsticks/laws.FnPut", spec := "fnPut", unfollowed := true, recurses := true, apart := false }
def FnPutSaid : Prop := fnPutRow.holds Try.pinned (OpenSpec.ofChange fnPutSpec)

/-- ITS FALSE NEIGHBOUR: 'it returns false'. Refute it at one input. -/
def fnPutWrong : ChangeSpec := { name := "fnPut", fn := fun _ => fun
  | [d] => { results := [.lit (.bool false)], args := [d] }
  | _ => none }
def FnPutWrongFalsely : Prop := fnPutRow.holds Try.pinned (OpenSpec.ofChange fnPutWrong)

/-- 'laws.FnExactStickDrop': WHATEVER THE INPUT: true; the input reads as it did. -/
def fnExactStickDropSpec : ChangeSpec := { name := "fnExactStickDrop", fn := fun _ => fun
  | [d1, d2] => { results := [.lit (.bool true)], args := [d1, d2] }
  | _ => none }
def fnExactStickDropRow : OpenClaim := { program := "ytagcakhpjjbilaa", sum := "6ca80d3486ea49c67b759c18a43148f9a3d6a52553123bdbec4505f32bec7cae", func := "loop.example/closingsticks/laws.FnExactStickDrop", spec := "fnExactStickDrop", apart := false }
def FnExactStickDropSaid : Prop := fnExactStickDropRow.holds Try.pinned (OpenSpec.ofChange fnExactStickDropSpec)

/-- ITS FALSE NEIGHBOUR: 'it returns false'. Refute it at one input. -/
def fnExactStickDropWrong : ChangeSpec := { name := "fnExactStickDrop", fn := fun _ => fun
  | [d1, d2] => { results := [.lit (.bool false)], args := [d1, d2] }
  | _ => none }
def FnExactStickDropWrongFalsely : Prop := fnExactStickDropRow.holds Try.pinned (OpenSpec.ofChange fnExactStickDropWrong)

/-- 'laws.FnMany': WHATEVER THE INPUT: true; the input reads as it did. -/
def fnManySpec : ChangeSpec := { name := "fnMany", fn := fun _ => fun
  | [d] => { results := [.lit (.bool true)], args := [d] }
  | _ => none }
def fnManyRow : OpenClaim := { program := "ytagcakhpjjbilaa", sum := "6ca80d3486ea49c67b759c18a43148f9a3d6a52553123bdbec4505f32bec7cae", func := "loop.example/closingsticks/laws.FnMany", spec := "fnMany", unfollowed := true, recurses := true, apart := false }
def FnManySaid : Prop := fnManyRow.holds Try.pinned (OpenSpec.ofChange fnManySpec)

/-- ITS FALSE NEIGHBOUR: 'it returns false'. Refute it at one input. -/
def fnManyWrong : ChangeSpec := { name := "fnMany", fn := fun _ => fun
  | [d] => { results := [.lit (.bool false)], args := [d] }
  | _ => none }
def FnManyWrongFalsely : Prop := fnManyRow.holds Try.pinned (OpenSpec.ofChange fnManyWrong)

/-- 'laws.FnExactStickSort': WHATEVER THE INPUT: true; the input reads as it did. -/
def fnExactStickSortSpec : ChangeSpec := { name := "fnExactStickSort", fn := fun _ => fun
  | [d] => { results := [.lit (.bool true)], args := [d] }
  | _ => none }
def fnExactStickSortRow : OpenClaim := { program := "ytagcakhpjjbilaa", sum := "6ca80d3486ea49c67b759c18a43148f9a3d6a52553123bdbec4505f32bec7cae", func := "loop.example/closingsticks/laws.FnExactStickSort", spec := "fnExactStickSort", recurses := true, apart := false }
def FnExactStickSortSaid : Prop := fnExactStickSortRow.holds Try.pinned (OpenSpec.ofChange fnExactStickSortSpec)

/-- ITS FALSE NEIGHBOUR: 'it returns false'. Refute it at one input. -/
def fnExactStickSortWrong : ChangeSpec := { name := "fnExactStickSort", fn := fun _ => fun
  | [d] => { results := [.lit (.bool false)], args := [d] }
  | _ => none }
def FnExactStickSortWrongFalsely : Prop := fnExactStickSortRow.holds Try.pinned (OpenSpec.ofChange fnExactStickSortWrong)

/-- 'laws.FnExactStickPut': WHATEVER THE INPUT: true; the input reads as it did. -/
def fnExactStickPutSpec : ChangeSpec := { name := "fnExactStickPut", fn := fun _ => fun
  | [d1, d2] => { results := [.lit (.bool true)], args := [d1, d2] }
  | _ => none }
def fnExactStickPutRow : OpenClaim := { program := "ytagcakhpjjbilaa", sum := "6ca80d3486ea49c67b759c18a43148f9a3d6a52553123bdbec4505f32bec7cae", func := "loop.example/closingsticks/laws.FnExactStickPut", spec := "fnExactStickPut", recurses := true, apart := false }
def FnExactStickPutSaid : Prop := fnExactStickPutRow.holds Try.pinned (OpenSpec.ofChange fnExactStickPutSpec)

/-- ITS FALSE NEIGHBOUR: 'it returns false'. Refute it at one input. -/
def fnExactStickPutWrong : ChangeSpec := { name := "fnExactStickPut", fn := fun _ => fun
  | [d1, d2] => { results := [.lit (.bool false)], args := [d1, d2] }
  | _ => none }
def FnExactStickPutWrongFalsely : Prop := fnExactStickPutRow.holds Try.pinned (OpenSpec.ofChange fnExactStickPutWrong)

/-- 'laws.FnBundle': WHATEVER THE INPUT: true; the input reads as it did. -/
def fnBundleSpec : ChangeSpec := { name := "fnBundle", fn := fun _ => fun
  | [d] => { results := [.lit (.bool true)], args := [d] }
  | _ => none }
def fnBundleRow : OpenClaim := { program := "ytagcakhpjjbilaa", sum := "6ca80d3486ea49c67b759c18a43148f9a3d6a52553123bdbec4505f32bec7cae", func := "loop.example/closingsticks/laws.FnBundle", spec := "fnBundle", recurses := true, apart := false }
def FnBundleSaid : Prop := fnBundleRow.holds Try.pinned (OpenSpec.ofChange fnBundleSpec)

/-- ITS FALSE NEIGHBOUR: 'it returns false'. Refute it at one input. -/
def fnBundleWrong : ChangeSpec := { name := "fnBundle", fn := fun _ => fun
  | [d] => { results := [.lit (.bool false)], args := [d] }
  | _ => none }
def FnBundleWrongFalsely : Prop := fnBundleRow.holds Try.pinned (OpenSpec.ofChange fnBundleWrong)

/- THE SECOND FORM. 'bulk': how many values and letters a reading holds, each counted each time it is reached (what is shared counts as often as it is met; a slice's spare places count too). A statement '..UptoSaid' is the law's where the arguments, and the package variables that the reading takes, are together of bulk at most 1048576: NARROWER than '..Said'. Prove '..Said' where nothing that the law and all that it calls make is longer than what came in: it says more and counts as full. Else prove '..UptoSaid'. A law counts once. -/
mutual
def uptoBulk {H : Type} : DataW H → Nat
  | .lit (.string bytes) => bytes.length + 1
  | .lit _ => 1
  | .nil => 1
  | .ptr d => uptoBulk d + 1
  | .slice elems spare => uptoBulkAll elems + uptoBulkAll spare + 1
  | .agg parts => uptoBulkAll parts + 1
  | .iface _ d => uptoBulk d + 1
  | .map entries => uptoBulkEntries entries + 1
  | .held _ => 1
def uptoBulkAll {H : Type} : List (DataW H) → Nat
  | [] => 0
  | d :: r => uptoBulk d + uptoBulkAll r
def uptoBulkEntries {H : Type} : List (Lit × DataW H) → Nat
  | [] => 0
  | x :: r => uptoBulkEntry x + uptoBulkEntries r
def uptoBulkEntry {H : Type} : Lit × DataW H → Nat
  | (.string bytes, d) => bytes.length + uptoBulk d + 1
  | (_, d) => uptoBulk d + 1
 end
def uptoSmall : (H : Type) → List (DataW H) → Bool := fun _ ds => decide (uptoBulkAll ds ≤ 1048576)
def OpenSpec.upto (s : _root_.Go.ChangeSpec) : _root_.Go.OpenSpec := { _root_.Go.OpenSpec.ofChange s with cond := some uptoSmall }

/-- 'laws.FnSort', WHERE WHAT IT READS IS OF BULK AT MOST 1048576: true; the input reads as it did. -/
def fnSortUptoRow : OpenClaim := { program := "ytagcakhpjjbilaa", sum := "6ca80d3486ea49c67b759c18a43148f9a3d6a52553123bdbec4505f32bec7cae", func := "loop.example/closingsticks/laws.FnSort", spec := "fnSort", recurses := true, apart := false, narrowed := true }
def FnSortUptoSaid : Prop := fnSortUptoRow.holds Try.pinned (OpenSpec.upto fnSortSpec)

/-- 'laws.FnDrop', WHERE WHAT IT READS IS OF BULK AT MOST 1048576: true; the input reads as it did. -/
def fnDropUptoRow : OpenClaim := { program := "ytagcakhpjjbilaa", sum := "6ca80d3486ea49c67b759c18a43148f9a3d6a52553123bdbec4505f32bec7cae", func := "loop.example/closingsticks/laws.FnDrop", spec := "fnDrop", recurses := true, apart := false, narrowed := true }
def FnDropUptoSaid : Prop := fnDropUptoRow.holds Try.pinned (OpenSpec.upto fnDropSpec)

/-- 'laws.FnPut', WHERE WHAT IT READS IS OF BULK AT MOST 1048576: true; the input reads as it did. -/
def fnPutUptoRow : OpenClaim := { program := "ytagcakhpjjbilaa", sum := "6ca80d3486ea49c67b759c18a43148f9a3d6a52553123bdbec4505f32bec7cae", func := "loop.example/closingsticks/laws.FnPut", spec := "fnPut", unfollowed := true, recurses := true, apart := false, narrowed := true }
def FnPutUptoSaid : Prop := fnPutUptoRow.holds Try.pinned (OpenSpec.upto fnPutSpec)

/-- 'laws.FnExactStickDrop', WHERE WHAT IT READS IS OF BULK AT MOST 1048576: true; the input reads as it did. -/
def fnExactStickDropUptoRow : OpenClaim := { program := "ytagcakhpjjbilaa", sum := "6ca80d3486ea49c67b759c18a43148f9a3d6a52553123bdbec4505f32bec7cae", func := "loop.example/closingsticks/laws.FnExactStickDrop", spec := "fnExactStickDrop", apart := false, narrowed := true }
def FnExactStickDropUptoSaid : Prop := fnExactStickDropUptoRow.holds Try.pinned (OpenSpec.upto fnExactStickDropSpec)

/-- 'laws.FnMany', WHERE WHAT IT READS IS OF BULK AT MOST 1048576: true; the input reads as it did. -/
def fnManyUptoRow : OpenClaim := { program := "ytagcakhpjjbilaa", sum := "6ca80d3486ea49c67b759c18a43148f9a3d6a52553123bdbec4505f32bec7cae", func := "loop.example/closingsticks/laws.FnMany", spec := "fnMany", unfollowed := true, recurses := true, apart := false, narrowed := true }
def FnManyUptoSaid : Prop := fnManyUptoRow.holds Try.pinned (OpenSpec.upto fnManySpec)

/-- 'laws.FnExactStickSort', WHERE WHAT IT READS IS OF BULK AT MOST 1048576: true; the input reads as it did. -/
def fnExactStickSortUptoRow : OpenClaim := { program := "ytagcakhpjjbilaa", sum := "6ca80d3486ea49c67b759c18a43148f9a3d6a52553123bdbec4505f32bec7cae", func := "loop.example/closingsticks/laws.FnExactStickSort", spec := "fnExactStickSort", recurses := true, apart := false, narrowed := true }
def FnExactStickSortUptoSaid : Prop := fnExactStickSortUptoRow.holds Try.pinned (OpenSpec.upto fnExactStickSortSpec)

/-- 'laws.FnExactStickPut', WHERE WHAT IT READS IS OF BULK AT MOST 1048576: true; the input reads as it did. -/
def fnExactStickPutUptoRow : OpenClaim := { program := "ytagcakhpjjbilaa", sum := "6ca80d3486ea49c67b759c18a43148f9a3d6a52553123bdbec4505f32bec7cae", func := "loop.example/closingsticks/laws.FnExactStickPut", spec := "fnExactStickPut", recurses := true, apart := false, narrowed := true }
def FnExactStickPutUptoSaid : Prop := fnExactStickPutUptoRow.holds Try.pinned (OpenSpec.upto fnExactStickPutSpec)

/-- 'laws.FnBundle', WHERE WHAT IT READS IS OF BULK AT MOST 1048576: true; the input reads as it did. -/
def fnBundleUptoRow : OpenClaim := { program := "ytagcakhpjjbilaa", sum := "6ca80d3486ea49c67b759c18a43148f9a3d6a52553123bdbec4505f32bec7cae", func := "loop.example/closingsticks/laws.FnBundle", spec := "fnBundle", recurses := true, apart := false, narrowed := true }
def FnBundleUptoSaid : Prop := fnBundleUptoRow.holds Try.pinned (OpenSpec.upto fnBundleSpec)

end Rows
end Go.Proofs.Ytagcakhpjjbilaa
