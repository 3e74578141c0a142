/-
  No cell of these rows narrows 'for every input' (looked for: loops, veiled, ifaces, maps, wideKeys, modest, calm, conditions, laid).
  DERIVED. THE GIVEN ROWS OF THIS SEAT. 12 by the template 'for every input the law returns true; each argument reads behind the call as it read before'; 0 by the template 'total and deterministic' (their statements: YtbcacnofgmcdcaaTotals.lean).
  GIVEN WITH THE SEED: the statements are not yours to turn. If you find one false, say at which input.
  Laid BY PROGRAM, IN A SANDBOX (cutbox-rows.mjs): the forced cells as the released guide's own fill.sh prints them over the translation 12ab8e7426640432… (all of the seat's roots in one cut). By AI agents, Wed Nov 11 2026. No macro, syntax, notation, axiom, sorry.
-/
import Derived.Test.YtbcacnofgmcdcaaChecked
import GoSem.Claim
import GoSem.ClaimJoined
import GoSem.ClaimMapViews
import Derived.JoinedTies
import Derived.KernelRfl
namespace Go.Proofs.Ytbcacnofgmcdcaa
/- THE CELL 'sum', in the pinned program and in every row, IS THE sha256 OF THE DUMP (.gsa) THAT YtbcacnofgmcdcaaProg.lean LOADS. Nothing in Lean hashes anything: it is a label: what it is worth is what the hold of that sum in a sandbox is worth. -/
noncomputable def Try.pinned : Pinned := { name := "ytbcacnofgmcdcaa", sum := "12ab8e7426640432caa7113faa88b7a93692087286c9da582865c7c84ad0b09c", checked := Try.checked }
namespace Rows
def none {H : Type} : Left H := { results := [], args := [] }

/-- 'laws.FnExactPolyShares': WHATEVER THE INPUT: true; the input reads as it did. -/
def fnExactPolySharesSpec : ChangeSpec := { name := "fnExactPolyShares", fn := fun _ => fun
  | [d1, d2] => { results := [.lit (.bool true)], args := [d1, d2] }
  | _ => none }
def fnExactPolySharesRow : OpenClaim := { program := "ytbcacnofgmcdcaa", sum := "12ab8e7426640432caa7113faa88b7a93692087286c9da582865c7c84ad0b09c", func := "loop.example/closingsticks/laws.FnExactPolyShares", spec := "fnExactPolyShares", unfollowed := true, recurses := true, apart := false }
def FnExactPolySharesSaid : Prop := fnExactPolySharesRow.holds Try.pinned (OpenSpec.ofChange fnExactPolySharesSpec)

/-- ITS FALSE NEIGHBOUR: 'it returns false'. Refute it at one input. -/
def fnExactPolySharesWrong : ChangeSpec := { name := "fnExactPolyShares", fn := fun _ => fun
  | [d1, d2] => { results := [.lit (.bool false)], args := [d1, d2] }
  | _ => none }
def FnExactPolySharesWrongFalsely : Prop := fnExactPolySharesRow.holds Try.pinned (OpenSpec.ofChange fnExactPolySharesWrong)

/-- 'laws.FnExactPolyRest': WHATEVER THE INPUT: true; the input reads as it did. -/
def fnExactPolyRestSpec : ChangeSpec := { name := "fnExactPolyRest", fn := fun _ => fun
  | [d1, d2] => { results := [.lit (.bool true)], args := [d1, d2] }
  | _ => none }
def fnExactPolyRestRow : OpenClaim := { program := "ytbcacnofgmcdcaa", sum := "12ab8e7426640432caa7113faa88b7a93692087286c9da582865c7c84ad0b09c", func := "loop.example/closingsticks/laws.FnExactPolyRest", spec := "fnExactPolyRest", unfollowed := true, recurses := true, apart := false }
def FnExactPolyRestSaid : Prop := fnExactPolyRestRow.holds Try.pinned (OpenSpec.ofChange fnExactPolyRestSpec)

/-- ITS FALSE NEIGHBOUR: 'it returns false'. Refute it at one input. -/
def fnExactPolyRestWrong : ChangeSpec := { name := "fnExactPolyRest", fn := fun _ => fun
  | [d1, d2] => { results := [.lit (.bool false)], args := [d1, d2] }
  | _ => none }
def FnExactPolyRestWrongFalsely : Prop := fnExactPolyRestRow.holds Try.pinned (OpenSpec.ofChange fnExactPolyRestWrong)

/-- 'laws.FnPolyShares': WHATEVER THE INPUT: true; the input reads as it did. -/
def fnPolySharesSpec : ChangeSpec := { name := "fnPolyShares", fn := fun _ => fun
  | [d] => { results := [.lit (.bool true)], args := [d] }
  | _ => none }
def fnPolySharesRow : OpenClaim := { program := "ytbcacnofgmcdcaa", sum := "12ab8e7426640432caa7113faa88b7a93692087286c9da582865c7c84ad0b09c", func := "loop.example/closingsticks/laws.FnPolyShares", spec := "fnPolyShares", unfollowed := true, recurses := true, apart := false }
def FnPolySharesSaid : Prop := fnPolySharesRow.holds Try.pinned (OpenSpec.ofChange fnPolySharesSpec)

/-- ITS FALSE NEIGHBOUR: 'it returns false'. Refute it at one input. -/
def fnPolySharesWrong : ChangeSpec := { name := "fnPolyShares", fn := fun _ => fun
  | [d] => { results := [.lit (.bool false)], args := [d] }
  | _ => none }
def FnPolySharesWrongFalsely : Prop := fnPolySharesRow.holds Try.pinned (OpenSpec.ofChange fnPolySharesWrong)

/-- 'laws.FnExactStickWidest': WHATEVER THE INPUT: true; the input reads as it did. -/
def fnExactStickWidestSpec : ChangeSpec := { name := "fnExactStickWidest", fn := fun _ => fun
  | [d] => { results := [.lit (.bool true)], args := [d] }
  | _ => none }
def fnExactStickWidestRow : OpenClaim := { program := "ytbcacnofgmcdcaa", sum := "12ab8e7426640432caa7113faa88b7a93692087286c9da582865c7c84ad0b09c", func := "loop.example/closingsticks/laws.FnExactStickWidest", spec := "fnExactStickWidest", unfollowed := true, recurses := true, apart := false }
def FnExactStickWidestSaid : Prop := fnExactStickWidestRow.holds Try.pinned (OpenSpec.ofChange fnExactStickWidestSpec)

/-- ITS FALSE NEIGHBOUR: 'it returns false'. Refute it at one input. -/
def fnExactStickWidestWrong : ChangeSpec := { name := "fnExactStickWidest", fn := fun _ => fun
  | [d] => { results := [.lit (.bool false)], args := [d] }
  | _ => none }
def FnExactStickWidestWrongFalsely : Prop := fnExactStickWidestRow.holds Try.pinned (OpenSpec.ofChange fnExactStickWidestWrong)

/-- 'laws.FnExactStickMany': WHATEVER THE INPUT: true; the input reads as it did. -/
def fnExactStickManySpec : ChangeSpec := { name := "fnExactStickMany", fn := fun _ => fun
  | [d] => { results := [.lit (.bool true)], args := [d] }
  | _ => none }
def fnExactStickManyRow : OpenClaim := { program := "ytbcacnofgmcdcaa", sum := "12ab8e7426640432caa7113faa88b7a93692087286c9da582865c7c84ad0b09c", func := "loop.example/closingsticks/laws.FnExactStickMany", spec := "fnExactStickMany", unfollowed := true, recurses := true, apart := false }
def FnExactStickManySaid : Prop := fnExactStickManyRow.holds Try.pinned (OpenSpec.ofChange fnExactStickManySpec)

/-- ITS FALSE NEIGHBOUR: 'it returns false'. Refute it at one input. -/
def fnExactStickManyWrong : ChangeSpec := { name := "fnExactStickMany", fn := fun _ => fun
  | [d] => { results := [.lit (.bool false)], args := [d] }
  | _ => none }
def FnExactStickManyWrongFalsely : Prop := fnExactStickManyRow.holds Try.pinned (OpenSpec.ofChange fnExactStickManyWrong)

/-- 'laws.FnExactStickFree': WHATEVER THE INPUT: true; the input reads as it did. -/
def fnExactStickFreeSpec : ChangeSpec := { name := "fnExactStickFree", fn := fun _ => fun
  | [d] => { results := [.lit (.bool true)], args := [d] }
  | _ => none }
def fnExactStickFreeRow : OpenClaim := { program := "ytbcacnofgmcdcaa", sum := "12ab8e7426640432caa7113faa88b7a93692087286c9da582865c7c84ad0b09c", func := "loop.example/closingsticks/laws.FnExactStickFree", spec := "fnExactStickFree", unfollowed := true, recurses := true, apart := false }
def FnExactStickFreeSaid : Prop := fnExactStickFreeRow.holds Try.pinned (OpenSpec.ofChange fnExactStickFreeSpec)

/-- ITS FALSE NEIGHBOUR: 'it returns false'. Refute it at one input. -/
def fnExactStickFreeWrong : ChangeSpec := { name := "fnExactStickFree", fn := fun _ => fun
  | [d] => { results := [.lit (.bool false)], args := [d] }
  | _ => none }
def FnExactStickFreeWrongFalsely : Prop := fnExactStickFreeRow.holds Try.pinned (OpenSpec.ofChange fnExactStickFreeWrong)

/-- 'laws.FnLongFree': WHATEVER THE INPUT: true; the input reads as it did. -/
def fnLongFreeSpec : ChangeSpec := { name := "fnLongFree", fn := fun _ => fun
  | [d] => { results := [.lit (.bool true)], args := [d] }
  | _ => none }
def fnLongFreeRow : OpenClaim := { program := "ytbcacnofgmcdcaa", sum := "12ab8e7426640432caa7113faa88b7a93692087286c9da582865c7c84ad0b09c", func := "loop.example/closingsticks/laws.FnLongFree", spec := "fnLongFree", unfollowed := true, recurses := true, apart := false }
def FnLongFreeSaid : Prop := fnLongFreeRow.holds Try.pinned (OpenSpec.ofChange fnLongFreeSpec)

/-- ITS FALSE NEIGHBOUR: 'it returns false'. Refute it at one input. -/
def fnLongFreeWrong : ChangeSpec := { name := "fnLongFree", fn := fun _ => fun
  | [d] => { results := [.lit (.bool false)], args := [d] }
  | _ => none }
def FnLongFreeWrongFalsely : Prop := fnLongFreeRow.holds Try.pinned (OpenSpec.ofChange fnLongFreeWrong)

/-- 'laws.FnExactStickTryFree': WHATEVER THE INPUT: true; the input reads as it did. -/
def fnExactStickTryFreeSpec : ChangeSpec := { name := "fnExactStickTryFree", fn := fun _ => fun
  | [d] => { results := [.lit (.bool true)], args := [d] }
  | _ => none }
def fnExactStickTryFreeRow : OpenClaim := { program := "ytbcacnofgmcdcaa", sum := "12ab8e7426640432caa7113faa88b7a93692087286c9da582865c7c84ad0b09c", func := "loop.example/closingsticks/laws.FnExactStickTryFree", spec := "fnExactStickTryFree", unfollowed := true, recurses := true, apart := false }
def FnExactStickTryFreeSaid : Prop := fnExactStickTryFreeRow.holds Try.pinned (OpenSpec.ofChange fnExactStickTryFreeSpec)

/-- ITS FALSE NEIGHBOUR: 'it returns false'. Refute it at one input. -/
def fnExactStickTryFreeWrong : ChangeSpec := { name := "fnExactStickTryFree", fn := fun _ => fun
  | [d] => { results := [.lit (.bool false)], args := [d] }
  | _ => none }
def FnExactStickTryFreeWrongFalsely : Prop := fnExactStickTryFreeRow.holds Try.pinned (OpenSpec.ofChange fnExactStickTryFreeWrong)

/-- 'laws.FnWidest': WHATEVER THE INPUT: true; the input reads as it did. -/
def fnWidestSpec : ChangeSpec := { name := "fnWidest", fn := fun _ => fun
  | [d] => { results := [.lit (.bool true)], args := [d] }
  | _ => none }
def fnWidestRow : OpenClaim := { program := "ytbcacnofgmcdcaa", sum := "12ab8e7426640432caa7113faa88b7a93692087286c9da582865c7c84ad0b09c", func := "loop.example/closingsticks/laws.FnWidest", spec := "fnWidest", unfollowed := true, recurses := true, apart := false }
def FnWidestSaid : Prop := fnWidestRow.holds Try.pinned (OpenSpec.ofChange fnWidestSpec)

/-- ITS FALSE NEIGHBOUR: 'it returns false'. Refute it at one input. -/
def fnWidestWrong : ChangeSpec := { name := "fnWidest", fn := fun _ => fun
  | [d] => { results := [.lit (.bool false)], args := [d] }
  | _ => none }
def FnWidestWrongFalsely : Prop := fnWidestRow.holds Try.pinned (OpenSpec.ofChange fnWidestWrong)

/-- 'laws.FnFreeOr': WHATEVER THE INPUT: true; the input reads as it did. -/
def fnFreeOrSpec : ChangeSpec := { name := "fnFreeOr", fn := fun _ => fun
  | [d] => { results := [.lit (.bool true)], args := [d] }
  | _ => none }
def fnFreeOrRow : OpenClaim := { program := "ytbcacnofgmcdcaa", sum := "12ab8e7426640432caa7113faa88b7a93692087286c9da582865c7c84ad0b09c", func := "loop.example/closingsticks/laws.FnFreeOr", spec := "fnFreeOr", unfollowed := true, recurses := true, apart := false }
def FnFreeOrSaid : Prop := fnFreeOrRow.holds Try.pinned (OpenSpec.ofChange fnFreeOrSpec)

/-- ITS FALSE NEIGHBOUR: 'it returns false'. Refute it at one input. -/
def fnFreeOrWrong : ChangeSpec := { name := "fnFreeOr", fn := fun _ => fun
  | [d] => { results := [.lit (.bool false)], args := [d] }
  | _ => none }
def FnFreeOrWrongFalsely : Prop := fnFreeOrRow.holds Try.pinned (OpenSpec.ofChange fnFreeOrWrong)

/-- 'laws.FnFree': WHATEVER THE INPUT: true; the input reads as it did. -/
def fnFreeSpec : ChangeSpec := { name := "fnFree", fn := fun _ => fun
  | [d] => { results := [.lit (.bool true)], args := [d] }
  | _ => none }
def fnFreeRow : OpenClaim := { program := "ytbcacnofgmcdcaa", sum := "12ab8e7426640432caa7113faa88b7a93692087286c9da582865c7c84ad0b09c", func := "loop.example/closingsticks/laws.FnFree", spec := "fnFree", unfollowed := true, recurses := true, apart := false }
def FnFreeSaid : Prop := fnFreeRow.holds Try.pinned (OpenSpec.ofChange fnFreeSpec)

/-- ITS FALSE NEIGHBOUR: 'it returns false'. Refute it at one input. -/
def fnFreeWrong : ChangeSpec := { name := "fnFree", fn := fun _ => fun
  | [d] => { results := [.lit (.bool false)], args := [d] }
  | _ => none }
def FnFreeWrongFalsely : Prop := fnFreeRow.holds Try.pinned (OpenSpec.ofChange fnFreeWrong)

/-- 'laws.FnTryFree': WHATEVER THE INPUT: true; the input reads as it did. -/
def fnTryFreeSpec : ChangeSpec := { name := "fnTryFree", fn := fun _ => fun
  | [d] => { results := [.lit (.bool true)], args := [d] }
  | _ => none }
def fnTryFreeRow : OpenClaim := { program := "ytbcacnofgmcdcaa", sum := "12ab8e7426640432caa7113faa88b7a93692087286c9da582865c7c84ad0b09c", func := "loop.example/closingsticks/laws.FnTryFree", spec := "fnTryFree", unfollowed := true, recurses := true, apart := false }
def FnTryFreeSaid : Prop := fnTryFreeRow.holds Try.pinned (OpenSpec.ofChange fnTryFreeSpec)

/-- ITS FALSE NEIGHBOUR: 'it returns false'. Refute it at one input. -/
def fnTryFreeWrong : ChangeSpec := { name := "fnTryFree", fn := fun _ => fun
  | [d] => { results := [.lit (.bool false)], args := [d] }
  | _ => none }
def FnTryFreeWrongFalsely : Prop := fnTryFreeRow.holds Try.pinned (OpenSpec.ofChange fnTryFreeWrong)

/- THE SECOND FORM. 'bulk': how many values and letters a reading holds, each counted each time it is reached (what is shared counts as often as it is met; a slice's spare places count too). A statement '..UptoSaid' is the law's where the arguments, and the package variables that the reading takes, are together of bulk at most 1048576: NARROWER than '..Said'. Prove '..Said' where nothing that the law and all that it calls make is longer than what came in: it says more and counts as full. Else prove '..UptoSaid'. A law counts once. -/
mutual
def uptoBulk {H : Type} : DataW H → Nat
  | .lit (.string bytes) => bytes.length + 1
  | .lit _ => 1
  | .nil => 1
  | .ptr d => uptoBulk d + 1
  | .slice elems spare => uptoBulkAll elems + uptoBulkAll spare + 1
  | .agg parts => uptoBulkAll parts + 1
  | .iface _ d => uptoBulk d + 1
  | .map entries => uptoBulkEntries entries + 1
  | .held _ => 1
def uptoBulkAll {H : Type} : List (DataW H) → Nat
  | [] => 0
  | d :: r => uptoBulk d + uptoBulkAll r
def uptoBulkEntries {H : Type} : List (Lit × DataW H) → Nat
  | [] => 0
  | x :: r => uptoBulkEntry x + uptoBulkEntries r
def uptoBulkEntry {H : Type} : Lit × DataW H → Nat
  | (.string bytes, d) => bytes.length + uptoBulk d + 1
  | (_, d) => uptoBulk d + 1
 end
def uptoSmall : (H : Type) → List (DataW H) → Bool := fun _ ds => decide (uptoBulkAll ds ≤ 1048576)
def OpenSpec.upto (s : _root_.Go.ChangeSpec) : _root_.Go.OpenSpec := { _root_.Go.OpenSpec.ofChange s with cond := some uptoSmall }

/-- 'laws.FnExactPolyShares', WHERE WHAT IT READS IS OF BULK AT MOST 1048576: true; the input reads as it did. -/
def fnExactPolySharesUptoRow : OpenClaim := { program := "ytbcacnofgmcdcaa", sum := "12ab8e7426640432caa7113faa88b7a93692087286c9da582865c7c84ad0b09c", func := "loop.example/closingsticks/laws.FnExactPolyShares", spec := "fnExactPolyShares", unfollowed := true, recurses := true, apart := false, narrowed := true }
def FnExactPolySharesUptoSaid : Prop := fnExactPolySharesUptoRow.holds Try.pinned (OpenSpec.upto fnExactPolySharesSpec)

/-- 'laws.FnExactPolyRest', WHERE WHAT IT READS IS OF BULK AT MOST 1048576: true; the input reads as it did. -/
def fnExactPolyRestUptoRow : OpenClaim := { program := "ytbcacnofgmcdcaa", sum := "12ab8e7426640432caa7113faa88b7a93692087286c9da582865c7c84ad0b09c", func := "loop.example/closingsticks/laws.FnExactPolyRest", spec := "fnExactPolyRest", unfollowed := true, recurses := true, apart := false, narrowed := true }
def FnExactPolyRestUptoSaid : Prop := fnExactPolyRestUptoRow.holds Try.pinned (OpenSpec.upto fnExactPolyRestSpec)

/-- 'laws.FnPolyShares', WHERE WHAT IT READS IS OF BULK AT MOST 1048576: true; the input reads as it did. -/
def fnPolySharesUptoRow : OpenClaim := { program := "ytbcacnofgmcdcaa", sum := "12ab8e7426640432caa7113faa88b7a93692087286c9da582865c7c84ad0b09c", func := "loop.example/closingsticks/laws.FnPolyShares", spec := "fnPolyShares", unfollowed := true, recurses := true, apart := false, narrowed := true }
def FnPolySharesUptoSaid : Prop := fnPolySharesUptoRow.holds Try.pinned (OpenSpec.upto fnPolySharesSpec)

/-- 'laws.FnExactStickWidest', WHERE WHAT IT READS IS OF BULK AT MOST 1048576: true; the input reads as it did. -/
def fnExactStickWidestUptoRow : OpenClaim := { program := "ytbcacnofgmcdcaa", sum := "12ab8e7426640432caa7113faa88b7a93692087286c9da582865c7c84ad0b09c", func := "loop.example/closingsticks/laws.FnExactStickWidest", spec := "fnExactStickWidest", unfollowed := true, recurses := true, apart := false, narrowed := true }
def FnExactStickWidestUptoSaid : Prop := fnExactStickWidestUptoRow.holds Try.pinned (OpenSpec.upto fnExactStickWidestSpec)

/-- 'laws.FnExactStickMany', WHERE WHAT IT READS IS OF BULK AT MOST 1048576: true; the input reads as it did. -/
def fnExactStickManyUptoRow : OpenClaim := { program := "ytbcacnofgmcdcaa", sum := "12ab8e7426640432caa7113faa88b7a93692087286c9da582865c7c84ad0b09c", func := "loop.example/closingsticks/laws.FnExactStickMany", spec := "fnExactStickMany", unfollowed := true, recurses := true, apart := false, narrowed := true }
def FnExactStickManyUptoSaid : Prop := fnExactStickManyUptoRow.holds Try.pinned (OpenSpec.upto fnExactStickManySpec)

/-- 'laws.FnExactStickFree', WHERE WHAT IT READS IS OF BULK AT MOST 1048576: true; the input reads as it did. -/
def fnExactStickFreeUptoRow : OpenClaim := { program := "ytbcacnofgmcdcaa", sum := "12ab8e7426640432caa7113faa88b7a93692087286c9da582865c7c84ad0b09c", func := "loop.example/closingsticks/laws.FnExactStickFree", spec := "fnExactStickFree", unfollowed := true, recurses := true, apart := false, narrowed := true }
def FnExactStickFreeUptoSaid : Prop := fnExactStickFreeUptoRow.holds Try.pinned (OpenSpec.upto fnExactStickFreeSpec)

/-- 'laws.FnLongFree', WHERE WHAT IT READS IS OF BULK AT MOST 1048576: true; the input reads as it did. -/
def fnLongFreeUptoRow : OpenClaim := { program := "ytbcacnofgmcdcaa", sum := "12ab8e7426640432caa7113faa88b7a93692087286c9da582865c7c84ad0b09c", func := "loop.example/closingsticks/laws.FnLongFree", spec := "fnLongFree", unfollowed := true, recurses := true, apart := false, narrowed := true }
def FnLongFreeUptoSaid : Prop := fnLongFreeUptoRow.holds Try.pinned (OpenSpec.upto fnLongFreeSpec)

/-- 'laws.FnExactStickTryFree', WHERE WHAT IT READS IS OF BULK AT MOST 1048576: true; the input reads as it did. -/
def fnExactStickTryFreeUptoRow : OpenClaim := { program := "ytbcacnofgmcdcaa", sum := "12ab8e7426640432caa7113faa88b7a93692087286c9da582865c7c84ad0b09c", func := "loop.example/closingsticks/laws.FnExactStickTryFree", spec := "fnExactStickTryFree", unfollowed := true, recurses := true, apart := false, narrowed := true }
def FnExactStickTryFreeUptoSaid : Prop := fnExactStickTryFreeUptoRow.holds Try.pinned (OpenSpec.upto fnExactStickTryFreeSpec)

/-- 'laws.FnWidest', WHERE WHAT IT READS IS OF BULK AT MOST 1048576: true; the input reads as it did. -/
def fnWidestUptoRow : OpenClaim := { program := "ytbcacnofgmcdcaa", sum := "12ab8e7426640432caa7113faa88b7a93692087286c9da582865c7c84ad0b09c", func := "loop.example/closingsticks/laws.FnWidest", spec := "fnWidest", unfollowed := true, recurses := true, apart := false, narrowed := true }
def FnWidestUptoSaid : Prop := fnWidestUptoRow.holds Try.pinned (OpenSpec.upto fnWidestSpec)

/-- 'laws.FnFreeOr', WHERE WHAT IT READS IS OF BULK AT MOST 1048576: true; the input reads as it did. -/
def fnFreeOrUptoRow : OpenClaim := { program := "ytbcacnofgmcdcaa", sum := "12ab8e7426640432caa7113faa88b7a93692087286c9da582865c7c84ad0b09c", func := "loop.example/closingsticks/laws.FnFreeOr", spec := "fnFreeOr", unfollowed := true, recurses := true, apart := false, narrowed := true }
def FnFreeOrUptoSaid : Prop := fnFreeOrUptoRow.holds Try.pinned (OpenSpec.upto fnFreeOrSpec)

/-- 'laws.FnFree', WHERE WHAT IT READS IS OF BULK AT MOST 1048576: true; the input reads as it did. -/
def fnFreeUptoRow : OpenClaim := { program := "ytbcacnofgmcdcaa", sum := "12ab8e7426640432caa7113faa88b7a93692087286c9da582865c7c84ad0b09c", func := "loop.example/closingsticks/laws.FnFree", spec := "fnFree", unfollowed := true, recurses := true, apart := false, narrowed := true }
def FnFreeUptoSaid : Prop := fnFreeUptoRow.holds Try.pinned (OpenSpec.upto fnFreeSpec)

/-- 'laws.FnTryFree', WHERE WHAT IT READS IS OF BULK AT MOST 1048576: true; the input reads as it did. -/
def fnTryFreeUptoRow : OpenClaim := { program := "ytbcacnofgmcdcaa", sum := "12ab8e7426640432caa7113faa88b7a93692087286c9da582865c7c84ad0b09c", func := "loop.example/closingsticks/laws.FnTryFree", spec := "fnTryFree", unfollowed := true, recurses := true, apart := false, narrowed := true }
def FnTryFreeUptoSaid : Prop := fnTryFreeUptoRow.holds Try.pinned (OpenSpec.upto fnTryFreeSpec)

end Rows
end Go.Proofs.Ytbcacnofgmcdcaa
