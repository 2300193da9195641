/-
  No cell of these rows narrows 'for every input' (looked for: loops, veiled, ifaces, maps, wideKeys, modest, calm, conditions, laid).
  DERIVED. THE GIVEN ROWS OF THIS SEAT. 6 by the template 'for every input the law returns true; each argument reads behind the call as it read before'; 0 by the template 'total and deterministic' (their statements: YtpeobcginpcfeaaTotals.lean).
  GIVEN WITH THE SEED: the statements are not yours to turn. If you find one false, say at which input.
  Laid BY PROGRAM, IN A SANDBOX (cutbox-rows.mjs): the forced cells as the released guide's own fill.sh prints them over the translation 63f77c308cbca832… (all of the seat's roots in one cut). By AI agents, Wed Nov 11 2026. No macro, syntax, notation, axiom, sorry.
-/
import Derived.Test.YtpeobcginpcfeaaChecked
import GoSem.Claim
import GoSem.ClaimJoined
import GoSem.ClaimMapViews
import Derived.JoinedTies
import Derived.KernelRfl
namespace Go.Proofs.Ytpeobcginpcfeaa
/- THE CELL 'sum', in the pinned program and in every row, IS THE sha256 OF THE DUMP (.gsa) THAT YtpeobcginpcfeaaProg.lean LOADS. Nothing in Lean hashes anything: it is a label: what it is worth is what the hold of that sum in a sandbox is worth. -/
noncomputable def Try.pinned : Pinned := { name := "ytpeobcginpcfeaa", sum := "63f77c308cbca8321c34d37a07799f8ca722ddf987d2fd6d7afecf4c68e5029d", checked := Try.checked }
namespace Rows
def none {H : Type} : Left H := { results := [], args := [] }

/-- 'laws.FnExactGoodRemote': WHATEVER THE INPUT: true; the input reads as it did. -/
def fnExactGoodRemoteSpec : ChangeSpec := { name := "fnExactGoodRemote", fn := fun _ => fun
  | [d] => { results := [.lit (.bool true)], args := [d] }
  | _ => none }
def fnExactGoodRemoteRow : OpenClaim := { program := "ytpeobcginpcfeaa", sum := "63f77c308cbca8321c34d37a07799f8ca722ddf987d2fd6d7afecf4c68e5029d", func := "loop.example/g00039/laws.FnExactGoodRemote", spec := "fnExactGoodRemote", unfollowed := true, recurses := true, apart := false }
def FnExactGoodRemoteSaid : Prop := fnExactGoodRemoteRow.holds Try.pinned (OpenSpec.ofChange fnExactGoodRemoteSpec)

/-- ITS FALSE NEIGHBOUR: 'it returns false'. Refute it at one input. -/
def fnExactGoodRemoteWrong : ChangeSpec := { name := "fnExactGoodRemote", fn := fun _ => fun
  | [d] => { results := [.lit (.bool false)], args := [d] }
  | _ => none }
def FnExactGoodRemoteWrongFalsely : Prop := fnExactGoodRemoteRow.holds Try.pinned (OpenSpec.ofChange fnExactGoodRemoteWrong)

/-- 'laws.FnExactGoodConf': WHATEVER THE INPUT: true; the input reads as it did. -/
def fnExactGoodConfSpec : ChangeSpec := { name := "fnExactGoodConf", fn := fun _ => fun
  | [d] => { results := [.lit (.bool true)], args := [d] }
  | _ => none }
def fnExactGoodConfRow : OpenClaim := { program := "ytpeobcginpcfeaa", sum := "63f77c308cbca8321c34d37a07799f8ca722ddf987d2fd6d7afecf4c68e5029d", func := "loop.example/g00039/laws.FnExactGoodConf", spec := "fnExactGoodConf", apart := false }
def FnExactGoodConfSaid : Prop := fnExactGoodConfRow.holds Try.pinned (OpenSpec.ofChange fnExactGoodConfSpec)

/-- ITS FALSE NEIGHBOUR: 'it returns false'. Refute it at one input. -/
def fnExactGoodConfWrong : ChangeSpec := { name := "fnExactGoodConf", fn := fun _ => fun
  | [d] => { results := [.lit (.bool false)], args := [d] }
  | _ => none }
def FnExactGoodConfWrongFalsely : Prop := fnExactGoodConfRow.holds Try.pinned (OpenSpec.ofChange fnExactGoodConfWrong)

/-- 'laws.FnExactWidthOf': WHATEVER THE INPUT: true; the input reads as it did. -/
def fnExactWidthOfSpec : ChangeSpec := { name := "fnExactWidthOf", fn := fun _ => fun
  | [d1, d2] => { results := [.lit (.bool true)], args := [d1, d2] }
  | _ => none }
def fnExactWidthOfRow : OpenClaim := { program := "ytpeobcginpcfeaa", sum := "63f77c308cbca8321c34d37a07799f8ca722ddf987d2fd6d7afecf4c68e5029d", func := "loop.example/g00039/laws.FnExactWidthOf", spec := "fnExactWidthOf", apart := false }
def FnExactWidthOfSaid : Prop := fnExactWidthOfRow.holds Try.pinned (OpenSpec.ofChange fnExactWidthOfSpec)

/-- ITS FALSE NEIGHBOUR: 'it returns false'. Refute it at one input. -/
def fnExactWidthOfWrong : ChangeSpec := { name := "fnExactWidthOf", fn := fun _ => fun
  | [d1, d2] => { results := [.lit (.bool false)], args := [d1, d2] }
  | _ => none }
def FnExactWidthOfWrongFalsely : Prop := fnExactWidthOfRow.holds Try.pinned (OpenSpec.ofChange fnExactWidthOfWrong)

/-- 'laws.FnExactQuotient': WHATEVER THE INPUT: true; the input reads as it did. -/
def fnExactQuotientSpec : ChangeSpec := { name := "fnExactQuotient", fn := fun _ => fun
  | [d1, d2] => { results := [.lit (.bool true)], args := [d1, d2] }
  | _ => none }
def fnExactQuotientRow : OpenClaim := { program := "ytpeobcginpcfeaa", sum := "63f77c308cbca8321c34d37a07799f8ca722ddf987d2fd6d7afecf4c68e5029d", func := "loop.example/g00039/laws.FnExactQuotient", spec := "fnExactQuotient", apart := false }
def FnExactQuotientSaid : Prop := fnExactQuotientRow.holds Try.pinned (OpenSpec.ofChange fnExactQuotientSpec)

/-- ITS FALSE NEIGHBOUR: 'it returns false'. Refute it at one input. -/
def fnExactQuotientWrong : ChangeSpec := { name := "fnExactQuotient", fn := fun _ => fun
  | [d1, d2] => { results := [.lit (.bool false)], args := [d1, d2] }
  | _ => none }
def FnExactQuotientWrongFalsely : Prop := fnExactQuotientRow.holds Try.pinned (OpenSpec.ofChange fnExactQuotientWrong)

/-- 'laws.FnExactFunctions': WHATEVER THE INPUT: true; the input reads as it did. -/
def fnExactFunctionsSpec : ChangeSpec := { name := "fnExactFunctions", fn := fun _ => fun
  | [] => { results := [.lit (.bool true)], args := [] }
  | _ => none }
def fnExactFunctionsRow : OpenClaim := { program := "ytpeobcginpcfeaa", sum := "63f77c308cbca8321c34d37a07799f8ca722ddf987d2fd6d7afecf4c68e5029d", func := "loop.example/g00039/laws.FnExactFunctions", spec := "fnExactFunctions", apart := false }
def FnExactFunctionsSaid : Prop := fnExactFunctionsRow.holds Try.pinned (OpenSpec.ofChange fnExactFunctionsSpec)

/-- ITS FALSE NEIGHBOUR: 'it returns false'. Refute it at one input. -/
def fnExactFunctionsWrong : ChangeSpec := { name := "fnExactFunctions", fn := fun _ => fun
  | [] => { results := [.lit (.bool false)], args := [] }
  | _ => none }
def FnExactFunctionsWrongFalsely : Prop := fnExactFunctionsRow.holds Try.pinned (OpenSpec.ofChange fnExactFunctionsWrong)

/-- 'laws.FnExactMergeAgg': WHATEVER THE INPUT: true; the input reads as it did. -/
def fnExactMergeAggSpec : ChangeSpec := { name := "fnExactMergeAgg", fn := fun _ => fun
  | [d1, d2] => { results := [.lit (.bool true)], args := [d1, d2] }
  | _ => none }
def fnExactMergeAggRow : OpenClaim := { program := "ytpeobcginpcfeaa", sum := "63f77c308cbca8321c34d37a07799f8ca722ddf987d2fd6d7afecf4c68e5029d", func := "loop.example/g00039/laws.FnExactMergeAgg", spec := "fnExactMergeAgg", apart := false }
def FnExactMergeAggSaid : Prop := fnExactMergeAggRow.holds Try.pinned (OpenSpec.ofChange fnExactMergeAggSpec)

/-- ITS FALSE NEIGHBOUR: 'it returns false'. Refute it at one input. -/
def fnExactMergeAggWrong : ChangeSpec := { name := "fnExactMergeAgg", fn := fun _ => fun
  | [d1, d2] => { results := [.lit (.bool false)], args := [d1, d2] }
  | _ => none }
def FnExactMergeAggWrongFalsely : Prop := fnExactMergeAggRow.holds Try.pinned (OpenSpec.ofChange fnExactMergeAggWrong)

/- THE SECOND FORM. 'bulk': how many values and letters a reading holds, each counted each time it is reached (what is shared counts as often as it is met; a slice's spare places count too). A statement '..UptoSaid' is the law's where the arguments, and the package variables that the reading takes, are together of bulk at most 1048576: NARROWER than '..Said'. Prove '..Said' where nothing that the law and all that it calls make is longer than what came in: it says more and counts as full. Else prove '..UptoSaid'. A law counts once. -/
mutual
def uptoBulk {H : Type} : DataW H → Nat
  | .lit (.string bytes) => bytes.length + 1
  | .lit _ => 1
  | .nil => 1
  | .ptr d => uptoBulk d + 1
  | .slice elems spare => uptoBulkAll elems + uptoBulkAll spare + 1
  | .agg parts => uptoBulkAll parts + 1
  | .iface _ d => uptoBulk d + 1
  | .map entries => uptoBulkEntries entries + 1
  | .held _ => 1
def uptoBulkAll {H : Type} : List (DataW H) → Nat
  | [] => 0
  | d :: r => uptoBulk d + uptoBulkAll r
def uptoBulkEntries {H : Type} : List (Lit × DataW H) → Nat
  | [] => 0
  | x :: r => uptoBulkEntry x + uptoBulkEntries r
def uptoBulkEntry {H : Type} : Lit × DataW H → Nat
  | (.string bytes, d) => bytes.length + uptoBulk d + 1
  | (_, d) => uptoBulk d + 1
 end
def uptoSmall : (H : Type) → List (DataW H) → Bool := fun _ ds => decide (uptoBulkAll ds ≤ 1048576)
def OpenSpec.upto (s : _root_.Go.ChangeSpec) : _root_.Go.OpenSpec := { _root_.Go.OpenSpec.ofChange s with cond := some uptoSmall }

/-- 'laws.FnExactGoodRemote', WHERE WHAT IT READS IS OF BULK AT MOST 1048576: true; the input reads as it did. -/
def fnExactGoodRemoteUptoRow : OpenClaim := { program := "ytpeobcginpcfeaa", sum := "63f77c308cbca8321c34d37a07799f8ca722ddf987d2fd6d7afecf4c68e5029d", func := "loop.example/g00039/laws.FnExactGoodRemote", spec := "fnExactGoodRemote", unfollowed := true, recurses := true, apart := false, narrowed := true }
def FnExactGoodRemoteUptoSaid : Prop := fnExactGoodRemoteUptoRow.holds Try.pinned (OpenSpec.upto fnExactGoodRemoteSpec)

/-- 'laws.FnExactGoodConf', WHERE WHAT IT READS IS OF BULK AT MOST 1048576: true; the input reads as it did. -/
def fnExactGoodConfUptoRow : OpenClaim := { program := "ytpeobcginpcfeaa", sum := "63f77c308cbca8321c34d37a07799f8ca722ddf987d2fd6d7afecf4c68e5029d", func := "loop.example/g00039/laws.FnExactGoodConf", spec := "fnExactGoodConf", apart := false, narrowed := true }
def FnExactGoodConfUptoSaid : Prop := fnExactGoodConfUptoRow.holds Try.pinned (OpenSpec.upto fnExactGoodConfSpec)

/-- 'laws.FnExactWidthOf', WHERE WHAT IT READS IS OF BULK AT MOST 1048576: true; the input reads as it did. -/
def fnExactWidthOfUptoRow : OpenClaim := { program := "ytpeobcginpcfeaa", sum := "63f77c308cbca8321c34d37a07799f8ca722ddf987d2fd6d7afecf4c68e5029d", func := "loop.example/g00039/laws.FnExactWidthOf", spec := "fnExactWidthOf", apart := false, narrowed := true }
def FnExactWidthOfUptoSaid : Prop := fnExactWidthOfUptoRow.holds Try.pinned (OpenSpec.upto fnExactWidthOfSpec)

/-- 'laws.FnExactQuotient', WHERE WHAT IT READS IS OF BULK AT MOST 1048576: true; the input reads as it did. -/
def fnExactQuotientUptoRow : OpenClaim := { program := "ytpeobcginpcfeaa", sum := "63f77c308cbca8321c34d37a07799f8ca722ddf987d2fd6d7afecf4c68e5029d", func := "loop.example/g00039/laws.FnExactQuotient", spec := "fnExactQuotient", apart := false, narrowed := true }
def FnExactQuotientUptoSaid : Prop := fnExactQuotientUptoRow.holds Try.pinned (OpenSpec.upto fnExactQuotientSpec)

/-- 'laws.FnExactFunctions', WHERE WHAT IT READS IS OF BULK AT MOST 1048576: true; the input reads as it did. -/
def fnExactFunctionsUptoRow : OpenClaim := { program := "ytpeobcginpcfeaa", sum := "63f77c308cbca8321c34d37a07799f8ca722ddf987d2fd6d7afecf4c68e5029d", func := "loop.example/g00039/laws.FnExactFunctions", spec := "fnExactFunctions", apart := false, narrowed := true }
def FnExactFunctionsUptoSaid : Prop := fnExactFunctionsUptoRow.holds Try.pinned (OpenSpec.upto fnExactFunctionsSpec)

/-- 'laws.FnExactMergeAgg', WHERE WHAT IT READS IS OF BULK AT MOST 1048576: true; the input reads as it did. -/
def fnExactMergeAggUptoRow : OpenClaim := { program := "ytpeobcginpcfeaa", sum := "63f77c308cbca8321c34d37a07799f8ca722ddf987d2fd6d7afecf4c68e5029d", func := "loop.example/g00039/laws.FnExactMergeAgg", spec := "fnExactMergeAgg", apart := false, narrowed := true }
def FnExactMergeAggUptoSaid : Prop := fnExactMergeAggUptoRow.holds Try.pinned (OpenSpec.upto fnExactMergeAggSpec)

end Rows
end Go.Proofs.Ytpeobcginpcfeaa
