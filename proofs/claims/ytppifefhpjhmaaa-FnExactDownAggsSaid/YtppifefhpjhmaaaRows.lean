/-
  No cell of these rows narrows 'for every input' (looked for: loops, veiled, ifaces, maps, wideKeys, modest, calm, conditions, laid).
  DERIVED. THE GIVEN ROWS OF THIS SEAT. 6 by the template 'for every input the law returns true; each argument reads behind the call as it read before'; 0 by the template 'total and deterministic' (their statements: YtppifefhpjhmaaaTotals.lean).
  GIVEN WITH THE SEED: the statements are not yours to turn. If you find one false, say at which input.
  Laid BY PROGRAM, IN A SANDBOX (cutbox-rows.mjs): the forced cells as the released guide's own fill.sh prints them over the translation 7cca15697b177177… (all of the seat's roots in one cut). By AI agents, Wed Nov 11 2026. No macro, syntax, notation, axiom, sorry.
-/
import Derived.Test.YtppifefhpjhmaaaChecked
import GoSem.Claim
import GoSem.ClaimJoined
import GoSem.ClaimMapViews
import Derived.JoinedTies
import Derived.KernelRfl
namespace Go.Proofs.Ytppifefhpjhmaaa
/- THE CELL 'sum', in the pinned program and in every row, IS THE sha256 OF THE DUMP (.gsa) THAT YtppifefhpjhmaaaProg.lean LOADS. Nothing in Lean hashes anything: it is a label: what it is worth is what the hold of that sum in a sandbox is worth. -/
noncomputable def Try.pinned : Pinned := { name := "ytppifefhpjhmaaa", sum := "7cca15697b1771777c446d20f44b5e8f5db6c36868d1e350032e39c8f4c9e977", checked := Try.checked }
namespace Rows
def none {H : Type} : Left H := { results := [], args := [] }

/-- 'laws.FnAggs': WHATEVER THE INPUT: true; the input reads as it did. -/
def fnAggsSpec : ChangeSpec := { name := "fnAggs", fn := fun _ => fun
  | [d1, d2] => { results := [.lit (.bool true)], args := [d1, d2] }
  | _ => none }
def fnAggsRow : OpenClaim := { program := "ytppifefhpjhmaaa", sum := "7cca15697b1771777c446d20f44b5e8f5db6c36868d1e350032e39c8f4c9e977", func := "loop.example/g00039/laws.FnAggs", spec := "fnAggs", apart := false }
def FnAggsSaid : Prop := fnAggsRow.holds Try.pinned (OpenSpec.ofChange fnAggsSpec)

/-- ITS FALSE NEIGHBOUR: 'it returns false'. Refute it at one input. -/
def fnAggsWrong : ChangeSpec := { name := "fnAggs", fn := fun _ => fun
  | [d1, d2] => { results := [.lit (.bool false)], args := [d1, d2] }
  | _ => none }
def FnAggsWrongFalsely : Prop := fnAggsRow.holds Try.pinned (OpenSpec.ofChange fnAggsWrong)

/-- 'laws.FnExactGoodAggs': WHATEVER THE INPUT: true; the input reads as it did. -/
def fnExactGoodAggsSpec : ChangeSpec := { name := "fnExactGoodAggs", fn := fun _ => fun
  | [d1, d2] => { results := [.lit (.bool true)], args := [d1, d2] }
  | _ => none }
def fnExactGoodAggsRow : OpenClaim := { program := "ytppifefhpjhmaaa", sum := "7cca15697b1771777c446d20f44b5e8f5db6c36868d1e350032e39c8f4c9e977", func := "loop.example/g00039/laws.FnExactGoodAggs", spec := "fnExactGoodAggs", apart := false }
def FnExactGoodAggsSaid : Prop := fnExactGoodAggsRow.holds Try.pinned (OpenSpec.ofChange fnExactGoodAggsSpec)

/-- ITS FALSE NEIGHBOUR: 'it returns false'. Refute it at one input. -/
def fnExactGoodAggsWrong : ChangeSpec := { name := "fnExactGoodAggs", fn := fun _ => fun
  | [d1, d2] => { results := [.lit (.bool false)], args := [d1, d2] }
  | _ => none }
def FnExactGoodAggsWrongFalsely : Prop := fnExactGoodAggsRow.holds Try.pinned (OpenSpec.ofChange fnExactGoodAggsWrong)

/-- 'laws.FnBits': WHATEVER THE INPUT: true; the input reads as it did. -/
def fnBitsSpec : ChangeSpec := { name := "fnBits", fn := fun _ => fun
  | [d] => { results := [.lit (.bool true)], args := [d] }
  | _ => none }
def fnBitsRow : OpenClaim := { program := "ytppifefhpjhmaaa", sum := "7cca15697b1771777c446d20f44b5e8f5db6c36868d1e350032e39c8f4c9e977", func := "loop.example/g00039/laws.FnBits", spec := "fnBits", apart := false }
def FnBitsSaid : Prop := fnBitsRow.holds Try.pinned (OpenSpec.ofChange fnBitsSpec)

/-- ITS FALSE NEIGHBOUR: 'it returns false'. Refute it at one input. -/
def fnBitsWrong : ChangeSpec := { name := "fnBits", fn := fun _ => fun
  | [d] => { results := [.lit (.bool false)], args := [d] }
  | _ => none }
def FnBitsWrongFalsely : Prop := fnBitsRow.holds Try.pinned (OpenSpec.ofChange fnBitsWrong)

/-- 'laws.FnMerged': WHATEVER THE INPUT: true; the input reads as it did. -/
def fnMergedSpec : ChangeSpec := { name := "fnMerged", fn := fun _ => fun
  | [d1, d2] => { results := [.lit (.bool true)], args := [d1, d2] }
  | _ => none }
def fnMergedRow : OpenClaim := { program := "ytppifefhpjhmaaa", sum := "7cca15697b1771777c446d20f44b5e8f5db6c36868d1e350032e39c8f4c9e977", func := "loop.example/g00039/laws.FnMerged", spec := "fnMerged", unfollowed := true, recurses := true, apart := false }
def FnMergedSaid : Prop := fnMergedRow.holds Try.pinned (OpenSpec.ofChange fnMergedSpec)

/-- ITS FALSE NEIGHBOUR: 'it returns false'. Refute it at one input. -/
def fnMergedWrong : ChangeSpec := { name := "fnMerged", fn := fun _ => fun
  | [d1, d2] => { results := [.lit (.bool false)], args := [d1, d2] }
  | _ => none }
def FnMergedWrongFalsely : Prop := fnMergedRow.holds Try.pinned (OpenSpec.ofChange fnMergedWrong)

/-- 'laws.FnExactDownAggs': WHATEVER THE INPUT: true; the input reads as it did. -/
def fnExactDownAggsSpec : ChangeSpec := { name := "fnExactDownAggs", fn := fun _ => fun
  | [d1, d2, d3] => { results := [.lit (.bool true)], args := [d1, d2, d3] }
  | _ => none }
def fnExactDownAggsRow : OpenClaim := { program := "ytppifefhpjhmaaa", sum := "7cca15697b1771777c446d20f44b5e8f5db6c36868d1e350032e39c8f4c9e977", func := "loop.example/g00039/laws.FnExactDownAggs", spec := "fnExactDownAggs", apart := false }
def FnExactDownAggsSaid : Prop := fnExactDownAggsRow.holds Try.pinned (OpenSpec.ofChange fnExactDownAggsSpec)

/-- ITS FALSE NEIGHBOUR: 'it returns false'. Refute it at one input. -/
def fnExactDownAggsWrong : ChangeSpec := { name := "fnExactDownAggs", fn := fun _ => fun
  | [d1, d2, d3] => { results := [.lit (.bool false)], args := [d1, d2, d3] }
  | _ => none }
def FnExactDownAggsWrongFalsely : Prop := fnExactDownAggsRow.holds Try.pinned (OpenSpec.ofChange fnExactDownAggsWrong)

/-- 'laws.FnExactGoodRing': WHATEVER THE INPUT: true; the input reads as it did. -/
def fnExactGoodRingSpec : ChangeSpec := { name := "fnExactGoodRing", fn := fun _ => fun
  | [d] => { results := [.lit (.bool true)], args := [d] }
  | _ => none }
def fnExactGoodRingRow : OpenClaim := { program := "ytppifefhpjhmaaa", sum := "7cca15697b1771777c446d20f44b5e8f5db6c36868d1e350032e39c8f4c9e977", func := "loop.example/g00039/laws.FnExactGoodRing", spec := "fnExactGoodRing", apart := false }
def FnExactGoodRingSaid : Prop := fnExactGoodRingRow.holds Try.pinned (OpenSpec.ofChange fnExactGoodRingSpec)

/-- ITS FALSE NEIGHBOUR: 'it returns false'. Refute it at one input. -/
def fnExactGoodRingWrong : ChangeSpec := { name := "fnExactGoodRing", fn := fun _ => fun
  | [d] => { results := [.lit (.bool false)], args := [d] }
  | _ => none }
def FnExactGoodRingWrongFalsely : Prop := fnExactGoodRingRow.holds Try.pinned (OpenSpec.ofChange fnExactGoodRingWrong)

/- THE SECOND FORM. 'bulk': how many values and letters a reading holds, each counted each time it is reached (what is shared counts as often as it is met; a slice's spare places count too). A statement '..UptoSaid' is the law's where the arguments, and the package variables that the reading takes, are together of bulk at most 1048576: NARROWER than '..Said'. Prove '..Said' where nothing that the law and all that it calls make is longer than what came in: it says more and counts as full. Else prove '..UptoSaid'. A law counts once. -/
mutual
def uptoBulk {H : Type} : DataW H → Nat
  | .lit (.string bytes) => bytes.length + 1
  | .lit _ => 1
  | .nil => 1
  | .ptr d => uptoBulk d + 1
  | .slice elems spare => uptoBulkAll elems + uptoBulkAll spare + 1
  | .agg parts => uptoBulkAll parts + 1
  | .iface _ d => uptoBulk d + 1
  | .map entries => uptoBulkEntries entries + 1
  | .held _ => 1
def uptoBulkAll {H : Type} : List (DataW H) → Nat
  | [] => 0
  | d :: r => uptoBulk d + uptoBulkAll r
def uptoBulkEntries {H : Type} : List (Lit × DataW H) → Nat
  | [] => 0
  | x :: r => uptoBulkEntry x + uptoBulkEntries r
def uptoBulkEntry {H : Type} : Lit × DataW H → Nat
  | (.string bytes, d) => bytes.length + uptoBulk d + 1
  | (_, d) => uptoBulk d + 1
 end
def uptoSmall : (H : Type) → List (DataW H) → Bool := fun _ ds => decide (uptoBulkAll ds ≤ 1048576)
def OpenSpec.upto (s : _root_.Go.ChangeSpec) : _root_.Go.OpenSpec := { _root_.Go.OpenSpec.ofChange s with cond := some uptoSmall }

/-- 'laws.FnAggs', WHERE WHAT IT READS IS OF BULK AT MOST 1048576: true; the input reads as it did. -/
def fnAggsUptoRow : OpenClaim := { program := "ytppifefhpjhmaaa", sum := "7cca15697b1771777c446d20f44b5e8f5db6c36868d1e350032e39c8f4c9e977", func := "loop.example/g00039/laws.FnAggs", spec := "fnAggs", apart := false, narrowed := true }
def FnAggsUptoSaid : Prop := fnAggsUptoRow.holds Try.pinned (OpenSpec.upto fnAggsSpec)

/-- 'laws.FnExactGoodAggs', WHERE WHAT IT READS IS OF BULK AT MOST 1048576: true; the input reads as it did. -/
def fnExactGoodAggsUptoRow : OpenClaim := { program := "ytppifefhpjhmaaa", sum := "7cca15697b1771777c446d20f44b5e8f5db6c36868d1e350032e39c8f4c9e977", func := "loop.example/g00039/laws.FnExactGoodAggs", spec := "fnExactGoodAggs", apart := false, narrowed := true }
def FnExactGoodAggsUptoSaid : Prop := fnExactGoodAggsUptoRow.holds Try.pinned (OpenSpec.upto fnExactGoodAggsSpec)

/-- 'laws.FnBits', WHERE WHAT IT READS IS OF BULK AT MOST 1048576: true; the input reads as it did. -/
def fnBitsUptoRow : OpenClaim := { program := "ytppifefhpjhmaaa", sum := "7cca15697b1771777c446d20f44b5e8f5db6c36868d1e350032e39c8f4c9e977", func := "loop.example/g00039/laws.FnBits", spec := "fnBits", apart := false, narrowed := true }
def FnBitsUptoSaid : Prop := fnBitsUptoRow.holds Try.pinned (OpenSpec.upto fnBitsSpec)

/-- 'laws.FnMerged', WHERE WHAT IT READS IS OF BULK AT MOST 1048576: true; the input reads as it did. -/
def fnMergedUptoRow : OpenClaim := { program := "ytppifefhpjhmaaa", sum := "7cca15697b1771777c446d20f44b5e8f5db6c36868d1e350032e39c8f4c9e977", func := "loop.example/g00039/laws.FnMerged", spec := "fnMerged", unfollowed := true, recurses := true, apart := false, narrowed := true }
def FnMergedUptoSaid : Prop := fnMergedUptoRow.holds Try.pinned (OpenSpec.upto fnMergedSpec)

/-- 'laws.FnExactDownAggs', WHERE WHAT IT READS IS OF BULK AT MOST 1048576: true; the input reads as it did. -/
def fnExactDownAggsUptoRow : OpenClaim := { program := "ytppifefhpjhmaaa", sum := "7cca15697b1771777c446d20f44b5e8f5db6c36868d1e350032e39c8f4c9e977", func := "loop.example/g00039/laws.FnExactDownAggs", spec := "fnExactDownAggs", apart := false, narrowed := true }
def FnExactDownAggsUptoSaid : Prop := fnExactDownAggsUptoRow.holds Try.pinned (OpenSpec.upto fnExactDownAggsSpec)

/-- 'laws.FnExactGoodRing', WHERE WHAT IT READS IS OF BULK AT MOST 1048576: true; the input reads as it did. -/
def fnExactGoodRingUptoRow : OpenClaim := { program := "ytppifefhpjhmaaa", sum := "7cca15697b1771777c446d20f44b5e8f5db6c36868d1e350032e39c8f4c9e977", func := "loop.example/g00039/laws.FnExactGoodRing", spec := "fnExactGoodRing", apart := false, narrowed := true }
def FnExactGoodRingUptoSaid : Prop := fnExactGoodRingUptoRow.holds Try.pinned (OpenSpec.upto fnExactGoodRingSpec)

end Rows
end Go.Proofs.Ytppifefhpjhmaaa
