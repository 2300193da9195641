/-
  No cell of these rows narrows 'for every input' (looked for: loops, veiled, ifaces, maps, wideKeys, modest, calm, conditions, laid).
  DERIVED. THE GIVEN ROWS OF THIS SEAT. 5 by the template 'for every input the law returns true; each argument reads behind the call as it read before'; 0 by the template 'total and deterministic' (their statements: YtogjmchhafiafaaTotals.lean).
  GIVEN WITH THE SEED: the statements are not yours to turn. If you find one false, say at which input.
  Laid BY PROGRAM, IN A SANDBOX (cutbox-rows.mjs): the forced cells as the released guide's own fill.sh prints them over the translation f976f9f7d438b84a… (all of the seat's roots in one cut). By AI agents, Wed Nov 11 2026. No macro, syntax, notation, axiom, sorry.
-/
import Derived.Test.YtogjmchhafiafaaChecked
import GoSem.Claim
import GoSem.ClaimJoined
import GoSem.ClaimMapViews
import Derived.JoinedTies
import Derived.KernelRfl
namespace Go.Proofs.Ytogjmchhafiafaa
/- THE CELL 'sum', in the pinned program and in every row, IS THE sha256 OF THE DUMP (.gsa) THAT YtogjmchhafiafaaProg.lean LOADS. Nothing in Lean hashes anything: it is a label: what it is worth is what the hold of that sum in a sandbox is worth. -/
noncomputable def Try.pinned : Pinned := { name := "ytogjmchhafiafaa", sum := "f976f9f7d438b84a381db7f0eababb5ced39f9e223fdd3b3629ea4f2810c4737", checked := Try.checked }
namespace Rows
def none {H : Type} : Left H := { results := [], args := [] }

/-- 'laws.FnExactGoodAggs': WHATEVER THE INPUT: true; the input reads as it did. -/
def fnExactGoodAggsSpec : ChangeSpec := { name := "fnExactGoodAggs", fn := fun _ => fun
  | [d1, d2] => { results := [.lit (.bool true)], args := [d1, d2] }
  | _ => none }
def fnExactGoodAggsRow : OpenClaim := { program := "ytogjmchhafiafaa", sum := "f976f9f7d438b84a381db7f0eababb5ced39f9e223fdd3b3629ea4f2810c4737", func := "loop.example/g00039/laws.FnExactGoodAggs", spec := "fnExactGoodAggs", apart := false }
def FnExactGoodAggsSaid : Prop := fnExactGoodAggsRow.holds Try.pinned (OpenSpec.ofChange fnExactGoodAggsSpec)

/-- ITS FALSE NEIGHBOUR: 'it returns false'. Refute it at one input. -/
def fnExactGoodAggsWrong : ChangeSpec := { name := "fnExactGoodAggs", fn := fun _ => fun
  | [d1, d2] => { results := [.lit (.bool false)], args := [d1, d2] }
  | _ => none }
def FnExactGoodAggsWrongFalsely : Prop := fnExactGoodAggsRow.holds Try.pinned (OpenSpec.ofChange fnExactGoodAggsWrong)

/-- 'laws.FnBits': WHATEVER THE INPUT: true; the input reads as it did. -/
def fnBitsSpec : ChangeSpec := { name := "fnBits", fn := fun _ => fun
  | [d] => { results := [.lit (.bool true)], args := [d] }
  | _ => none }
def fnBitsRow : OpenClaim := { program := "ytogjmchhafiafaa", sum := "f976f9f7d438b84a381db7f0eababb5ced39f9e223fdd3b3629ea4f2810c4737", func := "loop.example/g00039/laws.FnBits", spec := "fnBits", apart := false }
def FnBitsSaid : Prop := fnBitsRow.holds Try.pinned (OpenSpec.ofChange fnBitsSpec)

/-- ITS FALSE NEIGHBOUR: 'it returns false'. Refute it at one input. -/
def fnBitsWrong : ChangeSpec := { name := "fnBits", fn := fun _ => fun
  | [d] => { results := [.lit (.bool false)], args := [d] }
  | _ => none }
def FnBitsWrongFalsely : Prop := fnBitsRow.holds Try.pinned (OpenSpec.ofChange fnBitsWrong)

/-- 'laws.FnMerged': WHATEVER THE INPUT: true; the input reads as it did. -/
def fnMergedSpec : ChangeSpec := { name := "fnMerged", fn := fun _ => fun
  | [d1, d2] => { results := [.lit (.bool true)], args := [d1, d2] }
  | _ => none }
def fnMergedRow : OpenClaim := { program := "ytogjmchhafiafaa", sum := "f976f9f7d438b84a381db7f0eababb5ced39f9e223fdd3b3629ea4f2810c4737", func := "loop.example/g00039/laws.FnMerged", spec := "fnMerged", unfollowed := true, recurses := true, apart := false }
def FnMergedSaid : Prop := fnMergedRow.holds Try.pinned (OpenSpec.ofChange fnMergedSpec)

/-- ITS FALSE NEIGHBOUR: 'it returns false'. Refute it at one input. -/
def fnMergedWrong : ChangeSpec := { name := "fnMerged", fn := fun _ => fun
  | [d1, d2] => { results := [.lit (.bool false)], args := [d1, d2] }
  | _ => none }
def FnMergedWrongFalsely : Prop := fnMergedRow.holds Try.pinned (OpenSpec.ofChange fnMergedWrong)

/-- 'laws.FnExactDownAggs': WHATEVER THE INPUT: true; the input reads as it did. -/
def fnExactDownAggsSpec : ChangeSpec := { name := "fnExactDownAggs", fn := fun _ => fun
  | [d1, d2, d3] => { results := [.lit (.bool true)], args := [d1, d2, d3] }
  | _ => none }
def fnExactDownAggsRow : OpenClaim := { program := "ytogjmchhafiafaa", sum := "f976f9f7d438b84a381db7f0eababb5ced39f9e223fdd3b3629ea4f2810c4737", func := "loop.example/g00039/laws.FnExactDownAggs", spec := "fnExactDownAggs", apart := false }
def FnExactDownAggsSaid : Prop := fnExactDownAggsRow.holds Try.pinned (OpenSpec.ofChange fnExactDownAggsSpec)

/-- ITS FALSE NEIGHBOUR: 'it returns false'. Refute it at one input. -/
def fnExactDownAggsWrong : ChangeSpec := { name := "fnExactDownAggs", fn := fun _ => fun
  | [d1, d2, d3] => { results := [.lit (.bool false)], args := [d1, d2, d3] }
  | _ => none }
def FnExactDownAggsWrongFalsely : Prop := fnExactDownAggsRow.holds Try.pinned (OpenSpec.ofChange fnExactDownAggsWrong)

/-- 'laws.FnExactDedupSamples': WHATEVER THE INPUT: true; the input reads as it did. -/
def fnExactDedupSamplesSpec : ChangeSpec := { name := "fnExactDedupSamples", fn := fun _ => fun
  | [d1, d2, d3] => { results := [.lit (.bool true)], args := [d1, d2, d3] }
  | _ => none }
def fnExactDedupSamplesRow : OpenClaim := { program := "ytogjmchhafiafaa", sum := "f976f9f7d438b84a381db7f0eababb5ced39f9e223fdd3b3629ea4f2810c4737", func := "loop.example/g00039/laws.FnExactDedupSamples", spec := "fnExactDedupSamples", unfollowed := true, recurses := true, apart := false }
def FnExactDedupSamplesSaid : Prop := fnExactDedupSamplesRow.holds Try.pinned (OpenSpec.ofChange fnExactDedupSamplesSpec)

/-- ITS FALSE NEIGHBOUR: 'it returns false'. Refute it at one input. -/
def fnExactDedupSamplesWrong : ChangeSpec := { name := "fnExactDedupSamples", fn := fun _ => fun
  | [d1, d2, d3] => { results := [.lit (.bool false)], args := [d1, d2, d3] }
  | _ => none }
def FnExactDedupSamplesWrongFalsely : Prop := fnExactDedupSamplesRow.holds Try.pinned (OpenSpec.ofChange fnExactDedupSamplesWrong)

/- THE SECOND FORM. 'bulk': how many values and letters a reading holds, each counted each time it is reached (what is shared counts as often as it is met; a slice's spare places count too). A statement '..UptoSaid' is the law's where the arguments, and the package variables that the reading takes, are together of bulk at most 1048576: NARROWER than '..Said'. Prove '..Said' where nothing that the law and all that it calls make is longer than what came in: it says more and counts as full. Else prove '..UptoSaid'. A law counts once. -/
mutual
def uptoBulk {H : Type} : DataW H → Nat
  | .lit (.string bytes) => bytes.length + 1
  | .lit _ => 1
  | .nil => 1
  | .ptr d => uptoBulk d + 1
  | .slice elems spare => uptoBulkAll elems + uptoBulkAll spare + 1
  | .agg parts => uptoBulkAll parts + 1
  | .iface _ d => uptoBulk d + 1
  | .map entries => uptoBulkEntries entries + 1
  | .held _ => 1
def uptoBulkAll {H : Type} : List (DataW H) → Nat
  | [] => 0
  | d :: r => uptoBulk d + uptoBulkAll r
def uptoBulkEntries {H : Type} : List (Lit × DataW H) → Nat
  | [] => 0
  | x :: r => uptoBulkEntry x + uptoBulkEntries r
def uptoBulkEntry {H : Type} : Lit × DataW H → Nat
  | (.string bytes, d) => bytes.length + uptoBulk d + 1
  | (_, d) => uptoBulk d + 1
 end
def uptoSmall : (H : Type) → List (DataW H) → Bool := fun _ ds => decide (uptoBulkAll ds ≤ 1048576)
def OpenSpec.upto (s : _root_.Go.ChangeSpec) : _root_.Go.OpenSpec := { _root_.Go.OpenSpec.ofChange s with cond := some uptoSmall }

/-- 'laws.FnExactGoodAggs', WHERE WHAT IT READS IS OF BULK AT MOST 1048576: true; the input reads as it did. -/
def fnExactGoodAggsUptoRow : OpenClaim := { program := "ytogjmchhafiafaa", sum := "f976f9f7d438b84a381db7f0eababb5ced39f9e223fdd3b3629ea4f2810c4737", func := "loop.example/g00039/laws.FnExactGoodAggs", spec := "fnExactGoodAggs", apart := false, narrowed := true }
def FnExactGoodAggsUptoSaid : Prop := fnExactGoodAggsUptoRow.holds Try.pinned (OpenSpec.upto fnExactGoodAggsSpec)

/-- 'laws.FnBits', WHERE WHAT IT READS IS OF BULK AT MOST 1048576: true; the input reads as it did. -/
def fnBitsUptoRow : OpenClaim := { program := "ytogjmchhafiafaa", sum := "f976f9f7d438b84a381db7f0eababb5ced39f9e223fdd3b3629ea4f2810c4737", func := "loop.example/g00039/laws.FnBits", spec := "fnBits", apart := false, narrowed := true }
def FnBitsUptoSaid : Prop := fnBitsUptoRow.holds Try.pinned (OpenSpec.upto fnBitsSpec)

/-- 'laws.FnMerged', WHERE WHAT IT READS IS OF BULK AT MOST 1048576: true; the input reads as it did. -/
def fnMergedUptoRow : OpenClaim := { program := "ytogjmchhafiafaa", sum := "f976f9f7d438b84a381db7f0eababb5ced39f9e223fdd3b3629ea4f2810c4737", func := "loop.example/g00039/laws.FnMerged", spec := "fnMerged", unfollowed := true, recurses := true, apart := false, narrowed := true }
def FnMergedUptoSaid : Prop := fnMergedUptoRow.holds Try.pinned (OpenSpec.upto fnMergedSpec)

/-- 'laws.FnExactDownAggs', WHERE WHAT IT READS IS OF BULK AT MOST 1048576: true; the input reads as it did. -/
def fnExactDownAggsUptoRow : OpenClaim := { program := "ytogjmchhafiafaa", sum := "f976f9f7d438b84a381db7f0eababb5ced39f9e223fdd3b3629ea4f2810c4737", func := "loop.example/g00039/laws.FnExactDownAggs", spec := "fnExactDownAggs", apart := false, narrowed := true }
def FnExactDownAggsUptoSaid : Prop := fnExactDownAggsUptoRow.holds Try.pinned (OpenSpec.upto fnExactDownAggsSpec)

/-- 'laws.FnExactDedupSamples', WHERE WHAT IT READS IS OF BULK AT MOST 1048576: true; the input reads as it did. -/
def fnExactDedupSamplesUptoRow : OpenClaim := { program := "ytogjmchhafiafaa", sum := "f976f9f7d438b84a381db7f0eababb5ced39f9e223fdd3b3629ea4f2810c4737", func := "loop.example/g00039/laws.FnExactDedupSamples", spec := "fnExactDedupSamples", unfollowed := true, recurses := true, apart := false, narrowed := true }
def FnExactDedupSamplesUptoSaid : Prop := fnExactDedupSamplesUptoRow.holds Try.pinned (OpenSpec.upto fnExactDedupSamplesSpec)

end Rows
end Go.Proofs.Ytogjmchhafiafaa
