/-
  No cell of these rows narrows 'for every input' (looked for: loops, veiled, ifaces, maps, wideKeys, modest, calm, conditions, laid).
  DERIVED. THE GIVEN ROWS OF THIS SEAT. 5 by the template 'for every input the law returns true; each argument reads behind the call as it read before'; 0 by the template 'total and deterministic' (their statements: YtogjmchhafiafabTotals.lean).
  GIVEN WITH THE SEED: the statements are not yours to turn. If you find one false, say at which input.
  Laid BY PROGRAM, IN A SANDBOX (cutbox-rows.mjs): the forced cells as the released guide's own fill.sh prints them over the translation 1ef7ecce95be4fb9… (all of the seat's roots in one cut). By AI agents, Wed Nov 11 2026. No macro, syntax, notation, axiom, sorry.
-/
import Derived.Test.YtogjmchhafiafabChecked
import GoSem.Claim
import GoSem.ClaimJoined
import GoSem.ClaimMapViews
import Derived.JoinedTies
import Derived.KernelRfl
namespace Go.Proofs.Ytogjmchhafiafab
/- THE CELL 'sum', in the pinned program and in every row, IS THE sha256 OF THE DUMP (.gsa) THAT YtogjmchhafiafabProg.lean LOADS. Nothing in Lean hashes anything: it is a label: what it is worth is what the hold of that sum in a sandbox is worth. -/
noncomputable def Try.pinned : Pinned := { name := "ytogjmchhafiafab", sum := "1ef7ecce95be4fb993eb46f579036ff3d86a7f9b454f7a7ed40ed2d1ef53ed77", checked := Try.checked }
namespace Rows
def none {H : Type} : Left H := { results := [], args := [] }

/-- 'laws.FnExactGoodRing': WHATEVER THE INPUT: true; the input reads as it did. -/
def fnExactGoodRingSpec : ChangeSpec := { name := "fnExactGoodRing", fn := fun _ => fun
  | [d] => { results := [.lit (.bool true)], args := [d] }
  | _ => none }
def fnExactGoodRingRow : OpenClaim := { program := "ytogjmchhafiafab", sum := "1ef7ecce95be4fb993eb46f579036ff3d86a7f9b454f7a7ed40ed2d1ef53ed77", func := "loop.example/g00039/laws.FnExactGoodRing", spec := "fnExactGoodRing", apart := false }
def FnExactGoodRingSaid : Prop := fnExactGoodRingRow.holds Try.pinned (OpenSpec.ofChange fnExactGoodRingSpec)

/-- ITS FALSE NEIGHBOUR: 'it returns false'. Refute it at one input. -/
def fnExactGoodRingWrong : ChangeSpec := { name := "fnExactGoodRing", fn := fun _ => fun
  | [d] => { results := [.lit (.bool false)], args := [d] }
  | _ => none }
def FnExactGoodRingWrongFalsely : Prop := fnExactGoodRingRow.holds Try.pinned (OpenSpec.ofChange fnExactGoodRingWrong)

/-- 'laws.FnExactSampleOver': WHATEVER THE INPUT: true; the input reads as it did. -/
def fnExactSampleOverSpec : ChangeSpec := { name := "fnExactSampleOver", fn := fun _ => fun
  | [d1, d2, d3, d4] => { results := [.lit (.bool true)], args := [d1, d2, d3, d4] }
  | _ => none }
def fnExactSampleOverRow : OpenClaim := { program := "ytogjmchhafiafab", sum := "1ef7ecce95be4fb993eb46f579036ff3d86a7f9b454f7a7ed40ed2d1ef53ed77", func := "loop.example/g00039/laws.FnExactSampleOver", spec := "fnExactSampleOver", unfollowed := true, recurses := true, apart := false }
def FnExactSampleOverSaid : Prop := fnExactSampleOverRow.holds Try.pinned (OpenSpec.ofChange fnExactSampleOverSpec)

/-- ITS FALSE NEIGHBOUR: 'it returns false'. Refute it at one input. -/
def fnExactSampleOverWrong : ChangeSpec := { name := "fnExactSampleOver", fn := fun _ => fun
  | [d1, d2, d3, d4] => { results := [.lit (.bool false)], args := [d1, d2, d3, d4] }
  | _ => none }
def FnExactSampleOverWrongFalsely : Prop := fnExactSampleOverRow.holds Try.pinned (OpenSpec.ofChange fnExactSampleOverWrong)

/-- 'laws.FnExactAggOver': WHATEVER THE INPUT: true; the input reads as it did. -/
def fnExactAggOverSpec : ChangeSpec := { name := "fnExactAggOver", fn := fun _ => fun
  | [d1, d2, d3, d4, d5] => { results := [.lit (.bool true)], args := [d1, d2, d3, d4, d5] }
  | _ => none }
def fnExactAggOverRow : OpenClaim := { program := "ytogjmchhafiafab", sum := "1ef7ecce95be4fb993eb46f579036ff3d86a7f9b454f7a7ed40ed2d1ef53ed77", func := "loop.example/g00039/laws.FnExactAggOver", spec := "fnExactAggOver", unfollowed := true, recurses := true, apart := false }
def FnExactAggOverSaid : Prop := fnExactAggOverRow.holds Try.pinned (OpenSpec.ofChange fnExactAggOverSpec)

/-- ITS FALSE NEIGHBOUR: 'it returns false'. Refute it at one input. -/
def fnExactAggOverWrong : ChangeSpec := { name := "fnExactAggOver", fn := fun _ => fun
  | [d1, d2, d3, d4, d5] => { results := [.lit (.bool false)], args := [d1, d2, d3, d4, d5] }
  | _ => none }
def FnExactAggOverWrongFalsely : Prop := fnExactAggOverRow.holds Try.pinned (OpenSpec.ofChange fnExactAggOverWrong)

/-- 'laws.FnPatterns': WHATEVER THE INPUT: true; the input reads as it did. -/
def fnPatternsSpec : ChangeSpec := { name := "fnPatterns", fn := fun _ => fun
  | [d] => { results := [.lit (.bool true)], args := [d] }
  | _ => none }
def fnPatternsRow : OpenClaim := { program := "ytogjmchhafiafab", sum := "1ef7ecce95be4fb993eb46f579036ff3d86a7f9b454f7a7ed40ed2d1ef53ed77", func := "loop.example/g00039/laws.FnPatterns", spec := "fnPatterns", inPlace := ["internal/bytealg.IndexByteString"], unfollowed := true, recurses := true, apart := false }
def FnPatternsSaid : Prop := fnPatternsRow.holds Try.pinned (OpenSpec.ofChange fnPatternsSpec)

/-- ITS FALSE NEIGHBOUR: 'it returns false'. Refute it at one input. -/
def fnPatternsWrong : ChangeSpec := { name := "fnPatterns", fn := fun _ => fun
  | [d] => { results := [.lit (.bool false)], args := [d] }
  | _ => none }
def FnPatternsWrongFalsely : Prop := fnPatternsRow.holds Try.pinned (OpenSpec.ofChange fnPatternsWrong)

/-- 'laws.FnExactDownSamples': WHATEVER THE INPUT: true; the input reads as it did. -/
def fnExactDownSamplesSpec : ChangeSpec := { name := "fnExactDownSamples", fn := fun _ => fun
  | [d1, d2] => { results := [.lit (.bool true)], args := [d1, d2] }
  | _ => none }
def fnExactDownSamplesRow : OpenClaim := { program := "ytogjmchhafiafab", sum := "1ef7ecce95be4fb993eb46f579036ff3d86a7f9b454f7a7ed40ed2d1ef53ed77", func := "loop.example/g00039/laws.FnExactDownSamples", spec := "fnExactDownSamples", unfollowed := true, recurses := true, apart := false }
def FnExactDownSamplesSaid : Prop := fnExactDownSamplesRow.holds Try.pinned (OpenSpec.ofChange fnExactDownSamplesSpec)

/-- ITS FALSE NEIGHBOUR: 'it returns false'. Refute it at one input. -/
def fnExactDownSamplesWrong : ChangeSpec := { name := "fnExactDownSamples", fn := fun _ => fun
  | [d1, d2] => { results := [.lit (.bool false)], args := [d1, d2] }
  | _ => none }
def FnExactDownSamplesWrongFalsely : Prop := fnExactDownSamplesRow.holds Try.pinned (OpenSpec.ofChange fnExactDownSamplesWrong)

/- THE SECOND FORM. 'bulk': how many values and letters a reading holds, each counted each time it is reached (what is shared counts as often as it is met; a slice's spare places count too). A statement '..UptoSaid' is the law's where the arguments, and the package variables that the reading takes, are together of bulk at most 1048576: NARROWER than '..Said'. Prove '..Said' where nothing that the law and all that it calls make is longer than what came in: it says more and counts as full. Else prove '..UptoSaid'. A law counts once. -/
mutual
def uptoBulk {H : Type} : DataW H → Nat
  | .lit (.string bytes) => bytes.length + 1
  | .lit _ => 1
  | .nil => 1
  | .ptr d => uptoBulk d + 1
  | .slice elems spare => uptoBulkAll elems + uptoBulkAll spare + 1
  | .agg parts => uptoBulkAll parts + 1
  | .iface _ d => uptoBulk d + 1
  | .map entries => uptoBulkEntries entries + 1
  | .held _ => 1
def uptoBulkAll {H : Type} : List (DataW H) → Nat
  | [] => 0
  | d :: r => uptoBulk d + uptoBulkAll r
def uptoBulkEntries {H : Type} : List (Lit × DataW H) → Nat
  | [] => 0
  | x :: r => uptoBulkEntry x + uptoBulkEntries r
def uptoBulkEntry {H : Type} : Lit × DataW H → Nat
  | (.string bytes, d) => bytes.length + uptoBulk d + 1
  | (_, d) => uptoBulk d + 1
 end
def uptoSmall : (H : Type) → List (DataW H) → Bool := fun _ ds => decide (uptoBulkAll ds ≤ 1048576)
def OpenSpec.upto (s : _root_.Go.ChangeSpec) : _root_.Go.OpenSpec := { _root_.Go.OpenSpec.ofChange s with cond := some uptoSmall }

/-- 'laws.FnExactGoodRing', WHERE WHAT IT READS IS OF BULK AT MOST 1048576: true; the input reads as it did. -/
def fnExactGoodRingUptoRow : OpenClaim := { program := "ytogjmchhafiafab", sum := "1ef7ecce95be4fb993eb46f579036ff3d86a7f9b454f7a7ed40ed2d1ef53ed77", func := "loop.example/g00039/laws.FnExactGoodRing", spec := "fnExactGoodRing", apart := false, narrowed := true }
def FnExactGoodRingUptoSaid : Prop := fnExactGoodRingUptoRow.holds Try.pinned (OpenSpec.upto fnExactGoodRingSpec)

/-- 'laws.FnExactSampleOver', WHERE WHAT IT READS IS OF BULK AT MOST 1048576: true; the input reads as it did. -/
def fnExactSampleOverUptoRow : OpenClaim := { program := "ytogjmchhafiafab", sum := "1ef7ecce95be4fb993eb46f579036ff3d86a7f9b454f7a7ed40ed2d1ef53ed77", func := "loop.example/g00039/laws.FnExactSampleOver", spec := "fnExactSampleOver", unfollowed := true, recurses := true, apart := false, narrowed := true }
def FnExactSampleOverUptoSaid : Prop := fnExactSampleOverUptoRow.holds Try.pinned (OpenSpec.upto fnExactSampleOverSpec)

/-- 'laws.FnExactAggOver', WHERE WHAT IT READS IS OF BULK AT MOST 1048576: true; the input reads as it did. -/
def fnExactAggOverUptoRow : OpenClaim := { program := "ytogjmchhafiafab", sum := "1ef7ecce95be4fb993eb46f579036ff3d86a7f9b454f7a7ed40ed2d1ef53ed77", func := "loop.example/g00039/laws.FnExactAggOver", spec := "fnExactAggOver", unfollowed := true, recurses := true, apart := false, narrowed := true }
def FnExactAggOverUptoSaid : Prop := fnExactAggOverUptoRow.holds Try.pinned (OpenSpec.upto fnExactAggOverSpec)

/-- 'laws.FnPatterns', WHERE WHAT IT READS IS OF BULK AT MOST 1048576: true; the input reads as it did. -/
def fnPatternsUptoRow : OpenClaim := { program := "ytogjmchhafiafab", sum := "1ef7ecce95be4fb993eb46f579036ff3d86a7f9b454f7a7ed40ed2d1ef53ed77", func := "loop.example/g00039/laws.FnPatterns", spec := "fnPatterns", inPlace := ["internal/bytealg.IndexByteString"], unfollowed := true, recurses := true, apart := false, narrowed := true }
def FnPatternsUptoSaid : Prop := fnPatternsUptoRow.holds Try.pinned (OpenSpec.upto fnPatternsSpec)

/-- 'laws.FnExactDownSamples', WHERE WHAT IT READS IS OF BULK AT MOST 1048576: true; the input reads as it did. -/
def fnExactDownSamplesUptoRow : OpenClaim := { program := "ytogjmchhafiafab", sum := "1ef7ecce95be4fb993eb46f579036ff3d86a7f9b454f7a7ed40ed2d1ef53ed77", func := "loop.example/g00039/laws.FnExactDownSamples", spec := "fnExactDownSamples", unfollowed := true, recurses := true, apart := false, narrowed := true }
def FnExactDownSamplesUptoSaid : Prop := fnExactDownSamplesUptoRow.holds Try.pinned (OpenSpec.upto fnExactDownSamplesSpec)

end Rows
end Go.Proofs.Ytogjmchhafiafab
